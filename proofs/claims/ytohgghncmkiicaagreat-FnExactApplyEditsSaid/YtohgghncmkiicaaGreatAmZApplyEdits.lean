/-
  What the functions that the law reaches compute, and that they do. No condition.
-/
import Derived.Test.YtohgghncmkiicaaGreatAmSZ
namespace Go.Proofs.YtohgghncmkiicaaGreat.AM
noncomputable section
open Go Go.Proofs Go.RowKit
set_option linter.unusedVariables false
set_option linter.unusedSimpArgs false
set_option maxRecDepth 100000

/- the inverse of an edit that is possible -/
def invE (a : TL) (e : TE) : TE :=
  if e.fk_ = 1 then ⟨2, e.fc, e.fx, ByteArray.mk #[], zSh, zLa, zIn⟩
  else if e.fk_ = 2 then ⟨1, e.fc, e.fx, ByteArray.mk #[], gd (gd a.fC e.fc.toNat).fS e.fx.toNat, zLa, zIn⟩
  else if e.fk_ = 3 then ⟨4, e.fc, e.fx, ByteArray.mk #[], zSh, zLa, zIn⟩
  else if e.fk_ = 4 then ⟨3, e.fc, e.fx, ByteArray.mk #[], zSh, gd (gd a.fC e.fc.toNat).fL e.fx.toNat, zIn⟩
  else if e.fk_ = 5 then ⟨6, e.fc, e.fx, ByteArray.mk #[], zSh, zLa, zIn⟩
  else if e.fk_ = 6 then ⟨5, e.fc, e.fx, ByteArray.mk #[], zSh, zLa, gd (gd a.fC e.fc.toNat).fI e.fx.toNat⟩
  else if e.fk_ = 7 then ⟨7, e.fc, e.fx, (gd a.fC e.fc.toNat).fN, zSh, zLa, zIn⟩
  else if e.fk_ = 8 then ⟨9, e.fc, e.fx, ByteArray.mk #[], zSh, zLa, zIn⟩
  else ⟨8, e.fc, e.fx, (gd a.fC e.fc.toNat).fN, zSh, zLa, zIn⟩
set_option maxHeartbeats 4000000 in
theorem spec_inverse_ok (a : TL) (e : TE) (hc : eCode a e = 0) : Fq31 a e = some (invE a e) := by
  obtain ⟨hv, he, hcell⟩ := eCode_zero hc
  obtain ⟨hk, h1, hi⟩ := okEdit_kind he
  by_cases h8 : e.fk_ = 8
  · obtain ⟨kind, cell, index, name, shape, label, inst⟩ := e
    simp only at h8
    subst h8
    rfl
  · obtain ⟨m, hm, hlt⟩ := hcell h8
    obtain ⟨i2, i4, i6⟩ := eCode_index hc hm hlt
    clear hc he hcell
    obtain ⟨kind, cell, index, name, shape, label, inst⟩ := e
    simp only at hk h1 hi h8 hm i2 i4 i6
    subst hm
    rcases hk with rfl | rfl | rfl | rfl | rfl | rfl | rfl | rfl | rfl
    · rfl
    · obtain ⟨q, rfl, hq⟩ := i2 rfl
      unfold Fq31
      simp only [s_toNn, req_of (inRl hlt), req_of (inRl hq)]
      rfl
    · rfl
    · obtain ⟨q, rfl, hq⟩ := i4 rfl
      unfold Fq31
      simp only [s_toNn, req_of (inRl hlt), req_of (inRl hq)]
      rfl
    · rfl
    · obtain ⟨q, rfl, hq⟩ := i6 rfl
      unfold Fq31
      simp only [s_toNn, req_of (inRl hlt), req_of (inRl hq)]
      rfl
    · unfold Fq31
      simp only [s_toNn, req_of (inRl hlt)]
      rfl
    · exact absurd rfl h8
    · unfold Fq31
      simp only [s_toNn, req_of (inRl hlt)]
      rfl
set_option maxHeartbeats 4000000 in
theorem impl_inverse_ok (a : TL) (e : TE) (hc : eCode a e = 0) : Fq29 a e = some (invE a e) := by
  obtain ⟨hv, he, hcell⟩ := eCode_zero hc
  obtain ⟨hk, h1, hi⟩ := okEdit_kind he
  by_cases h8 : e.fk_ = 8
  · obtain ⟨kind, cell, index, name, shape, label, inst⟩ := e
    simp only at h8
    subst h8
    rfl
  · obtain ⟨m, hm, hlt⟩ := hcell h8
    obtain ⟨i2, i4, i6⟩ := eCode_index hc hm hlt
    clear hc he hcell
    obtain ⟨kind, cell, index, name, shape, label, inst⟩ := e
    simp only at hk h1 hi h8 hm i2 i4 i6
    subst hm
    rcases hk with rfl | rfl | rfl | rfl | rfl | rfl | rfl | rfl | rfl
    · rfl
    · obtain ⟨q, rfl, hq⟩ := i2 rfl
      unfold Fq29
      simp only [s_toNn, req_of (inRl hlt), req_of (inRl hq)]
      rfl
    · rfl
    · obtain ⟨q, rfl, hq⟩ := i4 rfl
      unfold Fq29
      simp only [s_toNn, req_of (inRl hlt), req_of (inRl hq)]
      rfl
    · rfl
    · obtain ⟨q, rfl, hq⟩ := i6 rfl
      unfold Fq29
      simp only [s_toNn, req_of (inRl hlt), req_of (inRl hq)]
      rfl
    · unfold Fq29
      simp only [s_toNn, req_of (inRl hlt)]
      rfl
    · exact absurd rfl h8
    · unfold Fq29
      simp only [s_toNn, req_of (inRl hlt)]
      rfl
/- references to cells are shifted: both sides -/
def mid {α : Type} (g : α -> α) (l : List α) (i : Nat) : List α := (l.take i).map g ++ l.drop i
theorem mid_len {α : Type} (g : α -> α) (l : List α) (i : Nat) : (mid g l i).length = l.length := by
  simp [mid]; omega
theorem mid_all {α : Type} (g : α -> α) (l : List α) : mid g l l.length = l.map g := by simp [mid]
theorem mid_gd {α : Type} [Inhabited α] {g : α -> α} {l : List α} {i : Nat} (h : i < l.length) : gd (mid g l i) i = gd l i := by
  rw [gd_lt (show i < (mid g l i).length by rw [mid_len]; exact h), gd_lt h]
  unfold mid
  rw [List.getElem_append_right (by simp; omega)]
  simp [Nat.min_eq_left (Nat.le_of_lt h)]
theorem mid_set {α : Type} [Inhabited α] {g : α -> α} {l : List α} {i : Nat} (h : i < l.length) {x : α} (hx : x = g (gd l i)) : List.set (mid g l i) i x = mid g l (i + 1) := by
  subst hx
  unfold mid
  have hm : ((l.take i).map g).length = i := by simp; omega
  rw [List.set_append, if_neg (by omega), hm, Nat.sub_self, List.drop_eq_getElem_cons h, List.take_succ_eq_append_getElem h, gd_lt h, List.set_cons_zero, List.map_append, List.append_assoc]
  rfl
theorem mid_same {α : Type} [Inhabited α] {g : α -> α} {l : List α} {i : Nat} (h : i < l.length) (e : g (gd l i) = gd l i) : mid g l i = mid g l (i + 1) := by
  unfold mid
  rw [List.drop_eq_getElem_cons h, List.take_succ_eq_append_getElem h, <- gd_lt h]
  simp [e]
def shI (f b : Int) (i : TI) : TI := cond (std.le f i.fc) ⟨std.add .i64 i.fc b, i.fp, i.fK, i.fR, i.fu, i.fv⟩ i
def shC (f b : Int) (c : TC) : TC := ⟨c.fN, c.fS, c.fL, c.fI.map (shI f b)⟩
theorem spec_shiftIn (a : TL) (f b : Int) (k : Nat) (v2 : List TC) (hk : a.fC.length = v2.length) (hn : (gd v2 k).fI.length <= 10000000) :
    whileP (Lq22_x25 a f b (k : Int) v2) (0, (gd v2 k).fI) = some (v2.set k (shC f b (gd v2 k))) := by
  obtain ⟨c, hc⟩ : ∃ c, c = gd v2 k := ⟨_, rfl⟩
  rw [<- hc] at hn ⊢
  refine while_from (fun i => ((i : Int), mid (shI f b) c.fI i)) c.fI.length rfl (fun i hi => ?_) ?_
  · simp only [Lq22_x25, letO_eq, obs, s_nadd, s_toNn, Nat.zero_add, <- hc, mid_gd hi]
    rw [ltl_t hi, br_t, req_of (inRl hi), obs, inc_nat (by omega)]
    cases hle : std.le f (gd c.fI i).fc with
    | false =>
      simp only [br_f, obs]
      rw [mid_same hi (by unfold shI; rw [hle]; rfl)]
    | true =>
      simp only [br_t, obs, req_of (inRl hi)]
      rw [req_of (show len c.fI = len (mid (shI f b) c.fI i) by rw [len_eq, len_eq, mid_len]), obs, obs, mid_set hi (by unfold shI; rw [hle]; rfl)]
  · simp only [Lq22_x25, letO_eq, obs, s_nadd, s_toNn, Nat.zero_add, <- hc]
    rw [ltl_f, br_f, mid_all, req_of (show len c.fI = len (c.fI.map (shI f b)) by rw [len_eq, len_eq, List.length_map]), req_of (show len a.fC = len v2 from hk)]
    rfl
theorem impl_shiftIn (a : TL) (f b : Int) (k : Nat) (v2 : List TC) (hk : a.fC.length = v2.length) (hn : (gd v2 k).fI.length <= 10000000) :
    whileP (Lq23_x34 a f b (k : Int) v2 (std.ofN (len (gd v2 k).fI))) (0, (gd v2 k).fI) = some (v2.set k (shC f b (gd v2 k))) := by
  obtain ⟨c, hc⟩ : ∃ c, c = gd v2 k := ⟨_, rfl⟩
  rw [<- hc] at hn ⊢
  refine while_from (fun i => ((i : Int), mid (shI f b) c.fI i)) c.fI.length rfl (fun i hi => ?_) ?_
  · simp only [Lq23_x34, letO_eq, obs, s_nadd, s_toNn, Nat.zero_add, <- hc, mid_gd hi]
    rw [ltl_t hi, br_t, req_of (inRl hi), obs, inc_nat (by omega)]
    cases hle : std.le f (gd c.fI i).fc with
    | false =>
      simp only [br_f, obs]
      rw [mid_same hi (by unfold shI; rw [hle]; rfl)]
    | true =>
      simp only [br_t, obs, req_of (inRl hi)]
      rw [req_of (show len c.fI = len (mid (shI f b) c.fI i) by rw [len_eq, len_eq, mid_len]), obs, obs, mid_set hi (by unfold shI; rw [hle]; rfl)]
  · simp only [Lq23_x34, letO_eq, obs, s_nadd, s_toNn, Nat.zero_add, <- hc]
    rw [ltl_f, br_f, mid_all, req_of (show len c.fI = len (c.fI.map (shI f b)) by rw [len_eq, len_eq, List.length_map]), req_of (show len a.fC = len v2 from hk)]
    rfl
theorem spec_l13Shift_ok (a : TL) (f b : Int) (h : SmallL a) : Fq22 a f b = some (a.fC.map (shC f b)) := by
  have hc := h.cells
  unfold Fq22
  refine Eq.trans (bind_of (while_from (r := a.fC.map (shC f b)) (fun i => ((i : Int), mid (shC f b) a.fC i)) a.fC.length rfl (fun i hi => ?_) ?_)) ?_
  · have hi2 := (h.cell _ (gd_mem hi)).insts
    simp only [Lq22_x3, letO_eq, obs, s_nadd, s_toNn, Nat.zero_add]
    rw [ltl_t hi, br_t, req_of (inRl hi), req_of (inRl hi), obs, spec_shiftIn a f b i _ (by rw [mid_len]) (by rw [mid_gd hi]; omega), obs, inc_nat (by omega), mid_gd hi, mid_set hi rfl]
  · simp only [Lq22_x3, letO_eq]
    rw [ltl_f, br_f, mid_all]
  · simp only [letO_eq]
    rw [req_of (by rw [len_eq, len_eq, List.length_map])]
theorem impl_renumber_ok (a : TL) (f b : Int) (h : SmallL a) : Fq23 a f b = some (a.fC.map (shC f b)) := by
  have hc := h.cells
  unfold Fq23
  refine Eq.trans (bind_of (while_from (r := a.fC.map (shC f b)) (fun i => ((i : Int), mid (shC f b) a.fC i)) a.fC.length rfl (fun i hi => ?_) ?_)) ?_
  · have hi2 := (h.cell _ (gd_mem hi)).insts
    simp only [Lq23_x3, letO_eq, obs, s_nadd, s_toNn, Nat.zero_add]
    rw [ltl_t hi, br_t, req_of (inRl hi), req_of (inRl hi), obs, impl_shiftIn a f b i _ (by rw [mid_len]) (by rw [mid_gd hi]; omega), obs, inc_nat (by omega), mid_gd hi, mid_set hi rfl]
  · simp only [Lq23_x3, letO_eq]
    rw [ltl_f, br_f, mid_all]
  · simp only [letO_eq]
    rw [req_of (by rw [len_eq, len_eq, List.length_map])]
/- an edit that is possible: both sides -/
def insA {α : Type} (l : List α) (i : Nat) (x : α) : List α := l.take i ++ [x] ++ l.drop i
def delA {α : Type} (l : List α) (i : Nat) : List α := l.take i ++ l.drop (i + 1)
def edC (e : TE) (c : TC) : TC :=
  if e.fk_ = 1 then ⟨c.fN, insA c.fS e.fx.toNat e.fs_, c.fL, c.fI⟩
  else if e.fk_ = 2 then ⟨c.fN, delA c.fS e.fx.toNat, c.fL, c.fI⟩
  else if e.fk_ = 3 then ⟨c.fN, c.fS, insA c.fL e.fx.toNat e.fl_, c.fI⟩
  else if e.fk_ = 4 then ⟨c.fN, c.fS, delA c.fL e.fx.toNat, c.fI⟩
  else if e.fk_ = 5 then ⟨c.fN, c.fS, c.fL, insA c.fI e.fx.toNat e.fi_⟩
  else if e.fk_ = 6 then ⟨c.fN, c.fS, c.fL, delA c.fI e.fx.toNat⟩
  else if e.fk_ = 7 then ⟨e.fN, c.fS, c.fL, c.fI⟩
  else c
def appE (a : TL) (e : TE) : TL :=
  if e.fk_ = 8 then ⟨insA (a.fC.map (shC e.fc 1)) e.fc.toNat ⟨e.fN, [], [], []⟩⟩
  else if e.fk_ = 9 then ⟨(delA a.fC e.fc.toNat).map (shC e.fc (-1))⟩
  else ⟨a.fC.set e.fc.toNat (edC e (gd a.fC e.fc.toNat))⟩
theorem insC_zero {i : Int} {n : Nat} {m : Int} (h : insC i n m = 0) : i <= n /\ (n : Int) ≠ m := by
  unfold insC at h
  by_cases h1 : (n : Int) < i
  · rw [if_pos h1] at h; exact absurd h (by decide)
  · rw [if_neg h1] at h
    by_cases h2 : (n : Int) = m
    · rw [if_pos h2] at h; exact absurd h (by decide)
    · exact ⟨by omega, h2⟩
/-- where an insertion may stand -/
theorem eCode_ins {a : TL} {e : TE} {m : Nat} (hc : eCode a e = 0) (hm : e.fc = (m : Int)) (hlt : m < a.fC.length) : (e.fk_ = 1 -> e.fx <= ((gd a.fC m).fS.length : Int) /\ ((gd a.fC m).fS.length : Int) ≠ 24) /\ (e.fk_ = 3 -> e.fx <= ((gd a.fC m).fL.length : Int) /\ ((gd a.fC m).fL.length : Int) ≠ 8) /\ (e.fk_ = 5 -> (e.fx <= ((gd a.fC m).fI.length : Int) /\ ((gd a.fC m).fI.length : Int) ≠ 8) /\ e.fi_.fc < e.fc) := by
  obtain ⟨hv, he, _⟩ := eCode_zero hc
  unfold eCode at hc
  rw [if_neg (by rw [hv, he]; decide)] at hc
  have hn : ¬ (a.fC.length : Int) <= e.fc := by omega
  have ht : e.fc.toNat = m := by omega
  rw [ht] at hc
  refine ⟨fun hk => ?_, fun hk => ?_, fun hk => ?_⟩
  · rw [if_neg (by omega), if_neg hn, if_pos hk] at hc; exact insC_zero hc
  · rw [if_neg (by omega), if_neg hn, if_neg (by omega), if_neg (by omega), if_pos hk] at hc; exact insC_zero hc
  · rw [if_neg (by omega), if_neg hn, if_neg (by omega), if_neg (by omega), if_neg (by omega), if_neg (by omega), if_pos hk] at hc
    by_cases h1 : insC e.fx (gd a.fC m).fI.length 8 = 0 /\ e.fc <= e.fi_.fc
    · rw [if_pos h1] at hc; exact absurd hc (by decide)
    · rw [if_neg h1] at hc
      exact ⟨insC_zero hc, by by_cases h2 : e.fc <= e.fi_.fc; exact absurd ⟨hc, h2⟩ h1; omega⟩
theorem eCode_cell {a : TL} {e : TE} (hc : eCode a e = 0) (hk : e.fk_ = 8) : e.fc <= (a.fC.length : Int) /\ (a.fC.length : Int) ≠ 8 /\ othN a.fC (-1) e.fN = false := by
  obtain ⟨hv, he, _⟩ := eCode_zero hc
  unfold eCode at hc
  rw [if_neg (by rw [hv, he]; decide), if_pos hk] at hc
  by_cases h1 : (a.fC.length : Int) < e.fc
  · rw [if_pos h1] at hc; exact absurd hc (by decide)
  · rw [if_neg h1] at hc
    by_cases h2 : (a.fC.length : Int) = 8
    · rw [if_pos h2] at hc; exact absurd hc (by decide)
    · rw [if_neg h2] at hc
      refine ⟨by omega, h2, ?_⟩
      cases h3 : othN a.fC (-1) e.fN with
      | false => rfl
      | true => rw [h3, if_pos rfl] at hc; exact absurd hc (by decide)
theorem room_of {n b : Nat} (hn : n <= 1000000) (hb : b <= 1000) : std.room n b := roomC (by omega) hb
theorem small_ins {a : TL} (h : SmallL a) (m : Nat) (s : ByteArray) (hs : s.size <= 1048576) (hn : a.fC.length <= 1000) : SmallL ⟨List.take m a.fC ++ [⟨s, [], [], []⟩] ++ List.drop m a.fC⟩ := by
  refine ⟨by simp only [List.length_append, List.length_take, List.length_drop, List.length_cons, List.length_nil]; omega, fun c hc => ?_⟩
  simp only [List.mem_append, List.mem_singleton] at hc
  rcases hc with (hc | rfl) | hc
  · exact h.cell c (List.mem_of_mem_take hc)
  · exact ⟨hs, by simp, by simp, by simp, by simp⟩
  · exact h.cell c (List.mem_of_mem_drop hc)
theorem small_del {a : TL} (h : SmallL a) (m : Nat) : SmallL ⟨delA a.fC m⟩ := by
  have hl := h.cells
  refine ⟨by simp only [delA, List.length_append, List.length_take, List.length_drop]; omega, fun c hc => ?_⟩
  simp only [delA, List.mem_append] at hc
  rcases hc with hc | hc
  · exact h.cell c (List.mem_of_mem_take hc)
  · exact h.cell c (List.mem_of_mem_drop hc)
theorem insA_map {f b : Int} (l : List TC) (m : Nat) (s : ByteArray) : List.map (shC f b) (List.take m l ++ [⟨s, [], [], []⟩] ++ List.drop m l) = insA (l.map (shC f b)) m ⟨s, [], [], []⟩ := by
  unfold insA
  rw [List.map_append, List.map_append, List.map_take, List.map_drop]
  rfl
set_option maxHeartbeats 4000000 in
theorem spec_l13Do_ok (a : TL) (e : TE) (h : SmallL a) (g : SmallE e) (hc : eCode a e = 0) : Fq101 a e = some (appE a e) := by
  have hcl := h.cells
  obtain ⟨hv, he, hcell⟩ := eCode_zero hc
  obtain ⟨hk, h1, hi⟩ := okEdit_kind he
  have hl := okLib_len hv
  obtain ⟨m, hm⟩ := Int.eq_ofNat_of_zero_le h1
  obtain ⟨q, hq⟩ := Int.eq_ofNat_of_zero_le hi
  unfold Fq101
  by_cases h8 : e.fk_ = 8
  · obtain ⟨c1, c2, _⟩ := eCode_cell hc h8
    rw [hm] at c1
    unfold appE
    rw [if_pos h8, h8, hm, show std.eq (8 : Int) 8 = true from rfl, br_t]
    rw [spec_l13Shift_ok a _ _ h, obs]
    obtain ⟨L, hL⟩ : ∃ L, L = a.fC.map (shC (m : Int) 1) := ⟨_, rfl⟩
    have hLl : L.length = a.fC.length := by rw [hL, List.length_map]
    rw [<- hL]
    simp only [br_f, br_t, obs, letO_eq, s_ofN, s_toNn, s_nadd, s_nsub, Nat.zero_add, len_eq, List.nil_append, show std.toN 0 = 0 from rfl, Nat.sub_zero, List.drop_zero, List.length_append, List.length_take, List.length_drop, List.length_cons, List.length_nil, List.length_map]
    rw [<- hLl]
    have c3 : m <= L.length := by omega
    repeat (rw [req_of]; rotate_left; focus (first | trivial | exact ⟨by omega, by omega⟩ | exact room_of (by omega) (by omega) | omega))
    rw [Int.toNat_natCast]
    unfold insA
    rw [List.take_of_length_le (l := List.drop m L) (by simp)]
  · obtain ⟨m2, hm2, hlt⟩ := hcell h8
    obtain rfl : m = m2 := by omega
    clear hm2
    by_cases h9 : e.fk_ = 9
    · unfold appE
      rw [if_neg h8, if_pos h9, h9, hm, show std.eq (9 : Int) 8 = false from rfl, show std.eq (9 : Int) 9 = true from rfl, br_f, br_t]
      have hm1 : std.add .i64 (m : Int) 1 = ((m + 1 : Nat) : Int) := inc_nat (by omega)
      simp only [hm1, br_f, br_t, obs, letO_eq, s_ofN, s_toNn, s_nadd, s_nsub, Nat.zero_add, len_eq, List.nil_append, show std.toN 0 = 0 from rfl, Nat.sub_zero, List.drop_zero, List.length_append, List.length_take, List.length_drop, List.length_cons, List.length_nil, List.length_map]
      have ed : List.take m a.fC ++ List.take (a.fC.length - (m + 1)) (List.drop (m + 1) a.fC) = delA a.fC m := by
        unfold delA
        rw [List.take_of_length_le (l := List.drop (m + 1) a.fC) (by simp)]
      rw [ed, spec_l13Shift_ok ⟨delA a.fC m⟩ _ _ (small_del h m), obs]
      have hdl : (delA a.fC m).length = a.fC.length - 1 := by unfold delA; simp; omega
      simp only [List.length_map]
      repeat (rw [req_of]; rotate_left; focus (first | trivial | exact ⟨by omega, by omega⟩ | exact room_of (by omega) (by omega) | omega))
      rw [Int.toNat_natCast]
    · have hk7 : e.fk_ = 1 \/ e.fk_ = 2 \/ e.fk_ = 3 \/ e.fk_ = 4 \/ e.fk_ = 5 \/ e.fk_ = 6 \/ e.fk_ = 7 := by omega
      unfold appE
      rw [if_neg h8, if_neg h9]
      obtain ⟨d2, d4, d6⟩ := eCode_index hc hm hlt
      obtain ⟨n1, n3, n5⟩ := eCode_ins hc hm hlt
      obtain ⟨b1, b2, b3⟩ := okLib_cell hv hlt
      have hq1 : q <= 1000 -> std.add .i64 (q : Int) 1 = ((q + 1 : Nat) : Int) := fun hh => inc_nat (by omega)
      have hin : std.inR (m : Int) a.fC.length := ⟨by omega, by omega⟩
      clear hcell h8 h9 hk hc
      obtain ⟨kind, cell, index, name, shape, label, inst⟩ := e
      simp only at hk7 hm hq d2 d4 d6 n1 n3 n5 ⊢
      subst hm hq
      obtain ⟨c, hcd⟩ : ∃ c, c = gd a.fC m := ⟨_, rfl⟩
      rw [<- hcd] at d2 d4 d6 n1 n3 n5 b1 b2 b3
      have hgd : gd a.fC (Int.toNat (m : Int)) = c := by rw [Int.toNat_natCast, hcd]
      have hset : ∀ x : TC, (a.fC.set m x).length = a.fC.length := fun x => List.length_set
      rcases hk7 with rfl | rfl | rfl | rfl | rfl | rfl | rfl
      · obtain ⟨j1, j2⟩ := n1 rfl
        simp only [edC, hgd, Int.toNat_natCast, Int.reduceEq, if_true, if_false, eq_self]
        simp only [show std.eq (1 : Int) 1 = true from rfl, show std.eq (1 : Int) 2 = false from rfl, show std.eq (1 : Int) 3 = false from rfl, show std.eq (1 : Int) 4 = false from rfl, show std.eq (1 : Int) 5 = false from rfl, show std.eq (1 : Int) 6 = false from rfl, show std.eq (1 : Int) 7 = false from rfl, show std.eq (1 : Int) 8 = false from rfl, show std.eq (1 : Int) 9 = false from rfl, br_f, br_t, obs, letO_eq, s_ofN, s_toNn, s_nadd, s_nsub, Nat.zero_add, len_eq, List.nil_append, show std.toN 0 = 0 from rfl, Nat.sub_zero, List.drop_zero, List.length_append, List.length_take, List.length_drop, List.length_cons, List.length_nil, List.length_map, <- hcd, hset]
        repeat (rw [req_of]; rotate_left; focus (first | trivial | exact ⟨by omega, by omega⟩ | exact room_of (by omega) (by omega) | omega))
        unfold insA
        rw [List.take_of_length_le (l := List.drop q c.fS) (by simp)]
        all_goals (try simp only [show std.eq (1 : Int) 1 = true from rfl, show std.eq (1 : Int) 2 = false from rfl, show std.eq (1 : Int) 3 = false from rfl, show std.eq (1 : Int) 4 = false from rfl, show std.eq (1 : Int) 5 = false from rfl, show std.eq (1 : Int) 6 = false from rfl, show std.eq (1 : Int) 7 = false from rfl, show std.eq (1 : Int) 8 = false from rfl, show std.eq (1 : Int) 9 = false from rfl, br_f, br_t, obs, letO_eq, s_ofN, s_toNn, s_nadd, s_nsub, Nat.zero_add, len_eq, List.nil_append, show std.toN 0 = 0 from rfl, Nat.sub_zero, List.drop_zero, List.length_append, List.length_take, List.length_drop, List.length_cons, List.length_nil, List.length_map, <- hcd, hset])
        all_goals (repeat (rw [req_of]; rotate_left; focus (first | trivial | exact ⟨by omega, by omega⟩ | exact room_of (by omega) (by omega) | omega)))
        all_goals (try simp only [show std.eq (1 : Int) 1 = true from rfl, show std.eq (1 : Int) 2 = false from rfl, show std.eq (1 : Int) 3 = false from rfl, show std.eq (1 : Int) 4 = false from rfl, show std.eq (1 : Int) 5 = false from rfl, show std.eq (1 : Int) 6 = false from rfl, show std.eq (1 : Int) 7 = false from rfl, show std.eq (1 : Int) 8 = false from rfl, show std.eq (1 : Int) 9 = false from rfl, br_f, br_t, obs, letO_eq, s_ofN, s_toNn, s_nadd, s_nsub, Nat.zero_add, len_eq, List.nil_append, show std.toN 0 = 0 from rfl, Nat.sub_zero, List.drop_zero, List.length_append, List.length_take, List.length_drop, List.length_cons, List.length_nil, List.length_map, <- hcd, hset])
        all_goals (repeat (rw [req_of]; rotate_left; focus (first | trivial | exact ⟨by omega, by omega⟩ | exact room_of (by omega) (by omega) | omega)))
      · obtain ⟨q2, j1, j2⟩ := d2 rfl
        obtain rfl : q = q2 := by omega
        simp only [edC, hgd, Int.toNat_natCast, Int.reduceEq, if_true, if_false, eq_self]
        simp only [show std.eq (2 : Int) 1 = false from rfl, show std.eq (2 : Int) 2 = true from rfl, show std.eq (2 : Int) 3 = false from rfl, show std.eq (2 : Int) 4 = false from rfl, show std.eq (2 : Int) 5 = false from rfl, show std.eq (2 : Int) 6 = false from rfl, show std.eq (2 : Int) 7 = false from rfl, show std.eq (2 : Int) 8 = false from rfl, show std.eq (2 : Int) 9 = false from rfl, hq1 (show q <= 1000 by omega), br_f, br_t, obs, letO_eq, s_ofN, s_toNn, s_nadd, s_nsub, Nat.zero_add, len_eq, List.nil_append, show std.toN 0 = 0 from rfl, Nat.sub_zero, List.drop_zero, List.length_append, List.length_take, List.length_drop, List.length_cons, List.length_nil, List.length_map, <- hcd, hset]
        repeat (rw [req_of]; rotate_left; focus (first | trivial | exact ⟨by omega, by omega⟩ | exact room_of (by omega) (by omega) | omega))
        unfold delA
        rw [List.take_of_length_le (l := List.drop (q + 1) c.fS) (by simp)]
        all_goals (try simp only [show std.eq (2 : Int) 1 = false from rfl, show std.eq (2 : Int) 2 = true from rfl, show std.eq (2 : Int) 3 = false from rfl, show std.eq (2 : Int) 4 = false from rfl, show std.eq (2 : Int) 5 = false from rfl, show std.eq (2 : Int) 6 = false from rfl, show std.eq (2 : Int) 7 = false from rfl, show std.eq (2 : Int) 8 = false from rfl, show std.eq (2 : Int) 9 = false from rfl, hq1 (show q <= 1000 by omega), br_f, br_t, obs, letO_eq, s_ofN, s_toNn, s_nadd, s_nsub, Nat.zero_add, len_eq, List.nil_append, show std.toN 0 = 0 from rfl, Nat.sub_zero, List.drop_zero, List.length_append, List.length_take, List.length_drop, List.length_cons, List.length_nil, List.length_map, <- hcd, hset])
        all_goals (repeat (rw [req_of]; rotate_left; focus (first | trivial | exact ⟨by omega, by omega⟩ | exact room_of (by omega) (by omega) | omega)))
        all_goals (try simp only [show std.eq (2 : Int) 1 = false from rfl, show std.eq (2 : Int) 2 = true from rfl, show std.eq (2 : Int) 3 = false from rfl, show std.eq (2 : Int) 4 = false from rfl, show std.eq (2 : Int) 5 = false from rfl, show std.eq (2 : Int) 6 = false from rfl, show std.eq (2 : Int) 7 = false from rfl, show std.eq (2 : Int) 8 = false from rfl, show std.eq (2 : Int) 9 = false from rfl, hq1 (show q <= 1000 by omega), br_f, br_t, obs, letO_eq, s_ofN, s_toNn, s_nadd, s_nsub, Nat.zero_add, len_eq, List.nil_append, show std.toN 0 = 0 from rfl, Nat.sub_zero, List.drop_zero, List.length_append, List.length_take, List.length_drop, List.length_cons, List.length_nil, List.length_map, <- hcd, hset])
        all_goals (repeat (rw [req_of]; rotate_left; focus (first | trivial | exact ⟨by omega, by omega⟩ | exact room_of (by omega) (by omega) | omega)))
      · obtain ⟨j1, j2⟩ := n3 rfl
        simp only [edC, hgd, Int.toNat_natCast, Int.reduceEq, if_true, if_false, eq_self]
        simp only [show std.eq (3 : Int) 1 = false from rfl, show std.eq (3 : Int) 2 = false from rfl, show std.eq (3 : Int) 3 = true from rfl, show std.eq (3 : Int) 4 = false from rfl, show std.eq (3 : Int) 5 = false from rfl, show std.eq (3 : Int) 6 = false from rfl, show std.eq (3 : Int) 7 = false from rfl, show std.eq (3 : Int) 8 = false from rfl, show std.eq (3 : Int) 9 = false from rfl, br_f, br_t, obs, letO_eq, s_ofN, s_toNn, s_nadd, s_nsub, Nat.zero_add, len_eq, List.nil_append, show std.toN 0 = 0 from rfl, Nat.sub_zero, List.drop_zero, List.length_append, List.length_take, List.length_drop, List.length_cons, List.length_nil, List.length_map, <- hcd, hset]
        repeat (rw [req_of]; rotate_left; focus (first | trivial | exact ⟨by omega, by omega⟩ | exact room_of (by omega) (by omega) | omega))
        unfold insA
        rw [List.take_of_length_le (l := List.drop q c.fL) (by simp)]
        all_goals (try simp only [show std.eq (3 : Int) 1 = false from rfl, show std.eq (3 : Int) 2 = false from rfl, show std.eq (3 : Int) 3 = true from rfl, show std.eq (3 : Int) 4 = false from rfl, show std.eq (3 : Int) 5 = false from rfl, show std.eq (3 : Int) 6 = false from rfl, show std.eq (3 : Int) 7 = false from rfl, show std.eq (3 : Int) 8 = false from rfl, show std.eq (3 : Int) 9 = false from rfl, br_f, br_t, obs, letO_eq, s_ofN, s_toNn, s_nadd, s_nsub, Nat.zero_add, len_eq, List.nil_append, show std.toN 0 = 0 from rfl, Nat.sub_zero, List.drop_zero, List.length_append, List.length_take, List.length_drop, List.length_cons, List.length_nil, List.length_map, <- hcd, hset])
        all_goals (repeat (rw [req_of]; rotate_left; focus (first | trivial | exact ⟨by omega, by omega⟩ | exact room_of (by omega) (by omega) | omega)))
        all_goals (try simp only [show std.eq (3 : Int) 1 = false from rfl, show std.eq (3 : Int) 2 = false from rfl, show std.eq (3 : Int) 3 = true from rfl, show std.eq (3 : Int) 4 = false from rfl, show std.eq (3 : Int) 5 = false from rfl, show std.eq (3 : Int) 6 = false from rfl, show std.eq (3 : Int) 7 = false from rfl, show std.eq (3 : Int) 8 = false from rfl, show std.eq (3 : Int) 9 = false from rfl, br_f, br_t, obs, letO_eq, s_ofN, s_toNn, s_nadd, s_nsub, Nat.zero_add, len_eq, List.nil_append, show std.toN 0 = 0 from rfl, Nat.sub_zero, List.drop_zero, List.length_append, List.length_take, List.length_drop, List.length_cons, List.length_nil, List.length_map, <- hcd, hset])
        all_goals (repeat (rw [req_of]; rotate_left; focus (first | trivial | exact ⟨by omega, by omega⟩ | exact room_of (by omega) (by omega) | omega)))
      · obtain ⟨q2, j1, j2⟩ := d4 rfl
        obtain rfl : q = q2 := by omega
        simp only [edC, hgd, Int.toNat_natCast, Int.reduceEq, if_true, if_false, eq_self]
        simp only [show std.eq (4 : Int) 1 = false from rfl, show std.eq (4 : Int) 2 = false from rfl, show std.eq (4 : Int) 3 = false from rfl, show std.eq (4 : Int) 4 = true from rfl, show std.eq (4 : Int) 5 = false from rfl, show std.eq (4 : Int) 6 = false from rfl, show std.eq (4 : Int) 7 = false from rfl, show std.eq (4 : Int) 8 = false from rfl, show std.eq (4 : Int) 9 = false from rfl, hq1 (show q <= 1000 by omega), br_f, br_t, obs, letO_eq, s_ofN, s_toNn, s_nadd, s_nsub, Nat.zero_add, len_eq, List.nil_append, show std.toN 0 = 0 from rfl, Nat.sub_zero, List.drop_zero, List.length_append, List.length_take, List.length_drop, List.length_cons, List.length_nil, List.length_map, <- hcd, hset]
        repeat (rw [req_of]; rotate_left; focus (first | trivial | exact ⟨by omega, by omega⟩ | exact room_of (by omega) (by omega) | omega))
        unfold delA
        rw [List.take_of_length_le (l := List.drop (q + 1) c.fL) (by simp)]
        all_goals (try simp only [show std.eq (4 : Int) 1 = false from rfl, show std.eq (4 : Int) 2 = false from rfl, show std.eq (4 : Int) 3 = false from rfl, show std.eq (4 : Int) 4 = true from rfl, show std.eq (4 : Int) 5 = false from rfl, show std.eq (4 : Int) 6 = false from rfl, show std.eq (4 : Int) 7 = false from rfl, show std.eq (4 : Int) 8 = false from rfl, show std.eq (4 : Int) 9 = false from rfl, hq1 (show q <= 1000 by omega), br_f, br_t, obs, letO_eq, s_ofN, s_toNn, s_nadd, s_nsub, Nat.zero_add, len_eq, List.nil_append, show std.toN 0 = 0 from rfl, Nat.sub_zero, List.drop_zero, List.length_append, List.length_take, List.length_drop, List.length_cons, List.length_nil, List.length_map, <- hcd, hset])
        all_goals (repeat (rw [req_of]; rotate_left; focus (first | trivial | exact ⟨by omega, by omega⟩ | exact room_of (by omega) (by omega) | omega)))
        all_goals (try simp only [show std.eq (4 : Int) 1 = false from rfl, show std.eq (4 : Int) 2 = false from rfl, show std.eq (4 : Int) 3 = false from rfl, show std.eq (4 : Int) 4 = true from rfl, show std.eq (4 : Int) 5 = false from rfl, show std.eq (4 : Int) 6 = false from rfl, show std.eq (4 : Int) 7 = false from rfl, show std.eq (4 : Int) 8 = false from rfl, show std.eq (4 : Int) 9 = false from rfl, hq1 (show q <= 1000 by omega), br_f, br_t, obs, letO_eq, s_ofN, s_toNn, s_nadd, s_nsub, Nat.zero_add, len_eq, List.nil_append, show std.toN 0 = 0 from rfl, Nat.sub_zero, List.drop_zero, List.length_append, List.length_take, List.length_drop, List.length_cons, List.length_nil, List.length_map, <- hcd, hset])
        all_goals (repeat (rw [req_of]; rotate_left; focus (first | trivial | exact ⟨by omega, by omega⟩ | exact room_of (by omega) (by omega) | omega)))
      · obtain ⟨⟨j1, j2⟩, _⟩ := n5 rfl
        simp only [edC, hgd, Int.toNat_natCast, Int.reduceEq, if_true, if_false, eq_self]
        simp only [show std.eq (5 : Int) 1 = false from rfl, show std.eq (5 : Int) 2 = false from rfl, show std.eq (5 : Int) 3 = false from rfl, show std.eq (5 : Int) 4 = false from rfl, show std.eq (5 : Int) 5 = true from rfl, show std.eq (5 : Int) 6 = false from rfl, show std.eq (5 : Int) 7 = false from rfl, show std.eq (5 : Int) 8 = false from rfl, show std.eq (5 : Int) 9 = false from rfl, br_f, br_t, obs, letO_eq, s_ofN, s_toNn, s_nadd, s_nsub, Nat.zero_add, len_eq, List.nil_append, show std.toN 0 = 0 from rfl, Nat.sub_zero, List.drop_zero, List.length_append, List.length_take, List.length_drop, List.length_cons, List.length_nil, List.length_map, <- hcd, hset]
        repeat (rw [req_of]; rotate_left; focus (first | trivial | exact ⟨by omega, by omega⟩ | exact room_of (by omega) (by omega) | omega))
        unfold insA
        rw [List.take_of_length_le (l := List.drop q c.fI) (by simp)]
        all_goals (try simp only [show std.eq (5 : Int) 1 = false from rfl, show std.eq (5 : Int) 2 = false from rfl, show std.eq (5 : Int) 3 = false from rfl, show std.eq (5 : Int) 4 = false from rfl, show std.eq (5 : Int) 5 = true from rfl, show std.eq (5 : Int) 6 = false from rfl, show std.eq (5 : Int) 7 = false from rfl, show std.eq (5 : Int) 8 = false from rfl, show std.eq (5 : Int) 9 = false from rfl, br_f, br_t, obs, letO_eq, s_ofN, s_toNn, s_nadd, s_nsub, Nat.zero_add, len_eq, List.nil_append, show std.toN 0 = 0 from rfl, Nat.sub_zero, List.drop_zero, List.length_append, List.length_take, List.length_drop, List.length_cons, List.length_nil, List.length_map, <- hcd, hset])
        all_goals (repeat (rw [req_of]; rotate_left; focus (first | trivial | exact ⟨by omega, by omega⟩ | exact room_of (by omega) (by omega) | omega)))
        all_goals (try simp only [show std.eq (5 : Int) 1 = false from rfl, show std.eq (5 : Int) 2 = false from rfl, show std.eq (5 : Int) 3 = false from rfl, show std.eq (5 : Int) 4 = false from rfl, show std.eq (5 : Int) 5 = true from rfl, show std.eq (5 : Int) 6 = false from rfl, show std.eq (5 : Int) 7 = false from rfl, show std.eq (5 : Int) 8 = false from rfl, show std.eq (5 : Int) 9 = false from rfl, br_f, br_t, obs, letO_eq, s_ofN, s_toNn, s_nadd, s_nsub, Nat.zero_add, len_eq, List.nil_append, show std.toN 0 = 0 from rfl, Nat.sub_zero, List.drop_zero, List.length_append, List.length_take, List.length_drop, List.length_cons, List.length_nil, List.length_map, <- hcd, hset])
        all_goals (repeat (rw [req_of]; rotate_left; focus (first | trivial | exact ⟨by omega, by omega⟩ | exact room_of (by omega) (by omega) | omega)))
      · obtain ⟨q2, j1, j2⟩ := d6 rfl
        obtain rfl : q = q2 := by omega
        simp only [edC, hgd, Int.toNat_natCast, Int.reduceEq, if_true, if_false, eq_self]
        simp only [show std.eq (6 : Int) 1 = false from rfl, show std.eq (6 : Int) 2 = false from rfl, show std.eq (6 : Int) 3 = false from rfl, show std.eq (6 : Int) 4 = false from rfl, show std.eq (6 : Int) 5 = false from rfl, show std.eq (6 : Int) 6 = true from rfl, show std.eq (6 : Int) 7 = false from rfl, show std.eq (6 : Int) 8 = false from rfl, show std.eq (6 : Int) 9 = false from rfl, hq1 (show q <= 1000 by omega), br_f, br_t, obs, letO_eq, s_ofN, s_toNn, s_nadd, s_nsub, Nat.zero_add, len_eq, List.nil_append, show std.toN 0 = 0 from rfl, Nat.sub_zero, List.drop_zero, List.length_append, List.length_take, List.length_drop, List.length_cons, List.length_nil, List.length_map, <- hcd, hset]
        repeat (rw [req_of]; rotate_left; focus (first | trivial | exact ⟨by omega, by omega⟩ | exact room_of (by omega) (by omega) | omega))
        unfold delA
        rw [List.take_of_length_le (l := List.drop (q + 1) c.fI) (by simp)]
        all_goals (try simp only [show std.eq (6 : Int) 1 = false from rfl, show std.eq (6 : Int) 2 = false from rfl, show std.eq (6 : Int) 3 = false from rfl, show std.eq (6 : Int) 4 = false from rfl, show std.eq (6 : Int) 5 = false from rfl, show std.eq (6 : Int) 6 = true from rfl, show std.eq (6 : Int) 7 = false from rfl, show std.eq (6 : Int) 8 = false from rfl, show std.eq (6 : Int) 9 = false from rfl, hq1 (show q <= 1000 by omega), br_f, br_t, obs, letO_eq, s_ofN, s_toNn, s_nadd, s_nsub, Nat.zero_add, len_eq, List.nil_append, show std.toN 0 = 0 from rfl, Nat.sub_zero, List.drop_zero, List.length_append, List.length_take, List.length_drop, List.length_cons, List.length_nil, List.length_map, <- hcd, hset])
        all_goals (repeat (rw [req_of]; rotate_left; focus (first | trivial | exact ⟨by omega, by omega⟩ | exact room_of (by omega) (by omega) | omega)))
        all_goals (try simp only [show std.eq (6 : Int) 1 = false from rfl, show std.eq (6 : Int) 2 = false from rfl, show std.eq (6 : Int) 3 = false from rfl, show std.eq (6 : Int) 4 = false from rfl, show std.eq (6 : Int) 5 = false from rfl, show std.eq (6 : Int) 6 = true from rfl, show std.eq (6 : Int) 7 = false from rfl, show std.eq (6 : Int) 8 = false from rfl, show std.eq (6 : Int) 9 = false from rfl, hq1 (show q <= 1000 by omega), br_f, br_t, obs, letO_eq, s_ofN, s_toNn, s_nadd, s_nsub, Nat.zero_add, len_eq, List.nil_append, show std.toN 0 = 0 from rfl, Nat.sub_zero, List.drop_zero, List.length_append, List.length_take, List.length_drop, List.length_cons, List.length_nil, List.length_map, <- hcd, hset])
        all_goals (repeat (rw [req_of]; rotate_left; focus (first | trivial | exact ⟨by omega, by omega⟩ | exact room_of (by omega) (by omega) | omega)))
      · simp only [edC, hgd, Int.toNat_natCast, Int.reduceEq, if_true, if_false, eq_self]
        simp only [show std.eq (7 : Int) 1 = false from rfl, show std.eq (7 : Int) 2 = false from rfl, show std.eq (7 : Int) 3 = false from rfl, show std.eq (7 : Int) 4 = false from rfl, show std.eq (7 : Int) 5 = false from rfl, show std.eq (7 : Int) 6 = false from rfl, show std.eq (7 : Int) 7 = true from rfl, show std.eq (7 : Int) 8 = false from rfl, show std.eq (7 : Int) 9 = false from rfl, br_f, br_t, obs, letO_eq, s_ofN, s_toNn, s_nadd, s_nsub, Nat.zero_add, len_eq, List.nil_append, show std.toN 0 = 0 from rfl, Nat.sub_zero, List.drop_zero, List.length_append, List.length_take, List.length_drop, List.length_cons, List.length_nil, List.length_map, <- hcd, hset]
        repeat (rw [req_of]; rotate_left; focus (first | trivial | exact ⟨by omega, by omega⟩ | exact room_of (by omega) (by omega) | omega))
        all_goals (try simp only [show std.eq (7 : Int) 1 = false from rfl, show std.eq (7 : Int) 2 = false from rfl, show std.eq (7 : Int) 3 = false from rfl, show std.eq (7 : Int) 4 = false from rfl, show std.eq (7 : Int) 5 = false from rfl, show std.eq (7 : Int) 6 = false from rfl, show std.eq (7 : Int) 7 = true from rfl, show std.eq (7 : Int) 8 = false from rfl, show std.eq (7 : Int) 9 = false from rfl, br_f, br_t, obs, letO_eq, s_ofN, s_toNn, s_nadd, s_nsub, Nat.zero_add, len_eq, List.nil_append, show std.toN 0 = 0 from rfl, Nat.sub_zero, List.drop_zero, List.length_append, List.length_take, List.length_drop, List.length_cons, List.length_nil, List.length_map, <- hcd, hset])
        all_goals (repeat (rw [req_of]; rotate_left; focus (first | trivial | exact ⟨by omega, by omega⟩ | exact room_of (by omega) (by omega) | omega)))
        all_goals (try simp only [show std.eq (7 : Int) 1 = false from rfl, show std.eq (7 : Int) 2 = false from rfl, show std.eq (7 : Int) 3 = false from rfl, show std.eq (7 : Int) 4 = false from rfl, show std.eq (7 : Int) 5 = false from rfl, show std.eq (7 : Int) 6 = false from rfl, show std.eq (7 : Int) 7 = true from rfl, show std.eq (7 : Int) 8 = false from rfl, show std.eq (7 : Int) 9 = false from rfl, br_f, br_t, obs, letO_eq, s_ofN, s_toNn, s_nadd, s_nsub, Nat.zero_add, len_eq, List.nil_append, show std.toN 0 = 0 from rfl, Nat.sub_zero, List.drop_zero, List.length_append, List.length_take, List.length_drop, List.length_cons, List.length_nil, List.length_map, <- hcd, hset])
        all_goals (repeat (rw [req_of]; rotate_left; focus (first | trivial | exact ⟨by omega, by omega⟩ | exact room_of (by omega) (by omega) | omega)))
set_option maxHeartbeats 4000000 in
theorem impl_edited_ok (a : TL) (e : TE) (h : SmallL a) (g : SmallE e) (hc : eCode a e = 0) : Fq120 a e = some (appE a e) := by
  have hcl := h.cells
  obtain ⟨hv, he, hcell⟩ := eCode_zero hc
  obtain ⟨hk, h1, hi⟩ := okEdit_kind he
  have hl := okLib_len hv
  obtain ⟨m, hm⟩ := Int.eq_ofNat_of_zero_le h1
  obtain ⟨q, hq⟩ := Int.eq_ofNat_of_zero_le hi
  unfold Fq120
  rw [impl_copyLibrary_ok a h, obs]
  by_cases h8 : e.fk_ = 8
  · obtain ⟨c1, c2, _⟩ := eCode_cell hc h8
    rw [hm] at c1
    unfold appE
    rw [if_pos h8, h8, hm, show std.eq (8 : Int) 8 = true from rfl, br_t]
    have c3 : m <= a.fC.length := by omega
    simp only [letO_eq]
    unfold Fq33
    rw [if_pos ⟨by omega, by omega, by simp, by simp; omega⟩, obs, Int.toNat_natCast]
    rw [impl_renumber_ok _ _ _ (small_ins h m e.fN (by have := g.name; omega) (by omega)), obs]
    rw [req_of (by simp [len_eq]), req_of (by simp [len_eq])]
    rw [insA_map]
  · obtain ⟨m2, hm2, hlt⟩ := hcell h8
    obtain rfl : m = m2 := by omega
    clear hm2
    by_cases h9 : e.fk_ = 9
    · unfold appE
      rw [if_neg h8, if_pos h9, h9, hm, show std.eq (9 : Int) 8 = false from rfl, show std.eq (9 : Int) 9 = true from rfl, br_f, br_t]
      have hm1 : std.add .i64 (m : Int) 1 = ((m + 1 : Nat) : Int) := inc_nat (by omega)
      unfold Fq124 Fq86
      rw [hm1, if_pos ⟨by omega, by omega, by omega⟩, obs, obs, Int.toNat_natCast, Int.toNat_natCast]
      rw [show List.take m a.fC ++ List.drop (m + 1) a.fC = delA a.fC m from rfl, impl_renumber_ok ⟨delA a.fC m⟩ _ _ (small_del h m), obs]
      rw [req_of (by simp [len_eq]), req_of (by simp [len_eq])]
    · have hk7 : e.fk_ = 1 \/ e.fk_ = 2 \/ e.fk_ = 3 \/ e.fk_ = 4 \/ e.fk_ = 5 \/ e.fk_ = 6 \/ e.fk_ = 7 := by omega
      unfold appE
      rw [if_neg h8, if_neg h9]
      obtain ⟨d2, d4, d6⟩ := eCode_index hc hm hlt
      obtain ⟨n1, n3, n5⟩ := eCode_ins hc hm hlt
      obtain ⟨b1, b2, b3⟩ := okLib_cell hv hlt
      have hq1 : q <= 1000 -> std.add .i64 (q : Int) 1 = ((q + 1 : Nat) : Int) := fun hh => inc_nat (by omega)
      have hin : std.inR (m : Int) a.fC.length := ⟨by omega, by omega⟩
      clear hcell h8 h9 hk hc
      obtain ⟨kind, cell, index, name, shape, label, inst⟩ := e
      simp only at hk7 hm hq d2 d4 d6 n1 n3 n5 ⊢
      subst hm hq
      obtain ⟨c, hcd⟩ : ∃ c, c = gd a.fC m := ⟨_, rfl⟩
      rw [<- hcd] at d2 d4 d6 n1 n3 n5 b1 b2 b3
      have hgd : gd a.fC (Int.toNat (m : Int)) = c := by rw [Int.toNat_natCast, hcd]
      have hset : ∀ x : TC, (a.fC.set m x).length = a.fC.length := fun x => List.length_set
      rcases hk7 with rfl | rfl | rfl | rfl | rfl | rfl | rfl
      · obtain ⟨j1, j2⟩ := n1 rfl
        simp only [edC, hgd, Int.toNat_natCast, Int.reduceEq, if_true, if_false, eq_self]
        have ei : Fq28 c.fS (q : Int) [shape] = some (insA c.fS q shape) := by
          unfold Fq28
          rw [if_pos ⟨by omega, by omega, by simp, by simp; omega⟩, Int.toNat_natCast]
          rfl
        simp only [show std.eq (1 : Int) 1 = true from rfl, show std.eq (1 : Int) 2 = false from rfl, show std.eq (1 : Int) 3 = false from rfl, show std.eq (1 : Int) 4 = false from rfl, show std.eq (1 : Int) 5 = false from rfl, show std.eq (1 : Int) 6 = false from rfl, show std.eq (1 : Int) 7 = false from rfl, show std.eq (1 : Int) 8 = false from rfl, show std.eq (1 : Int) 9 = false from rfl, ei, br_f, br_t, obs, letO_eq, s_ofN, s_toNn, s_nadd, s_nsub, Nat.zero_add, len_eq, List.nil_append, show std.toN 0 = 0 from rfl, Nat.sub_zero, List.drop_zero, List.length_append, List.length_take, List.length_drop, List.length_cons, List.length_nil, List.length_map, <- hcd, hset]
        repeat (rw [req_of]; rotate_left; focus (first | trivial | exact ⟨by omega, by omega⟩ | exact room_of (by omega) (by omega) | omega))
      · obtain ⟨q2, j1, j2⟩ := d2 rfl
        obtain rfl : q = q2 := by omega
        simp only [edC, hgd, Int.toNat_natCast, Int.reduceEq, if_true, if_false, eq_self]
        have ei : Fq94 c.fS (q : Int) = some (delA c.fS q) := by
          unfold Fq94 Fq83
          rw [hq1 (by omega), if_pos ⟨by omega, by omega, by omega⟩, Int.toNat_natCast, Int.toNat_natCast]
          rfl
        simp only [show std.eq (2 : Int) 1 = false from rfl, show std.eq (2 : Int) 2 = true from rfl, show std.eq (2 : Int) 3 = false from rfl, show std.eq (2 : Int) 4 = false from rfl, show std.eq (2 : Int) 5 = false from rfl, show std.eq (2 : Int) 6 = false from rfl, show std.eq (2 : Int) 7 = false from rfl, show std.eq (2 : Int) 8 = false from rfl, show std.eq (2 : Int) 9 = false from rfl, hq1 (show q <= 1000 by omega), ei, br_f, br_t, obs, letO_eq, s_ofN, s_toNn, s_nadd, s_nsub, Nat.zero_add, len_eq, List.nil_append, show std.toN 0 = 0 from rfl, Nat.sub_zero, List.drop_zero, List.length_append, List.length_take, List.length_drop, List.length_cons, List.length_nil, List.length_map, <- hcd, hset]
        repeat (rw [req_of]; rotate_left; focus (first | trivial | exact ⟨by omega, by omega⟩ | exact room_of (by omega) (by omega) | omega))
      · obtain ⟨j1, j2⟩ := n3 rfl
        simp only [edC, hgd, Int.toNat_natCast, Int.reduceEq, if_true, if_false, eq_self]
        have ei : Fq32 c.fL (q : Int) [label] = some (insA c.fL q label) := by
          unfold Fq32
          rw [if_pos ⟨by omega, by omega, by simp, by simp; omega⟩, Int.toNat_natCast]
          rfl
        simp only [show std.eq (3 : Int) 1 = false from rfl, show std.eq (3 : Int) 2 = false from rfl, show std.eq (3 : Int) 3 = true from rfl, show std.eq (3 : Int) 4 = false from rfl, show std.eq (3 : Int) 5 = false from rfl, show std.eq (3 : Int) 6 = false from rfl, show std.eq (3 : Int) 7 = false from rfl, show std.eq (3 : Int) 8 = false from rfl, show std.eq (3 : Int) 9 = false from rfl, ei, br_f, br_t, obs, letO_eq, s_ofN, s_toNn, s_nadd, s_nsub, Nat.zero_add, len_eq, List.nil_append, show std.toN 0 = 0 from rfl, Nat.sub_zero, List.drop_zero, List.length_append, List.length_take, List.length_drop, List.length_cons, List.length_nil, List.length_map, <- hcd, hset]
        repeat (rw [req_of]; rotate_left; focus (first | trivial | exact ⟨by omega, by omega⟩ | exact room_of (by omega) (by omega) | omega))
      · obtain ⟨q2, j1, j2⟩ := d4 rfl
        obtain rfl : q = q2 := by omega
        simp only [edC, hgd, Int.toNat_natCast, Int.reduceEq, if_true, if_false, eq_self]
        have ei : Fq106 c.fL (q : Int) = some (delA c.fL q) := by
          unfold Fq106 Fq87
          rw [hq1 (by omega), if_pos ⟨by omega, by omega, by omega⟩, Int.toNat_natCast, Int.toNat_natCast]
          rfl
        simp only [show std.eq (4 : Int) 1 = false from rfl, show std.eq (4 : Int) 2 = false from rfl, show std.eq (4 : Int) 3 = false from rfl, show std.eq (4 : Int) 4 = true from rfl, show std.eq (4 : Int) 5 = false from rfl, show std.eq (4 : Int) 6 = false from rfl, show std.eq (4 : Int) 7 = false from rfl, show std.eq (4 : Int) 8 = false from rfl, show std.eq (4 : Int) 9 = false from rfl, hq1 (show q <= 1000 by omega), ei, br_f, br_t, obs, letO_eq, s_ofN, s_toNn, s_nadd, s_nsub, Nat.zero_add, len_eq, List.nil_append, show std.toN 0 = 0 from rfl, Nat.sub_zero, List.drop_zero, List.length_append, List.length_take, List.length_drop, List.length_cons, List.length_nil, List.length_map, <- hcd, hset]
        repeat (rw [req_of]; rotate_left; focus (first | trivial | exact ⟨by omega, by omega⟩ | exact room_of (by omega) (by omega) | omega))
      · obtain ⟨⟨j1, j2⟩, _⟩ := n5 rfl
        simp only [edC, hgd, Int.toNat_natCast, Int.reduceEq, if_true, if_false, eq_self]
        have ei : Fq30 c.fI (q : Int) [inst] = some (insA c.fI q inst) := by
          unfold Fq30
          rw [if_pos ⟨by omega, by omega, by simp, by simp; omega⟩, Int.toNat_natCast]
          rfl
        simp only [show std.eq (5 : Int) 1 = false from rfl, show std.eq (5 : Int) 2 = false from rfl, show std.eq (5 : Int) 3 = false from rfl, show std.eq (5 : Int) 4 = false from rfl, show std.eq (5 : Int) 5 = true from rfl, show std.eq (5 : Int) 6 = false from rfl, show std.eq (5 : Int) 7 = false from rfl, show std.eq (5 : Int) 8 = false from rfl, show std.eq (5 : Int) 9 = false from rfl, ei, br_f, br_t, obs, letO_eq, s_ofN, s_toNn, s_nadd, s_nsub, Nat.zero_add, len_eq, List.nil_append, show std.toN 0 = 0 from rfl, Nat.sub_zero, List.drop_zero, List.length_append, List.length_take, List.length_drop, List.length_cons, List.length_nil, List.length_map, <- hcd, hset]
        repeat (rw [req_of]; rotate_left; focus (first | trivial | exact ⟨by omega, by omega⟩ | exact room_of (by omega) (by omega) | omega))
      · obtain ⟨q2, j1, j2⟩ := d6 rfl
        obtain rfl : q = q2 := by omega
        simp only [edC, hgd, Int.toNat_natCast, Int.reduceEq, if_true, if_false, eq_self]
        have ei : Fq112 c.fI (q : Int) = some (delA c.fI q) := by
          unfold Fq112 Fq84
          rw [hq1 (by omega), if_pos ⟨by omega, by omega, by omega⟩, Int.toNat_natCast, Int.toNat_natCast]
          rfl
        simp only [show std.eq (6 : Int) 1 = false from rfl, show std.eq (6 : Int) 2 = false from rfl, show std.eq (6 : Int) 3 = false from rfl, show std.eq (6 : Int) 4 = false from rfl, show std.eq (6 : Int) 5 = false from rfl, show std.eq (6 : Int) 6 = true from rfl, show std.eq (6 : Int) 7 = false from rfl, show std.eq (6 : Int) 8 = false from rfl, show std.eq (6 : Int) 9 = false from rfl, hq1 (show q <= 1000 by omega), ei, br_f, br_t, obs, letO_eq, s_ofN, s_toNn, s_nadd, s_nsub, Nat.zero_add, len_eq, List.nil_append, show std.toN 0 = 0 from rfl, Nat.sub_zero, List.drop_zero, List.length_append, List.length_take, List.length_drop, List.length_cons, List.length_nil, List.length_map, <- hcd, hset]
        repeat (rw [req_of]; rotate_left; focus (first | trivial | exact ⟨by omega, by omega⟩ | exact room_of (by omega) (by omega) | omega))
      · simp only [edC, hgd, Int.toNat_natCast, Int.reduceEq, if_true, if_false, eq_self]
        simp only [show std.eq (7 : Int) 1 = false from rfl, show std.eq (7 : Int) 2 = false from rfl, show std.eq (7 : Int) 3 = false from rfl, show std.eq (7 : Int) 4 = false from rfl, show std.eq (7 : Int) 5 = false from rfl, show std.eq (7 : Int) 6 = false from rfl, show std.eq (7 : Int) 7 = true from rfl, show std.eq (7 : Int) 8 = false from rfl, show std.eq (7 : Int) 9 = false from rfl, br_f, br_t, obs, letO_eq, s_ofN, s_toNn, s_nadd, s_nsub, Nat.zero_add, len_eq, List.nil_append, show std.toN 0 = 0 from rfl, Nat.sub_zero, List.drop_zero, List.length_append, List.length_take, List.length_drop, List.length_cons, List.length_nil, List.length_map, <- hcd, hset]
        repeat (rw [req_of]; rotate_left; focus (first | trivial | exact ⟨by omega, by omega⟩ | exact room_of (by omega) (by omega) | omega))
/- ApplyEdit: both sides -/
theorem wBi (x a b : Int) : wB x a b = true ↔ (a <= x /\ x <= b) := by
  unfold wB
  rw [Bool.and_eq_true]
  show (decide (a <= x) = true /\ decide (x <= b) = true) ↔ _
  rw [decide_eq_true_eq, decide_eq_true_eq]
theorem insA_len {α : Type} (l : List α) (i : Nat) (x : α) : (insA l i x).length = l.length + 1 := by
  unfold insA
  simp only [List.length_append, List.length_take, List.length_drop, List.length_cons, List.length_nil]
  omega
theorem delA_len {α : Type} (l : List α) (i : Nat) : (delA l i).length <= l.length := by
  unfold delA
  simp only [List.length_append, List.length_take, List.length_drop]
  omega
theorem insA_mem {α : Type} {l : List α} {i : Nat} {x y : α} (h : y ∈ insA l i x) : y ∈ l \/ y = x := by
  unfold insA at h
  simp only [List.mem_append, List.mem_singleton] at h
  rcases h with (h | h) | h
  · exact .inl (List.mem_of_mem_take h)
  · exact .inr h
  · exact .inl (List.mem_of_mem_drop h)
theorem delA_mem {α : Type} {l : List α} {i : Nat} {y : α} (h : y ∈ delA l i) : y ∈ l := by
  unfold delA at h
  rw [List.mem_append] at h
  rcases h with h | h
  · exact List.mem_of_mem_take h
  · exact List.mem_of_mem_drop h
theorem small_shC {c : TC} (h : SmallC c) (f b : Int) : SmallC (shC f b c) :=
  ⟨h.name, h.shapes, h.labels, by show (c.fI.map _).length <= _; rw [List.length_map]; exact h.insts, h.lnames⟩
theorem small_edC {c : TC} {e : TE} (h : SmallC c) (g : SmallE e) (h1 : c.fS.length <= 1000) (h2 : c.fL.length <= 1000) (h3 : c.fI.length <= 1000) : SmallC (edC e c) := by
  have i1 := insA_len c.fS e.fx.toNat e.fs_
  have i2 := insA_len c.fL e.fx.toNat e.fl_
  have i3 := insA_len c.fI e.fx.toNat e.fi_
  have d1 := delA_len c.fS e.fx.toNat
  have d2 := delA_len c.fL e.fx.toNat
  have d3 := delA_len c.fI e.fx.toNat
  unfold edC
  split
  · exact ⟨h.name, by simp only; omega, h.labels, h.insts, h.lnames⟩
  split
  · exact ⟨h.name, by simp only; omega, h.labels, h.insts, h.lnames⟩
  split
  · refine ⟨h.name, h.shapes, by simp only; omega, h.insts, fun l hl => ?_⟩
    rcases insA_mem hl with hl | rfl
    · exact h.lnames l hl
    · exact g.lname
  split
  · exact ⟨h.name, h.shapes, by simp only; omega, h.insts, fun l hl => h.lnames l (delA_mem hl)⟩
  split
  · exact ⟨h.name, h.shapes, h.labels, by simp only; omega, h.lnames⟩
  split
  · exact ⟨h.name, h.shapes, h.labels, by simp only; omega, h.lnames⟩
  split
  · exact ⟨g.name, h.shapes, h.labels, h.insts, h.lnames⟩
  · exact h
theorem small_appE (a : TL) (e : TE) (h : SmallL a) (g : SmallE e) (hc : eCode a e = 0) : SmallL (appE a e) := by
  have hcl := h.cells
  obtain ⟨hv, he, hcell⟩ := eCode_zero hc
  have hl := okLib_len hv
  unfold appE
  split
  · refine ⟨by rw [insA_len, List.length_map]; omega, fun c hm => ?_⟩
    rcases insA_mem hm with hm | rfl
    · obtain ⟨c0, h0, rfl⟩ := List.mem_map.1 hm
      exact small_shC (h.cell _ h0) _ _
    · exact ⟨g.name, by simp, by simp, by simp, by simp⟩
  split
  · refine ⟨by rw [List.length_map]; have := delA_len a.fC e.fc.toNat; omega, fun c hm => ?_⟩
    obtain ⟨c0, h0, rfl⟩ := List.mem_map.1 hm
    exact small_shC (h.cell _ (delA_mem h0)) _ _
  · rename_i h8 h9
    obtain ⟨m, hm, hlt⟩ := hcell h8
    obtain ⟨b1, b2, b3⟩ := okLib_cell hv hlt
    have ht : e.fc.toNat = m := by omega
    rw [ht]
    refine ⟨by rw [List.length_set]; exact hcl, fun c hm => ?_⟩
    rcases List.mem_or_eq_of_mem_set hm with hm | rfl
    · exact h.cell c hm
    · exact small_edC (h.cell _ (gd_mem hlt)) g (by omega) (by omega) (by omega)
def apR (a : TL) (e : TE) : TL × Int := if eCode a e = 0 then (appE a e, 0) else (⟨[]⟩, eCode a e)
theorem apR_small (a : TL) (e : TE) (h : SmallL a) (g : SmallE e) : SmallL (apR a e).1 := by
  unfold apR
  split
  · rename_i hc; exact small_appE a e h g hc
  · exact ⟨by simp, fun c hc => by cases hc⟩
/- transactions: both sides -/
theorem inv_both (a : TL) (e : TE) (hc : eCode a e = 0) : Fq31 a e = some (invE a e) /\ Fq29 a e = some (invE a e) := ⟨spec_inverse_ok a e hc, impl_inverse_ok a e hc⟩
/-- a transaction's edits one after the other; back: what undoes those that are done -/
def runs (a : TL) (back : List TE) (i : Nat) : List TE -> (Int × Int) ⊕ (List TE × List TC)
  | [] => .inr (back, a.fC)
  | e :: r => if eCode a e = 0 then runs (appE a e) (invE a e :: back) (i + 1) r else .inl (eCode a e, (i : Int))
theorem spec_runs (l : List TE) (hl : l.length <= 8) (hE : ∀ e ∈ l, SmallE e) : ∀ (m i : Nat) (a : TL) (back : List TE), i + m = l.length -> SmallL a -> back.length <= i ->
    whileP (Lq45_x12 l) ((i : Int), back, a.fC) = some (match runs a back i (l.drop i) with | .inl x => .inl x | .inr y => .inr y) := by
  intro m
  induction m with
  | zero =>
    intro i a back hi ha hb
    have : i = l.length := by omega
    subst this
    rw [whileP_unfold]
    simp only [Lq45_x12, letO_eq]
    rw [ltl_f, br_f, List.drop_length]
    rfl
  | succ m ih =>
    intro i a back hi ha hb
    have hil : i < l.length := by omega
    have hd : l.drop i = gd l i :: l.drop (i + 1) := by rw [List.drop_eq_getElem_cons hil, gd_lt hil]
    have hg := hE _ (gd_mem hil)
    rw [whileP_unfold, hd]
    simp only [Lq45_x12, letO_eq, s_toNn]
    rw [ltl_t hil, br_t, req_of (inRl hil), show TL.mk a.fC = a from rfl, spec_l13Code_ok a _ ha hg, obs]
    unfold runs
    by_cases hc : eCode a (gd l i) = 0
    · rw [if_pos hc, hc, notEq (eq_true' rfl), br_f, req_of (inRl hil), (inv_both a _ hc).1, obs, req_of (room_of (by rw [s_nadd, len_eq, len_eq]; simp only [List.length_cons, List.length_nil]; omega) (by omega)), req_of (inRl hil), spec_l13Do_ok a _ ha hg hc, obs]
      have := ih (i + 1) (appE a (gd l i)) (invE a (gd l i) :: back) (by omega) (small_appE a _ ha hg hc) (by simp only [List.length_cons]; omega)
      rw [inc_nat (by omega)]
      exact this
    · rw [if_neg hc, eq_false' hc, s_not, Bool.not_false, br_t]
theorem impl_runs (l : List TE) (hl : l.length <= 8) (hE : ∀ e ∈ l, SmallE e) : ∀ (m i : Nat) (a : TL) (back : List TE), i + m = l.length -> SmallL a -> back.length <= i ->
    whileP (Lq39_x18 l) ((i : Int), back.reverse, a.fC) = some (match runs a back i (l.drop i) with | .inl x => .inl x | .inr y => .inr (y.1.reverse, y.2)) := by
  intro m
  induction m with
  | zero =>
    intro i a back hi ha hb
    have : i = l.length := by omega
    subst this
    rw [whileP_unfold]
    simp only [Lq39_x18, letO_eq]
    rw [ltl_f, br_f, List.drop_length]
    rfl
  | succ m ih =>
    intro i a back hi ha hb
    have hil : i < l.length := by omega
    have hd : l.drop i = gd l i :: l.drop (i + 1) := by rw [List.drop_eq_getElem_cons hil, gd_lt hil]
    have hg := hE _ (gd_mem hil)
    rw [whileP_unfold, hd]
    simp only [Lq39_x18, letO_eq, s_toNn]
    rw [ltl_t hil, br_t, req_of (inRl hil), show TL.mk a.fC = a from rfl, impl_editCode_ok a _ ha hg, obs]
    unfold runs
    by_cases hc : eCode a (gd l i) = 0
    · rw [if_pos hc, hc, notEq (eq_true' rfl), br_f, (inv_both a _ hc).2, obs, req_of (room_of (by rw [s_nadd, len_eq, len_eq]; simp only [List.length_cons, List.length_nil, List.length_reverse]; omega) (by omega)), impl_edited_ok a _ ha hg hc, obs]
      have := ih (i + 1) (appE a (gd l i)) (invE a (gd l i) :: back) (by omega) (small_appE a _ ha hg hc) (by simp only [List.length_cons]; omega)
      rw [inc_nat (by omega), <- List.reverse_cons]
      exact this
    · rw [if_neg hc, eq_false' hc, s_not, Bool.not_false, br_t]
/- slices.Reverse -/
def rv {α : Type} [Inhabited α] (l : List α) (k : Nat) : List α := (List.range l.length).map fun p => if p < k \/ l.length <= p + k then gd l (l.length - 1 - p) else gd l p
theorem rv_len {α : Type} [Inhabited α] (l : List α) (k : Nat) : (rv l k).length = l.length := by simp [rv]
theorem rv_gd {α : Type} [Inhabited α] {l : List α} {k p : Nat} (h : p < l.length) : gd (rv l k) p = if p < k \/ l.length <= p + k then gd l (l.length - 1 - p) else gd l p := by
  rw [gd_lt (show p < (rv l k).length by rw [rv_len]; exact h)]
  simp [rv]
theorem rv_zero {α : Type} [Inhabited α] (l : List α) : rv l 0 = l := by
  apply List.ext_getElem (rv_len l 0)
  intro p h1 h2
  rw [<- gd_lt h1, rv_gd h2, if_neg (by omega), gd_lt h2]
theorem rv_end {α : Type} [Inhabited α] (l : List α) (k : Nat) (h : l.length <= 2 * k + 1) : rv l k = l.reverse := by
  apply List.ext_getElem (by rw [rv_len, List.length_reverse])
  intro p h1 h2
  have h3 : p < l.length := by rw [rv_len] at h1; exact h1
  rw [<- gd_lt h1, rv_gd h3, List.getElem_reverse, <- gd_lt (show l.length - 1 - p < l.length by omega)]
  by_cases hc : p < k \/ l.length <= p + k
  · rw [if_pos hc]
  · rw [if_neg hc]
    have : l.length - 1 - p = p := by omega
    rw [this]
theorem rv_step {α : Type} [Inhabited α] (l : List α) (k : Nat) (h : 2 * k + 2 <= l.length) : List.set (List.set (rv l k) k (gd (rv l k) (l.length - 1 - k))) (l.length - 1 - k) (gd (rv l k) k) = rv l (k + 1) := by
  apply List.ext_getElem (by rw [List.length_set, List.length_set, rv_len, rv_len])
  intro p h1 h2
  have h3 : p < l.length := by rw [rv_len] at h2; exact h2
  have h4 : p < (rv l k).length := by rw [rv_len]; exact h3
  rw [List.getElem_set, List.getElem_set, <- gd_lt h2, <- gd_lt h4, rv_gd h3, rv_gd h3, rv_gd (show l.length - 1 - k < l.length by omega), rv_gd (show k < l.length by omega)]
  rw [if_neg (show ¬ (l.length - 1 - k < k \/ l.length <= l.length - 1 - k + k) by omega), if_neg (show ¬ (k < k \/ l.length <= k + k) by omega)]
  by_cases c1 : l.length - 1 - k = p
  · rw [if_pos c1, if_pos (by omega), show l.length - 1 - p = k by omega]
  · rw [if_neg c1]
    by_cases c2 : k = p
    · rw [if_pos c2, if_pos (by omega), c2]
    · rw [if_neg c2]
      by_cases c3 : p < k \/ l.length <= p + k
      · rw [if_pos c3, if_pos (by omega)]
      · rw [if_neg c3, if_neg (by omega)]
theorem reverse_ok (l : List TE) (hl : l.length <= 1000000) : Fq36 l = some l.reverse := by
  unfold Fq36
  have hw : whileP (Lq36_x4 l) (0, std.sub .i64 (std.ofN (len l)) 1, l) = some l.reverse := by
    by_cases h0 : l.length = 0
    · rw [List.length_eq_zero_iff.1 h0]
      rw [whileP_unfold]
      rfl
    · refine while_from (fun k => ((k : Int), ((l.length - 1 - k : Nat) : Int), rv l k)) (l.length / 2) ?_ (fun k hk => ?_) ?_
      · rw [s_ofN, len_eq, sub_id (by omega) (by omega), rv_zero]
        refine Prod.ext rfl (Prod.ext ?_ rfl)
        show (l.length : Int) - 1 = ((l.length - 1 - 0 : Nat) : Int)
        omega
      · have hk2 : 2 * k + 2 <= l.length := by omega
        simp only [Lq36_x4, letO_eq, s_toNn, s_nadd, Nat.zero_add]
        have i1 : std.inR (k : Int) (len l) := inRl (by omega)
        have i2 : std.inR ((l.length - 1 - k : Nat) : Int) (len l) := inRl (by omega)
        rw [lt_true (by omega), br_t, req_of i2, req_of i1, req_of i1, req_of (by rw [len_eq, len_eq, rv_len]), req_of i2, req_of (by rw [len_eq, len_eq, List.length_set, rv_len]), rv_step l k hk2, inc_nat (by omega), sub_id (by omega) (by omega)]
        have e : ((l.length - 1 - k : Nat) : Int) - 1 = ((l.length - 1 - (k + 1) : Nat) : Int) := by omega
        rw [e]
      · simp only [Lq36_x4, letO_eq]
        rw [lt_false (by omega), br_f, rv_end l _ (by omega)]
  rw [hw, obs]
  simp only [letO_eq]
  rw [req_of (by rw [len_eq, len_eq, List.length_reverse])]
/- ApplyEdits: both sides -/
/-- the library, what undoes the transaction, a code, the index of the edit that fails -/
def allR (a : TL) (l : List TE) : TL × List TE × Int × Int :=
  if okLib a = true then (if 1 <= l.length /\ l.length <= 8 then (match runs a [] 0 l with | .inl x => (⟨[]⟩, [], x.1, x.2) | .inr y => (⟨y.2⟩, y.1, 0, -1)) else (⟨[]⟩, [], 3, -1)) else (⟨[]⟩, [], 1, -1)
theorem spec_l13All_ok (a : TL) (l : List TE) (h : SmallL a) (hE : ∀ e ∈ l, SmallE e) : Fq45 a l = some (allR a l) := by
  unfold Fq45 allR
  rw [spec_IsValidLibrary_ok a h, obs]
  cases hv : okLib a with
  | false => rfl
  | true =>
    rw [if_pos rfl, Bool.not_true, br_f, spec_l09In_ok, obs, s_ofN, len_eq]
    by_cases hl : 1 <= l.length /\ l.length <= 8
    · rw [if_pos hl, (wBi _ _ _).2 (by omega), Bool.not_true, br_f, spec_Copy_ok a h, obs]
      simp only [letO_eq]
      have hr := spec_runs l hl.2 hE l.length 0 a [] (by omega) h (by simp)
      rw [show ((0 : Nat) : Int) = 0 from rfl] at hr
      rw [hr, obs, List.drop_zero]
      cases runs a [] 0 l with
      | inl x => rfl
      | inr y => rfl
    · have hb : wB (l.length : Int) 1 8 = false := by
        cases hq : wB (l.length : Int) 1 8 with
        | false => rfl
        | true => exact absurd ((wBi _ _ _).1 hq) (by omega)
      rw [if_neg hl, hb, Bool.not_false, br_t]
theorem impl_applyAll_ok (a : TL) (l : List TE) (h : SmallL a) (hE : ∀ e ∈ l, SmallE e) : Fq39 a l = some (allR a l) := by
  unfold Fq39 allR
  rw [impl_IsValidLibrary_ok a h, obs]
  cases hv : okLib a with
  | false => rfl
  | true =>
    rw [if_pos rfl, Bool.not_true, br_f, s_ofN, len_eq]
    by_cases hl : 1 <= l.length /\ l.length <= 8
    · have hback : ∀ (r : List TE) (i : Nat) (a : TL) (back : List TE) (y : List TE × List TC), back.length <= i -> runs a back i r = .inr y -> y.1.length <= i + r.length := by
        intro r
        induction r with
        | nil => intro i a back y hb hy; unfold runs at hy; injection hy with hy; subst hy; simpa using hb
        | cons e r ih =>
          intro i a back y hb hy
          unfold runs at hy
          split at hy
          · have := ih (i + 1) _ _ y (by simp only [List.length_cons]; omega) hy
            simp only [List.length_cons]; omega
          · cases hy
      rw [if_pos hl, lt_false (by omega), br_f, lt_false (by omega), obs, letO_eq, br_f, impl_copyLibrary_ok a h, obs]
      simp only [letO_eq]
      have hr := impl_runs l hl.2 hE l.length 0 a [] (by omega) h (by simp)
      rw [List.reverse_nil, show ((0 : Nat) : Int) = 0 from rfl] at hr
      rw [hr, obs, List.drop_zero]
      cases hrr : runs a [] 0 l with
      | inl x => rfl
      | inr y =>
        have hy := hback l 0 a [] y (by simp) hrr
        simp only
        rw [reverse_ok _ (by rw [List.length_reverse]; omega), obs, req_of (by simp [len_eq]), req_of (by simp [len_eq]), List.reverse_reverse]
    · rw [if_neg hl]
      by_cases h1 : l.length < 1
      · rw [lt_true (by omega), br_t]; rfl
      · rw [lt_false (by omega), br_f, lt_true (by omega)]; rfl
theorem small_runs (l : List TE) (hE : ∀ e ∈ l, SmallE e) : ∀ (a : TL) (back : List TE) (i : Nat) (y : List TE × List TC), SmallL a -> runs a back i l = .inr y -> SmallL ⟨y.2⟩ := by
  induction l with
  | nil => intro a back i y h hy; unfold runs at hy; injection hy with hy; subst hy; exact h
  | cons e r ih =>
    intro a back i y h hy
    unfold runs at hy
    split at hy
    · rename_i hc
      exact ih (fun x hx => hE x (by simp [hx])) _ _ _ y (small_appE a e h (hE e (by simp)) hc) hy
    · cases hy
theorem allR_small (a : TL) (l : List TE) (h : SmallL a) (hE : ∀ e ∈ l, SmallE e) : SmallL (allR a l).1 := by
  have hz : SmallL ⟨[]⟩ := ⟨by simp, fun c hc => by cases hc⟩
  unfold allR
  split
  · split
    · cases hrr : runs a [] 0 l with
      | inl x => exact hz
      | inr y => exact small_runs l hE a [] 0 y h hrr
    · exact hz
  · exact hz
/- lists of edits -/
theorem laws_szEditS_ok (a : List TE) (x : Int) (ha : a.length <= maxLen) (hn : ∀ e ∈ a, e.fN.size <= maxLen /\ e.fl_.fN.size <= maxLen) (hx : 0 <= x /\ x <= 1048576) : ∃ y, Fq44 a x = some y /\ (0 <= y -> y <= x /\ a.length <= 1048576 /\ ∀ e ∈ a, SmallE e) := by
  have hb := maxLen_eq
  unfold Fq44
  rw [len_eq, subl_ok ha hx, br_bool, s_lt]
  by_cases h : x - (a.length : Int) < 0
  · exact ⟨-1, by simp [h], fun h => by omega⟩
  · rw [if_neg (by simpa using h)]
    obtain ⟨r, h1, h2⟩ := while_sz (st := Lq44_x3 a) a SmallE (x - a.length) ⟨by omega, by omega⟩ (fun i hi y hy => by
      obtain ⟨z, hz, hz2⟩ := laws_szEdit_ok (gd a i) y (hn _ (gd_mem hi)).1 (hn _ (gd_mem hi)).2 hy
      refine ⟨z, ?_⟩
      simp only [Lq44_x3, letO_eq, s_toNn]
      rw [ltl_t hi, br_t, req_of (inRl hi), hz, obs, br_bool, s_lt, inc_nat (by omega)]
      by_cases h0 : z < 0
      · exact .inl ⟨h0, by simp [h0]⟩
      · exact .inr ⟨by omega, (hz2 (by omega)).1, (hz2 (by omega)).2, by simp [h0]⟩) (fun y => by
      simp only [Lq44_x3, letO_eq]
      rw [ltl_f, br_f])
    rw [h1, obs]
    rcases h2 with rfl | ⟨z, rfl, h3, h4, h5⟩
    · exact ⟨-1, rfl, fun h => by omega⟩
    · exact ⟨z, rfl, fun _ => ⟨by omega, by omega, h5⟩⟩
theorem laws_toEditS_ok (a : List TE) (h : a.length <= 1048576) : Fq27 a = some a := by
  unfold Fq27
  rw [req_of (nneg_len _), req_of (room_le (by rw [len_eq]; omega) (by decide))]
  simp only [letO_eq, s_ofN, s_toNn, len_eq, obs]
  rw [bind_of (while_copy (st := Lq27_x7 a _) a (List.replicate a.length _) (by simp) (fun i hi v hv => ?_) (fun v => ?_)), req_of (by simp)]
  · simp only [Lq27_x7, letO_eq, s_toNn, s_nadd, Nat.zero_add]
    rw [ltl_t hi, br_t, req_of (inRl hi), laws_toEdit_ok, obs, req_of (inRl (by simpa using hi)), req_of (by simp [len_eq, hv]), inc_nat (by omega)]
  · simp only [Lq27_x7, letO_eq]
    rw [ltl_f, br_f]
theorem laws_eqEditS_ok (a : List TE) (h : a.length <= 1048576) : Fq37 a a = some true := by
  unfold Fq37
  rw [notEq (eq_true' rfl), br_f]
  rw [bind_of (while_eq (st := Lq37_x2 a a) (r := .inr ()) a.length (fun i hi => ?_) ?_)]
  · simp only [Lq37_x2, letO_eq]
    rw [ltl_f, br_f]
  · simp only [Lq37_x2, letO_eq, s_toNn]
    rw [ltl_t hi, br_t, req_of (inRl hi), req_of (inRl hi), laws_eqEdit_ok, obs, Bool.not_true, br_f, inc_nat (by omega)]
def mEdit (k i : Nat) : TE := ⟨((k + 21 * i : Nat) : Int), ((k + 21 * i + 1 : Nat) : Int), ((k + 21 * i + 1 + 1 : Nat) : Int), mkT (k + 21 * i + 1 + 1 + 1), ⟨((k + 21 * i + 1 + 1 + 1 + 1 : Nat) : Int), ⟨((k + 21 * i + 1 + 1 + 1 + 1 + 1 : Nat) : Int), ((k + 21 * i + 1 + 1 + 1 + 1 + 1 + 1 : Nat) : Int), ((k + 21 * i + 1 + 1 + 1 + 1 + 1 + 1 + 1 : Nat) : Int), ((k + 21 * i + 1 + 1 + 1 + 1 + 1 + 1 + 1 + 1 : Nat) : Int)⟩⟩, ⟨((k + 21 * i + 1 + 1 + 1 + 1 + 1 + 1 + 1 + 1 + 1 : Nat) : Int), ⟨((k + 21 * i + 1 + 1 + 1 + 1 + 1 + 1 + 1 + 1 + 1 + 1 : Nat) : Int), ((k + 21 * i + 1 + 1 + 1 + 1 + 1 + 1 + 1 + 1 + 1 + 1 + 1 : Nat) : Int)⟩, mkT (k + 21 * i + 1 + 1 + 1 + 1 + 1 + 1 + 1 + 1 + 1 + 1 + 1 + 1)⟩, ⟨((k + 21 * i + 1 + 1 + 1 + 1 + 1 + 1 + 1 + 1 + 1 + 1 + 1 + 1 + 1 : Nat) : Int), ⟨((k + 21 * i + 1 + 1 + 1 + 1 + 1 + 1 + 1 + 1 + 1 + 1 + 1 + 1 + 1 + 1 : Nat) : Int), ((k + 21 * i + 1 + 1 + 1 + 1 + 1 + 1 + 1 + 1 + 1 + 1 + 1 + 1 + 1 + 1 + 1 : Nat) : Int), ((k + 21 * i + 1 + 1 + 1 + 1 + 1 + 1 + 1 + 1 + 1 + 1 + 1 + 1 + 1 + 1 + 1 + 1 : Nat) : Int)⟩, ((k + 21 * i + 1 + 1 + 1 + 1 + 1 + 1 + 1 + 1 + 1 + 1 + 1 + 1 + 1 + 1 + 1 + 1 + 1 : Nat) : Int), ((k + 21 * i + 1 + 1 + 1 + 1 + 1 + 1 + 1 + 1 + 1 + 1 + 1 + 1 + 1 + 1 + 1 + 1 + 1 + 1 : Nat) : Int), ((k + 21 * i + 1 + 1 + 1 + 1 + 1 + 1 + 1 + 1 + 1 + 1 + 1 + 1 + 1 + 1 + 1 + 1 + 1 + 1 + 1 : Nat) : Int), ((k + 21 * i + 1 + 1 + 1 + 1 + 1 + 1 + 1 + 1 + 1 + 1 + 1 + 1 + 1 + 1 + 1 + 1 + 1 + 1 + 1 + 1 : Nat) : Int)⟩⟩
set_option maxHeartbeats 16000000 in
theorem markEditS_ok (l : List TE) (k : Nat) (h : k + 21 * l.length <= 1000000000000000) : Fq60 l k = some (((k + 21 * l.length : Nat) : Int), (List.range l.length).map (mEdit k)) := by
  unfold Fq60
  refine Eq.trans (bind_of (while_from (r := (((k + 21 * l.length : Nat) : Int), (List.range l.length).map (mEdit k))) (fun i => (((k + 21 * i : Nat) : Int), (i : Int), markd (mEdit k) l i)) l.length (by simp [markd_zero]) (fun i hi => ?_) ?_)) ?_
  · have hml : (markd (mEdit k) l i).length = l.length := markd_len _ _ _ (by omega)
    have hmi : i < (markd (mEdit k) l i).length := by rw [hml]; exact hi
    have hin : std.inR (i : Int) l.length := inRl hi
    have hlt : std.lt (i : Int) (std.ofN l.length) = true := ltl_t hi
    have b1 : std.add .i64 (i : Int) 1 = ((i + 1 : Nat) : Int) := inc_nat (by omega)
    have hT : Fq2 ((k + 21 * i + 1 + 1 + 1 : Nat) : Int) = some (mkT (k + 21 * i + 1 + 1 + 1)) := markText_ok _ (by omega)
    have hU : Fq2 ((k + 21 * i + 1 + 1 + 1 + 1 + 1 + 1 + 1 + 1 + 1 + 1 + 1 + 1 : Nat) : Int) = some (mkT (k + 21 * i + 1 + 1 + 1 + 1 + 1 + 1 + 1 + 1 + 1 + 1 + 1 + 1)) := markText_ok _ (by omega)
    have A : ∀ m : Nat, m <= 2000000000000000 -> std.add .i64 (m : Int) 1 = ((m + 1 : Nat) : Int) := fun m h => inc_nat (by omega)
    obtain ⟨a1, a2, a3, a4, a5, a6, a7, a8, a9, a10, a11, a12, a13, a14, a15, a16, a17, a18, a19, a20, a21⟩ : std.add .i64 ((k + 21 * i : Nat) : Int) 1 = ((k + 21 * i + 1 : Nat) : Int) /\ std.add .i64 ((k + 21 * i + 1 : Nat) : Int) 1 = ((k + 21 * i + 1 + 1 : Nat) : Int) /\ std.add .i64 ((k + 21 * i + 1 + 1 : Nat) : Int) 1 = ((k + 21 * i + 1 + 1 + 1 : Nat) : Int) /\ std.add .i64 ((k + 21 * i + 1 + 1 + 1 : Nat) : Int) 1 = ((k + 21 * i + 1 + 1 + 1 + 1 : Nat) : Int) /\ std.add .i64 ((k + 21 * i + 1 + 1 + 1 + 1 : Nat) : Int) 1 = ((k + 21 * i + 1 + 1 + 1 + 1 + 1 : Nat) : Int) /\ std.add .i64 ((k + 21 * i + 1 + 1 + 1 + 1 + 1 : Nat) : Int) 1 = ((k + 21 * i + 1 + 1 + 1 + 1 + 1 + 1 : Nat) : Int) /\ std.add .i64 ((k + 21 * i + 1 + 1 + 1 + 1 + 1 + 1 : Nat) : Int) 1 = ((k + 21 * i + 1 + 1 + 1 + 1 + 1 + 1 + 1 : Nat) : Int) /\ std.add .i64 ((k + 21 * i + 1 + 1 + 1 + 1 + 1 + 1 + 1 : Nat) : Int) 1 = ((k + 21 * i + 1 + 1 + 1 + 1 + 1 + 1 + 1 + 1 : Nat) : Int) /\ std.add .i64 ((k + 21 * i + 1 + 1 + 1 + 1 + 1 + 1 + 1 + 1 : Nat) : Int) 1 = ((k + 21 * i + 1 + 1 + 1 + 1 + 1 + 1 + 1 + 1 + 1 : Nat) : Int) /\ std.add .i64 ((k + 21 * i + 1 + 1 + 1 + 1 + 1 + 1 + 1 + 1 + 1 : Nat) : Int) 1 = ((k + 21 * i + 1 + 1 + 1 + 1 + 1 + 1 + 1 + 1 + 1 + 1 : Nat) : Int) /\ std.add .i64 ((k + 21 * i + 1 + 1 + 1 + 1 + 1 + 1 + 1 + 1 + 1 + 1 : Nat) : Int) 1 = ((k + 21 * i + 1 + 1 + 1 + 1 + 1 + 1 + 1 + 1 + 1 + 1 + 1 : Nat) : Int) /\ std.add .i64 ((k + 21 * i + 1 + 1 + 1 + 1 + 1 + 1 + 1 + 1 + 1 + 1 + 1 : Nat) : Int) 1 = ((k + 21 * i + 1 + 1 + 1 + 1 + 1 + 1 + 1 + 1 + 1 + 1 + 1 + 1 : Nat) : Int) /\ std.add .i64 ((k + 21 * i + 1 + 1 + 1 + 1 + 1 + 1 + 1 + 1 + 1 + 1 + 1 + 1 : Nat) : Int) 1 = ((k + 21 * i + 1 + 1 + 1 + 1 + 1 + 1 + 1 + 1 + 1 + 1 + 1 + 1 + 1 : Nat) : Int) /\ std.add .i64 ((k + 21 * i + 1 + 1 + 1 + 1 + 1 + 1 + 1 + 1 + 1 + 1 + 1 + 1 + 1 : Nat) : Int) 1 = ((k + 21 * i + 1 + 1 + 1 + 1 + 1 + 1 + 1 + 1 + 1 + 1 + 1 + 1 + 1 + 1 : Nat) : Int) /\ std.add .i64 ((k + 21 * i + 1 + 1 + 1 + 1 + 1 + 1 + 1 + 1 + 1 + 1 + 1 + 1 + 1 + 1 : Nat) : Int) 1 = ((k + 21 * i + 1 + 1 + 1 + 1 + 1 + 1 + 1 + 1 + 1 + 1 + 1 + 1 + 1 + 1 + 1 : Nat) : Int) /\ std.add .i64 ((k + 21 * i + 1 + 1 + 1 + 1 + 1 + 1 + 1 + 1 + 1 + 1 + 1 + 1 + 1 + 1 + 1 : Nat) : Int) 1 = ((k + 21 * i + 1 + 1 + 1 + 1 + 1 + 1 + 1 + 1 + 1 + 1 + 1 + 1 + 1 + 1 + 1 + 1 : Nat) : Int) /\ std.add .i64 ((k + 21 * i + 1 + 1 + 1 + 1 + 1 + 1 + 1 + 1 + 1 + 1 + 1 + 1 + 1 + 1 + 1 + 1 : Nat) : Int) 1 = ((k + 21 * i + 1 + 1 + 1 + 1 + 1 + 1 + 1 + 1 + 1 + 1 + 1 + 1 + 1 + 1 + 1 + 1 + 1 : Nat) : Int) /\ std.add .i64 ((k + 21 * i + 1 + 1 + 1 + 1 + 1 + 1 + 1 + 1 + 1 + 1 + 1 + 1 + 1 + 1 + 1 + 1 + 1 : Nat) : Int) 1 = ((k + 21 * i + 1 + 1 + 1 + 1 + 1 + 1 + 1 + 1 + 1 + 1 + 1 + 1 + 1 + 1 + 1 + 1 + 1 + 1 : Nat) : Int) /\ std.add .i64 ((k + 21 * i + 1 + 1 + 1 + 1 + 1 + 1 + 1 + 1 + 1 + 1 + 1 + 1 + 1 + 1 + 1 + 1 + 1 + 1 : Nat) : Int) 1 = ((k + 21 * i + 1 + 1 + 1 + 1 + 1 + 1 + 1 + 1 + 1 + 1 + 1 + 1 + 1 + 1 + 1 + 1 + 1 + 1 + 1 : Nat) : Int) /\ std.add .i64 ((k + 21 * i + 1 + 1 + 1 + 1 + 1 + 1 + 1 + 1 + 1 + 1 + 1 + 1 + 1 + 1 + 1 + 1 + 1 + 1 + 1 : Nat) : Int) 1 = ((k + 21 * i + 1 + 1 + 1 + 1 + 1 + 1 + 1 + 1 + 1 + 1 + 1 + 1 + 1 + 1 + 1 + 1 + 1 + 1 + 1 + 1 : Nat) : Int) /\ std.add .i64 ((k + 21 * i + 1 + 1 + 1 + 1 + 1 + 1 + 1 + 1 + 1 + 1 + 1 + 1 + 1 + 1 + 1 + 1 + 1 + 1 + 1 + 1 : Nat) : Int) 1 = ((k + 21 * i + 1 + 1 + 1 + 1 + 1 + 1 + 1 + 1 + 1 + 1 + 1 + 1 + 1 + 1 + 1 + 1 + 1 + 1 + 1 + 1 + 1 : Nat) : Int) := ⟨A _ (by omega), A _ (by omega), A _ (by omega), A _ (by omega), A _ (by omega), A _ (by omega), A _ (by omega), A _ (by omega), A _ (by omega), A _ (by omega), A _ (by omega), A _ (by omega), A _ (by omega), A _ (by omega), A _ (by omega), A _ (by omega), A _ (by omega), A _ (by omega), A _ (by omega), A _ (by omega), A _ (by omega)⟩
    simp only [Lq60_x4]
    rw [letO_eq, letO_eq, letO_eq]
    simp only [s_toNn, s_nadd, Nat.zero_add, len_eq, hml, hlt, br_t, req_of hin, req_reflM, a1]
    iterate 21 (rw [letO_eq]; try simp only [List.length_set, len_eq, hml, req_reflM, req_of hin, List.set_set, gd_set_selfM _ _ _ hmi, a1, a2, a3, a4, a5, a6, a7, a8, a9, a10, a11, a12, a13, a14, a15, a16, a17, a18, a19, a20, a21, hT, hU, obs])
    simp only [b1, req_true]
    rw [<- markd_set (mEdit k) l i hi]
    rfl
  · simp only [Lq60_x4]
    rw [letO_eq, letO_eq, letO_eq, ltl_f, br_f, markd_full]
  · simp only [letO_eq]
    rw [req_of (by simp [len_eq])]
/- the law of ApplyEdits -/
def apsR (a : TL) (l : List TE) : TL × Int × Int := ((allR a l).1, (allR a l).2.2.1, (allR a l).2.2.2)
theorem spec_ApplyEdits_ok (a : TL) (l : List TE) (h : SmallL a) (hE : ∀ e ∈ l, SmallE e) : Fq114 a l = some (apsR a l) := by
  unfold Fq114 apsR
  rw [spec_l13All_ok a l h hE]
  rfl
theorem impl_ApplyEdits_ok (a : TL) (l : List TE) (h : SmallL a) (hE : ∀ e ∈ l, SmallE e) : Fq79 a l = some (apsR a l) := by
  unfold Fq79 apsR
  rw [impl_applyAll_ok a l h hE]
  rfl
theorem lawW_ApplyEdits (a : TL) (l : List TE) (w : wfLibrary a) (we : wfL wfEdit l) : Fq131 a l = some true := by
  unfold Fq131
  obtain ⟨y, hy, hs⟩ := laws_szLibrary_ok2 a (wfLb_of w)
  rw [hy, obs, br_bool, s_lt]
  by_cases h0 : y < 0
  · rw [if_pos (by simpa using h0)]
  · obtain ⟨hy2, h⟩ := hs (by omega)
    rw [if_neg (by simpa using h0)]
    obtain ⟨z, hz, hs2⟩ := laws_szEditS_ok l y we.1 (fun e he => ⟨(we.2 e he).2.2.2.1, (we.2 e he).2.2.2.2.2.1.2.2⟩) ⟨by omega, by omega⟩
    rw [hz, obs, br_bool, s_lt]
    by_cases h1 : z < 0
    · rw [if_pos (by simpa using h1)]
    · obtain ⟨_, hl, g⟩ := hs2 (by omega)
      rw [if_neg (by simpa using h1)]
      obtain ⟨r, hr⟩ : ∃ r, r = apsR a l := ⟨_, rfl⟩
      have hbs : SmallL r.1 := by rw [hr]; exact allR_small a l h g
      have hoc := offC_le h.cell a.fC.length (Nat.le_refl _)
      have hcl := h.cells
      have m1 := markLibrary_ok a 1 h (by omega)
      have m2 := markLibrary_ok r.1 1 hbs (by omega)
      have m3 := heldLibrary_ok r.1 1 hbs (by omega)
      have m4 := markEditS_ok l (1 + offC a.fC a.fC.length) (by omega)
      have e1 : ((1 : Nat) : Int) = 1 := rfl
      rw [e1] at m1 m2 m3
      have hml : ((List.range r.1.fC.length).map (mC r.1.fC 1)).length = r.1.fC.length := by simp
      have hml1 : ((List.range a.fC.length).map (mC a.fC 1)).length = a.fC.length := by simp
      have hml2 : ((List.range l.length).map (mEdit (1 + offC a.fC a.fC.length))).length = l.length := by simp
      simp only [laws_toLibrary_ok a h, laws_toEditS_ok l hl, laws_eqEditS_ok l hl, obs, impl_ApplyEdits_ok a l h g, spec_ApplyEdits_ok a l h g, <- hr, laws_eqLibrary_ok a h, laws_eqLibrary_ok r.1 hbs, Bool.not_true, br_f, eq_true' rfl, s_not, letO_eq, m1, m2, m3, m4]
      rw [req_of (by rw [len_eq, len_eq, hml1]), req_of (by rw [len_eq, len_eq, hml2]), lt_false (by omega)]
      simp only [br_f, obs]
      rw [req_of (by rw [len_eq, len_eq, hml]), req_of (by rw [len_eq, len_eq, hml]), lt_false (by omega)]
      simp only [br_f, obs, Bool.not_true]
      rw [req_of (by rw [len_eq, len_eq, hml])]
end
end Go.Proofs.YtohgghncmkiicaaGreat.AM
