/-
  What the functions that the law reaches compute, and that they do. No condition.
-/
import Derived.Test.YtohgghncmkiicaaGreatAmSZ
namespace Go.Proofs.YtohgghncmkiicaaGreat.AM
noncomputable section
open Go Go.Proofs Go.RowKit
set_option linter.unusedVariables false
set_option linter.unusedSimpArgs false
set_option maxRecDepth 100000

/- the inverse of an edit that is possible -/
def invE (a : TL) (e : TE) : TE :=
  if e.fk_ = 1 then ⟨2, e.fc, e.fx, ByteArray.mk #[], zSh, zLa, zIn⟩
  else if e.fk_ = 2 then ⟨1, e.fc, e.fx, ByteArray.mk #[], gd (gd a.fC e.fc.toNat).fS e.fx.toNat, zLa, zIn⟩
  else if e.fk_ = 3 then ⟨4, e.fc, e.fx, ByteArray.mk #[], zSh, zLa, zIn⟩
  else if e.fk_ = 4 then ⟨3, e.fc, e.fx, ByteArray.mk #[], zSh, gd (gd a.fC e.fc.toNat).fL e.fx.toNat, zIn⟩
  else if e.fk_ = 5 then ⟨6, e.fc, e.fx, ByteArray.mk #[], zSh, zLa, zIn⟩
  else if e.fk_ = 6 then ⟨5, e.fc, e.fx, ByteArray.mk #[], zSh, zLa, gd (gd a.fC e.fc.toNat).fI e.fx.toNat⟩
  else if e.fk_ = 7 then ⟨7, e.fc, e.fx, (gd a.fC e.fc.toNat).fN, zSh, zLa, zIn⟩
  else if e.fk_ = 8 then ⟨9, e.fc, e.fx, ByteArray.mk #[], zSh, zLa, zIn⟩
  else ⟨8, e.fc, e.fx, (gd a.fC e.fc.toNat).fN, zSh, zLa, zIn⟩
set_option maxHeartbeats 4000000 in
theorem spec_inverse_ok (a : TL) (e : TE) (hc : eCode a e = 0) : Fq35 a e = some (invE a e) := by
  obtain ⟨hv, he, hcell⟩ := eCode_zero hc
  obtain ⟨hk, h1, hi⟩ := okEdit_kind he
  by_cases h8 : e.fk_ = 8
  · obtain ⟨kind, cell, index, name, shape, label, inst⟩ := e
    simp only at h8
    subst h8
    rfl
  · obtain ⟨m, hm, hlt⟩ := hcell h8
    obtain ⟨i2, i4, i6⟩ := eCode_index hc hm hlt
    clear hc he hcell
    obtain ⟨kind, cell, index, name, shape, label, inst⟩ := e
    simp only at hk h1 hi h8 hm i2 i4 i6
    subst hm
    rcases hk with rfl | rfl | rfl | rfl | rfl | rfl | rfl | rfl | rfl
    · rfl
    · obtain ⟨q, rfl, hq⟩ := i2 rfl
      unfold Fq35
      simp only [s_toNn, ro_ (inRl hlt), ro_ (inRl hq)]
      rfl
    · rfl
    · obtain ⟨q, rfl, hq⟩ := i4 rfl
      unfold Fq35
      simp only [s_toNn, ro_ (inRl hlt), ro_ (inRl hq)]
      rfl
    · rfl
    · obtain ⟨q, rfl, hq⟩ := i6 rfl
      unfold Fq35
      simp only [s_toNn, ro_ (inRl hlt), ro_ (inRl hq)]
      rfl
    · unfold Fq35
      simp only [s_toNn, ro_ (inRl hlt)]
      rfl
    · exact absurd rfl h8
    · unfold Fq35
      simp only [s_toNn, ro_ (inRl hlt)]
      rfl
set_option maxHeartbeats 4000000 in
theorem impl_inverse_ok (a : TL) (e : TE) (hc : eCode a e = 0) : Fq40 a e = some (invE a e) := by
  obtain ⟨hv, he, hcell⟩ := eCode_zero hc
  obtain ⟨hk, h1, hi⟩ := okEdit_kind he
  by_cases h8 : e.fk_ = 8
  · obtain ⟨kind, cell, index, name, shape, label, inst⟩ := e
    simp only at h8
    subst h8
    rfl
  · obtain ⟨m, hm, hlt⟩ := hcell h8
    obtain ⟨i2, i4, i6⟩ := eCode_index hc hm hlt
    clear hc he hcell
    obtain ⟨kind, cell, index, name, shape, label, inst⟩ := e
    simp only at hk h1 hi h8 hm i2 i4 i6
    subst hm
    rcases hk with rfl | rfl | rfl | rfl | rfl | rfl | rfl | rfl | rfl
    · rfl
    · obtain ⟨q, rfl, hq⟩ := i2 rfl
      unfold Fq40
      simp only [s_toNn, ro_ (inRl hlt), ro_ (inRl hq)]
      rfl
    · rfl
    · obtain ⟨q, rfl, hq⟩ := i4 rfl
      unfold Fq40
      simp only [s_toNn, ro_ (inRl hlt), ro_ (inRl hq)]
      rfl
    · rfl
    · obtain ⟨q, rfl, hq⟩ := i6 rfl
      unfold Fq40
      simp only [s_toNn, ro_ (inRl hlt), ro_ (inRl hq)]
      rfl
    · unfold Fq40
      simp only [s_toNn, ro_ (inRl hlt)]
      rfl
    · exact absurd rfl h8
    · unfold Fq40
      simp only [s_toNn, ro_ (inRl hlt)]
      rfl
/- references to cells are shifted: both sides -/
def mid {α : Type} (g : α -> α) (l : List α) (i : Nat) : List α := (l.take i).map g ++ l.drop i
theorem mid_len {α : Type} (g : α -> α) (l : List α) (i : Nat) : (mid g l i).length = l.length := by
  simp [mid]; omega
theorem mid_all {α : Type} (g : α -> α) (l : List α) : mid g l l.length = l.map g := by simp [mid]
theorem mid_gd {α : Type} [Inhabited α] {g : α -> α} {l : List α} {i : Nat} (h : i < l.length) : gd (mid g l i) i = gd l i := by
  rw [gd_lt (show i < (mid g l i).length by rw [mid_len]; exact h), gd_lt h]
  unfold mid
  rw [List.getElem_append_right (by simp; omega)]
  simp [Nat.min_eq_left (Nat.le_of_lt h)]
theorem mid_set {α : Type} [Inhabited α] {g : α -> α} {l : List α} {i : Nat} (h : i < l.length) {x : α} (hx : x = g (gd l i)) : List.set (mid g l i) i x = mid g l (i + 1) := by
  subst hx
  unfold mid
  have hm : ((l.take i).map g).length = i := by simp; omega
  rw [List.set_append, if_neg (by omega), hm, Nat.sub_self, List.drop_eq_getElem_cons h, List.take_succ_eq_append_getElem h, gd_lt h, List.set_cons_zero, List.map_append, List.append_assoc]
  rfl
theorem mid_same {α : Type} [Inhabited α] {g : α -> α} {l : List α} {i : Nat} (h : i < l.length) (e : g (gd l i) = gd l i) : mid g l i = mid g l (i + 1) := by
  unfold mid
  rw [List.drop_eq_getElem_cons h, List.take_succ_eq_append_getElem h, <- gd_lt h]
  simp [e]
def shI (f b : Int) (i : TI) : TI := cond (std.le f i.fc) ⟨std.add .i64 i.fc b, i.fp, i.fK, i.fR, i.fu, i.fv⟩ i
def shC (f b : Int) (c : TC) : TC := ⟨c.fN, c.fS, c.fL, c.fI.map (shI f b)⟩
theorem spec_shiftIn (a : TL) (f b : Int) (k : Nat) (v2 : List TC) (hk : a.fC.length = v2.length) (hn : (gd v2 k).fI.length <= 10000000) :
    whileP (Lq31_x25 a f b (k : Int) v2) (0, (gd v2 k).fI) = some (v2.set k (shC f b (gd v2 k))) := by
  obtain ⟨c, hc⟩ : ∃ c, c = gd v2 k := ⟨_, rfl⟩
  rw [<- hc] at hn ⊢
  refine while_from (fun i => ((i : Int), mid (shI f b) c.fI i)) c.fI.length rfl (fun i hi => ?_) ?_
  · simp only [Lq31_x25, lq, obs, s_nadd, s_toNn, Nat.zero_add, <- hc, mid_gd hi]
    rw [ltl_t hi, br_t, ro_ (inRl hi), obs, inc_nat (by omega)]
    cases hle : std.le f (gd c.fI i).fc with
    | false =>
      simp only [br_f, obs]
      rw [mid_same hi (by unfold shI; rw [hle]; rfl)]
    | true =>
      simp only [br_t, obs, ro_ (inRl hi)]
      rw [ro_ (show len c.fI = len (mid (shI f b) c.fI i) by rw [eL_, eL_, mid_len]), obs, obs, mid_set hi (by unfold shI; rw [hle]; rfl)]
  · simp only [Lq31_x25, lq, obs, s_nadd, s_toNn, Nat.zero_add, <- hc]
    rw [ltl_f, br_f, mid_all, ro_ (show len c.fI = len (c.fI.map (shI f b)) by rw [eL_, eL_, List.length_map]), ro_ (show len a.fC = len v2 from hk)]
    rfl
theorem impl_shiftIn (a : TL) (f b : Int) (k : Nat) (v2 : List TC) (hk : a.fC.length = v2.length) (hn : (gd v2 k).fI.length <= 10000000) :
    whileP (Lq30_x34 a f b (k : Int) v2 (std.ofN (len (gd v2 k).fI))) (0, (gd v2 k).fI) = some (v2.set k (shC f b (gd v2 k))) := by
  obtain ⟨c, hc⟩ : ∃ c, c = gd v2 k := ⟨_, rfl⟩
  rw [<- hc] at hn ⊢
  refine while_from (fun i => ((i : Int), mid (shI f b) c.fI i)) c.fI.length rfl (fun i hi => ?_) ?_
  · simp only [Lq30_x34, lq, obs, s_nadd, s_toNn, Nat.zero_add, <- hc, mid_gd hi]
    rw [ltl_t hi, br_t, ro_ (inRl hi), obs, inc_nat (by omega)]
    cases hle : std.le f (gd c.fI i).fc with
    | false =>
      simp only [br_f, obs]
      rw [mid_same hi (by unfold shI; rw [hle]; rfl)]
    | true =>
      simp only [br_t, obs, ro_ (inRl hi)]
      rw [ro_ (show len c.fI = len (mid (shI f b) c.fI i) by rw [eL_, eL_, mid_len]), obs, obs, mid_set hi (by unfold shI; rw [hle]; rfl)]
  · simp only [Lq30_x34, lq, obs, s_nadd, s_toNn, Nat.zero_add, <- hc]
    rw [ltl_f, br_f, mid_all, ro_ (show len c.fI = len (c.fI.map (shI f b)) by rw [eL_, eL_, List.length_map]), ro_ (show len a.fC = len v2 from hk)]
    rfl
theorem spec_l13Shift_ok (a : TL) (f b : Int) (h : SmallL a) : Fq31 a f b = some (a.fC.map (shC f b)) := by
  have hc := h.cells
  unfold Fq31
  refine Eq.trans (bind_of (while_from (r := a.fC.map (shC f b)) (fun i => ((i : Int), mid (shC f b) a.fC i)) a.fC.length rfl (fun i hi => ?_) ?_)) ?_
  · have hi2 := (h.cell _ (gd_mem hi)).insts
    simp only [Lq31_x3, lq, obs, s_nadd, s_toNn, Nat.zero_add]
    rw [ltl_t hi, br_t, ro_ (inRl hi), ro_ (inRl hi), obs, spec_shiftIn a f b i _ (by rw [mid_len]) (by rw [mid_gd hi]; omega), obs, inc_nat (by omega), mid_gd hi, mid_set hi rfl]
  · simp only [Lq31_x3, lq]
    rw [ltl_f, br_f, mid_all]
  · simp only [lq]
    rw [ro_ (by rw [eL_, eL_, List.length_map])]
theorem impl_renumber_ok (a : TL) (f b : Int) (h : SmallL a) : Fq30 a f b = some (a.fC.map (shC f b)) := by
  have hc := h.cells
  unfold Fq30
  refine Eq.trans (bind_of (while_from (r := a.fC.map (shC f b)) (fun i => ((i : Int), mid (shC f b) a.fC i)) a.fC.length rfl (fun i hi => ?_) ?_)) ?_
  · have hi2 := (h.cell _ (gd_mem hi)).insts
    simp only [Lq30_x3, lq, obs, s_nadd, s_toNn, Nat.zero_add]
    rw [ltl_t hi, br_t, ro_ (inRl hi), ro_ (inRl hi), obs, impl_shiftIn a f b i _ (by rw [mid_len]) (by rw [mid_gd hi]; omega), obs, inc_nat (by omega), mid_gd hi, mid_set hi rfl]
  · simp only [Lq30_x3, lq]
    rw [ltl_f, br_f, mid_all]
  · simp only [lq]
    rw [ro_ (by rw [eL_, eL_, List.length_map])]
/- an edit that is possible: both sides -/
def insA {α : Type} (l : List α) (i : Nat) (x : α) : List α := l.take i ++ [x] ++ l.drop i
def delA {α : Type} (l : List α) (i : Nat) : List α := l.take i ++ l.drop (i + 1)
def edC (e : TE) (c : TC) : TC :=
  if e.fk_ = 1 then ⟨c.fN, insA c.fS e.fx.toNat e.fs_, c.fL, c.fI⟩
  else if e.fk_ = 2 then ⟨c.fN, delA c.fS e.fx.toNat, c.fL, c.fI⟩
  else if e.fk_ = 3 then ⟨c.fN, c.fS, insA c.fL e.fx.toNat e.fl_, c.fI⟩
  else if e.fk_ = 4 then ⟨c.fN, c.fS, delA c.fL e.fx.toNat, c.fI⟩
  else if e.fk_ = 5 then ⟨c.fN, c.fS, c.fL, insA c.fI e.fx.toNat e.fi_⟩
  else if e.fk_ = 6 then ⟨c.fN, c.fS, c.fL, delA c.fI e.fx.toNat⟩
  else if e.fk_ = 7 then ⟨e.fN, c.fS, c.fL, c.fI⟩
  else c
def appE (a : TL) (e : TE) : TL :=
  if e.fk_ = 8 then ⟨insA (a.fC.map (shC e.fc 1)) e.fc.toNat ⟨e.fN, [], [], []⟩⟩
  else if e.fk_ = 9 then ⟨(delA a.fC e.fc.toNat).map (shC e.fc (-1))⟩
  else ⟨a.fC.set e.fc.toNat (edC e (gd a.fC e.fc.toNat))⟩
theorem insC_zero {i : Int} {n : Nat} {m : Int} (h : insC i n m = 0) : i <= n /\ (n : Int) ≠ m := by
  unfold insC at h
  by_cases h1 : (n : Int) < i
  · rw [if_pos h1] at h; exact absurd h (by decide)
  · rw [if_neg h1] at h
    by_cases h2 : (n : Int) = m
    · rw [if_pos h2] at h; exact absurd h (by decide)
    · exact ⟨by omega, h2⟩
/-- where an insertion may stand -/
theorem eCode_ins {a : TL} {e : TE} {m : Nat} (hc : eCode a e = 0) (hm : e.fc = (m : Int)) (hlt : m < a.fC.length) : (e.fk_ = 1 -> e.fx <= ((gd a.fC m).fS.length : Int) /\ ((gd a.fC m).fS.length : Int) ≠ 24) /\ (e.fk_ = 3 -> e.fx <= ((gd a.fC m).fL.length : Int) /\ ((gd a.fC m).fL.length : Int) ≠ 8) /\ (e.fk_ = 5 -> (e.fx <= ((gd a.fC m).fI.length : Int) /\ ((gd a.fC m).fI.length : Int) ≠ 8) /\ e.fi_.fc < e.fc) := by
  obtain ⟨hv, he, _⟩ := eCode_zero hc
  unfold eCode at hc
  rw [if_neg (by rw [hv, he]; decide)] at hc
  have hn : ¬ (a.fC.length : Int) <= e.fc := by omega
  have ht : e.fc.toNat = m := by omega
  rw [ht] at hc
  refine ⟨fun hk => ?_, fun hk => ?_, fun hk => ?_⟩
  · rw [if_neg (by omega), if_neg hn, if_pos hk] at hc; exact insC_zero hc
  · rw [if_neg (by omega), if_neg hn, if_neg (by omega), if_neg (by omega), if_pos hk] at hc; exact insC_zero hc
  · rw [if_neg (by omega), if_neg hn, if_neg (by omega), if_neg (by omega), if_neg (by omega), if_neg (by omega), if_pos hk] at hc
    by_cases h1 : insC e.fx (gd a.fC m).fI.length 8 = 0 /\ e.fc <= e.fi_.fc
    · rw [if_pos h1] at hc; exact absurd hc (by decide)
    · rw [if_neg h1] at hc
      exact ⟨insC_zero hc, by by_cases h2 : e.fc <= e.fi_.fc; exact absurd ⟨hc, h2⟩ h1; omega⟩
theorem eCode_cell {a : TL} {e : TE} (hc : eCode a e = 0) (hk : e.fk_ = 8) : e.fc <= (a.fC.length : Int) /\ (a.fC.length : Int) ≠ 8 /\ othN a.fC (-1) e.fN = false := by
  obtain ⟨hv, he, _⟩ := eCode_zero hc
  unfold eCode at hc
  rw [if_neg (by rw [hv, he]; decide), if_pos hk] at hc
  by_cases h1 : (a.fC.length : Int) < e.fc
  · rw [if_pos h1] at hc; exact absurd hc (by decide)
  · rw [if_neg h1] at hc
    by_cases h2 : (a.fC.length : Int) = 8
    · rw [if_pos h2] at hc; exact absurd hc (by decide)
    · rw [if_neg h2] at hc
      refine ⟨by omega, h2, ?_⟩
      cases h3 : othN a.fC (-1) e.fN with
      | false => rfl
      | true => rw [h3, if_pos rfl] at hc; exact absurd hc (by decide)
theorem room_of {n b : Nat} (hn : n <= 1000000) (hb : b <= 1000) : std.room n b := roomC (by omega) hb
theorem small_ins {a : TL} (h : SmallL a) (m : Nat) (s : ByteArray) (hs : s.size <= 1048576) (hn : a.fC.length <= 1000) : SmallL ⟨List.take m a.fC ++ [⟨s, [], [], []⟩] ++ List.drop m a.fC⟩ := by
  refine ⟨by simp only [List.length_append, List.length_take, List.length_drop, List.length_cons, List.length_nil]; omega, fun c hc => ?_⟩
  simp only [List.mem_append, List.mem_singleton] at hc
  rcases hc with (hc | rfl) | hc
  · exact h.cell c (List.mem_of_mem_take hc)
  · exact ⟨hs, by simp, by simp, by simp, by simp⟩
  · exact h.cell c (List.mem_of_mem_drop hc)
theorem small_del {a : TL} (h : SmallL a) (m : Nat) : SmallL ⟨delA a.fC m⟩ := by
  have hl := h.cells
  refine ⟨by simp only [delA, List.length_append, List.length_take, List.length_drop]; omega, fun c hc => ?_⟩
  simp only [delA, List.mem_append] at hc
  rcases hc with hc | hc
  · exact h.cell c (List.mem_of_mem_take hc)
  · exact h.cell c (List.mem_of_mem_drop hc)
theorem insA_map {f b : Int} (l : List TC) (m : Nat) (s : ByteArray) : List.map (shC f b) (List.take m l ++ [⟨s, [], [], []⟩] ++ List.drop m l) = insA (l.map (shC f b)) m ⟨s, [], [], []⟩ := by
  unfold insA
  rw [List.map_append, List.map_append, List.map_take, List.map_drop]
  rfl
set_option maxHeartbeats 4000000 in
theorem spec_l13Do_ok (a : TL) (e : TE) (h : SmallL a) (g : SmallE e) (hc : eCode a e = 0) : Fq137 a e = some (appE a e) := by
  have hcl := h.cells
  obtain ⟨hv, he, hcell⟩ := eCode_zero hc
  obtain ⟨hk, h1, hi⟩ := okEdit_kind he
  have hl := okLib_len hv
  obtain ⟨m, hm⟩ := Int.eq_ofNat_of_zero_le h1
  obtain ⟨q, hq⟩ := Int.eq_ofNat_of_zero_le hi
  unfold Fq137
  by_cases h8 : e.fk_ = 8
  · obtain ⟨c1, c2, _⟩ := eCode_cell hc h8
    rw [hm] at c1
    unfold appE
    rw [if_pos h8, h8, hm, show std.eq (8 : Int) 8 = true from rfl, br_t]
    rw [spec_l13Shift_ok a _ _ h, obs]
    obtain ⟨L, hL⟩ : ∃ L, L = a.fC.map (shC (m : Int) 1) := ⟨_, rfl⟩
    have hLl : L.length = a.fC.length := by rw [hL, List.length_map]
    rw [<- hL]
    simp only [br_f, br_t, obs, lq, s_ofN, s_toNn, s_nadd, s_nsub, Nat.zero_add, eL_, List.nil_append, show std.toN 0 = 0 from rfl, Nat.sub_zero, List.drop_zero, List.length_append, List.length_take, List.length_drop, List.length_cons, List.length_nil, List.length_map]
    rw [<- hLl]
    have c3 : m <= L.length := by omega
    repeat (rw [ro_]; rotate_left; focus (first | trivial | exact ⟨by omega, by omega⟩ | exact room_of (by omega) (by omega) | omega))
    rw [Int.toNat_natCast]
    unfold insA
    rw [List.take_of_length_le (l := List.drop m L) (by simp)]
  · obtain ⟨m2, hm2, hlt⟩ := hcell h8
    obtain rfl : m = m2 := by omega
    clear hm2
    by_cases h9 : e.fk_ = 9
    · unfold appE
      rw [if_neg h8, if_pos h9, h9, hm, show std.eq (9 : Int) 8 = false from rfl, show std.eq (9 : Int) 9 = true from rfl, br_f, br_t]
      have hm1 : std.add .i64 (m : Int) 1 = ((m + 1 : Nat) : Int) := inc_nat (by omega)
      simp only [hm1, br_f, br_t, obs, lq, s_ofN, s_toNn, s_nadd, s_nsub, Nat.zero_add, eL_, List.nil_append, show std.toN 0 = 0 from rfl, Nat.sub_zero, List.drop_zero, List.length_append, List.length_take, List.length_drop, List.length_cons, List.length_nil, List.length_map]
      have ed : List.take m a.fC ++ List.take (a.fC.length - (m + 1)) (List.drop (m + 1) a.fC) = delA a.fC m := by
        unfold delA
        rw [List.take_of_length_le (l := List.drop (m + 1) a.fC) (by simp)]
      rw [ed, spec_l13Shift_ok ⟨delA a.fC m⟩ _ _ (small_del h m), obs]
      have hdl : (delA a.fC m).length = a.fC.length - 1 := by unfold delA; simp; omega
      simp only [List.length_map]
      repeat (rw [ro_]; rotate_left; focus (first | trivial | exact ⟨by omega, by omega⟩ | exact room_of (by omega) (by omega) | omega))
      rw [Int.toNat_natCast]
    · have hk7 : e.fk_ = 1 \/ e.fk_ = 2 \/ e.fk_ = 3 \/ e.fk_ = 4 \/ e.fk_ = 5 \/ e.fk_ = 6 \/ e.fk_ = 7 := by omega
      unfold appE
      rw [if_neg h8, if_neg h9]
      obtain ⟨d2, d4, d6⟩ := eCode_index hc hm hlt
      obtain ⟨n1, n3, n5⟩ := eCode_ins hc hm hlt
      obtain ⟨b1, b2, b3⟩ := okLib_cell hv hlt
      have hq1 : q <= 1000 -> std.add .i64 (q : Int) 1 = ((q + 1 : Nat) : Int) := fun hh => inc_nat (by omega)
      have hin : std.inR (m : Int) a.fC.length := ⟨by omega, by omega⟩
      clear hcell h8 h9 hk hc
      obtain ⟨kind, cell, index, name, shape, label, inst⟩ := e
      simp only at hk7 hm hq d2 d4 d6 n1 n3 n5 ⊢
      subst hm hq
      obtain ⟨c, hcd⟩ : ∃ c, c = gd a.fC m := ⟨_, rfl⟩
      rw [<- hcd] at d2 d4 d6 n1 n3 n5 b1 b2 b3
      have hgd : gd a.fC (Int.toNat (m : Int)) = c := by rw [Int.toNat_natCast, hcd]
      have hset : ∀ x : TC, (a.fC.set m x).length = a.fC.length := fun x => List.length_set
      rcases hk7 with rfl | rfl | rfl | rfl | rfl | rfl | rfl
      · obtain ⟨j1, j2⟩ := n1 rfl
        simp only [edC, hgd, Int.toNat_natCast, Int.reduceEq, if_true, if_false, eq_self]
        simp only [show std.eq (1 : Int) 1 = true from rfl, show std.eq (1 : Int) 2 = false from rfl, show std.eq (1 : Int) 3 = false from rfl, show std.eq (1 : Int) 4 = false from rfl, show std.eq (1 : Int) 5 = false from rfl, show std.eq (1 : Int) 6 = false from rfl, show std.eq (1 : Int) 7 = false from rfl, show std.eq (1 : Int) 8 = false from rfl, show std.eq (1 : Int) 9 = false from rfl, br_f, br_t, obs, lq, s_ofN, s_toNn, s_nadd, s_nsub, Nat.zero_add, eL_, List.nil_append, show std.toN 0 = 0 from rfl, Nat.sub_zero, List.drop_zero, List.length_append, List.length_take, List.length_drop, List.length_cons, List.length_nil, List.length_map, <- hcd, hset]
        repeat (rw [ro_]; rotate_left; focus (first | trivial | exact ⟨by omega, by omega⟩ | exact room_of (by omega) (by omega) | omega))
        unfold insA
        rw [List.take_of_length_le (l := List.drop q c.fS) (by simp)]
        all_goals (try simp only [show std.eq (1 : Int) 1 = true from rfl, show std.eq (1 : Int) 2 = false from rfl, show std.eq (1 : Int) 3 = false from rfl, show std.eq (1 : Int) 4 = false from rfl, show std.eq (1 : Int) 5 = false from rfl, show std.eq (1 : Int) 6 = false from rfl, show std.eq (1 : Int) 7 = false from rfl, show std.eq (1 : Int) 8 = false from rfl, show std.eq (1 : Int) 9 = false from rfl, br_f, br_t, obs, lq, s_ofN, s_toNn, s_nadd, s_nsub, Nat.zero_add, eL_, List.nil_append, show std.toN 0 = 0 from rfl, Nat.sub_zero, List.drop_zero, List.length_append, List.length_take, List.length_drop, List.length_cons, List.length_nil, List.length_map, <- hcd, hset])
        all_goals (repeat (rw [ro_]; rotate_left; focus (first | trivial | exact ⟨by omega, by omega⟩ | exact room_of (by omega) (by omega) | omega)))
        all_goals (try simp only [show std.eq (1 : Int) 1 = true from rfl, show std.eq (1 : Int) 2 = false from rfl, show std.eq (1 : Int) 3 = false from rfl, show std.eq (1 : Int) 4 = false from rfl, show std.eq (1 : Int) 5 = false from rfl, show std.eq (1 : Int) 6 = false from rfl, show std.eq (1 : Int) 7 = false from rfl, show std.eq (1 : Int) 8 = false from rfl, show std.eq (1 : Int) 9 = false from rfl, br_f, br_t, obs, lq, s_ofN, s_toNn, s_nadd, s_nsub, Nat.zero_add, eL_, List.nil_append, show std.toN 0 = 0 from rfl, Nat.sub_zero, List.drop_zero, List.length_append, List.length_take, List.length_drop, List.length_cons, List.length_nil, List.length_map, <- hcd, hset])
        all_goals (repeat (rw [ro_]; rotate_left; focus (first | trivial | exact ⟨by omega, by omega⟩ | exact room_of (by omega) (by omega) | omega)))
      · obtain ⟨q2, j1, j2⟩ := d2 rfl
        obtain rfl : q = q2 := by omega
        simp only [edC, hgd, Int.toNat_natCast, Int.reduceEq, if_true, if_false, eq_self]
        simp only [show std.eq (2 : Int) 1 = false from rfl, show std.eq (2 : Int) 2 = true from rfl, show std.eq (2 : Int) 3 = false from rfl, show std.eq (2 : Int) 4 = false from rfl, show std.eq (2 : Int) 5 = false from rfl, show std.eq (2 : Int) 6 = false from rfl, show std.eq (2 : Int) 7 = false from rfl, show std.eq (2 : Int) 8 = false from rfl, show std.eq (2 : Int) 9 = false from rfl, hq1 (show q <= 1000 by omega), br_f, br_t, obs, lq, s_ofN, s_toNn, s_nadd, s_nsub, Nat.zero_add, eL_, List.nil_append, show std.toN 0 = 0 from rfl, Nat.sub_zero, List.drop_zero, List.length_append, List.length_take, List.length_drop, List.length_cons, List.length_nil, List.length_map, <- hcd, hset]
        repeat (rw [ro_]; rotate_left; focus (first | trivial | exact ⟨by omega, by omega⟩ | exact room_of (by omega) (by omega) | omega))
        unfold delA
        rw [List.take_of_length_le (l := List.drop (q + 1) c.fS) (by simp)]
        all_goals (try simp only [show std.eq (2 : Int) 1 = false from rfl, show std.eq (2 : Int) 2 = true from rfl, show std.eq (2 : Int) 3 = false from rfl, show std.eq (2 : Int) 4 = false from rfl, show std.eq (2 : Int) 5 = false from rfl, show std.eq (2 : Int) 6 = false from rfl, show std.eq (2 : Int) 7 = false from rfl, show std.eq (2 : Int) 8 = false from rfl, show std.eq (2 : Int) 9 = false from rfl, hq1 (show q <= 1000 by omega), br_f, br_t, obs, lq, s_ofN, s_toNn, s_nadd, s_nsub, Nat.zero_add, eL_, List.nil_append, show std.toN 0 = 0 from rfl, Nat.sub_zero, List.drop_zero, List.length_append, List.length_take, List.length_drop, List.length_cons, List.length_nil, List.length_map, <- hcd, hset])
        all_goals (repeat (rw [ro_]; rotate_left; focus (first | trivial | exact ⟨by omega, by omega⟩ | exact room_of (by omega) (by omega) | omega)))
        all_goals (try simp only [show std.eq (2 : Int) 1 = false from rfl, show std.eq (2 : Int) 2 = true from rfl, show std.eq (2 : Int) 3 = false from rfl, show std.eq (2 : Int) 4 = false from rfl, show std.eq (2 : Int) 5 = false from rfl, show std.eq (2 : Int) 6 = false from rfl, show std.eq (2 : Int) 7 = false from rfl, show std.eq (2 : Int) 8 = false from rfl, show std.eq (2 : Int) 9 = false from rfl, hq1 (show q <= 1000 by omega), br_f, br_t, obs, lq, s_ofN, s_toNn, s_nadd, s_nsub, Nat.zero_add, eL_, List.nil_append, show std.toN 0 = 0 from rfl, Nat.sub_zero, List.drop_zero, List.length_append, List.length_take, List.length_drop, List.length_cons, List.length_nil, List.length_map, <- hcd, hset])
        all_goals (repeat (rw [ro_]; rotate_left; focus (first | trivial | exact ⟨by omega, by omega⟩ | exact room_of (by omega) (by omega) | omega)))
      · obtain ⟨j1, j2⟩ := n3 rfl
        simp only [edC, hgd, Int.toNat_natCast, Int.reduceEq, if_true, if_false, eq_self]
        simp only [show std.eq (3 : Int) 1 = false from rfl, show std.eq (3 : Int) 2 = false from rfl, show std.eq (3 : Int) 3 = true from rfl, show std.eq (3 : Int) 4 = false from rfl, show std.eq (3 : Int) 5 = false from rfl, show std.eq (3 : Int) 6 = false from rfl, show std.eq (3 : Int) 7 = false from rfl, show std.eq (3 : Int) 8 = false from rfl, show std.eq (3 : Int) 9 = false from rfl, br_f, br_t, obs, lq, s_ofN, s_toNn, s_nadd, s_nsub, Nat.zero_add, eL_, List.nil_append, show std.toN 0 = 0 from rfl, Nat.sub_zero, List.drop_zero, List.length_append, List.length_take, List.length_drop, List.length_cons, List.length_nil, List.length_map, <- hcd, hset]
        repeat (rw [ro_]; rotate_left; focus (first | trivial | exact ⟨by omega, by omega⟩ | exact room_of (by omega) (by omega) | omega))
        unfold insA
        rw [List.take_of_length_le (l := List.drop q c.fL) (by simp)]
        all_goals (try simp only [show std.eq (3 : Int) 1 = false from rfl, show std.eq (3 : Int) 2 = false from rfl, show std.eq (3 : Int) 3 = true from rfl, show std.eq (3 : Int) 4 = false from rfl, show std.eq (3 : Int) 5 = false from rfl, show std.eq (3 : Int) 6 = false from rfl, show std.eq (3 : Int) 7 = false from rfl, show std.eq (3 : Int) 8 = false from rfl, show std.eq (3 : Int) 9 = false from rfl, br_f, br_t, obs, lq, s_ofN, s_toNn, s_nadd, s_nsub, Nat.zero_add, eL_, List.nil_append, show std.toN 0 = 0 from rfl, Nat.sub_zero, List.drop_zero, List.length_append, List.length_take, List.length_drop, List.length_cons, List.length_nil, List.length_map, <- hcd, hset])
        all_goals (repeat (rw [ro_]; rotate_left; focus (first | trivial | exact ⟨by omega, by omega⟩ | exact room_of (by omega) (by omega) | omega)))
        all_goals (try simp only [show std.eq (3 : Int) 1 = false from rfl, show std.eq (3 : Int) 2 = false from rfl, show std.eq (3 : Int) 3 = true from rfl, show std.eq (3 : Int) 4 = false from rfl, show std.eq (3 : Int) 5 = false from rfl, show std.eq (3 : Int) 6 = false from rfl, show std.eq (3 : Int) 7 = false from rfl, show std.eq (3 : Int) 8 = false from rfl, show std.eq (3 : Int) 9 = false from rfl, br_f, br_t, obs, lq, s_ofN, s_toNn, s_nadd, s_nsub, Nat.zero_add, eL_, List.nil_append, show std.toN 0 = 0 from rfl, Nat.sub_zero, List.drop_zero, List.length_append, List.length_take, List.length_drop, List.length_cons, List.length_nil, List.length_map, <- hcd, hset])
        all_goals (repeat (rw [ro_]; rotate_left; focus (first | trivial | exact ⟨by omega, by omega⟩ | exact room_of (by omega) (by omega) | omega)))
      · obtain ⟨q2, j1, j2⟩ := d4 rfl
        obtain rfl : q = q2 := by omega
        simp only [edC, hgd, Int.toNat_natCast, Int.reduceEq, if_true, if_false, eq_self]
        simp only [show std.eq (4 : Int) 1 = false from rfl, show std.eq (4 : Int) 2 = false from rfl, show std.eq (4 : Int) 3 = false from rfl, show std.eq (4 : Int) 4 = true from rfl, show std.eq (4 : Int) 5 = false from rfl, show std.eq (4 : Int) 6 = false from rfl, show std.eq (4 : Int) 7 = false from rfl, show std.eq (4 : Int) 8 = false from rfl, show std.eq (4 : Int) 9 = false from rfl, hq1 (show q <= 1000 by omega), br_f, br_t, obs, lq, s_ofN, s_toNn, s_nadd, s_nsub, Nat.zero_add, eL_, List.nil_append, show std.toN 0 = 0 from rfl, Nat.sub_zero, List.drop_zero, List.length_append, List.length_take, List.length_drop, List.length_cons, List.length_nil, List.length_map, <- hcd, hset]
        repeat (rw [ro_]; rotate_left; focus (first | trivial | exact ⟨by omega, by omega⟩ | exact room_of (by omega) (by omega) | omega))
        unfold delA
        rw [List.take_of_length_le (l := List.drop (q + 1) c.fL) (by simp)]
        all_goals (try simp only [show std.eq (4 : Int) 1 = false from rfl, show std.eq (4 : Int) 2 = false from rfl, show std.eq (4 : Int) 3 = false from rfl, show std.eq (4 : Int) 4 = true from rfl, show std.eq (4 : Int) 5 = false from rfl, show std.eq (4 : Int) 6 = false from rfl, show std.eq (4 : Int) 7 = false from rfl, show std.eq (4 : Int) 8 = false from rfl, show std.eq (4 : Int) 9 = false from rfl, hq1 (show q <= 1000 by omega), br_f, br_t, obs, lq, s_ofN, s_toNn, s_nadd, s_nsub, Nat.zero_add, eL_, List.nil_append, show std.toN 0 = 0 from rfl, Nat.sub_zero, List.drop_zero, List.length_append, List.length_take, List.length_drop, List.length_cons, List.length_nil, List.length_map, <- hcd, hset])
        all_goals (repeat (rw [ro_]; rotate_left; focus (first | trivial | exact ⟨by omega, by omega⟩ | exact room_of (by omega) (by omega) | omega)))
        all_goals (try simp only [show std.eq (4 : Int) 1 = false from rfl, show std.eq (4 : Int) 2 = false from rfl, show std.eq (4 : Int) 3 = false from rfl, show std.eq (4 : Int) 4 = true from rfl, show std.eq (4 : Int) 5 = false from rfl, show std.eq (4 : Int) 6 = false from rfl, show std.eq (4 : Int) 7 = false from rfl, show std.eq (4 : Int) 8 = false from rfl, show std.eq (4 : Int) 9 = false from rfl, hq1 (show q <= 1000 by omega), br_f, br_t, obs, lq, s_ofN, s_toNn, s_nadd, s_nsub, Nat.zero_add, eL_, List.nil_append, show std.toN 0 = 0 from rfl, Nat.sub_zero, List.drop_zero, List.length_append, List.length_take, List.length_drop, List.length_cons, List.length_nil, List.length_map, <- hcd, hset])
        all_goals (repeat (rw [ro_]; rotate_left; focus (first | trivial | exact ⟨by omega, by omega⟩ | exact room_of (by omega) (by omega) | omega)))
      · obtain ⟨⟨j1, j2⟩, _⟩ := n5 rfl
        simp only [edC, hgd, Int.toNat_natCast, Int.reduceEq, if_true, if_false, eq_self]
        simp only [show std.eq (5 : Int) 1 = false from rfl, show std.eq (5 : Int) 2 = false from rfl, show std.eq (5 : Int) 3 = false from rfl, show std.eq (5 : Int) 4 = false from rfl, show std.eq (5 : Int) 5 = true from rfl, show std.eq (5 : Int) 6 = false from rfl, show std.eq (5 : Int) 7 = false from rfl, show std.eq (5 : Int) 8 = false from rfl, show std.eq (5 : Int) 9 = false from rfl, br_f, br_t, obs, lq, s_ofN, s_toNn, s_nadd, s_nsub, Nat.zero_add, eL_, List.nil_append, show std.toN 0 = 0 from rfl, Nat.sub_zero, List.drop_zero, List.length_append, List.length_take, List.length_drop, List.length_cons, List.length_nil, List.length_map, <- hcd, hset]
        repeat (rw [ro_]; rotate_left; focus (first | trivial | exact ⟨by omega, by omega⟩ | exact room_of (by omega) (by omega) | omega))
        unfold insA
        rw [List.take_of_length_le (l := List.drop q c.fI) (by simp)]
        all_goals (try simp only [show std.eq (5 : Int) 1 = false from rfl, show std.eq (5 : Int) 2 = false from rfl, show std.eq (5 : Int) 3 = false from rfl, show std.eq (5 : Int) 4 = false from rfl, show std.eq (5 : Int) 5 = true from rfl, show std.eq (5 : Int) 6 = false from rfl, show std.eq (5 : Int) 7 = false from rfl, show std.eq (5 : Int) 8 = false from rfl, show std.eq (5 : Int) 9 = false from rfl, br_f, br_t, obs, lq, s_ofN, s_toNn, s_nadd, s_nsub, Nat.zero_add, eL_, List.nil_append, show std.toN 0 = 0 from rfl, Nat.sub_zero, List.drop_zero, List.length_append, List.length_take, List.length_drop, List.length_cons, List.length_nil, List.length_map, <- hcd, hset])
        all_goals (repeat (rw [ro_]; rotate_left; focus (first | trivial | exact ⟨by omega, by omega⟩ | exact room_of (by omega) (by omega) | omega)))
        all_goals (try simp only [show std.eq (5 : Int) 1 = false from rfl, show std.eq (5 : Int) 2 = false from rfl, show std.eq (5 : Int) 3 = false from rfl, show std.eq (5 : Int) 4 = false from rfl, show std.eq (5 : Int) 5 = true from rfl, show std.eq (5 : Int) 6 = false from rfl, show std.eq (5 : Int) 7 = false from rfl, show std.eq (5 : Int) 8 = false from rfl, show std.eq (5 : Int) 9 = false from rfl, br_f, br_t, obs, lq, s_ofN, s_toNn, s_nadd, s_nsub, Nat.zero_add, eL_, List.nil_append, show std.toN 0 = 0 from rfl, Nat.sub_zero, List.drop_zero, List.length_append, List.length_take, List.length_drop, List.length_cons, List.length_nil, List.length_map, <- hcd, hset])
        all_goals (repeat (rw [ro_]; rotate_left; focus (first | trivial | exact ⟨by omega, by omega⟩ | exact room_of (by omega) (by omega) | omega)))
      · obtain ⟨q2, j1, j2⟩ := d6 rfl
        obtain rfl : q = q2 := by omega
        simp only [edC, hgd, Int.toNat_natCast, Int.reduceEq, if_true, if_false, eq_self]
        simp only [show std.eq (6 : Int) 1 = false from rfl, show std.eq (6 : Int) 2 = false from rfl, show std.eq (6 : Int) 3 = false from rfl, show std.eq (6 : Int) 4 = false from rfl, show std.eq (6 : Int) 5 = false from rfl, show std.eq (6 : Int) 6 = true from rfl, show std.eq (6 : Int) 7 = false from rfl, show std.eq (6 : Int) 8 = false from rfl, show std.eq (6 : Int) 9 = false from rfl, hq1 (show q <= 1000 by omega), br_f, br_t, obs, lq, s_ofN, s_toNn, s_nadd, s_nsub, Nat.zero_add, eL_, List.nil_append, show std.toN 0 = 0 from rfl, Nat.sub_zero, List.drop_zero, List.length_append, List.length_take, List.length_drop, List.length_cons, List.length_nil, List.length_map, <- hcd, hset]
        repeat (rw [ro_]; rotate_left; focus (first | trivial | exact ⟨by omega, by omega⟩ | exact room_of (by omega) (by omega) | omega))
        unfold delA
        rw [List.take_of_length_le (l := List.drop (q + 1) c.fI) (by simp)]
        all_goals (try simp only [show std.eq (6 : Int) 1 = false from rfl, show std.eq (6 : Int) 2 = false from rfl, show std.eq (6 : Int) 3 = false from rfl, show std.eq (6 : Int) 4 = false from rfl, show std.eq (6 : Int) 5 = false from rfl, show std.eq (6 : Int) 6 = true from rfl, show std.eq (6 : Int) 7 = false from rfl, show std.eq (6 : Int) 8 = false from rfl, show std.eq (6 : Int) 9 = false from rfl, hq1 (show q <= 1000 by omega), br_f, br_t, obs, lq, s_ofN, s_toNn, s_nadd, s_nsub, Nat.zero_add, eL_, List.nil_append, show std.toN 0 = 0 from rfl, Nat.sub_zero, List.drop_zero, List.length_append, List.length_take, List.length_drop, List.length_cons, List.length_nil, List.length_map, <- hcd, hset])
        all_goals (repeat (rw [ro_]; rotate_left; focus (first | trivial | exact ⟨by omega, by omega⟩ | exact room_of (by omega) (by omega) | omega)))
        all_goals (try simp only [show std.eq (6 : Int) 1 = false from rfl, show std.eq (6 : Int) 2 = false from rfl, show std.eq (6 : Int) 3 = false from rfl, show std.eq (6 : Int) 4 = false from rfl, show std.eq (6 : Int) 5 = false from rfl, show std.eq (6 : Int) 6 = true from rfl, show std.eq (6 : Int) 7 = false from rfl, show std.eq (6 : Int) 8 = false from rfl, show std.eq (6 : Int) 9 = false from rfl, hq1 (show q <= 1000 by omega), br_f, br_t, obs, lq, s_ofN, s_toNn, s_nadd, s_nsub, Nat.zero_add, eL_, List.nil_append, show std.toN 0 = 0 from rfl, Nat.sub_zero, List.drop_zero, List.length_append, List.length_take, List.length_drop, List.length_cons, List.length_nil, List.length_map, <- hcd, hset])
        all_goals (repeat (rw [ro_]; rotate_left; focus (first | trivial | exact ⟨by omega, by omega⟩ | exact room_of (by omega) (by omega) | omega)))
      · simp only [edC, hgd, Int.toNat_natCast, Int.reduceEq, if_true, if_false, eq_self]
        simp only [show std.eq (7 : Int) 1 = false from rfl, show std.eq (7 : Int) 2 = false from rfl, show std.eq (7 : Int) 3 = false from rfl, show std.eq (7 : Int) 4 = false from rfl, show std.eq (7 : Int) 5 = false from rfl, show std.eq (7 : Int) 6 = false from rfl, show std.eq (7 : Int) 7 = true from rfl, show std.eq (7 : Int) 8 = false from rfl, show std.eq (7 : Int) 9 = false from rfl, br_f, br_t, obs, lq, s_ofN, s_toNn, s_nadd, s_nsub, Nat.zero_add, eL_, List.nil_append, show std.toN 0 = 0 from rfl, Nat.sub_zero, List.drop_zero, List.length_append, List.length_take, List.length_drop, List.length_cons, List.length_nil, List.length_map, <- hcd, hset]
        repeat (rw [ro_]; rotate_left; focus (first | trivial | exact ⟨by omega, by omega⟩ | exact room_of (by omega) (by omega) | omega))
        all_goals (try simp only [show std.eq (7 : Int) 1 = false from rfl, show std.eq (7 : Int) 2 = false from rfl, show std.eq (7 : Int) 3 = false from rfl, show std.eq (7 : Int) 4 = false from rfl, show std.eq (7 : Int) 5 = false from rfl, show std.eq (7 : Int) 6 = false from rfl, show std.eq (7 : Int) 7 = true from rfl, show std.eq (7 : Int) 8 = false from rfl, show std.eq (7 : Int) 9 = false from rfl, br_f, br_t, obs, lq, s_ofN, s_toNn, s_nadd, s_nsub, Nat.zero_add, eL_, List.nil_append, show std.toN 0 = 0 from rfl, Nat.sub_zero, List.drop_zero, List.length_append, List.length_take, List.length_drop, List.length_cons, List.length_nil, List.length_map, <- hcd, hset])
        all_goals (repeat (rw [ro_]; rotate_left; focus (first | trivial | exact ⟨by omega, by omega⟩ | exact room_of (by omega) (by omega) | omega)))
        all_goals (try simp only [show std.eq (7 : Int) 1 = false from rfl, show std.eq (7 : Int) 2 = false from rfl, show std.eq (7 : Int) 3 = false from rfl, show std.eq (7 : Int) 4 = false from rfl, show std.eq (7 : Int) 5 = false from rfl, show std.eq (7 : Int) 6 = false from rfl, show std.eq (7 : Int) 7 = true from rfl, show std.eq (7 : Int) 8 = false from rfl, show std.eq (7 : Int) 9 = false from rfl, br_f, br_t, obs, lq, s_ofN, s_toNn, s_nadd, s_nsub, Nat.zero_add, eL_, List.nil_append, show std.toN 0 = 0 from rfl, Nat.sub_zero, List.drop_zero, List.length_append, List.length_take, List.length_drop, List.length_cons, List.length_nil, List.length_map, <- hcd, hset])
        all_goals (repeat (rw [ro_]; rotate_left; focus (first | trivial | exact ⟨by omega, by omega⟩ | exact room_of (by omega) (by omega) | omega)))
set_option maxHeartbeats 4000000 in
theorem impl_edited_ok (a : TL) (e : TE) (h : SmallL a) (g : SmallE e) (hc : eCode a e = 0) : Fq145 a e = some (appE a e) := by
  have hcl := h.cells
  obtain ⟨hv, he, hcell⟩ := eCode_zero hc
  obtain ⟨hk, h1, hi⟩ := okEdit_kind he
  have hl := okLib_len hv
  obtain ⟨m, hm⟩ := Int.eq_ofNat_of_zero_le h1
  obtain ⟨q, hq⟩ := Int.eq_ofNat_of_zero_le hi
  unfold Fq145
  rw [impl_copyLibrary_ok a h, obs]
  by_cases h8 : e.fk_ = 8
  · obtain ⟨c1, c2, _⟩ := eCode_cell hc h8
    rw [hm] at c1
    unfold appE
    rw [if_pos h8, h8, hm, show std.eq (8 : Int) 8 = true from rfl, br_t]
    have c3 : m <= a.fC.length := by omega
    simp only [lq]
    unfold Fq42
    rw [if_pos ⟨by omega, by omega, by simp, by simp; omega⟩, obs, Int.toNat_natCast]
    rw [impl_renumber_ok _ _ _ (small_ins h m e.fN (by have := g.name; omega) (by omega)), obs]
    rw [ro_ (by simp [eL_]), ro_ (by simp [eL_])]
    rw [insA_map]
  · obtain ⟨m2, hm2, hlt⟩ := hcell h8
    obtain rfl : m = m2 := by omega
    clear hm2
    by_cases h9 : e.fk_ = 9
    · unfold appE
      rw [if_neg h8, if_pos h9, h9, hm, show std.eq (9 : Int) 8 = false from rfl, show std.eq (9 : Int) 9 = true from rfl, br_f, br_t]
      have hm1 : std.add .i64 (m : Int) 1 = ((m + 1 : Nat) : Int) := inc_nat (by omega)
      unfold Fq160 Fq113
      rw [hm1, if_pos ⟨by omega, by omega, by omega⟩, obs, obs, Int.toNat_natCast, Int.toNat_natCast]
      rw [show List.take m a.fC ++ List.drop (m + 1) a.fC = delA a.fC m from rfl, impl_renumber_ok ⟨delA a.fC m⟩ _ _ (small_del h m), obs]
      rw [ro_ (by simp [eL_]), ro_ (by simp [eL_])]
    · have hk7 : e.fk_ = 1 \/ e.fk_ = 2 \/ e.fk_ = 3 \/ e.fk_ = 4 \/ e.fk_ = 5 \/ e.fk_ = 6 \/ e.fk_ = 7 := by omega
      unfold appE
      rw [if_neg h8, if_neg h9]
      obtain ⟨d2, d4, d6⟩ := eCode_index hc hm hlt
      obtain ⟨n1, n3, n5⟩ := eCode_ins hc hm hlt
      obtain ⟨b1, b2, b3⟩ := okLib_cell hv hlt
      have hq1 : q <= 1000 -> std.add .i64 (q : Int) 1 = ((q + 1 : Nat) : Int) := fun hh => inc_nat (by omega)
      have hin : std.inR (m : Int) a.fC.length := ⟨by omega, by omega⟩
      clear hcell h8 h9 hk hc
      obtain ⟨kind, cell, index, name, shape, label, inst⟩ := e
      simp only at hk7 hm hq d2 d4 d6 n1 n3 n5 ⊢
      subst hm hq
      obtain ⟨c, hcd⟩ : ∃ c, c = gd a.fC m := ⟨_, rfl⟩
      rw [<- hcd] at d2 d4 d6 n1 n3 n5 b1 b2 b3
      have hgd : gd a.fC (Int.toNat (m : Int)) = c := by rw [Int.toNat_natCast, hcd]
      have hset : ∀ x : TC, (a.fC.set m x).length = a.fC.length := fun x => List.length_set
      rcases hk7 with rfl | rfl | rfl | rfl | rfl | rfl | rfl
      · obtain ⟨j1, j2⟩ := n1 rfl
        simp only [edC, hgd, Int.toNat_natCast, Int.reduceEq, if_true, if_false, eq_self]
        have ei : Fq36 c.fS (q : Int) [shape] = some (insA c.fS q shape) := by
          unfold Fq36
          rw [if_pos ⟨by omega, by omega, by simp, by simp; omega⟩, Int.toNat_natCast]
          rfl
        simp only [show std.eq (1 : Int) 1 = true from rfl, show std.eq (1 : Int) 2 = false from rfl, show std.eq (1 : Int) 3 = false from rfl, show std.eq (1 : Int) 4 = false from rfl, show std.eq (1 : Int) 5 = false from rfl, show std.eq (1 : Int) 6 = false from rfl, show std.eq (1 : Int) 7 = false from rfl, show std.eq (1 : Int) 8 = false from rfl, show std.eq (1 : Int) 9 = false from rfl, ei, br_f, br_t, obs, lq, s_ofN, s_toNn, s_nadd, s_nsub, Nat.zero_add, eL_, List.nil_append, show std.toN 0 = 0 from rfl, Nat.sub_zero, List.drop_zero, List.length_append, List.length_take, List.length_drop, List.length_cons, List.length_nil, List.length_map, <- hcd, hset]
        repeat (rw [ro_]; rotate_left; focus (first | trivial | exact ⟨by omega, by omega⟩ | exact room_of (by omega) (by omega) | omega))
      · obtain ⟨q2, j1, j2⟩ := d2 rfl
        obtain rfl : q = q2 := by omega
        simp only [edC, hgd, Int.toNat_natCast, Int.reduceEq, if_true, if_false, eq_self]
        have ei : Fq154 c.fS (q : Int) = some (delA c.fS q) := by
          unfold Fq154 Fq111
          rw [hq1 (by omega), if_pos ⟨by omega, by omega, by omega⟩, Int.toNat_natCast, Int.toNat_natCast]
          rfl
        simp only [show std.eq (2 : Int) 1 = false from rfl, show std.eq (2 : Int) 2 = true from rfl, show std.eq (2 : Int) 3 = false from rfl, show std.eq (2 : Int) 4 = false from rfl, show std.eq (2 : Int) 5 = false from rfl, show std.eq (2 : Int) 6 = false from rfl, show std.eq (2 : Int) 7 = false from rfl, show std.eq (2 : Int) 8 = false from rfl, show std.eq (2 : Int) 9 = false from rfl, hq1 (show q <= 1000 by omega), ei, br_f, br_t, obs, lq, s_ofN, s_toNn, s_nadd, s_nsub, Nat.zero_add, eL_, List.nil_append, show std.toN 0 = 0 from rfl, Nat.sub_zero, List.drop_zero, List.length_append, List.length_take, List.length_drop, List.length_cons, List.length_nil, List.length_map, <- hcd, hset]
        repeat (rw [ro_]; rotate_left; focus (first | trivial | exact ⟨by omega, by omega⟩ | exact room_of (by omega) (by omega) | omega))
      · obtain ⟨j1, j2⟩ := n3 rfl
        simp only [edC, hgd, Int.toNat_natCast, Int.reduceEq, if_true, if_false, eq_self]
        have ei : Fq38 c.fL (q : Int) [label] = some (insA c.fL q label) := by
          unfold Fq38
          rw [if_pos ⟨by omega, by omega, by simp, by simp; omega⟩, Int.toNat_natCast]
          rfl
        simp only [show std.eq (3 : Int) 1 = false from rfl, show std.eq (3 : Int) 2 = false from rfl, show std.eq (3 : Int) 3 = true from rfl, show std.eq (3 : Int) 4 = false from rfl, show std.eq (3 : Int) 5 = false from rfl, show std.eq (3 : Int) 6 = false from rfl, show std.eq (3 : Int) 7 = false from rfl, show std.eq (3 : Int) 8 = false from rfl, show std.eq (3 : Int) 9 = false from rfl, ei, br_f, br_t, obs, lq, s_ofN, s_toNn, s_nadd, s_nsub, Nat.zero_add, eL_, List.nil_append, show std.toN 0 = 0 from rfl, Nat.sub_zero, List.drop_zero, List.length_append, List.length_take, List.length_drop, List.length_cons, List.length_nil, List.length_map, <- hcd, hset]
        repeat (rw [ro_]; rotate_left; focus (first | trivial | exact ⟨by omega, by omega⟩ | exact room_of (by omega) (by omega) | omega))
      · obtain ⟨q2, j1, j2⟩ := d4 rfl
        obtain rfl : q = q2 := by omega
        simp only [edC, hgd, Int.toNat_natCast, Int.reduceEq, if_true, if_false, eq_self]
        have ei : Fq139 c.fL (q : Int) = some (delA c.fL q) := by
          unfold Fq139 Fq112
          rw [hq1 (by omega), if_pos ⟨by omega, by omega, by omega⟩, Int.toNat_natCast, Int.toNat_natCast]
          rfl
        simp only [show std.eq (4 : Int) 1 = false from rfl, show std.eq (4 : Int) 2 = false from rfl, show std.eq (4 : Int) 3 = false from rfl, show std.eq (4 : Int) 4 = true from rfl, show std.eq (4 : Int) 5 = false from rfl, show std.eq (4 : Int) 6 = false from rfl, show std.eq (4 : Int) 7 = false from rfl, show std.eq (4 : Int) 8 = false from rfl, show std.eq (4 : Int) 9 = false from rfl, hq1 (show q <= 1000 by omega), ei, br_f, br_t, obs, lq, s_ofN, s_toNn, s_nadd, s_nsub, Nat.zero_add, eL_, List.nil_append, show std.toN 0 = 0 from rfl, Nat.sub_zero, List.drop_zero, List.length_append, List.length_take, List.length_drop, List.length_cons, List.length_nil, List.length_map, <- hcd, hset]
        repeat (rw [ro_]; rotate_left; focus (first | trivial | exact ⟨by omega, by omega⟩ | exact room_of (by omega) (by omega) | omega))
      · obtain ⟨⟨j1, j2⟩, _⟩ := n5 rfl
        simp only [edC, hgd, Int.toNat_natCast, Int.reduceEq, if_true, if_false, eq_self]
        have ei : Fq37 c.fI (q : Int) [inst] = some (insA c.fI q inst) := by
          unfold Fq37
          rw [if_pos ⟨by omega, by omega, by simp, by simp; omega⟩, Int.toNat_natCast]
          rfl
        simp only [show std.eq (5 : Int) 1 = false from rfl, show std.eq (5 : Int) 2 = false from rfl, show std.eq (5 : Int) 3 = false from rfl, show std.eq (5 : Int) 4 = false from rfl, show std.eq (5 : Int) 5 = true from rfl, show std.eq (5 : Int) 6 = false from rfl, show std.eq (5 : Int) 7 = false from rfl, show std.eq (5 : Int) 8 = false from rfl, show std.eq (5 : Int) 9 = false from rfl, ei, br_f, br_t, obs, lq, s_ofN, s_toNn, s_nadd, s_nsub, Nat.zero_add, eL_, List.nil_append, show std.toN 0 = 0 from rfl, Nat.sub_zero, List.drop_zero, List.length_append, List.length_take, List.length_drop, List.length_cons, List.length_nil, List.length_map, <- hcd, hset]
        repeat (rw [ro_]; rotate_left; focus (first | trivial | exact ⟨by omega, by omega⟩ | exact room_of (by omega) (by omega) | omega))
      · obtain ⟨q2, j1, j2⟩ := d6 rfl
        obtain rfl : q = q2 := by omega
        simp only [edC, hgd, Int.toNat_natCast, Int.reduceEq, if_true, if_false, eq_self]
        have ei : Fq129 c.fI (q : Int) = some (delA c.fI q) := by
          unfold Fq129 Fq114
          rw [hq1 (by omega), if_pos ⟨by omega, by omega, by omega⟩, Int.toNat_natCast, Int.toNat_natCast]
          rfl
        simp only [show std.eq (6 : Int) 1 = false from rfl, show std.eq (6 : Int) 2 = false from rfl, show std.eq (6 : Int) 3 = false from rfl, show std.eq (6 : Int) 4 = false from rfl, show std.eq (6 : Int) 5 = false from rfl, show std.eq (6 : Int) 6 = true from rfl, show std.eq (6 : Int) 7 = false from rfl, show std.eq (6 : Int) 8 = false from rfl, show std.eq (6 : Int) 9 = false from rfl, hq1 (show q <= 1000 by omega), ei, br_f, br_t, obs, lq, s_ofN, s_toNn, s_nadd, s_nsub, Nat.zero_add, eL_, List.nil_append, show std.toN 0 = 0 from rfl, Nat.sub_zero, List.drop_zero, List.length_append, List.length_take, List.length_drop, List.length_cons, List.length_nil, List.length_map, <- hcd, hset]
        repeat (rw [ro_]; rotate_left; focus (first | trivial | exact ⟨by omega, by omega⟩ | exact room_of (by omega) (by omega) | omega))
      · simp only [edC, hgd, Int.toNat_natCast, Int.reduceEq, if_true, if_false, eq_self]
        simp only [show std.eq (7 : Int) 1 = false from rfl, show std.eq (7 : Int) 2 = false from rfl, show std.eq (7 : Int) 3 = false from rfl, show std.eq (7 : Int) 4 = false from rfl, show std.eq (7 : Int) 5 = false from rfl, show std.eq (7 : Int) 6 = false from rfl, show std.eq (7 : Int) 7 = true from rfl, show std.eq (7 : Int) 8 = false from rfl, show std.eq (7 : Int) 9 = false from rfl, br_f, br_t, obs, lq, s_ofN, s_toNn, s_nadd, s_nsub, Nat.zero_add, eL_, List.nil_append, show std.toN 0 = 0 from rfl, Nat.sub_zero, List.drop_zero, List.length_append, List.length_take, List.length_drop, List.length_cons, List.length_nil, List.length_map, <- hcd, hset]
        repeat (rw [ro_]; rotate_left; focus (first | trivial | exact ⟨by omega, by omega⟩ | exact room_of (by omega) (by omega) | omega))
/- ApplyEdit: both sides -/
theorem wBi (x a b : Int) : wB x a b = true ↔ (a <= x /\ x <= b) := by
  unfold wB
  rw [Bool.and_eq_true]
  show (decide (a <= x) = true /\ decide (x <= b) = true) ↔ _
  rw [decide_eq_true_eq, decide_eq_true_eq]
theorem insA_len {α : Type} (l : List α) (i : Nat) (x : α) : (insA l i x).length = l.length + 1 := by
  unfold insA
  simp only [List.length_append, List.length_take, List.length_drop, List.length_cons, List.length_nil]
  omega
theorem delA_len {α : Type} (l : List α) (i : Nat) : (delA l i).length <= l.length := by
  unfold delA
  simp only [List.length_append, List.length_take, List.length_drop]
  omega
theorem insA_mem {α : Type} {l : List α} {i : Nat} {x y : α} (h : y ∈ insA l i x) : y ∈ l \/ y = x := by
  unfold insA at h
  simp only [List.mem_append, List.mem_singleton] at h
  rcases h with (h | h) | h
  · exact .inl (List.mem_of_mem_take h)
  · exact .inr h
  · exact .inl (List.mem_of_mem_drop h)
theorem delA_mem {α : Type} {l : List α} {i : Nat} {y : α} (h : y ∈ delA l i) : y ∈ l := by
  unfold delA at h
  rw [List.mem_append] at h
  rcases h with h | h
  · exact List.mem_of_mem_take h
  · exact List.mem_of_mem_drop h
theorem small_shC {c : TC} (h : SmallC c) (f b : Int) : SmallC (shC f b c) :=
  ⟨h.name, h.shapes, h.labels, by show (c.fI.map _).length <= _; rw [List.length_map]; exact h.insts, h.lnames⟩
theorem small_edC {c : TC} {e : TE} (h : SmallC c) (g : SmallE e) (h1 : c.fS.length <= 1000) (h2 : c.fL.length <= 1000) (h3 : c.fI.length <= 1000) : SmallC (edC e c) := by
  have i1 := insA_len c.fS e.fx.toNat e.fs_
  have i2 := insA_len c.fL e.fx.toNat e.fl_
  have i3 := insA_len c.fI e.fx.toNat e.fi_
  have d1 := delA_len c.fS e.fx.toNat
  have d2 := delA_len c.fL e.fx.toNat
  have d3 := delA_len c.fI e.fx.toNat
  unfold edC
  split
  · exact ⟨h.name, by simp only; omega, h.labels, h.insts, h.lnames⟩
  split
  · exact ⟨h.name, by simp only; omega, h.labels, h.insts, h.lnames⟩
  split
  · refine ⟨h.name, h.shapes, by simp only; omega, h.insts, fun l hl => ?_⟩
    rcases insA_mem hl with hl | rfl
    · exact h.lnames l hl
    · exact g.lname
  split
  · exact ⟨h.name, h.shapes, by simp only; omega, h.insts, fun l hl => h.lnames l (delA_mem hl)⟩
  split
  · exact ⟨h.name, h.shapes, h.labels, by simp only; omega, h.lnames⟩
  split
  · exact ⟨h.name, h.shapes, h.labels, by simp only; omega, h.lnames⟩
  split
  · exact ⟨g.name, h.shapes, h.labels, h.insts, h.lnames⟩
  · exact h
theorem small_appE (a : TL) (e : TE) (h : SmallL a) (g : SmallE e) (hc : eCode a e = 0) : SmallL (appE a e) := by
  have hcl := h.cells
  obtain ⟨hv, he, hcell⟩ := eCode_zero hc
  have hl := okLib_len hv
  unfold appE
  split
  · refine ⟨by rw [insA_len, List.length_map]; omega, fun c hm => ?_⟩
    rcases insA_mem hm with hm | rfl
    · obtain ⟨c0, h0, rfl⟩ := List.mem_map.1 hm
      exact small_shC (h.cell _ h0) _ _
    · exact ⟨g.name, by simp, by simp, by simp, by simp⟩
  split
  · refine ⟨by rw [List.length_map]; have := delA_len a.fC e.fc.toNat; omega, fun c hm => ?_⟩
    obtain ⟨c0, h0, rfl⟩ := List.mem_map.1 hm
    exact small_shC (h.cell _ (delA_mem h0)) _ _
  · rename_i h8 h9
    obtain ⟨m, hm, hlt⟩ := hcell h8
    obtain ⟨b1, b2, b3⟩ := okLib_cell hv hlt
    have ht : e.fc.toNat = m := by omega
    rw [ht]
    refine ⟨by rw [List.length_set]; exact hcl, fun c hm => ?_⟩
    rcases List.mem_or_eq_of_mem_set hm with hm | rfl
    · exact h.cell c hm
    · exact small_edC (h.cell _ (gd_mem hlt)) g (by omega) (by omega) (by omega)
def apR (a : TL) (e : TE) : TL × Int := if eCode a e = 0 then (appE a e, 0) else (⟨[]⟩, eCode a e)
theorem apR_small (a : TL) (e : TE) (h : SmallL a) (g : SmallE e) : SmallL (apR a e).1 := by
  unfold apR
  split
  · rename_i hc; exact small_appE a e h g hc
  · exact ⟨by simp, fun c hc => by cases hc⟩
/- transactions: both sides -/
theorem inv_both (a : TL) (e : TE) (hc : eCode a e = 0) : Fq35 a e = some (invE a e) /\ Fq40 a e = some (invE a e) := ⟨spec_inverse_ok a e hc, impl_inverse_ok a e hc⟩
/-- a transaction's edits one after the other; back: what undoes those that are done -/
def runs (a : TL) (back : List TE) (i : Nat) : List TE -> (Int × Int) ⊕ (List TE × List TC)
  | [] => .inr (back, a.fC)
  | e :: r => if eCode a e = 0 then runs (appE a e) (invE a e :: back) (i + 1) r else .inl (eCode a e, (i : Int))
theorem spec_runs (l : List TE) (hl : l.length <= 8) (hE : ∀ e ∈ l, SmallE e) : ∀ (m i : Nat) (a : TL) (back : List TE), i + m = l.length -> SmallL a -> back.length <= i ->
    whileP (Lq45_x12 l) ((i : Int), back, a.fC) = some (match runs a back i (l.drop i) with | .inl x => .inl x | .inr y => .inr y) := by
  intro m
  induction m with
  | zero =>
    intro i a back hi ha hb
    have : i = l.length := by omega
    subst this
    rw [whileP_unfold]
    simp only [Lq45_x12, lq]
    rw [ltl_f, br_f, List.drop_length]
    rfl
  | succ m ih =>
    intro i a back hi ha hb
    have hil : i < l.length := by omega
    have hd : l.drop i = gd l i :: l.drop (i + 1) := by rw [List.drop_eq_getElem_cons hil, gd_lt hil]
    have hg := hE _ (gd_mem hil)
    rw [whileP_unfold, hd]
    simp only [Lq45_x12, lq, s_toNn]
    rw [ltl_t hil, br_t, ro_ (inRl hil), show TL.mk a.fC = a from rfl, spec_l13Code_ok a _ ha hg, obs]
    unfold runs
    by_cases hc : eCode a (gd l i) = 0
    · rw [if_pos hc, hc, notEq (eq_true' rfl), br_f, ro_ (inRl hil), (inv_both a _ hc).1, obs, ro_ (room_of (by rw [s_nadd, eL_, eL_]; simp only [List.length_cons, List.length_nil]; omega) (by omega)), ro_ (inRl hil), spec_l13Do_ok a _ ha hg hc, obs]
      have := ih (i + 1) (appE a (gd l i)) (invE a (gd l i) :: back) (by omega) (small_appE a _ ha hg hc) (by simp only [List.length_cons]; omega)
      rw [inc_nat (by omega)]
      exact this
    · rw [if_neg hc, eq_false' hc, s_not, Bool.not_false, br_t]
theorem impl_runs (l : List TE) (hl : l.length <= 8) (hE : ∀ e ∈ l, SmallE e) : ∀ (m i : Nat) (a : TL) (back : List TE), i + m = l.length -> SmallL a -> back.length <= i ->
    whileP (Lq44_x18 l) ((i : Int), back.reverse, a.fC) = some (match runs a back i (l.drop i) with | .inl x => .inl x | .inr y => .inr (y.1.reverse, y.2)) := by
  intro m
  induction m with
  | zero =>
    intro i a back hi ha hb
    have : i = l.length := by omega
    subst this
    rw [whileP_unfold]
    simp only [Lq44_x18, lq]
    rw [ltl_f, br_f, List.drop_length]
    rfl
  | succ m ih =>
    intro i a back hi ha hb
    have hil : i < l.length := by omega
    have hd : l.drop i = gd l i :: l.drop (i + 1) := by rw [List.drop_eq_getElem_cons hil, gd_lt hil]
    have hg := hE _ (gd_mem hil)
    rw [whileP_unfold, hd]
    simp only [Lq44_x18, lq, s_toNn]
    rw [ltl_t hil, br_t, ro_ (inRl hil), show TL.mk a.fC = a from rfl, impl_editCode_ok a _ ha hg, obs]
    unfold runs
    by_cases hc : eCode a (gd l i) = 0
    · rw [if_pos hc, hc, notEq (eq_true' rfl), br_f, (inv_both a _ hc).2, obs, ro_ (room_of (by rw [s_nadd, eL_, eL_]; simp only [List.length_cons, List.length_nil, List.length_reverse]; omega) (by omega)), impl_edited_ok a _ ha hg hc, obs]
      have := ih (i + 1) (appE a (gd l i)) (invE a (gd l i) :: back) (by omega) (small_appE a _ ha hg hc) (by simp only [List.length_cons]; omega)
      rw [inc_nat (by omega), <- List.reverse_cons]
      exact this
    · rw [if_neg hc, eq_false' hc, s_not, Bool.not_false, br_t]
/- slices.Reverse -/
def rv {α : Type} [Inhabited α] (l : List α) (k : Nat) : List α := (List.range l.length).map fun p => if p < k \/ l.length <= p + k then gd l (l.length - 1 - p) else gd l p
theorem rv_len {α : Type} [Inhabited α] (l : List α) (k : Nat) : (rv l k).length = l.length := by simp [rv]
theorem rv_gd {α : Type} [Inhabited α] {l : List α} {k p : Nat} (h : p < l.length) : gd (rv l k) p = if p < k \/ l.length <= p + k then gd l (l.length - 1 - p) else gd l p := by
  rw [gd_lt (show p < (rv l k).length by rw [rv_len]; exact h)]
  simp [rv]
theorem rv_zero {α : Type} [Inhabited α] (l : List α) : rv l 0 = l := by
  apply List.ext_getElem (rv_len l 0)
  intro p h1 h2
  rw [<- gd_lt h1, rv_gd h2, if_neg (by omega), gd_lt h2]
theorem rv_end {α : Type} [Inhabited α] (l : List α) (k : Nat) (h : l.length <= 2 * k + 1) : rv l k = l.reverse := by
  apply List.ext_getElem (by rw [rv_len, List.length_reverse])
  intro p h1 h2
  have h3 : p < l.length := by rw [rv_len] at h1; exact h1
  rw [<- gd_lt h1, rv_gd h3, List.getElem_reverse, <- gd_lt (show l.length - 1 - p < l.length by omega)]
  by_cases hc : p < k \/ l.length <= p + k
  · rw [if_pos hc]
  · rw [if_neg hc]
    have : l.length - 1 - p = p := by omega
    rw [this]
theorem rv_step {α : Type} [Inhabited α] (l : List α) (k : Nat) (h : 2 * k + 2 <= l.length) : List.set (List.set (rv l k) k (gd (rv l k) (l.length - 1 - k))) (l.length - 1 - k) (gd (rv l k) k) = rv l (k + 1) := by
  apply List.ext_getElem (by rw [List.length_set, List.length_set, rv_len, rv_len])
  intro p h1 h2
  have h3 : p < l.length := by rw [rv_len] at h2; exact h2
  have h4 : p < (rv l k).length := by rw [rv_len]; exact h3
  rw [List.getElem_set, List.getElem_set, <- gd_lt h2, <- gd_lt h4, rv_gd h3, rv_gd h3, rv_gd (show l.length - 1 - k < l.length by omega), rv_gd (show k < l.length by omega)]
  rw [if_neg (show ¬ (l.length - 1 - k < k \/ l.length <= l.length - 1 - k + k) by omega), if_neg (show ¬ (k < k \/ l.length <= k + k) by omega)]
  by_cases c1 : l.length - 1 - k = p
  · rw [if_pos c1, if_pos (by omega), show l.length - 1 - p = k by omega]
  · rw [if_neg c1]
    by_cases c2 : k = p
    · rw [if_pos c2, if_pos (by omega), c2]
    · rw [if_neg c2]
      by_cases c3 : p < k \/ l.length <= p + k
      · rw [if_pos c3, if_pos (by omega)]
      · rw [if_neg c3, if_neg (by omega)]
theorem reverse_ok (l : List TE) (hl : l.length <= 1000000) : Fq64 l = some l.reverse := by
  unfold Fq64
  have hw : whileP (Lq64_x4 l) (0, std.sub .i64 (std.ofN (len l)) 1, l) = some l.reverse := by
    by_cases h0 : l.length = 0
    · rw [List.length_eq_zero_iff.1 h0]
      rw [whileP_unfold]
      rfl
    · refine while_from (fun k => ((k : Int), ((l.length - 1 - k : Nat) : Int), rv l k)) (l.length / 2) ?_ (fun k hk => ?_) ?_
      · rw [s_ofN, eL_, sub_id (by omega) (by omega), rv_zero]
        refine Prod.ext rfl (Prod.ext ?_ rfl)
        show (l.length : Int) - 1 = ((l.length - 1 - 0 : Nat) : Int)
        omega
      · have hk2 : 2 * k + 2 <= l.length := by omega
        simp only [Lq64_x4, lq, s_toNn, s_nadd, Nat.zero_add]
        have i1 : std.inR (k : Int) (len l) := inRl (by omega)
        have i2 : std.inR ((l.length - 1 - k : Nat) : Int) (len l) := inRl (by omega)
        rw [lt_true (by omega), br_t, ro_ i2, ro_ i1, ro_ i1, ro_ (by rw [eL_, eL_, rv_len]), ro_ i2, ro_ (by rw [eL_, eL_, List.length_set, rv_len]), rv_step l k hk2, inc_nat (by omega), sub_id (by omega) (by omega)]
        have e : ((l.length - 1 - k : Nat) : Int) - 1 = ((l.length - 1 - (k + 1) : Nat) : Int) := by omega
        rw [e]
      · simp only [Lq64_x4, lq]
        rw [lt_false (by omega), br_f, rv_end l _ (by omega)]
  rw [hw, obs]
  simp only [lq]
  rw [ro_ (by rw [eL_, eL_, List.length_reverse])]
/- ApplyEdits: both sides -/
/-- the library, what undoes the transaction, a code, the index of the edit that fails -/
def allR (a : TL) (l : List TE) : TL × List TE × Int × Int :=
  if okLib a = true then (if 1 <= l.length /\ l.length <= 8 then (match runs a [] 0 l with | .inl x => (⟨[]⟩, [], x.1, x.2) | .inr y => (⟨y.2⟩, y.1, 0, -1)) else (⟨[]⟩, [], 3, -1)) else (⟨[]⟩, [], 1, -1)
theorem spec_l13All_ok (a : TL) (l : List TE) (h : SmallL a) (hE : ∀ e ∈ l, SmallE e) : Fq45 a l = some (allR a l) := by
  unfold Fq45 allR
  rw [spec_IsValidLibrary_ok a h, obs]
  cases hv : okLib a with
  | false => rfl
  | true =>
    rw [if_pos rfl, Bool.not_true, br_f, spec_l09In_ok, obs, s_ofN, eL_]
    by_cases hl : 1 <= l.length /\ l.length <= 8
    · rw [if_pos hl, (wBi _ _ _).2 (by omega), Bool.not_true, br_f, spec_Copy_ok a h, obs]
      simp only [lq]
      have hr := spec_runs l hl.2 hE l.length 0 a [] (by omega) h (by simp)
      rw [show ((0 : Nat) : Int) = 0 from rfl] at hr
      rw [hr, obs, List.drop_zero]
      cases runs a [] 0 l with
      | inl x => rfl
      | inr y => rfl
    · have hb : wB (l.length : Int) 1 8 = false := by
        cases hq : wB (l.length : Int) 1 8 with
        | false => rfl
        | true => exact absurd ((wBi _ _ _).1 hq) (by omega)
      rw [if_neg hl, hb, Bool.not_false, br_t]
theorem impl_applyAll_ok (a : TL) (l : List TE) (h : SmallL a) (hE : ∀ e ∈ l, SmallE e) : Fq44 a l = some (allR a l) := by
  unfold Fq44 allR
  rw [impl_IsValidLibrary_ok a h, obs]
  cases hv : okLib a with
  | false => rfl
  | true =>
    rw [if_pos rfl, Bool.not_true, br_f, s_ofN, eL_]
    by_cases hl : 1 <= l.length /\ l.length <= 8
    · have hback : ∀ (r : List TE) (i : Nat) (a : TL) (back : List TE) (y : List TE × List TC), back.length <= i -> runs a back i r = .inr y -> y.1.length <= i + r.length := by
        intro r
        induction r with
        | nil => intro i a back y hb hy; unfold runs at hy; injection hy with hy; subst hy; simpa using hb
        | cons e r ih =>
          intro i a back y hb hy
          unfold runs at hy
          split at hy
          · have := ih (i + 1) _ _ y (by simp only [List.length_cons]; omega) hy
            simp only [List.length_cons]; omega
          · cases hy
      rw [if_pos hl, lt_false (by omega), br_f, lt_false (by omega), obs, lq, br_f, impl_copyLibrary_ok a h, obs]
      simp only [lq]
      have hr := impl_runs l hl.2 hE l.length 0 a [] (by omega) h (by simp)
      rw [List.reverse_nil, show ((0 : Nat) : Int) = 0 from rfl] at hr
      rw [hr, obs, List.drop_zero]
      cases hrr : runs a [] 0 l with
      | inl x => rfl
      | inr y =>
        have hy := hback l 0 a [] y (by simp) hrr
        simp only
        rw [reverse_ok _ (by rw [List.length_reverse]; omega), obs, ro_ (by simp [eL_]), ro_ (by simp [eL_]), List.reverse_reverse]
    · rw [if_neg hl]
      by_cases h1 : l.length < 1
      · rw [lt_true (by omega), br_t]; rfl
      · rw [lt_false (by omega), br_f, lt_true (by omega)]; rfl
theorem small_runs (l : List TE) (hE : ∀ e ∈ l, SmallE e) : ∀ (a : TL) (back : List TE) (i : Nat) (y : List TE × List TC), SmallL a -> runs a back i l = .inr y -> SmallL ⟨y.2⟩ := by
  induction l with
  | nil => intro a back i y h hy; unfold runs at hy; injection hy with hy; subst hy; exact h
  | cons e r ih =>
    intro a back i y h hy
    unfold runs at hy
    split at hy
    · rename_i hc
      exact ih (fun x hx => hE x (by simp [hx])) _ _ _ y (small_appE a e h (hE e (by simp)) hc) hy
    · cases hy
theorem allR_small (a : TL) (l : List TE) (h : SmallL a) (hE : ∀ e ∈ l, SmallE e) : SmallL (allR a l).1 := by
  have hz : SmallL ⟨[]⟩ := ⟨by simp, fun c hc => by cases hc⟩
  unfold allR
  split
  · split
    · cases hrr : runs a [] 0 l with
      | inl x => exact hz
      | inr y => exact small_runs l hE a [] 0 y h hrr
    · exact hz
  · exact hz
/- lists of edits -/
theorem laws_szEditS_ok (a : List TE) (x : Int) (ha : a.length <= maxLen) (hn : ∀ e ∈ a, e.fN.size <= maxLen /\ e.fl_.fN.size <= maxLen) (hx : 0 <= x /\ x <= 1048576) : ∃ y, Fq8 a x = some y /\ (0 <= y -> y <= x /\ a.length <= 1048576 /\ ∀ e ∈ a, SmallE e) := by
  have hb := maxLen_eq
  unfold Fq8
  rw [eL_, subl_ok ha hx, br_bool, s_lt]
  by_cases h : x - (a.length : Int) < 0
  · exact ⟨-1, by simp [h], fun h => by omega⟩
  · rw [if_neg (by simpa using h)]
    obtain ⟨r, h1, h2⟩ := while_sz (st := Lq8_x3 a) a SmallE (x - a.length) ⟨by omega, by omega⟩ (fun i hi y hy => by
      obtain ⟨z, hz, hz2⟩ := laws_szEdit_ok (gd a i) y (hn _ (gd_mem hi)).1 (hn _ (gd_mem hi)).2 hy
      refine ⟨z, ?_⟩
      simp only [Lq8_x3, lq, s_toNn]
      rw [ltl_t hi, br_t, ro_ (inRl hi), hz, obs, br_bool, s_lt, inc_nat (by omega)]
      by_cases h0 : z < 0
      · exact .inl ⟨h0, by simp [h0]⟩
      · exact .inr ⟨by omega, (hz2 (by omega)).1, (hz2 (by omega)).2, by simp [h0]⟩) (fun y => by
      simp only [Lq8_x3, lq]
      rw [ltl_f, br_f])
    rw [h1, obs]
    rcases h2 with rfl | ⟨z, rfl, h3, h4, h5⟩
    · exact ⟨-1, rfl, fun h => by omega⟩
    · exact ⟨z, rfl, fun _ => ⟨by omega, by omega, h5⟩⟩
theorem laws_toEditS_ok (a : List TE) (h : a.length <= 1048576) : Fq6 a = some a := by
  unfold Fq6
  rw [ro_ (nneg_len _), ro_ (room_le (by rw [eL_]; omega) (by decide))]
  simp only [lq, s_ofN, s_toNn, eL_, obs]
  rw [bind_of (while_copy (st := Lq6_x7 a _) a (List.replicate a.length _) (by simp) (fun i hi v hv => ?_) (fun v => ?_)), ro_ (by simp)]
  · simp only [Lq6_x7, lq, s_toNn, s_nadd, Nat.zero_add]
    rw [ltl_t hi, br_t, ro_ (inRl hi), laws_toEdit_ok, obs, ro_ (inRl (by simpa using hi)), ro_ (by simp [eL_, hv]), inc_nat (by omega)]
  · simp only [Lq6_x7, lq]
    rw [ltl_f, br_f]
theorem laws_eqEditS_ok (a : List TE) (h : a.length <= 1048576) : Fq7 a a = some true := by
  unfold Fq7
  rw [notEq (eq_true' rfl), br_f]
  rw [bind_of (while_eq (st := Lq7_x2 a a) (r := .inr ()) a.length (fun i hi => ?_) ?_)]
  · simp only [Lq7_x2, lq]
    rw [ltl_f, br_f]
  · simp only [Lq7_x2, lq, s_toNn]
    rw [ltl_t hi, br_t, ro_ (inRl hi), ro_ (inRl hi), laws_eqEdit_ok, obs, Bool.not_true, br_f, inc_nat (by omega)]
def mEdit (k i : Nat) : TE := ⟨((k + 21 * i : Nat) : Int), ((k + 21 * i + 1 : Nat) : Int), ((k + 21 * i + 1 + 1 : Nat) : Int), mkT (k + 21 * i + 1 + 1 + 1), ⟨((k + 21 * i + 1 + 1 + 1 + 1 : Nat) : Int), ⟨((k + 21 * i + 1 + 1 + 1 + 1 + 1 : Nat) : Int), ((k + 21 * i + 1 + 1 + 1 + 1 + 1 + 1 : Nat) : Int), ((k + 21 * i + 1 + 1 + 1 + 1 + 1 + 1 + 1 : Nat) : Int), ((k + 21 * i + 1 + 1 + 1 + 1 + 1 + 1 + 1 + 1 : Nat) : Int)⟩⟩, ⟨((k + 21 * i + 1 + 1 + 1 + 1 + 1 + 1 + 1 + 1 + 1 : Nat) : Int), ⟨((k + 21 * i + 1 + 1 + 1 + 1 + 1 + 1 + 1 + 1 + 1 + 1 : Nat) : Int), ((k + 21 * i + 1 + 1 + 1 + 1 + 1 + 1 + 1 + 1 + 1 + 1 + 1 : Nat) : Int)⟩, mkT (k + 21 * i + 1 + 1 + 1 + 1 + 1 + 1 + 1 + 1 + 1 + 1 + 1 + 1)⟩, ⟨((k + 21 * i + 1 + 1 + 1 + 1 + 1 + 1 + 1 + 1 + 1 + 1 + 1 + 1 + 1 : Nat) : Int), ⟨((k + 21 * i + 1 + 1 + 1 + 1 + 1 + 1 + 1 + 1 + 1 + 1 + 1 + 1 + 1 + 1 : Nat) : Int), ((k + 21 * i + 1 + 1 + 1 + 1 + 1 + 1 + 1 + 1 + 1 + 1 + 1 + 1 + 1 + 1 + 1 : Nat) : Int), ((k + 21 * i + 1 + 1 + 1 + 1 + 1 + 1 + 1 + 1 + 1 + 1 + 1 + 1 + 1 + 1 + 1 + 1 : Nat) : Int)⟩, ((k + 21 * i + 1 + 1 + 1 + 1 + 1 + 1 + 1 + 1 + 1 + 1 + 1 + 1 + 1 + 1 + 1 + 1 + 1 : Nat) : Int), ((k + 21 * i + 1 + 1 + 1 + 1 + 1 + 1 + 1 + 1 + 1 + 1 + 1 + 1 + 1 + 1 + 1 + 1 + 1 + 1 : Nat) : Int), ((k + 21 * i + 1 + 1 + 1 + 1 + 1 + 1 + 1 + 1 + 1 + 1 + 1 + 1 + 1 + 1 + 1 + 1 + 1 + 1 + 1 : Nat) : Int), ((k + 21 * i + 1 + 1 + 1 + 1 + 1 + 1 + 1 + 1 + 1 + 1 + 1 + 1 + 1 + 1 + 1 + 1 + 1 + 1 + 1 + 1 : Nat) : Int)⟩⟩
set_option maxHeartbeats 16000000 in
theorem markEditS_ok (l : List TE) (k : Nat) (h : k + 21 * l.length <= 1000000000000000) : Fq49 l k = some (((k + 21 * l.length : Nat) : Int), (List.range l.length).map (mEdit k)) := by
  unfold Fq49
  refine Eq.trans (bind_of (while_from (r := (((k + 21 * l.length : Nat) : Int), (List.range l.length).map (mEdit k))) (fun i => (((k + 21 * i : Nat) : Int), (i : Int), markd (mEdit k) l i)) l.length (by simp [markd_zero]) (fun i hi => ?_) ?_)) ?_
  · have hml : (markd (mEdit k) l i).length = l.length := markd_len _ _ _ (by omega)
    have hmi : i < (markd (mEdit k) l i).length := by rw [hml]; exact hi
    have hin : std.inR (i : Int) l.length := inRl hi
    have hlt : std.lt (i : Int) (std.ofN l.length) = true := ltl_t hi
    have b1 : std.add .i64 (i : Int) 1 = ((i + 1 : Nat) : Int) := inc_nat (by omega)
    have hT : Fq5 ((k + 21 * i + 1 + 1 + 1 : Nat) : Int) = some (mkT (k + 21 * i + 1 + 1 + 1)) := markText_ok _ (by omega)
    have hU : Fq5 ((k + 21 * i + 1 + 1 + 1 + 1 + 1 + 1 + 1 + 1 + 1 + 1 + 1 + 1 : Nat) : Int) = some (mkT (k + 21 * i + 1 + 1 + 1 + 1 + 1 + 1 + 1 + 1 + 1 + 1 + 1 + 1)) := markText_ok _ (by omega)
    have A : ∀ m : Nat, m <= 2000000000000000 -> std.add .i64 (m : Int) 1 = ((m + 1 : Nat) : Int) := fun m h => inc_nat (by omega)
    obtain ⟨a1, a2, a3, a4, a5, a6, a7, a8, a9, a10, a11, a12, a13, a14, a15, a16, a17, a18, a19, a20, a21⟩ : std.add .i64 ((k + 21 * i : Nat) : Int) 1 = ((k + 21 * i + 1 : Nat) : Int) /\ std.add .i64 ((k + 21 * i + 1 : Nat) : Int) 1 = ((k + 21 * i + 1 + 1 : Nat) : Int) /\ std.add .i64 ((k + 21 * i + 1 + 1 : Nat) : Int) 1 = ((k + 21 * i + 1 + 1 + 1 : Nat) : Int) /\ std.add .i64 ((k + 21 * i + 1 + 1 + 1 : Nat) : Int) 1 = ((k + 21 * i + 1 + 1 + 1 + 1 : Nat) : Int) /\ std.add .i64 ((k + 21 * i + 1 + 1 + 1 + 1 : Nat) : Int) 1 = ((k + 21 * i + 1 + 1 + 1 + 1 + 1 : Nat) : Int) /\ std.add .i64 ((k + 21 * i + 1 + 1 + 1 + 1 + 1 : Nat) : Int) 1 = ((k + 21 * i + 1 + 1 + 1 + 1 + 1 + 1 : Nat) : Int) /\ std.add .i64 ((k + 21 * i + 1 + 1 + 1 + 1 + 1 + 1 : Nat) : Int) 1 = ((k + 21 * i + 1 + 1 + 1 + 1 + 1 + 1 + 1 : Nat) : Int) /\ std.add .i64 ((k + 21 * i + 1 + 1 + 1 + 1 + 1 + 1 + 1 : Nat) : Int) 1 = ((k + 21 * i + 1 + 1 + 1 + 1 + 1 + 1 + 1 + 1 : Nat) : Int) /\ std.add .i64 ((k + 21 * i + 1 + 1 + 1 + 1 + 1 + 1 + 1 + 1 : Nat) : Int) 1 = ((k + 21 * i + 1 + 1 + 1 + 1 + 1 + 1 + 1 + 1 + 1 : Nat) : Int) /\ std.add .i64 ((k + 21 * i + 1 + 1 + 1 + 1 + 1 + 1 + 1 + 1 + 1 : Nat) : Int) 1 = ((k + 21 * i + 1 + 1 + 1 + 1 + 1 + 1 + 1 + 1 + 1 + 1 : Nat) : Int) /\ std.add .i64 ((k + 21 * i + 1 + 1 + 1 + 1 + 1 + 1 + 1 + 1 + 1 + 1 : Nat) : Int) 1 = ((k + 21 * i + 1 + 1 + 1 + 1 + 1 + 1 + 1 + 1 + 1 + 1 + 1 : Nat) : Int) /\ std.add .i64 ((k + 21 * i + 1 + 1 + 1 + 1 + 1 + 1 + 1 + 1 + 1 + 1 + 1 : Nat) : Int) 1 = ((k + 21 * i + 1 + 1 + 1 + 1 + 1 + 1 + 1 + 1 + 1 + 1 + 1 + 1 : Nat) : Int) /\ std.add .i64 ((k + 21 * i + 1 + 1 + 1 + 1 + 1 + 1 + 1 + 1 + 1 + 1 + 1 + 1 : Nat) : Int) 1 = ((k + 21 * i + 1 + 1 + 1 + 1 + 1 + 1 + 1 + 1 + 1 + 1 + 1 + 1 + 1 : Nat) : Int) /\ std.add .i64 ((k + 21 * i + 1 + 1 + 1 + 1 + 1 + 1 + 1 + 1 + 1 + 1 + 1 + 1 + 1 : Nat) : Int) 1 = ((k + 21 * i + 1 + 1 + 1 + 1 + 1 + 1 + 1 + 1 + 1 + 1 + 1 + 1 + 1 + 1 : Nat) : Int) /\ std.add .i64 ((k + 21 * i + 1 + 1 + 1 + 1 + 1 + 1 + 1 + 1 + 1 + 1 + 1 + 1 + 1 + 1 : Nat) : Int) 1 = ((k + 21 * i + 1 + 1 + 1 + 1 + 1 + 1 + 1 + 1 + 1 + 1 + 1 + 1 + 1 + 1 + 1 : Nat) : Int) /\ std.add .i64 ((k + 21 * i + 1 + 1 + 1 + 1 + 1 + 1 + 1 + 1 + 1 + 1 + 1 + 1 + 1 + 1 + 1 : Nat) : Int) 1 = ((k + 21 * i + 1 + 1 + 1 + 1 + 1 + 1 + 1 + 1 + 1 + 1 + 1 + 1 + 1 + 1 + 1 + 1 : Nat) : Int) /\ std.add .i64 ((k + 21 * i + 1 + 1 + 1 + 1 + 1 + 1 + 1 + 1 + 1 + 1 + 1 + 1 + 1 + 1 + 1 + 1 : Nat) : Int) 1 = ((k + 21 * i + 1 + 1 + 1 + 1 + 1 + 1 + 1 + 1 + 1 + 1 + 1 + 1 + 1 + 1 + 1 + 1 + 1 : Nat) : Int) /\ std.add .i64 ((k + 21 * i + 1 + 1 + 1 + 1 + 1 + 1 + 1 + 1 + 1 + 1 + 1 + 1 + 1 + 1 + 1 + 1 + 1 : Nat) : Int) 1 = ((k + 21 * i + 1 + 1 + 1 + 1 + 1 + 1 + 1 + 1 + 1 + 1 + 1 + 1 + 1 + 1 + 1 + 1 + 1 + 1 : Nat) : Int) /\ std.add .i64 ((k + 21 * i + 1 + 1 + 1 + 1 + 1 + 1 + 1 + 1 + 1 + 1 + 1 + 1 + 1 + 1 + 1 + 1 + 1 + 1 : Nat) : Int) 1 = ((k + 21 * i + 1 + 1 + 1 + 1 + 1 + 1 + 1 + 1 + 1 + 1 + 1 + 1 + 1 + 1 + 1 + 1 + 1 + 1 + 1 : Nat) : Int) /\ std.add .i64 ((k + 21 * i + 1 + 1 + 1 + 1 + 1 + 1 + 1 + 1 + 1 + 1 + 1 + 1 + 1 + 1 + 1 + 1 + 1 + 1 + 1 : Nat) : Int) 1 = ((k + 21 * i + 1 + 1 + 1 + 1 + 1 + 1 + 1 + 1 + 1 + 1 + 1 + 1 + 1 + 1 + 1 + 1 + 1 + 1 + 1 + 1 : Nat) : Int) /\ std.add .i64 ((k + 21 * i + 1 + 1 + 1 + 1 + 1 + 1 + 1 + 1 + 1 + 1 + 1 + 1 + 1 + 1 + 1 + 1 + 1 + 1 + 1 + 1 : Nat) : Int) 1 = ((k + 21 * i + 1 + 1 + 1 + 1 + 1 + 1 + 1 + 1 + 1 + 1 + 1 + 1 + 1 + 1 + 1 + 1 + 1 + 1 + 1 + 1 + 1 : Nat) : Int) := ⟨A _ (by omega), A _ (by omega), A _ (by omega), A _ (by omega), A _ (by omega), A _ (by omega), A _ (by omega), A _ (by omega), A _ (by omega), A _ (by omega), A _ (by omega), A _ (by omega), A _ (by omega), A _ (by omega), A _ (by omega), A _ (by omega), A _ (by omega), A _ (by omega), A _ (by omega), A _ (by omega), A _ (by omega)⟩
    simp only [Lq49_x4]
    rw [lq, lq, lq]
    simp only [s_toNn, s_nadd, Nat.zero_add, eL_, hml, hlt, br_t, ro_ hin, req_reflM, a1]
    iterate 21 (rw [lq]; try simp only [List.length_set, eL_, hml, req_reflM, ro_ hin, List.set_set, gd_set_selfM _ _ _ hmi, a1, a2, a3, a4, a5, a6, a7, a8, a9, a10, a11, a12, a13, a14, a15, a16, a17, a18, a19, a20, a21, hT, hU, obs])
    simp only [b1, req_true]
    rw [<- markd_set (mEdit k) l i hi]
    rfl
  · simp only [Lq49_x4]
    rw [lq, lq, lq, ltl_f, br_f, markd_full]
  · simp only [lq]
    rw [ro_ (by simp [eL_])]
/- stacks of edits, editors -/
structure SmallSS (a : List (List TE)) : Prop where
  len : a.length <= 1048576
  row : ∀ x ∈ a, x.length <= 1048576 /\ ∀ e ∈ x, SmallE e
structure SmallD (a : TD_) : Prop where
  cur : SmallL a.fr_
  und : SmallSS a.fU
  red : SmallSS a.fD
def wfES (l : List TE) : Prop := l.length <= maxLen /\ ∀ e ∈ l, e.fN.size <= maxLen /\ e.fl_.fN.size <= maxLen
def wfESS (l : List (List TE)) : Prop := l.length <= maxLen /\ ∀ x ∈ l, wfES x
theorem laws_szEditSS_ok (a : List (List TE)) (x : Int) (ha : wfESS a) (hx : 0 <= x /\ x <= 1048576) : ∃ y, Fq54 a x = some y /\ (0 <= y -> y <= x /\ SmallSS a) := by
  have hb := maxLen_eq
  unfold Fq54
  rw [eL_, subl_ok ha.1 hx, br_bool, s_lt]
  by_cases h : x - (a.length : Int) < 0
  · exact ⟨-1, by simp [h], fun h => by omega⟩
  · rw [if_neg (by simpa using h)]
    obtain ⟨r, h1, h2⟩ := while_sz (st := Lq54_x3 a) a (fun x => x.length <= 1048576 /\ ∀ e ∈ x, SmallE e) (x - a.length) ⟨by omega, by omega⟩ (fun i hi y hy => by
      obtain ⟨z, hz, hz2⟩ := laws_szEditS_ok (gd a i) y (ha.2 _ (gd_mem hi)).1 (ha.2 _ (gd_mem hi)).2 hy
      refine ⟨z, ?_⟩
      simp only [Lq54_x3, lq, s_toNn]
      rw [ltl_t hi, br_t, ro_ (inRl hi), hz, obs, br_bool, s_lt, inc_nat (by omega)]
      by_cases h0 : z < 0
      · exact .inl ⟨h0, by simp [h0]⟩
      · exact .inr ⟨by omega, (hz2 (by omega)).1, (hz2 (by omega)).2, by simp [h0]⟩) (fun y => by
      simp only [Lq54_x3, lq]
      rw [ltl_f, br_f])
    rw [h1, obs]
    rcases h2 with rfl | ⟨z, rfl, h3, h4, h5⟩
    · exact ⟨-1, rfl, fun h => by omega⟩
    · exact ⟨z, rfl, fun _ => ⟨by omega, by omega, h5⟩⟩
theorem laws_szEditor_ok (a : TD_) (ha : wfLb a.fr_) (hu : wfESS a.fU) (hr : wfESS a.fD) : ∃ y, Fq50 a 1048576 = some y /\ (0 <= y -> y <= 1048576 /\ SmallD a) := by
  unfold Fq50
  obtain ⟨y1, e1, f1⟩ := laws_szLibrary_ok2 a.fr_ ha
  rw [e1, obs, br_bool, s_lt]
  by_cases h1 : y1 < 0
  · exact ⟨-1, by simp [h1], fun h => by omega⟩
  · rw [if_neg (by simpa using h1)]
    obtain ⟨y2, e2, f2⟩ := laws_szEditSS_ok a.fU y1 hu ⟨by omega, by have := f1 (by omega); omega⟩
    rw [e2, obs, br_bool, s_lt]
    by_cases h2 : y2 < 0
    · exact ⟨-1, by simp [h2], fun h => by omega⟩
    · rw [if_neg (by simpa using h2)]
      obtain ⟨y3, e3, f3⟩ := laws_szEditSS_ok a.fD y2 hr ⟨by omega, by have := f1 (by omega); have := f2 (by omega); omega⟩
      rw [e3, obs, br_bool, s_lt]
      by_cases h3 : y3 < 0
      · exact ⟨-1, by simp [h3], fun h => by omega⟩
      · exact ⟨y3, by simp [h3], fun _ => ⟨by have := f1 (by omega); have := f2 (by omega); have := f3 (by omega); omega, (f1 (by omega)).2, (f2 (by omega)).2, (f3 (by omega)).2⟩⟩
theorem laws_toEditSS_ok (a : List (List TE)) (h : SmallSS a) : Fq52 a = some a := by
  have hl := h.len
  unfold Fq52
  rw [ro_ (nneg_len _), ro_ (room_le (by rw [eL_]; omega) (by decide))]
  simp only [lq, s_ofN, s_toNn, eL_, obs]
  rw [bind_of (while_copy (st := Lq52_x14 a _) a (List.replicate a.length _) (by simp) (fun i hi v hv => ?_) (fun v => ?_)), ro_ (by simp)]
  · simp only [Lq52_x14, lq, s_toNn, s_nadd, Nat.zero_add]
    rw [ltl_t hi, br_t, ro_ (inRl hi), laws_toEditS_ok _ (h.row _ (gd_mem hi)).1, obs, ro_ (inRl (by simpa using hi)), ro_ (by simp [eL_, hv]), inc_nat (by omega)]
    rfl
  · simp only [Lq52_x14, lq]
    rw [ltl_f, br_f]
theorem laws_toEditor_ok (a : TD_) (h : SmallD a) : Fq10 a = some a := by
  unfold Fq10
  rw [laws_toLibrary_ok _ h.cur, obs, laws_toEditSS_ok _ h.und, obs, laws_toEditSS_ok _ h.red]
  rfl
theorem laws_eqEditSS_ok (a : List (List TE)) (h : SmallSS a) : Fq51 a a = some true := by
  have hl := h.len
  unfold Fq51
  rw [notEq (eq_true' rfl), br_f]
  rw [bind_of (while_eq (st := Lq51_x2 a a) (r := .inr ()) a.length (fun i hi => ?_) ?_)]
  · simp only [Lq51_x2, lq]
    rw [ltl_f, br_f]
  · simp only [Lq51_x2, lq, s_toNn]
    rw [ltl_t hi, br_t, ro_ (inRl hi), ro_ (inRl hi), laws_eqEditS_ok _ (h.row _ (gd_mem hi)).1, obs, Bool.not_true, br_f, inc_nat (by omega)]
theorem laws_eqEditor_ok (a : TD_) (h : SmallD a) : Fq11 a a = some true := by
  unfold Fq11
  rw [laws_eqLibrary_ok _ h.cur, obs, Bool.not_true, br_f, laws_eqEditSS_ok _ h.und, obs, Bool.not_true, br_f, laws_eqEditSS_ok _ h.red]
  rfl
def offSS (l : List (List TE)) : Nat -> Nat
  | 0 => 0
  | i + 1 => offSS l i + 21 * (gd l i).length
theorem offSS_le {l : List (List TE)} (h : ∀ x ∈ l, x.length <= 1048576) : ∀ i, i <= l.length -> offSS l i <= i * 22020096
  | 0, _ => by simp [offSS]
  | i + 1, hi => by
    have h1 := offSS_le h i (by omega)
    have h2 := h _ (gd_mem (show i < l.length by omega))
    show offSS l i + 21 * (gd l i).length <= _
    omega
def mSS (l : List (List TE)) (k i : Nat) : List TE := (List.range (gd l i).length).map (mEdit (k + offSS l i))
theorem markEditSS_ok (l : List (List TE)) (k : Nat) (h : SmallSS l) (hk : k <= 200000000000000) : Fq39 l k = some (((k + offSS l l.length : Nat) : Int), (List.range l.length).map (mSS l k)) := by
  have hl := h.len
  unfold Fq39
  refine Eq.trans (bind_of (while_from (r := (((k + offSS l l.length : Nat) : Int), (List.range l.length).map (mSS l k))) (fun i => (((k + offSS l i : Nat) : Int), (i : Int), markd (mSS l k) l i)) l.length (by simp [markd_zero, offSS]) (fun i hi => ?_) ?_)) ?_
  · have ho := offSS_le (fun x hx => (h.row x hx).1) i (by omega)
    have h2 := (h.row _ (gd_mem hi)).1
    obtain ⟨c, hcd⟩ : ∃ c, c = gd l i := ⟨_, rfl⟩
    obtain ⟨K, hK⟩ : ∃ K, K = k + offSS l i := ⟨_, rfl⟩
    rw [<- hcd] at h2
    have hml : (markd (mSS l k) l i).length = l.length := markd_len _ _ _ (by omega)
    have hin : std.inR (i : Int) l.length := inRl hi
    have hlt : std.lt (i : Int) (std.ofN l.length) = true := ltl_t hi
    have hg : gd (markd (mSS l k) l i) i = c := by rw [markd_gdM _ _ _ hi, hcd]
    have e1 : offSS l (i + 1) = offSS l i + 21 * c.length := by rw [hcd]; rfl
    have hE := markEditS_ok c K (by omega)
    have b1 : std.add .i64 (i : Int) 1 = ((i + 1 : Nat) : Int) := inc_nat (by omega)
    have e2 : mSS l k i = (List.range c.length).map (mEdit K) := by unfold mSS; rw [<- hcd, <- hK]
    rw [<- hK]
    simp only [Lq39_x4, lq, s_toNn, s_nadd, Nat.zero_add, eL_, List.length_set, hml, hlt, br_t, obs, ro_ hin, req_reflM, req_true, hg, hE, List.length_map, List.length_range, b1]
    rw [e1, <- markd_set (mSS l k) l i hi, e2, hK, Nat.add_assoc]
  · simp only [Lq39_x4, lq]
    rw [ltl_f, br_f, markd_full]
  · simp only [lq]
    rw [ro_ (by simp [eL_])]
theorem heldEditS_ok (n k : Nat) (h : k + 21 * n <= 1000000000000000) : Fq12 ((List.range n).map (mEdit k)) k = some ((k + 21 * n : Nat) : Int) := by
  unfold Fq12
  have hL : ((List.range n).map (mEdit k)).length = n := by simp
  refine Eq.trans (bind_of (while_from (r := .inr ((k + 21 * n : Nat) : Int)) (fun i => (((k + 21 * i : Nat) : Int), (i : Int))) n rfl (fun i hi => ?_) ?_)) rfl
  · have hin : std.inR (i : Int) n := inRn hi
    have hlt : std.lt (i : Int) (std.ofN n) = true := lt_true (by rw [s_ofN]; omega)
    have b1 : std.add .i64 (i : Int) 1 = ((i + 1 : Nat) : Int) := inc_nat (by omega)
    have hT : Fq5 ((k + 21 * i + 1 + 1 + 1 : Nat) : Int) = some (mkT (k + 21 * i + 1 + 1 + 1)) := markText_ok _ (by omega)
    have hU : Fq5 ((k + 21 * i + 1 + 1 + 1 + 1 + 1 + 1 + 1 + 1 + 1 + 1 + 1 + 1 : Nat) : Int) = some (mkT (k + 21 * i + 1 + 1 + 1 + 1 + 1 + 1 + 1 + 1 + 1 + 1 + 1 + 1)) := markText_ok _ (by omega)
    have A : ∀ m : Nat, m <= 2000000000000000 -> std.add .i64 (m : Int) 1 = ((m + 1 : Nat) : Int) := fun m h => inc_nat (by omega)
    obtain ⟨a1, a2, a3, a4, a5, a6, a7, a8, a9, a10, a11, a12, a13, a14, a15, a16, a17, a18, a19, a20, a21⟩ : std.add .i64 ((k + 21 * i : Nat) : Int) 1 = ((k + 21 * i + 1 : Nat) : Int) /\ std.add .i64 ((k + 21 * i + 1 : Nat) : Int) 1 = ((k + 21 * i + 1 + 1 : Nat) : Int) /\ std.add .i64 ((k + 21 * i + 1 + 1 : Nat) : Int) 1 = ((k + 21 * i + 1 + 1 + 1 : Nat) : Int) /\ std.add .i64 ((k + 21 * i + 1 + 1 + 1 : Nat) : Int) 1 = ((k + 21 * i + 1 + 1 + 1 + 1 : Nat) : Int) /\ std.add .i64 ((k + 21 * i + 1 + 1 + 1 + 1 : Nat) : Int) 1 = ((k + 21 * i + 1 + 1 + 1 + 1 + 1 : Nat) : Int) /\ std.add .i64 ((k + 21 * i + 1 + 1 + 1 + 1 + 1 : Nat) : Int) 1 = ((k + 21 * i + 1 + 1 + 1 + 1 + 1 + 1 : Nat) : Int) /\ std.add .i64 ((k + 21 * i + 1 + 1 + 1 + 1 + 1 + 1 : Nat) : Int) 1 = ((k + 21 * i + 1 + 1 + 1 + 1 + 1 + 1 + 1 : Nat) : Int) /\ std.add .i64 ((k + 21 * i + 1 + 1 + 1 + 1 + 1 + 1 + 1 : Nat) : Int) 1 = ((k + 21 * i + 1 + 1 + 1 + 1 + 1 + 1 + 1 + 1 : Nat) : Int) /\ std.add .i64 ((k + 21 * i + 1 + 1 + 1 + 1 + 1 + 1 + 1 + 1 : Nat) : Int) 1 = ((k + 21 * i + 1 + 1 + 1 + 1 + 1 + 1 + 1 + 1 + 1 : Nat) : Int) /\ std.add .i64 ((k + 21 * i + 1 + 1 + 1 + 1 + 1 + 1 + 1 + 1 + 1 : Nat) : Int) 1 = ((k + 21 * i + 1 + 1 + 1 + 1 + 1 + 1 + 1 + 1 + 1 + 1 : Nat) : Int) /\ std.add .i64 ((k + 21 * i + 1 + 1 + 1 + 1 + 1 + 1 + 1 + 1 + 1 + 1 : Nat) : Int) 1 = ((k + 21 * i + 1 + 1 + 1 + 1 + 1 + 1 + 1 + 1 + 1 + 1 + 1 : Nat) : Int) /\ std.add .i64 ((k + 21 * i + 1 + 1 + 1 + 1 + 1 + 1 + 1 + 1 + 1 + 1 + 1 : Nat) : Int) 1 = ((k + 21 * i + 1 + 1 + 1 + 1 + 1 + 1 + 1 + 1 + 1 + 1 + 1 + 1 : Nat) : Int) /\ std.add .i64 ((k + 21 * i + 1 + 1 + 1 + 1 + 1 + 1 + 1 + 1 + 1 + 1 + 1 + 1 : Nat) : Int) 1 = ((k + 21 * i + 1 + 1 + 1 + 1 + 1 + 1 + 1 + 1 + 1 + 1 + 1 + 1 + 1 : Nat) : Int) /\ std.add .i64 ((k + 21 * i + 1 + 1 + 1 + 1 + 1 + 1 + 1 + 1 + 1 + 1 + 1 + 1 + 1 : Nat) : Int) 1 = ((k + 21 * i + 1 + 1 + 1 + 1 + 1 + 1 + 1 + 1 + 1 + 1 + 1 + 1 + 1 + 1 : Nat) : Int) /\ std.add .i64 ((k + 21 * i + 1 + 1 + 1 + 1 + 1 + 1 + 1 + 1 + 1 + 1 + 1 + 1 + 1 + 1 : Nat) : Int) 1 = ((k + 21 * i + 1 + 1 + 1 + 1 + 1 + 1 + 1 + 1 + 1 + 1 + 1 + 1 + 1 + 1 + 1 : Nat) : Int) /\ std.add .i64 ((k + 21 * i + 1 + 1 + 1 + 1 + 1 + 1 + 1 + 1 + 1 + 1 + 1 + 1 + 1 + 1 + 1 : Nat) : Int) 1 = ((k + 21 * i + 1 + 1 + 1 + 1 + 1 + 1 + 1 + 1 + 1 + 1 + 1 + 1 + 1 + 1 + 1 + 1 : Nat) : Int) /\ std.add .i64 ((k + 21 * i + 1 + 1 + 1 + 1 + 1 + 1 + 1 + 1 + 1 + 1 + 1 + 1 + 1 + 1 + 1 + 1 : Nat) : Int) 1 = ((k + 21 * i + 1 + 1 + 1 + 1 + 1 + 1 + 1 + 1 + 1 + 1 + 1 + 1 + 1 + 1 + 1 + 1 + 1 : Nat) : Int) /\ std.add .i64 ((k + 21 * i + 1 + 1 + 1 + 1 + 1 + 1 + 1 + 1 + 1 + 1 + 1 + 1 + 1 + 1 + 1 + 1 + 1 : Nat) : Int) 1 = ((k + 21 * i + 1 + 1 + 1 + 1 + 1 + 1 + 1 + 1 + 1 + 1 + 1 + 1 + 1 + 1 + 1 + 1 + 1 + 1 : Nat) : Int) /\ std.add .i64 ((k + 21 * i + 1 + 1 + 1 + 1 + 1 + 1 + 1 + 1 + 1 + 1 + 1 + 1 + 1 + 1 + 1 + 1 + 1 + 1 : Nat) : Int) 1 = ((k + 21 * i + 1 + 1 + 1 + 1 + 1 + 1 + 1 + 1 + 1 + 1 + 1 + 1 + 1 + 1 + 1 + 1 + 1 + 1 + 1 : Nat) : Int) /\ std.add .i64 ((k + 21 * i + 1 + 1 + 1 + 1 + 1 + 1 + 1 + 1 + 1 + 1 + 1 + 1 + 1 + 1 + 1 + 1 + 1 + 1 + 1 : Nat) : Int) 1 = ((k + 21 * i + 1 + 1 + 1 + 1 + 1 + 1 + 1 + 1 + 1 + 1 + 1 + 1 + 1 + 1 + 1 + 1 + 1 + 1 + 1 + 1 : Nat) : Int) /\ std.add .i64 ((k + 21 * i + 1 + 1 + 1 + 1 + 1 + 1 + 1 + 1 + 1 + 1 + 1 + 1 + 1 + 1 + 1 + 1 + 1 + 1 + 1 + 1 : Nat) : Int) 1 = ((k + 21 * i + 1 + 1 + 1 + 1 + 1 + 1 + 1 + 1 + 1 + 1 + 1 + 1 + 1 + 1 + 1 + 1 + 1 + 1 + 1 + 1 + 1 : Nat) : Int) := ⟨A _ (by omega), A _ (by omega), A _ (by omega), A _ (by omega), A _ (by omega), A _ (by omega), A _ (by omega), A _ (by omega), A _ (by omega), A _ (by omega), A _ (by omega), A _ (by omega), A _ (by omega), A _ (by omega), A _ (by omega), A _ (by omega), A _ (by omega), A _ (by omega), A _ (by omega), A _ (by omega), A _ (by omega)⟩
    simp only [Lq12_x3, lq, s_toNn, eL_, hL, hlt, br_t, ro_ hin, range_gd (mEdit k) n i hi, a1, a2, a3, a4, a5, a6, a7, a8, a9, a10, a11, a12, a13, a14, a15, a16, a17, a18, a19, a20, a21, b1]
    simp only [mEdit, notEq (eq_true' rfl), br_f, hT, hU, obs, seq_self, s_not, Bool.not_true]
    rfl
  · simp only [Lq12_x3, lq, eL_, hL]
    rw [lt_false (by rw [s_ofN]; omega), br_f]
theorem heldEditSS_ok (l : List (List TE)) (k : Nat) (h : SmallSS l) (hk : k <= 200000000000000) : Fq58 ((List.range l.length).map (mSS l k)) k = some ((k + offSS l l.length : Nat) : Int) := by
  have hl := h.len
  unfold Fq58
  have hL : ((List.range l.length).map (mSS l k)).length = l.length := by simp
  refine Eq.trans (bind_of (while_from (r := .inr ((k + offSS l l.length : Nat) : Int)) (fun i => (((k + offSS l i : Nat) : Int), (i : Int))) l.length rfl (fun i hi => ?_) ?_)) rfl
  · have ho := offSS_le (fun x hx => (h.row x hx).1) i (by omega)
    have h2 := (h.row _ (gd_mem hi)).1
    obtain ⟨c, hcd⟩ : ∃ c, c = gd l i := ⟨_, rfl⟩
    obtain ⟨K, hK⟩ : ∃ K, K = k + offSS l i := ⟨_, rfl⟩
    rw [<- hcd] at h2
    have hin : std.inR (i : Int) l.length := inRl hi
    have hlt : std.lt (i : Int) (std.ofN l.length) = true := ltl_t hi
    have e1 : offSS l (i + 1) = offSS l i + 21 * c.length := by rw [hcd]; rfl
    have e2 : mSS l k i = (List.range c.length).map (mEdit K) := by unfold mSS; rw [<- hcd, <- hK]
    have hE := heldEditS_ok c.length K (by omega)
    have b1 : std.add .i64 (i : Int) 1 = ((i + 1 : Nat) : Int) := inc_nat (by omega)
    rw [<- hK]
    simp only [Lq58_x3, lq, s_toNn, eL_, hL, hlt, br_t, ro_ hin, range_gd (mSS l k) l.length i hi, e2, hE, b1, obs]
    rw [lt_false (by omega), br_f, e1, hK, Nat.add_assoc]
  · simp only [Lq58_x3, lq, eL_, hL]
    rw [lt_false (by rw [s_ofN]; omega), br_f]
/-- what the marks of an editor are -/
def mD (a : TD_) : TD_ := ⟨⟨(List.range a.fr_.fC.length).map (mC a.fr_.fC 1)⟩, (List.range a.fU.length).map (mSS a.fU (1 + offC a.fr_.fC a.fr_.fC.length)), (List.range a.fD.length).map (mSS a.fD (1 + offC a.fr_.fC a.fr_.fC.length + offSS a.fU a.fU.length))⟩
def nD (a : TD_) : Nat := 1 + offC a.fr_.fC a.fr_.fC.length + offSS a.fU a.fU.length + offSS a.fD a.fD.length
theorem nD_parts {a : TD_} (h : SmallD a) : offC a.fr_.fC a.fr_.fC.length <= 30000000000000 /\ offSS a.fU a.fU.length <= 30000000000000 /\ offSS a.fD a.fD.length <= 30000000000000 := by
  have h1 := offC_le h.cur.cell a.fr_.fC.length (Nat.le_refl _)
  have h2 := offSS_le (fun x hx => (h.und.row x hx).1) a.fU.length (Nat.le_refl _)
  have h3 := offSS_le (fun x hx => (h.red.row x hx).1) a.fD.length (Nat.le_refl _)
  have g1 := h.cur.cells
  have g2 := h.und.len
  have g3 := h.red.len
  omega
theorem markEditor_ok (a : TD_) (h : SmallD a) : Fq34 a 1 = some ((nD a : Int), (mD a).fr_.fC, (mD a).fU, (mD a).fD) := by
  obtain ⟨p1, p2, p3⟩ := nD_parts h
  unfold Fq34
  have m1 := markLibrary_ok a.fr_ 1 h.cur (by omega)
  have m2 := markEditSS_ok a.fU (1 + offC a.fr_.fC a.fr_.fC.length) h.und (by omega)
  have m3 := markEditSS_ok a.fD (1 + offC a.fr_.fC a.fr_.fC.length + offSS a.fU a.fU.length) h.red (by omega)
  rw [show ((1 : Nat) : Int) = 1 from rfl] at m1
  rw [m1, obs, ro_ (by simp [eL_]), m2, obs, ro_ (by simp [eL_]), m3, obs, ro_ (by simp [eL_]), ro_ (by simp [eL_]), ro_ (by simp [eL_]), ro_ (by simp [eL_])]
  rfl
theorem heldEditor_ok (a : TD_) (h : SmallD a) : Fq28 (mD a) 1 = some (nD a : Int) := by
  obtain ⟨p1, p2, p3⟩ := nD_parts h
  unfold Fq28
  have m1 := heldLibrary_ok a.fr_ 1 h.cur (by omega)
  have m2 := heldEditSS_ok a.fU (1 + offC a.fr_.fC a.fr_.fC.length) h.und (by omega)
  have m3 := heldEditSS_ok a.fD (1 + offC a.fr_.fC a.fr_.fC.length + offSS a.fU a.fU.length) h.red (by omega)
  rw [show ((1 : Nat) : Int) = 1 from rfl] at m1
  simp only [mD]
  rw [m1, obs, lt_false (by omega), br_f, m2, obs, lt_false (by omega), br_f, m3, obs, lt_false (by omega), br_f]
  rfl
theorem mD_len (a : TD_) : (mD a).fr_.fC.length = a.fr_.fC.length /\ (mD a).fU.length = a.fU.length /\ (mD a).fD.length = a.fD.length := by simp [mD]
/- transactions and stacks that are valid; copies; what is pushed -/
def okTrans (l : List TE) : Bool := (decide (1 <= l.length) && decide (l.length <= 8)) && l.all okEdit
theorem le_one (n : Nat) : std.le 1 (std.ofN n) = decide (1 <= n) := by
  rw [s_le, s_ofN]; congr 1; simp; omega
theorem le_lit (n k : Nat) : std.le (std.ofN n) (k : Int) = decide (n <= k) := by
  rw [s_le, s_ofN]; congr 1; simp
theorem le_eight (n : Nat) : std.le (std.ofN n) 8 = decide (n <= 8) := le_lit n 8
theorem spec_l13Transaction_ok (l : List TE) (h : l.length <= 10000000) (hs : ∀ e ∈ l, SmallE e) : Fq68 l = some (okTrans l) := by
  have hb := maxLen_eq
  unfold Fq68 okTrans
  rw [bind_of (scan (ok := fun i => okEdit (gd l i)) (n := l.length) (yes := .inr ()) (no := .inl ()) (fun i hi => ?_) ?_), range_all]
  · cases l.all okEdit with
    | false => simp
    | true =>
      simp only [if_true, spec_l09In_ok, wB, eL_, le_one, le_eight, obs, Bool.and_true]
  · simp only [Lq68_x2, lq]
    rw [ltl_f, br_f]
  · have := hs _ (gd_mem hi)
    simp only [Lq68_x2, lq, s_toNn]
    rw [ltl_t hi, br_t, ro_ (inRl hi), spec_IsValidEdit_ok _ (by have := this.name; omega) (by have := this.lname; omega), obs, inc_nat (by omega)]
    cases okEdit (gd l i) <;> rfl
theorem containsEdit (l : List TE) (h : l.length <= 10000000) (hs : ∀ e ∈ l, SmallE e) : Fq115 l = some (!l.all okEdit) := by
  have hb := maxLen_eq
  unfold Fq115 Fq83
  rw [bind_of (scan_first (p := fun i => !okEdit (gd l i)) (n := l.length) (fun i hi => ?_) ?_)]
  · rw [<- range_any okEdit l, <- firstI_any]
    unfold firstI
    cases (List.range l.length).find? (fun i => !okEdit (gd l i)) <;> rfl
  · simp only [Lq83_x2, lq]
    rw [ltl_f, br_f]
  · have := hs _ (gd_mem hi)
    simp only [Lq83_x2, lq, s_toNn, Fq162]
    rw [ltl_t hi, br_t, ro_ (inRl hi), impl_IsValidEdit_ok _ (show (gd l i).fN.size <= maxLen by have := this.name; omega) (show (gd l i).fl_.fN.size <= maxLen by have := this.lname; omega), obs, obs, inc_nat (by omega)]
    show br (!okEdit (gd l i)) _ _ = _
    cases okEdit (gd l i) <;> rfl
theorem impl_isTransaction_ok (l : List TE) (h : l.length <= 10000000) (hs : ∀ e ∈ l, SmallE e) : Fq48 l = some (okTrans l) := by
  unfold Fq48 okTrans
  rw [containsEdit l h hs]
  simp only [eL_, le_one, le_eight, lq]
  cases decide (1 <= l.length) <;> cases decide (l.length <= 8) <;> cases l.all okEdit <;> rfl
def okStack (l : List (List TE)) : Bool := decide (l.length <= 6) && l.all okTrans
theorem spec_l13Stack_ok (l : List (List TE)) (h : SmallSS l) : Fq57 l = some (okStack l) := by
  have hl := h.len
  unfold Fq57 okStack
  rw [bind_of (scan (ok := fun i => okTrans (gd l i)) (n := l.length) (yes := .inr ()) (no := .inl ()) (fun i hi => ?_) ?_), range_all]
  · cases l.all okTrans with
    | false => simp
    | true =>
      simp only [if_true, eL_, le_lit l.length 6, Bool.and_true, show (6 : Int) = ((6 : Nat) : Int) from rfl]
  · simp only [Lq57_x2, lq]
    rw [ltl_f, br_f]
  · obtain ⟨r1, r2⟩ := h.row _ (gd_mem hi)
    simp only [Lq57_x2, lq, s_toNn]
    rw [ltl_t hi, br_t, ro_ (inRl hi), spec_l13Transaction_ok _ (by omega) r2, obs, inc_nat (by omega)]
    cases okTrans (gd l i) <;> rfl
theorem containsTrans (l : List (List TE)) (h : SmallSS l) : Fq127 l = some (!l.all okTrans) := by
  have hl := h.len
  unfold Fq127 Fq90
  rw [bind_of (scan_first (p := fun i => !okTrans (gd l i)) (n := l.length) (fun i hi => ?_) ?_)]
  · rw [<- range_any okTrans l, <- firstI_any]
    unfold firstI
    cases (List.range l.length).find? (fun i => !okTrans (gd l i)) <;> rfl
  · simp only [Lq90_x2, lq]
    rw [ltl_f, br_f]
  · obtain ⟨r1, r2⟩ := h.row _ (gd_mem hi)
    simp only [Lq90_x2, lq, s_toNn, Fq161]
    rw [ltl_t hi, br_t, ro_ (inRl hi), impl_isTransaction_ok _ (by omega) r2, obs, obs, inc_nat (by omega)]
    show br (!okTrans (gd l i)) _ _ = _
    cases okTrans (gd l i) <;> rfl
theorem impl_validHistory_ok (l : List (List TE)) (h : SmallSS l) : Fq41 l = some (okStack l) := by
  unfold Fq41 okStack
  rw [containsTrans l h]
  simp only [eL_, le_lit l.length 6, lq, show (6 : Int) = ((6 : Nat) : Int) from rfl]
  cases decide (l.length <= 6) <;> cases l.all okTrans <;> rfl
def okD (a : TD_) : Bool := okLib a.fr_ && (okStack a.fU && okStack a.fD)
theorem spec_l13Editor_ok (a : TD_) (h : SmallD a) : Fq53 a = some (okD a) := by
  unfold Fq53 okD
  rw [spec_IsValidLibrary_ok _ h.cur, spec_l13Stack_ok _ h.und, spec_l13Stack_ok _ h.red]
  cases okLib a.fr_ <;> cases okStack a.fU <;> cases okStack a.fD <;> rfl
theorem impl_validEditor_ok (a : TD_) (h : SmallD a) : Fq55 a = some (okD a) := by
  unfold Fq55 okD
  rw [impl_IsValidLibrary_ok _ h.cur, impl_validHistory_ok _ h.und, impl_validHistory_ok _ h.red]
  cases okLib a.fr_ <;> cases okStack a.fU <;> cases okStack a.fD <;> rfl
theorem okStack_len {l : List (List TE)} (h : okStack l = true) : l.length <= 6 := by
  unfold okStack at h
  simp only [Bool.and_eq_true, decide_eq_true_eq] at h
  exact h.1
theorem okStack_row {l : List (List TE)} (h : okStack l = true) : ∀ x ∈ l, okTrans x = true := by
  unfold okStack at h
  simp only [Bool.and_eq_true] at h
  exact List.all_eq_true.1 h.2
/-- copies -/
theorem cloneEdit_ok (l : List TE) (h : l.length <= 10000000) : Fq146 l = some l := by
  unfold Fq146 nilB
  have e : (letO ([] : List TE) fun l1 => req (std.room (std.nadd (len l1) (len l)) 184) <| letO (l1 ++ l) fun l3 => some l3) = some l := by
    simp only [lq]
    rw [ro_ (roomC (by rw [s_nadd, eL_, eL_]; simp; omega) (by omega)), List.nil_append]
  rw [e]
  by_cases h0 : l.length = 0
  · rw [List.length_eq_zero_iff.1 h0]; simp
  · rw [if_neg (by rw [eL_]; omega)]
theorem take_push {α : Type} [Inhabited α] (l : List α) (i : Nat) (h : i < l.length) : l.take i ++ [gd l i] = l.take (i + 1) := by
  rw [List.take_add_one, gd_lt h, List.getElem?_eq_getElem h]; rfl
theorem spec_l13CopyStack_ok (a : List (List TE)) (h : SmallSS a) : Fq46 a = some a := by
  have hl := h.len
  unfold Fq46
  refine Eq.trans (bind_of (while_from (r := a) (fun i => ((i : Int), a.take i)) a.length (by simp) (fun i hi => ?_) ?_)) rfl
  · obtain ⟨r1, r2⟩ := h.row _ (gd_mem hi)
    simp only [Lq46_x4, lq, s_toNn]
    rw [ltl_t hi, br_t, ro_ (inRl hi), ro_ (roomC (by rw [s_nadd, eL_, eL_]; simp; omega) (by omega)), ro_ (roomC (by rw [s_nadd, eL_, eL_]; simp; omega) (by omega)), obs, List.nil_append, take_push a i hi, inc_nat (by omega)]
  · simp only [Lq46_x4, lq]
    rw [ltl_f, br_f, List.take_length]
theorem impl_copyHistory_ok (a : List (List TE)) (h : SmallSS a) : Fq47 a = some a := by
  have hl := h.len
  unfold Fq47
  refine Eq.trans (bind_of (while_from (r := a) (fun i => ((i : Int), a.take i)) a.length (by simp) (fun i hi => ?_) ?_)) rfl
  · obtain ⟨r1, r2⟩ := h.row _ (gd_mem hi)
    simp only [Lq47_x4, lq, s_toNn]
    rw [ltl_t hi, br_t, ro_ (inRl hi), cloneEdit_ok _ (show (gd a i).length <= 10000000 by omega), obs, ro_ (roomC (by rw [s_nadd, eL_, eL_]; simp; omega) (by omega)), obs, take_push a i hi, inc_nat (by omega)]
  · simp only [Lq47_x4, lq]
    rw [ltl_f, br_f, List.take_length]
/-- what is pushed; the oldest goes when there are too many -/
def pushR (s : List (List TE)) (t : List TE) : List (List TE) := if 6 < s.length + 1 then (s ++ [t]).drop 1 else s ++ [t]
theorem spec_l13Push_ok (s : List (List TE)) (t : List TE) (h : SmallSS s) : Fq71 s t = some (pushR s t) := by
  have hl := h.len
  unfold Fq71 pushR
  rw [spec_l13CopyStack_ok s h]
  simp only [obs, lq]
  rw [ro_ (roomC (by simp only [s_nadd, eL_, List.length_cons, List.length_nil]; omega) (by omega)), obs, br_bool, s_ofN, eL_, s_lt]
  have e : (s ++ [t]).length = s.length + 1 := by simp
  by_cases h6 : 6 < s.length + 1
  · rw [if_pos (by rw [decide_eq_true_eq, e]; omega), if_pos h6]
    rw [ro_ (by rw [e]; exact ⟨by omega, by omega⟩), ro_ (by rw [e, s_toNn]; exact ⟨by omega, by omega⟩), ro_ (by rw [e]; exact ⟨by omega, by omega⟩)]
    simp only [e, s_toNn, s_nadd, s_nsub, show std.toN 1 = 1 from rfl, Nat.zero_add, Nat.add_sub_cancel, eL_, List.length_take, List.length_drop]
    rw [ro_ (by omega), ro_ (by omega), obs, List.take_of_length_le (by simp)]
  · rw [if_neg (by rw [decide_eq_true_eq, e]; omega), if_neg h6]
    rfl
theorem impl_push_ok (s : List (List TE)) (t : List TE) (h : SmallSS s) : Fq102 s t = some (pushR s t) := by
  have hl := h.len
  rw [<- spec_l13Push_ok s t h]
  unfold Fq71 Fq102
  rw [spec_l13CopyStack_ok s h, impl_copyHistory_ok s h]
/-- small inverses -/
theorem small_invE (a : TL) (e : TE) (h : SmallL a) (g : SmallE e) (hc : eCode a e = 0) : SmallE (invE a e) := by
  have hz : (ByteArray.mk #[]).size <= 1048576 := by decide
  have hz2 : zLa.fN.size <= 1048576 := by decide
  obtain ⟨hv, he, hcell⟩ := eCode_zero hc
  have hn : ∀ (h8 : e.fk_ ≠ 8), (gd a.fC e.fc.toNat).fN.size <= 1048576 := fun h8 => by
    obtain ⟨m, hm, hlt⟩ := hcell h8
    rw [hm, Int.toNat_natCast]
    exact (h.cell _ (gd_mem hlt)).name
  have hk := (okEdit_kind he).1
  unfold invE
  split
  · exact ⟨hz, hz2⟩
  split
  · exact ⟨hz, hz2⟩
  split
  · exact ⟨hz, hz2⟩
  split
  · rename_i h4
    have h8 : e.fk_ ≠ 8 := by omega
    obtain ⟨m, hm, hlt⟩ := hcell h8
    obtain ⟨i2, i4, i6⟩ := eCode_index hc hm hlt
    obtain ⟨q, hq, hq2⟩ := i4 h4
    refine ⟨hz, ?_⟩
    show (gd (gd a.fC e.fc.toNat).fL e.fx.toNat).fN.size <= 1048576
    rw [hm, hq, Int.toNat_natCast, Int.toNat_natCast]
    exact (h.cell _ (gd_mem hlt)).lnames _ (gd_mem hq2)
  split
  · exact ⟨hz, hz2⟩
  split
  · exact ⟨hz, hz2⟩
  split
  · rename_i h7; exact ⟨hn (by omega), hz2⟩
  split
  · exact ⟨hz, hz2⟩
  · rename_i h8; exact ⟨hn h8, hz2⟩
theorem small_back (l : List TE) (hE : ∀ e ∈ l, SmallE e) : ∀ (a : TL) (back : List TE) (i : Nat) (y : List TE × List TC), SmallL a -> (∀ e ∈ back, SmallE e) -> runs a back i l = .inr y -> (∀ e ∈ y.1, SmallE e) /\ y.1.length = back.length + l.length := by
  induction l with
  | nil => intro a back i y h hb hy; unfold runs at hy; injection hy with hy; subst hy; exact ⟨hb, by simp⟩
  | cons e r ih =>
    intro a back i y h hb hy
    unfold runs at hy
    split at hy
    · rename_i hc
      have hg := hE e (by simp)
      obtain ⟨g1, g2⟩ := ih (fun x hx => hE x (by simp [hx])) _ _ _ y (small_appE a e h hg hc) (fun x hx => by
        rcases List.mem_cons.1 hx with rfl | hx
        · exact small_invE a e h hg hc
        · exact hb x hx) hy
      exact ⟨g1, by rw [g2]; simp only [List.length_cons]; omega⟩
    · cases hy
theorem allR_back (a : TL) (l : List TE) (h : SmallL a) (hE : ∀ e ∈ l, SmallE e) : (∀ e ∈ (allR a l).2.1, SmallE e) /\ (allR a l).2.1.length <= 8 := by
  have hz : (∀ e ∈ ([] : List TE), SmallE e) /\ ([] : List TE).length <= 8 := ⟨fun e he => (by cases he), by simp⟩
  unfold allR
  split
  · split
    · rename_i hl
      cases hrr : runs a [] 0 l with
      | inl x => exact hz
      | inr y =>
        obtain ⟨g1, g2⟩ := small_back l hE a [] 0 y h (fun e he => by cases he) hrr
        exact ⟨g1, by show y.1.length <= 8; rw [g2]; simp only [List.length_nil]; omega⟩
    · exact hz
  · exact hz
theorem small_push {s : List (List TE)} {t : List TE} (h : SmallSS s) (hs : s.length <= 1000) (h1 : t.length <= 1048576) (h2 : ∀ e ∈ t, SmallE e) : SmallSS (pushR s t) := by
  have g : SmallSS (s ++ [t]) := ⟨by simp; omega, fun x hx => by
    rcases List.mem_append.1 hx with hx | hx
    · exact h.row x hx
    · rw [List.mem_singleton.1 hx]; exact ⟨h1, h2⟩⟩
  unfold pushR
  split
  · exact ⟨by have := g.len; rw [List.length_drop]; omega, fun x hx => g.row x (List.mem_of_mem_drop hx)⟩
  · exact g
/-- one transaction back: the library, the stack that it is taken from, the stack that it goes to, a code -/
def backR (a : TL) (u r : List (List TE)) : TL × List (List TE) × List (List TE) × Int :=
  if u.length = 0 then (⟨[]⟩, [], [], 5) else
  if (allR a (gd u (u.length - 1))).2.2.1 = 0 then ((allR a (gd u (u.length - 1))).1, u.take (u.length - 1), pushR r (allR a (gd u (u.length - 1))).2.1, 0) else (⟨[]⟩, [], [], (allR a (gd u (u.length - 1))).2.2.1)
theorem small_take {u : List (List TE)} (h : SmallSS u) (n : Nat) : SmallSS (u.take n) := ⟨by have := h.len; rw [List.length_take]; omega, fun x hx => h.row x (List.mem_of_mem_take hx)⟩
theorem spec_back_ok (a : TL) (u r : List (List TE)) (h : SmallL a) (hu : SmallSS u) (hr : SmallSS r) : Fq96 a u r = some (backR a u r) := by
  have hl := hu.len
  unfold Fq96 backR
  rw [br_bool, s_ofN, eL_]
  by_cases h0 : u.length = 0
  · rw [if_pos (by rw [h0]; exact eq_true' rfl), if_pos h0]
  · rw [if_neg (by rw [eq_false' (by omega)]; simp), if_neg h0]
    have e1 : std.sub .i64 (u.length : Int) 1 = ((u.length - 1 : Nat) : Int) := by rw [sub_id (by omega) (by omega)]; omega
    have hlt : u.length - 1 < u.length := by omega
    obtain ⟨r1, r2⟩ := hu.row _ (gd_mem hlt)
    rw [e1, ro_ (show std.inR ((u.length - 1 : Nat) : Int) u.length from inRl hlt), s_toNn, spec_l13All_ok a _ h r2, obs, br_bool, s_not]
    by_cases hc : (allR a (gd u (u.length - 1))).2.2.1 = 0
    · rw [if_pos hc, hc, if_neg (by rw [eq_true' rfl]; simp), ro_ ⟨by omega, by omega⟩, ro_ ⟨by omega, by omega⟩]
      simp only [lq]
      have e2 : subL u (std.toN 0) (u.length - 1) = u.take (u.length - 1) := by unfold subL; simp [show std.toN 0 = 0 from rfl]
      rw [e2, spec_l13CopyStack_ok _ (small_take hu _), obs, spec_l13Push_ok _ _ hr, obs]
    · rw [if_neg hc, if_pos (by rw [eq_false' hc]; rfl)]
theorem impl_back_ok (a : TL) (u r : List (List TE)) (h : SmallL a) (hu : SmallSS u) (hr : SmallSS r) : Fq93 a u r = some (backR a u r) := by
  have hl := hu.len
  unfold Fq93 backR
  rw [br_bool, s_ofN, eL_]
  by_cases h0 : u.length = 0
  · rw [if_pos (by rw [h0]; exact eq_true' rfl), if_pos h0]
  · rw [if_neg (by rw [eq_false' (by omega)]; simp), if_neg h0]
    have e1 : std.sub .i64 (u.length : Int) 1 = ((u.length - 1 : Nat) : Int) := by rw [sub_id (by omega) (by omega)]; omega
    have hlt : u.length - 1 < u.length := by omega
    obtain ⟨r1, r2⟩ := hu.row _ (gd_mem hlt)
    rw [e1, ro_ (show std.inR ((u.length - 1 : Nat) : Int) u.length from inRl hlt), s_toNn, impl_applyAll_ok a _ h r2, obs, br_bool, s_not]
    by_cases hc : (allR a (gd u (u.length - 1))).2.2.1 = 0
    · rw [if_pos hc, hc, if_neg (by rw [eq_true' rfl]; simp), ro_ ⟨by omega, by omega⟩, ro_ ⟨by omega, by omega⟩]
      simp only [lq]
      have e2 : subL u (std.toN 0) (u.length - 1) = u.take (u.length - 1) := by unfold subL; simp [show std.toN 0 = 0 from rfl]
      rw [e2, impl_copyHistory_ok _ (small_take hu _), obs, impl_push_ok _ _ hr, obs]
    · rw [if_neg hc, if_pos (by rw [eq_false' hc]; rfl)]
theorem small_nil : SmallSS [] := ⟨by simp, fun x hx => (by cases hx)⟩
theorem small_nilL : SmallL ⟨[]⟩ := ⟨by simp, fun x hx => (by cases hx)⟩
theorem backR_small (a : TL) (u r : List (List TE)) (h : SmallL a) (hu : SmallSS u) (hr : SmallSS r) (hr6 : r.length <= 1000) : SmallL (backR a u r).1 /\ SmallSS (backR a u r).2.1 /\ SmallSS (backR a u r).2.2.1 := by
  unfold backR
  split
  · exact ⟨small_nilL, small_nil, small_nil⟩
  · rename_i h0
    obtain ⟨r1, r2⟩ := hu.row _ (gd_mem (show u.length - 1 < u.length by omega))
    split
    · obtain ⟨g1, g2⟩ := allR_back a _ h r2
      exact ⟨allR_small a _ h r2, small_take hu _, small_push hr hr6 (by omega) g1⟩
    · exact ⟨small_nilL, small_nil, small_nil⟩
end
end Go.Proofs.YtohgghncmkiicaaGreat.AM
