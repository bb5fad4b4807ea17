/-
  What the functions that the law reaches compute, and that they do. No condition.
-/
import Derived.Test.YtohgghncmkiicaaGreatAnSZ
namespace Go.Proofs.YtohgghncmkiicaaGreat.AM
noncomputable section
open Go Go.Proofs Go.RowKit
set_option linter.unusedVariables false
set_option linter.unusedSimpArgs false
set_option maxRecDepth 100000

/- the inverse of an edit that is possible -/
def invE (a : TL) (e : TE) : TE :=
  if e.fk_ = 1 then ⟨2, e.fc, e.fx, ByteArray.mk #[], zSh, zLa, zIn⟩
  else if e.fk_ = 2 then ⟨1, e.fc, e.fx, ByteArray.mk #[], gd (gd a.fC e.fc.toNat).fS e.fx.toNat, zLa, zIn⟩
  else if e.fk_ = 3 then ⟨4, e.fc, e.fx, ByteArray.mk #[], zSh, zLa, zIn⟩
  else if e.fk_ = 4 then ⟨3, e.fc, e.fx, ByteArray.mk #[], zSh, gd (gd a.fC e.fc.toNat).fL e.fx.toNat, zIn⟩
  else if e.fk_ = 5 then ⟨6, e.fc, e.fx, ByteArray.mk #[], zSh, zLa, zIn⟩
  else if e.fk_ = 6 then ⟨5, e.fc, e.fx, ByteArray.mk #[], zSh, zLa, gd (gd a.fC e.fc.toNat).fI e.fx.toNat⟩
  else if e.fk_ = 7 then ⟨7, e.fc, e.fx, (gd a.fC e.fc.toNat).fN, zSh, zLa, zIn⟩
  else if e.fk_ = 8 then ⟨9, e.fc, e.fx, ByteArray.mk #[], zSh, zLa, zIn⟩
  else ⟨8, e.fc, e.fx, (gd a.fC e.fc.toNat).fN, zSh, zLa, zIn⟩
set_option maxHeartbeats 4000000 in
theorem spec_inverse_ok (a : TL) (e : TE) (hc : eCode a e = 0) : Fq33 a e = some (invE a e) := by
  obtain ⟨hv, he, hcell⟩ := eCode_zero hc
  obtain ⟨hk, h1, hi⟩ := okEdit_kind he
  by_cases h8 : e.fk_ = 8
  · obtain ⟨kind, cell, index, name, shape, label, inst⟩ := e
    simp only at h8
    subst h8
    rfl
  · obtain ⟨m, hm, hlt⟩ := hcell h8
    obtain ⟨i2, i4, i6⟩ := eCode_index hc hm hlt
    clear hc he hcell
    obtain ⟨kind, cell, index, name, shape, label, inst⟩ := e
    simp only at hk h1 hi h8 hm i2 i4 i6
    subst hm
    rcases hk with rfl | rfl | rfl | rfl | rfl | rfl | rfl | rfl | rfl
    · rfl
    · obtain ⟨q, rfl, hq⟩ := i2 rfl
      unfold Fq33
      simp only [s_toNn, ro_ (inRl hlt), ro_ (inRl hq)]
      rfl
    · rfl
    · obtain ⟨q, rfl, hq⟩ := i4 rfl
      unfold Fq33
      simp only [s_toNn, ro_ (inRl hlt), ro_ (inRl hq)]
      rfl
    · rfl
    · obtain ⟨q, rfl, hq⟩ := i6 rfl
      unfold Fq33
      simp only [s_toNn, ro_ (inRl hlt), ro_ (inRl hq)]
      rfl
    · unfold Fq33
      simp only [s_toNn, ro_ (inRl hlt)]
      rfl
    · exact absurd rfl h8
    · unfold Fq33
      simp only [s_toNn, ro_ (inRl hlt)]
      rfl
set_option maxHeartbeats 4000000 in
theorem impl_inverse_ok (a : TL) (e : TE) (hc : eCode a e = 0) : Fq38 a e = some (invE a e) := by
  obtain ⟨hv, he, hcell⟩ := eCode_zero hc
  obtain ⟨hk, h1, hi⟩ := okEdit_kind he
  by_cases h8 : e.fk_ = 8
  · obtain ⟨kind, cell, index, name, shape, label, inst⟩ := e
    simp only at h8
    subst h8
    rfl
  · obtain ⟨m, hm, hlt⟩ := hcell h8
    obtain ⟨i2, i4, i6⟩ := eCode_index hc hm hlt
    clear hc he hcell
    obtain ⟨kind, cell, index, name, shape, label, inst⟩ := e
    simp only at hk h1 hi h8 hm i2 i4 i6
    subst hm
    rcases hk with rfl | rfl | rfl | rfl | rfl | rfl | rfl | rfl | rfl
    · rfl
    · obtain ⟨q, rfl, hq⟩ := i2 rfl
      unfold Fq38
      simp only [s_toNn, ro_ (inRl hlt), ro_ (inRl hq)]
      rfl
    · rfl
    · obtain ⟨q, rfl, hq⟩ := i4 rfl
      unfold Fq38
      simp only [s_toNn, ro_ (inRl hlt), ro_ (inRl hq)]
      rfl
    · rfl
    · obtain ⟨q, rfl, hq⟩ := i6 rfl
      unfold Fq38
      simp only [s_toNn, ro_ (inRl hlt), ro_ (inRl hq)]
      rfl
    · unfold Fq38
      simp only [s_toNn, ro_ (inRl hlt)]
      rfl
    · exact absurd rfl h8
    · unfold Fq38
      simp only [s_toNn, ro_ (inRl hlt)]
      rfl
/- references to cells are shifted: both sides -/
def mid {α : Type} (g : α -> α) (l : List α) (i : Nat) : List α := (l.take i).map g ++ l.drop i
theorem mid_len {α : Type} (g : α -> α) (l : List α) (i : Nat) : (mid g l i).length = l.length := by
  simp [mid]; omega
theorem mid_all {α : Type} (g : α -> α) (l : List α) : mid g l l.length = l.map g := by simp [mid]
theorem mid_gd {α : Type} [Inhabited α] {g : α -> α} {l : List α} {i : Nat} (h : i < l.length) : gd (mid g l i) i = gd l i := by
  rw [gd_lt (show i < (mid g l i).length by rw [mid_len]; exact h), gd_lt h]
  unfold mid
  rw [List.getElem_append_right (by simp; omega)]
  simp [Nat.min_eq_left (Nat.le_of_lt h)]
theorem mid_set {α : Type} [Inhabited α] {g : α -> α} {l : List α} {i : Nat} (h : i < l.length) {x : α} (hx : x = g (gd l i)) : List.set (mid g l i) i x = mid g l (i + 1) := by
  subst hx
  unfold mid
  have hm : ((l.take i).map g).length = i := by simp; omega
  rw [List.set_append, if_neg (by omega), hm, Nat.sub_self, List.drop_eq_getElem_cons h, List.take_succ_eq_append_getElem h, gd_lt h, List.set_cons_zero, List.map_append, List.append_assoc]
  rfl
theorem mid_same {α : Type} [Inhabited α] {g : α -> α} {l : List α} {i : Nat} (h : i < l.length) (e : g (gd l i) = gd l i) : mid g l i = mid g l (i + 1) := by
  unfold mid
  rw [List.drop_eq_getElem_cons h, List.take_succ_eq_append_getElem h, <- gd_lt h]
  simp [e]
def shI (f b : Int) (i : TI) : TI := cond (std.le f i.fc) ⟨std.add .i64 i.fc b, i.fp, i.fK, i.fR, i.fu, i.fv⟩ i
def shC (f b : Int) (c : TC) : TC := ⟨c.fN, c.fS, c.fL, c.fI.map (shI f b)⟩
theorem spec_shiftIn (a : TL) (f b : Int) (k : Nat) (v2 : List TC) (hk : a.fC.length = v2.length) (hn : (gd v2 k).fI.length <= 10000000) :
    whileP (Lq30_x25 a f b (k : Int) v2) (0, (gd v2 k).fI) = some (v2.set k (shC f b (gd v2 k))) := by
  obtain ⟨c, hc⟩ : ∃ c, c = gd v2 k := ⟨_, rfl⟩
  rw [<- hc] at hn ⊢
  refine while_from (fun i => ((i : Int), mid (shI f b) c.fI i)) c.fI.length rfl (fun i hi => ?_) ?_
  · simp only [Lq30_x25, lq, obs, s_nadd, s_toNn, Nat.zero_add, <- hc, mid_gd hi]
    rw [ltl_t hi, br_t, ro_ (inRl hi), obs, inc_nat (by omega)]
    cases hle : std.le f (gd c.fI i).fc with
    | false =>
      simp only [br_f, obs]
      rw [mid_same hi (by unfold shI; rw [hle]; rfl)]
    | true =>
      simp only [br_t, obs, ro_ (inRl hi)]
      rw [ro_ (show len c.fI = len (mid (shI f b) c.fI i) by rw [eL_, eL_, mid_len]), obs, obs, mid_set hi (by unfold shI; rw [hle]; rfl)]
  · simp only [Lq30_x25, lq, obs, s_nadd, s_toNn, Nat.zero_add, <- hc]
    rw [ltl_f, br_f, mid_all, ro_ (show len c.fI = len (c.fI.map (shI f b)) by rw [eL_, eL_, List.length_map]), ro_ (show len a.fC = len v2 from hk)]
    rfl
theorem impl_shiftIn (a : TL) (f b : Int) (k : Nat) (v2 : List TC) (hk : a.fC.length = v2.length) (hn : (gd v2 k).fI.length <= 10000000) :
    whileP (Lq32_x34 a f b (k : Int) v2 (std.ofN (len (gd v2 k).fI))) (0, (gd v2 k).fI) = some (v2.set k (shC f b (gd v2 k))) := by
  obtain ⟨c, hc⟩ : ∃ c, c = gd v2 k := ⟨_, rfl⟩
  rw [<- hc] at hn ⊢
  refine while_from (fun i => ((i : Int), mid (shI f b) c.fI i)) c.fI.length rfl (fun i hi => ?_) ?_
  · simp only [Lq32_x34, lq, obs, s_nadd, s_toNn, Nat.zero_add, <- hc, mid_gd hi]
    rw [ltl_t hi, br_t, ro_ (inRl hi), obs, inc_nat (by omega)]
    cases hle : std.le f (gd c.fI i).fc with
    | false =>
      simp only [br_f, obs]
      rw [mid_same hi (by unfold shI; rw [hle]; rfl)]
    | true =>
      simp only [br_t, obs, ro_ (inRl hi)]
      rw [ro_ (show len c.fI = len (mid (shI f b) c.fI i) by rw [eL_, eL_, mid_len]), obs, obs, mid_set hi (by unfold shI; rw [hle]; rfl)]
  · simp only [Lq32_x34, lq, obs, s_nadd, s_toNn, Nat.zero_add, <- hc]
    rw [ltl_f, br_f, mid_all, ro_ (show len c.fI = len (c.fI.map (shI f b)) by rw [eL_, eL_, List.length_map]), ro_ (show len a.fC = len v2 from hk)]
    rfl
theorem spec_l13Shift_ok (a : TL) (f b : Int) (h : SmallL a) : Fq30 a f b = some (a.fC.map (shC f b)) := by
  have hc := h.cells
  unfold Fq30
  refine Eq.trans (bind_of (while_from (r := a.fC.map (shC f b)) (fun i => ((i : Int), mid (shC f b) a.fC i)) a.fC.length rfl (fun i hi => ?_) ?_)) ?_
  · have hi2 := (h.cell _ (gd_mem hi)).insts
    simp only [Lq30_x3, lq, obs, s_nadd, s_toNn, Nat.zero_add]
    rw [ltl_t hi, br_t, ro_ (inRl hi), ro_ (inRl hi), obs, spec_shiftIn a f b i _ (by rw [mid_len]) (by rw [mid_gd hi]; omega), obs, inc_nat (by omega), mid_gd hi, mid_set hi rfl]
  · simp only [Lq30_x3, lq]
    rw [ltl_f, br_f, mid_all]
  · simp only [lq]
    rw [ro_ (by rw [eL_, eL_, List.length_map])]
theorem impl_renumber_ok (a : TL) (f b : Int) (h : SmallL a) : Fq32 a f b = some (a.fC.map (shC f b)) := by
  have hc := h.cells
  unfold Fq32
  refine Eq.trans (bind_of (while_from (r := a.fC.map (shC f b)) (fun i => ((i : Int), mid (shC f b) a.fC i)) a.fC.length rfl (fun i hi => ?_) ?_)) ?_
  · have hi2 := (h.cell _ (gd_mem hi)).insts
    simp only [Lq32_x3, lq, obs, s_nadd, s_toNn, Nat.zero_add]
    rw [ltl_t hi, br_t, ro_ (inRl hi), ro_ (inRl hi), obs, impl_shiftIn a f b i _ (by rw [mid_len]) (by rw [mid_gd hi]; omega), obs, inc_nat (by omega), mid_gd hi, mid_set hi rfl]
  · simp only [Lq32_x3, lq]
    rw [ltl_f, br_f, mid_all]
  · simp only [lq]
    rw [ro_ (by rw [eL_, eL_, List.length_map])]
/- an edit that is possible: both sides -/
def insA {α : Type} (l : List α) (i : Nat) (x : α) : List α := l.take i ++ [x] ++ l.drop i
def delA {α : Type} (l : List α) (i : Nat) : List α := l.take i ++ l.drop (i + 1)
def edC (e : TE) (c : TC) : TC :=
  if e.fk_ = 1 then ⟨c.fN, insA c.fS e.fx.toNat e.fs_, c.fL, c.fI⟩
  else if e.fk_ = 2 then ⟨c.fN, delA c.fS e.fx.toNat, c.fL, c.fI⟩
  else if e.fk_ = 3 then ⟨c.fN, c.fS, insA c.fL e.fx.toNat e.fl_, c.fI⟩
  else if e.fk_ = 4 then ⟨c.fN, c.fS, delA c.fL e.fx.toNat, c.fI⟩
  else if e.fk_ = 5 then ⟨c.fN, c.fS, c.fL, insA c.fI e.fx.toNat e.fi_⟩
  else if e.fk_ = 6 then ⟨c.fN, c.fS, c.fL, delA c.fI e.fx.toNat⟩
  else if e.fk_ = 7 then ⟨e.fN, c.fS, c.fL, c.fI⟩
  else c
def appE (a : TL) (e : TE) : TL :=
  if e.fk_ = 8 then ⟨insA (a.fC.map (shC e.fc 1)) e.fc.toNat ⟨e.fN, [], [], []⟩⟩
  else if e.fk_ = 9 then ⟨(delA a.fC e.fc.toNat).map (shC e.fc (-1))⟩
  else ⟨a.fC.set e.fc.toNat (edC e (gd a.fC e.fc.toNat))⟩
theorem insC_zero {i : Int} {n : Nat} {m : Int} (h : insC i n m = 0) : i <= n /\ (n : Int) ≠ m := by
  unfold insC at h
  by_cases h1 : (n : Int) < i
  · rw [if_pos h1] at h; exact absurd h (by decide)
  · rw [if_neg h1] at h
    by_cases h2 : (n : Int) = m
    · rw [if_pos h2] at h; exact absurd h (by decide)
    · exact ⟨by omega, h2⟩
/-- where an insertion may stand -/
theorem eCode_ins {a : TL} {e : TE} {m : Nat} (hc : eCode a e = 0) (hm : e.fc = (m : Int)) (hlt : m < a.fC.length) : (e.fk_ = 1 -> e.fx <= ((gd a.fC m).fS.length : Int) /\ ((gd a.fC m).fS.length : Int) ≠ 24) /\ (e.fk_ = 3 -> e.fx <= ((gd a.fC m).fL.length : Int) /\ ((gd a.fC m).fL.length : Int) ≠ 8) /\ (e.fk_ = 5 -> (e.fx <= ((gd a.fC m).fI.length : Int) /\ ((gd a.fC m).fI.length : Int) ≠ 8) /\ e.fi_.fc < e.fc) := by
  obtain ⟨hv, he, _⟩ := eCode_zero hc
  unfold eCode at hc
  rw [if_neg (by rw [hv, he]; decide)] at hc
  have hn : ¬ (a.fC.length : Int) <= e.fc := by omega
  have ht : e.fc.toNat = m := by omega
  rw [ht] at hc
  refine ⟨fun hk => ?_, fun hk => ?_, fun hk => ?_⟩
  · rw [if_neg (by omega), if_neg hn, if_pos hk] at hc; exact insC_zero hc
  · rw [if_neg (by omega), if_neg hn, if_neg (by omega), if_neg (by omega), if_pos hk] at hc; exact insC_zero hc
  · rw [if_neg (by omega), if_neg hn, if_neg (by omega), if_neg (by omega), if_neg (by omega), if_neg (by omega), if_pos hk] at hc
    by_cases h1 : insC e.fx (gd a.fC m).fI.length 8 = 0 /\ e.fc <= e.fi_.fc
    · rw [if_pos h1] at hc; exact absurd hc (by decide)
    · rw [if_neg h1] at hc
      exact ⟨insC_zero hc, by by_cases h2 : e.fc <= e.fi_.fc; exact absurd ⟨hc, h2⟩ h1; omega⟩
theorem eCode_cell {a : TL} {e : TE} (hc : eCode a e = 0) (hk : e.fk_ = 8) : e.fc <= (a.fC.length : Int) /\ (a.fC.length : Int) ≠ 8 /\ othN a.fC (-1) e.fN = false := by
  obtain ⟨hv, he, _⟩ := eCode_zero hc
  unfold eCode at hc
  rw [if_neg (by rw [hv, he]; decide), if_pos hk] at hc
  by_cases h1 : (a.fC.length : Int) < e.fc
  · rw [if_pos h1] at hc; exact absurd hc (by decide)
  · rw [if_neg h1] at hc
    by_cases h2 : (a.fC.length : Int) = 8
    · rw [if_pos h2] at hc; exact absurd hc (by decide)
    · rw [if_neg h2] at hc
      refine ⟨by omega, h2, ?_⟩
      cases h3 : othN a.fC (-1) e.fN with
      | false => rfl
      | true => rw [h3, if_pos rfl] at hc; exact absurd hc (by decide)
theorem room_of {n b : Nat} (hn : n <= 1000000) (hb : b <= 1000) : std.room n b := roomC (by omega) hb
theorem small_ins {a : TL} (h : SmallL a) (m : Nat) (s : ByteArray) (hs : s.size <= 1048576) (hn : a.fC.length <= 1000) : SmallL ⟨List.take m a.fC ++ [⟨s, [], [], []⟩] ++ List.drop m a.fC⟩ := by
  refine ⟨by simp only [List.length_append, List.length_take, List.length_drop, List.length_cons, List.length_nil]; omega, fun c hc => ?_⟩
  simp only [List.mem_append, List.mem_singleton] at hc
  rcases hc with (hc | rfl) | hc
  · exact h.cell c (List.mem_of_mem_take hc)
  · exact ⟨hs, by simp, by simp, by simp, by simp⟩
  · exact h.cell c (List.mem_of_mem_drop hc)
theorem small_del {a : TL} (h : SmallL a) (m : Nat) : SmallL ⟨delA a.fC m⟩ := by
  have hl := h.cells
  refine ⟨by simp only [delA, List.length_append, List.length_take, List.length_drop]; omega, fun c hc => ?_⟩
  simp only [delA, List.mem_append] at hc
  rcases hc with hc | hc
  · exact h.cell c (List.mem_of_mem_take hc)
  · exact h.cell c (List.mem_of_mem_drop hc)
theorem insA_map {f b : Int} (l : List TC) (m : Nat) (s : ByteArray) : List.map (shC f b) (List.take m l ++ [⟨s, [], [], []⟩] ++ List.drop m l) = insA (l.map (shC f b)) m ⟨s, [], [], []⟩ := by
  unfold insA
  rw [List.map_append, List.map_append, List.map_take, List.map_drop]
  rfl
set_option maxHeartbeats 4000000 in
theorem spec_l13Do_ok (a : TL) (e : TE) (h : SmallL a) (g : SmallE e) (hc : eCode a e = 0) : Fq112 a e = some (appE a e) := by
  have hcl := h.cells
  obtain ⟨hv, he, hcell⟩ := eCode_zero hc
  obtain ⟨hk, h1, hi⟩ := okEdit_kind he
  have hl := okLib_len hv
  obtain ⟨m, hm⟩ := Int.eq_ofNat_of_zero_le h1
  obtain ⟨q, hq⟩ := Int.eq_ofNat_of_zero_le hi
  unfold Fq112
  by_cases h8 : e.fk_ = 8
  · obtain ⟨c1, c2, _⟩ := eCode_cell hc h8
    rw [hm] at c1
    unfold appE
    rw [if_pos h8, h8, hm, show std.eq (8 : Int) 8 = true from rfl, br_t]
    rw [spec_l13Shift_ok a _ _ h, obs]
    obtain ⟨L, hL⟩ : ∃ L, L = a.fC.map (shC (m : Int) 1) := ⟨_, rfl⟩
    have hLl : L.length = a.fC.length := by rw [hL, List.length_map]
    rw [<- hL]
    simp only [br_f, br_t, obs, lq, s_ofN, s_toNn, s_nadd, s_nsub, Nat.zero_add, eL_, List.nil_append, show std.toN 0 = 0 from rfl, Nat.sub_zero, List.drop_zero, List.length_append, List.length_take, List.length_drop, List.length_cons, List.length_nil, List.length_map]
    rw [<- hLl]
    have c3 : m <= L.length := by omega
    repeat (rw [ro_]; rotate_left; focus (first | trivial | exact ⟨by omega, by omega⟩ | exact room_of (by omega) (by omega) | omega))
    rw [Int.toNat_natCast]
    unfold insA
    rw [List.take_of_length_le (l := List.drop m L) (by simp)]
  · obtain ⟨m2, hm2, hlt⟩ := hcell h8
    obtain rfl : m = m2 := by omega
    clear hm2
    by_cases h9 : e.fk_ = 9
    · unfold appE
      rw [if_neg h8, if_pos h9, h9, hm, show std.eq (9 : Int) 8 = false from rfl, show std.eq (9 : Int) 9 = true from rfl, br_f, br_t]
      have hm1 : std.add .i64 (m : Int) 1 = ((m + 1 : Nat) : Int) := inc_nat (by omega)
      simp only [hm1, br_f, br_t, obs, lq, s_ofN, s_toNn, s_nadd, s_nsub, Nat.zero_add, eL_, List.nil_append, show std.toN 0 = 0 from rfl, Nat.sub_zero, List.drop_zero, List.length_append, List.length_take, List.length_drop, List.length_cons, List.length_nil, List.length_map]
      have ed : List.take m a.fC ++ List.take (a.fC.length - (m + 1)) (List.drop (m + 1) a.fC) = delA a.fC m := by
        unfold delA
        rw [List.take_of_length_le (l := List.drop (m + 1) a.fC) (by simp)]
      rw [ed, spec_l13Shift_ok ⟨delA a.fC m⟩ _ _ (small_del h m), obs]
      have hdl : (delA a.fC m).length = a.fC.length - 1 := by unfold delA; simp; omega
      simp only [List.length_map]
      repeat (rw [ro_]; rotate_left; focus (first | trivial | exact ⟨by omega, by omega⟩ | exact room_of (by omega) (by omega) | omega))
      rw [Int.toNat_natCast]
    · have hk7 : e.fk_ = 1 \/ e.fk_ = 2 \/ e.fk_ = 3 \/ e.fk_ = 4 \/ e.fk_ = 5 \/ e.fk_ = 6 \/ e.fk_ = 7 := by omega
      unfold appE
      rw [if_neg h8, if_neg h9]
      obtain ⟨d2, d4, d6⟩ := eCode_index hc hm hlt
      obtain ⟨n1, n3, n5⟩ := eCode_ins hc hm hlt
      obtain ⟨b1, b2, b3⟩ := okLib_cell hv hlt
      have hq1 : q <= 1000 -> std.add .i64 (q : Int) 1 = ((q + 1 : Nat) : Int) := fun hh => inc_nat (by omega)
      have hin : std.inR (m : Int) a.fC.length := ⟨by omega, by omega⟩
      clear hcell h8 h9 hk hc
      obtain ⟨kind, cell, index, name, shape, label, inst⟩ := e
      simp only at hk7 hm hq d2 d4 d6 n1 n3 n5 ⊢
      subst hm hq
      obtain ⟨c, hcd⟩ : ∃ c, c = gd a.fC m := ⟨_, rfl⟩
      rw [<- hcd] at d2 d4 d6 n1 n3 n5 b1 b2 b3
      have hgd : gd a.fC (Int.toNat (m : Int)) = c := by rw [Int.toNat_natCast, hcd]
      have hset : ∀ x : TC, (a.fC.set m x).length = a.fC.length := fun x => List.length_set
      rcases hk7 with rfl | rfl | rfl | rfl | rfl | rfl | rfl
      · obtain ⟨j1, j2⟩ := n1 rfl
        simp only [edC, hgd, Int.toNat_natCast, Int.reduceEq, if_true, if_false, eq_self]
        simp only [show std.eq (1 : Int) 1 = true from rfl, show std.eq (1 : Int) 2 = false from rfl, show std.eq (1 : Int) 3 = false from rfl, show std.eq (1 : Int) 4 = false from rfl, show std.eq (1 : Int) 5 = false from rfl, show std.eq (1 : Int) 6 = false from rfl, show std.eq (1 : Int) 7 = false from rfl, show std.eq (1 : Int) 8 = false from rfl, show std.eq (1 : Int) 9 = false from rfl, br_f, br_t, obs, lq, s_ofN, s_toNn, s_nadd, s_nsub, Nat.zero_add, eL_, List.nil_append, show std.toN 0 = 0 from rfl, Nat.sub_zero, List.drop_zero, List.length_append, List.length_take, List.length_drop, List.length_cons, List.length_nil, List.length_map, <- hcd, hset]
        repeat (rw [ro_]; rotate_left; focus (first | trivial | exact ⟨by omega, by omega⟩ | exact room_of (by omega) (by omega) | omega))
        unfold insA
        rw [List.take_of_length_le (l := List.drop q c.fS) (by simp)]
        all_goals (try simp only [show std.eq (1 : Int) 1 = true from rfl, show std.eq (1 : Int) 2 = false from rfl, show std.eq (1 : Int) 3 = false from rfl, show std.eq (1 : Int) 4 = false from rfl, show std.eq (1 : Int) 5 = false from rfl, show std.eq (1 : Int) 6 = false from rfl, show std.eq (1 : Int) 7 = false from rfl, show std.eq (1 : Int) 8 = false from rfl, show std.eq (1 : Int) 9 = false from rfl, br_f, br_t, obs, lq, s_ofN, s_toNn, s_nadd, s_nsub, Nat.zero_add, eL_, List.nil_append, show std.toN 0 = 0 from rfl, Nat.sub_zero, List.drop_zero, List.length_append, List.length_take, List.length_drop, List.length_cons, List.length_nil, List.length_map, <- hcd, hset])
        all_goals (repeat (rw [ro_]; rotate_left; focus (first | trivial | exact ⟨by omega, by omega⟩ | exact room_of (by omega) (by omega) | omega)))
        all_goals (try simp only [show std.eq (1 : Int) 1 = true from rfl, show std.eq (1 : Int) 2 = false from rfl, show std.eq (1 : Int) 3 = false from rfl, show std.eq (1 : Int) 4 = false from rfl, show std.eq (1 : Int) 5 = false from rfl, show std.eq (1 : Int) 6 = false from rfl, show std.eq (1 : Int) 7 = false from rfl, show std.eq (1 : Int) 8 = false from rfl, show std.eq (1 : Int) 9 = false from rfl, br_f, br_t, obs, lq, s_ofN, s_toNn, s_nadd, s_nsub, Nat.zero_add, eL_, List.nil_append, show std.toN 0 = 0 from rfl, Nat.sub_zero, List.drop_zero, List.length_append, List.length_take, List.length_drop, List.length_cons, List.length_nil, List.length_map, <- hcd, hset])
        all_goals (repeat (rw [ro_]; rotate_left; focus (first | trivial | exact ⟨by omega, by omega⟩ | exact room_of (by omega) (by omega) | omega)))
      · obtain ⟨q2, j1, j2⟩ := d2 rfl
        obtain rfl : q = q2 := by omega
        simp only [edC, hgd, Int.toNat_natCast, Int.reduceEq, if_true, if_false, eq_self]
        simp only [show std.eq (2 : Int) 1 = false from rfl, show std.eq (2 : Int) 2 = true from rfl, show std.eq (2 : Int) 3 = false from rfl, show std.eq (2 : Int) 4 = false from rfl, show std.eq (2 : Int) 5 = false from rfl, show std.eq (2 : Int) 6 = false from rfl, show std.eq (2 : Int) 7 = false from rfl, show std.eq (2 : Int) 8 = false from rfl, show std.eq (2 : Int) 9 = false from rfl, hq1 (show q <= 1000 by omega), br_f, br_t, obs, lq, s_ofN, s_toNn, s_nadd, s_nsub, Nat.zero_add, eL_, List.nil_append, show std.toN 0 = 0 from rfl, Nat.sub_zero, List.drop_zero, List.length_append, List.length_take, List.length_drop, List.length_cons, List.length_nil, List.length_map, <- hcd, hset]
        repeat (rw [ro_]; rotate_left; focus (first | trivial | exact ⟨by omega, by omega⟩ | exact room_of (by omega) (by omega) | omega))
        unfold delA
        rw [List.take_of_length_le (l := List.drop (q + 1) c.fS) (by simp)]
        all_goals (try simp only [show std.eq (2 : Int) 1 = false from rfl, show std.eq (2 : Int) 2 = true from rfl, show std.eq (2 : Int) 3 = false from rfl, show std.eq (2 : Int) 4 = false from rfl, show std.eq (2 : Int) 5 = false from rfl, show std.eq (2 : Int) 6 = false from rfl, show std.eq (2 : Int) 7 = false from rfl, show std.eq (2 : Int) 8 = false from rfl, show std.eq (2 : Int) 9 = false from rfl, hq1 (show q <= 1000 by omega), br_f, br_t, obs, lq, s_ofN, s_toNn, s_nadd, s_nsub, Nat.zero_add, eL_, List.nil_append, show std.toN 0 = 0 from rfl, Nat.sub_zero, List.drop_zero, List.length_append, List.length_take, List.length_drop, List.length_cons, List.length_nil, List.length_map, <- hcd, hset])
        all_goals (repeat (rw [ro_]; rotate_left; focus (first | trivial | exact ⟨by omega, by omega⟩ | exact room_of (by omega) (by omega) | omega)))
        all_goals (try simp only [show std.eq (2 : Int) 1 = false from rfl, show std.eq (2 : Int) 2 = true from rfl, show std.eq (2 : Int) 3 = false from rfl, show std.eq (2 : Int) 4 = false from rfl, show std.eq (2 : Int) 5 = false from rfl, show std.eq (2 : Int) 6 = false from rfl, show std.eq (2 : Int) 7 = false from rfl, show std.eq (2 : Int) 8 = false from rfl, show std.eq (2 : Int) 9 = false from rfl, hq1 (show q <= 1000 by omega), br_f, br_t, obs, lq, s_ofN, s_toNn, s_nadd, s_nsub, Nat.zero_add, eL_, List.nil_append, show std.toN 0 = 0 from rfl, Nat.sub_zero, List.drop_zero, List.length_append, List.length_take, List.length_drop, List.length_cons, List.length_nil, List.length_map, <- hcd, hset])
        all_goals (repeat (rw [ro_]; rotate_left; focus (first | trivial | exact ⟨by omega, by omega⟩ | exact room_of (by omega) (by omega) | omega)))
      · obtain ⟨j1, j2⟩ := n3 rfl
        simp only [edC, hgd, Int.toNat_natCast, Int.reduceEq, if_true, if_false, eq_self]
        simp only [show std.eq (3 : Int) 1 = false from rfl, show std.eq (3 : Int) 2 = false from rfl, show std.eq (3 : Int) 3 = true from rfl, show std.eq (3 : Int) 4 = false from rfl, show std.eq (3 : Int) 5 = false from rfl, show std.eq (3 : Int) 6 = false from rfl, show std.eq (3 : Int) 7 = false from rfl, show std.eq (3 : Int) 8 = false from rfl, show std.eq (3 : Int) 9 = false from rfl, br_f, br_t, obs, lq, s_ofN, s_toNn, s_nadd, s_nsub, Nat.zero_add, eL_, List.nil_append, show std.toN 0 = 0 from rfl, Nat.sub_zero, List.drop_zero, List.length_append, List.length_take, List.length_drop, List.length_cons, List.length_nil, List.length_map, <- hcd, hset]
        repeat (rw [ro_]; rotate_left; focus (first | trivial | exact ⟨by omega, by omega⟩ | exact room_of (by omega) (by omega) | omega))
        unfold insA
        rw [List.take_of_length_le (l := List.drop q c.fL) (by simp)]
        all_goals (try simp only [show std.eq (3 : Int) 1 = false from rfl, show std.eq (3 : Int) 2 = false from rfl, show std.eq (3 : Int) 3 = true from rfl, show std.eq (3 : Int) 4 = false from rfl, show std.eq (3 : Int) 5 = false from rfl, show std.eq (3 : Int) 6 = false from rfl, show std.eq (3 : Int) 7 = false from rfl, show std.eq (3 : Int) 8 = false from rfl, show std.eq (3 : Int) 9 = false from rfl, br_f, br_t, obs, lq, s_ofN, s_toNn, s_nadd, s_nsub, Nat.zero_add, eL_, List.nil_append, show std.toN 0 = 0 from rfl, Nat.sub_zero, List.drop_zero, List.length_append, List.length_take, List.length_drop, List.length_cons, List.length_nil, List.length_map, <- hcd, hset])
        all_goals (repeat (rw [ro_]; rotate_left; focus (first | trivial | exact ⟨by omega, by omega⟩ | exact room_of (by omega) (by omega) | omega)))
        all_goals (try simp only [show std.eq (3 : Int) 1 = false from rfl, show std.eq (3 : Int) 2 = false from rfl, show std.eq (3 : Int) 3 = true from rfl, show std.eq (3 : Int) 4 = false from rfl, show std.eq (3 : Int) 5 = false from rfl, show std.eq (3 : Int) 6 = false from rfl, show std.eq (3 : Int) 7 = false from rfl, show std.eq (3 : Int) 8 = false from rfl, show std.eq (3 : Int) 9 = false from rfl, br_f, br_t, obs, lq, s_ofN, s_toNn, s_nadd, s_nsub, Nat.zero_add, eL_, List.nil_append, show std.toN 0 = 0 from rfl, Nat.sub_zero, List.drop_zero, List.length_append, List.length_take, List.length_drop, List.length_cons, List.length_nil, List.length_map, <- hcd, hset])
        all_goals (repeat (rw [ro_]; rotate_left; focus (first | trivial | exact ⟨by omega, by omega⟩ | exact room_of (by omega) (by omega) | omega)))
      · obtain ⟨q2, j1, j2⟩ := d4 rfl
        obtain rfl : q = q2 := by omega
        simp only [edC, hgd, Int.toNat_natCast, Int.reduceEq, if_true, if_false, eq_self]
        simp only [show std.eq (4 : Int) 1 = false from rfl, show std.eq (4 : Int) 2 = false from rfl, show std.eq (4 : Int) 3 = false from rfl, show std.eq (4 : Int) 4 = true from rfl, show std.eq (4 : Int) 5 = false from rfl, show std.eq (4 : Int) 6 = false from rfl, show std.eq (4 : Int) 7 = false from rfl, show std.eq (4 : Int) 8 = false from rfl, show std.eq (4 : Int) 9 = false from rfl, hq1 (show q <= 1000 by omega), br_f, br_t, obs, lq, s_ofN, s_toNn, s_nadd, s_nsub, Nat.zero_add, eL_, List.nil_append, show std.toN 0 = 0 from rfl, Nat.sub_zero, List.drop_zero, List.length_append, List.length_take, List.length_drop, List.length_cons, List.length_nil, List.length_map, <- hcd, hset]
        repeat (rw [ro_]; rotate_left; focus (first | trivial | exact ⟨by omega, by omega⟩ | exact room_of (by omega) (by omega) | omega))
        unfold delA
        rw [List.take_of_length_le (l := List.drop (q + 1) c.fL) (by simp)]
        all_goals (try simp only [show std.eq (4 : Int) 1 = false from rfl, show std.eq (4 : Int) 2 = false from rfl, show std.eq (4 : Int) 3 = false from rfl, show std.eq (4 : Int) 4 = true from rfl, show std.eq (4 : Int) 5 = false from rfl, show std.eq (4 : Int) 6 = false from rfl, show std.eq (4 : Int) 7 = false from rfl, show std.eq (4 : Int) 8 = false from rfl, show std.eq (4 : Int) 9 = false from rfl, hq1 (show q <= 1000 by omega), br_f, br_t, obs, lq, s_ofN, s_toNn, s_nadd, s_nsub, Nat.zero_add, eL_, List.nil_append, show std.toN 0 = 0 from rfl, Nat.sub_zero, List.drop_zero, List.length_append, List.length_take, List.length_drop, List.length_cons, List.length_nil, List.length_map, <- hcd, hset])
        all_goals (repeat (rw [ro_]; rotate_left; focus (first | trivial | exact ⟨by omega, by omega⟩ | exact room_of (by omega) (by omega) | omega)))
        all_goals (try simp only [show std.eq (4 : Int) 1 = false from rfl, show std.eq (4 : Int) 2 = false from rfl, show std.eq (4 : Int) 3 = false from rfl, show std.eq (4 : Int) 4 = true from rfl, show std.eq (4 : Int) 5 = false from rfl, show std.eq (4 : Int) 6 = false from rfl, show std.eq (4 : Int) 7 = false from rfl, show std.eq (4 : Int) 8 = false from rfl, show std.eq (4 : Int) 9 = false from rfl, hq1 (show q <= 1000 by omega), br_f, br_t, obs, lq, s_ofN, s_toNn, s_nadd, s_nsub, Nat.zero_add, eL_, List.nil_append, show std.toN 0 = 0 from rfl, Nat.sub_zero, List.drop_zero, List.length_append, List.length_take, List.length_drop, List.length_cons, List.length_nil, List.length_map, <- hcd, hset])
        all_goals (repeat (rw [ro_]; rotate_left; focus (first | trivial | exact ⟨by omega, by omega⟩ | exact room_of (by omega) (by omega) | omega)))
      · obtain ⟨⟨j1, j2⟩, _⟩ := n5 rfl
        simp only [edC, hgd, Int.toNat_natCast, Int.reduceEq, if_true, if_false, eq_self]
        simp only [show std.eq (5 : Int) 1 = false from rfl, show std.eq (5 : Int) 2 = false from rfl, show std.eq (5 : Int) 3 = false from rfl, show std.eq (5 : Int) 4 = false from rfl, show std.eq (5 : Int) 5 = true from rfl, show std.eq (5 : Int) 6 = false from rfl, show std.eq (5 : Int) 7 = false from rfl, show std.eq (5 : Int) 8 = false from rfl, show std.eq (5 : Int) 9 = false from rfl, br_f, br_t, obs, lq, s_ofN, s_toNn, s_nadd, s_nsub, Nat.zero_add, eL_, List.nil_append, show std.toN 0 = 0 from rfl, Nat.sub_zero, List.drop_zero, List.length_append, List.length_take, List.length_drop, List.length_cons, List.length_nil, List.length_map, <- hcd, hset]
        repeat (rw [ro_]; rotate_left; focus (first | trivial | exact ⟨by omega, by omega⟩ | exact room_of (by omega) (by omega) | omega))
        unfold insA
        rw [List.take_of_length_le (l := List.drop q c.fI) (by simp)]
        all_goals (try simp only [show std.eq (5 : Int) 1 = false from rfl, show std.eq (5 : Int) 2 = false from rfl, show std.eq (5 : Int) 3 = false from rfl, show std.eq (5 : Int) 4 = false from rfl, show std.eq (5 : Int) 5 = true from rfl, show std.eq (5 : Int) 6 = false from rfl, show std.eq (5 : Int) 7 = false from rfl, show std.eq (5 : Int) 8 = false from rfl, show std.eq (5 : Int) 9 = false from rfl, br_f, br_t, obs, lq, s_ofN, s_toNn, s_nadd, s_nsub, Nat.zero_add, eL_, List.nil_append, show std.toN 0 = 0 from rfl, Nat.sub_zero, List.drop_zero, List.length_append, List.length_take, List.length_drop, List.length_cons, List.length_nil, List.length_map, <- hcd, hset])
        all_goals (repeat (rw [ro_]; rotate_left; focus (first | trivial | exact ⟨by omega, by omega⟩ | exact room_of (by omega) (by omega) | omega)))
        all_goals (try simp only [show std.eq (5 : Int) 1 = false from rfl, show std.eq (5 : Int) 2 = false from rfl, show std.eq (5 : Int) 3 = false from rfl, show std.eq (5 : Int) 4 = false from rfl, show std.eq (5 : Int) 5 = true from rfl, show std.eq (5 : Int) 6 = false from rfl, show std.eq (5 : Int) 7 = false from rfl, show std.eq (5 : Int) 8 = false from rfl, show std.eq (5 : Int) 9 = false from rfl, br_f, br_t, obs, lq, s_ofN, s_toNn, s_nadd, s_nsub, Nat.zero_add, eL_, List.nil_append, show std.toN 0 = 0 from rfl, Nat.sub_zero, List.drop_zero, List.length_append, List.length_take, List.length_drop, List.length_cons, List.length_nil, List.length_map, <- hcd, hset])
        all_goals (repeat (rw [ro_]; rotate_left; focus (first | trivial | exact ⟨by omega, by omega⟩ | exact room_of (by omega) (by omega) | omega)))
      · obtain ⟨q2, j1, j2⟩ := d6 rfl
        obtain rfl : q = q2 := by omega
        simp only [edC, hgd, Int.toNat_natCast, Int.reduceEq, if_true, if_false, eq_self]
        simp only [show std.eq (6 : Int) 1 = false from rfl, show std.eq (6 : Int) 2 = false from rfl, show std.eq (6 : Int) 3 = false from rfl, show std.eq (6 : Int) 4 = false from rfl, show std.eq (6 : Int) 5 = false from rfl, show std.eq (6 : Int) 6 = true from rfl, show std.eq (6 : Int) 7 = false from rfl, show std.eq (6 : Int) 8 = false from rfl, show std.eq (6 : Int) 9 = false from rfl, hq1 (show q <= 1000 by omega), br_f, br_t, obs, lq, s_ofN, s_toNn, s_nadd, s_nsub, Nat.zero_add, eL_, List.nil_append, show std.toN 0 = 0 from rfl, Nat.sub_zero, List.drop_zero, List.length_append, List.length_take, List.length_drop, List.length_cons, List.length_nil, List.length_map, <- hcd, hset]
        repeat (rw [ro_]; rotate_left; focus (first | trivial | exact ⟨by omega, by omega⟩ | exact room_of (by omega) (by omega) | omega))
        unfold delA
        rw [List.take_of_length_le (l := List.drop (q + 1) c.fI) (by simp)]
        all_goals (try simp only [show std.eq (6 : Int) 1 = false from rfl, show std.eq (6 : Int) 2 = false from rfl, show std.eq (6 : Int) 3 = false from rfl, show std.eq (6 : Int) 4 = false from rfl, show std.eq (6 : Int) 5 = false from rfl, show std.eq (6 : Int) 6 = true from rfl, show std.eq (6 : Int) 7 = false from rfl, show std.eq (6 : Int) 8 = false from rfl, show std.eq (6 : Int) 9 = false from rfl, hq1 (show q <= 1000 by omega), br_f, br_t, obs, lq, s_ofN, s_toNn, s_nadd, s_nsub, Nat.zero_add, eL_, List.nil_append, show std.toN 0 = 0 from rfl, Nat.sub_zero, List.drop_zero, List.length_append, List.length_take, List.length_drop, List.length_cons, List.length_nil, List.length_map, <- hcd, hset])
        all_goals (repeat (rw [ro_]; rotate_left; focus (first | trivial | exact ⟨by omega, by omega⟩ | exact room_of (by omega) (by omega) | omega)))
        all_goals (try simp only [show std.eq (6 : Int) 1 = false from rfl, show std.eq (6 : Int) 2 = false from rfl, show std.eq (6 : Int) 3 = false from rfl, show std.eq (6 : Int) 4 = false from rfl, show std.eq (6 : Int) 5 = false from rfl, show std.eq (6 : Int) 6 = true from rfl, show std.eq (6 : Int) 7 = false from rfl, show std.eq (6 : Int) 8 = false from rfl, show std.eq (6 : Int) 9 = false from rfl, hq1 (show q <= 1000 by omega), br_f, br_t, obs, lq, s_ofN, s_toNn, s_nadd, s_nsub, Nat.zero_add, eL_, List.nil_append, show std.toN 0 = 0 from rfl, Nat.sub_zero, List.drop_zero, List.length_append, List.length_take, List.length_drop, List.length_cons, List.length_nil, List.length_map, <- hcd, hset])
        all_goals (repeat (rw [ro_]; rotate_left; focus (first | trivial | exact ⟨by omega, by omega⟩ | exact room_of (by omega) (by omega) | omega)))
      · simp only [edC, hgd, Int.toNat_natCast, Int.reduceEq, if_true, if_false, eq_self]
        simp only [show std.eq (7 : Int) 1 = false from rfl, show std.eq (7 : Int) 2 = false from rfl, show std.eq (7 : Int) 3 = false from rfl, show std.eq (7 : Int) 4 = false from rfl, show std.eq (7 : Int) 5 = false from rfl, show std.eq (7 : Int) 6 = false from rfl, show std.eq (7 : Int) 7 = true from rfl, show std.eq (7 : Int) 8 = false from rfl, show std.eq (7 : Int) 9 = false from rfl, br_f, br_t, obs, lq, s_ofN, s_toNn, s_nadd, s_nsub, Nat.zero_add, eL_, List.nil_append, show std.toN 0 = 0 from rfl, Nat.sub_zero, List.drop_zero, List.length_append, List.length_take, List.length_drop, List.length_cons, List.length_nil, List.length_map, <- hcd, hset]
        repeat (rw [ro_]; rotate_left; focus (first | trivial | exact ⟨by omega, by omega⟩ | exact room_of (by omega) (by omega) | omega))
        all_goals (try simp only [show std.eq (7 : Int) 1 = false from rfl, show std.eq (7 : Int) 2 = false from rfl, show std.eq (7 : Int) 3 = false from rfl, show std.eq (7 : Int) 4 = false from rfl, show std.eq (7 : Int) 5 = false from rfl, show std.eq (7 : Int) 6 = false from rfl, show std.eq (7 : Int) 7 = true from rfl, show std.eq (7 : Int) 8 = false from rfl, show std.eq (7 : Int) 9 = false from rfl, br_f, br_t, obs, lq, s_ofN, s_toNn, s_nadd, s_nsub, Nat.zero_add, eL_, List.nil_append, show std.toN 0 = 0 from rfl, Nat.sub_zero, List.drop_zero, List.length_append, List.length_take, List.length_drop, List.length_cons, List.length_nil, List.length_map, <- hcd, hset])
        all_goals (repeat (rw [ro_]; rotate_left; focus (first | trivial | exact ⟨by omega, by omega⟩ | exact room_of (by omega) (by omega) | omega)))
        all_goals (try simp only [show std.eq (7 : Int) 1 = false from rfl, show std.eq (7 : Int) 2 = false from rfl, show std.eq (7 : Int) 3 = false from rfl, show std.eq (7 : Int) 4 = false from rfl, show std.eq (7 : Int) 5 = false from rfl, show std.eq (7 : Int) 6 = false from rfl, show std.eq (7 : Int) 7 = true from rfl, show std.eq (7 : Int) 8 = false from rfl, show std.eq (7 : Int) 9 = false from rfl, br_f, br_t, obs, lq, s_ofN, s_toNn, s_nadd, s_nsub, Nat.zero_add, eL_, List.nil_append, show std.toN 0 = 0 from rfl, Nat.sub_zero, List.drop_zero, List.length_append, List.length_take, List.length_drop, List.length_cons, List.length_nil, List.length_map, <- hcd, hset])
        all_goals (repeat (rw [ro_]; rotate_left; focus (first | trivial | exact ⟨by omega, by omega⟩ | exact room_of (by omega) (by omega) | omega)))
set_option maxHeartbeats 4000000 in
theorem impl_edited_ok (a : TL) (e : TE) (h : SmallL a) (g : SmallE e) (hc : eCode a e = 0) : Fq130 a e = some (appE a e) := by
  have hcl := h.cells
  obtain ⟨hv, he, hcell⟩ := eCode_zero hc
  obtain ⟨hk, h1, hi⟩ := okEdit_kind he
  have hl := okLib_len hv
  obtain ⟨m, hm⟩ := Int.eq_ofNat_of_zero_le h1
  obtain ⟨q, hq⟩ := Int.eq_ofNat_of_zero_le hi
  unfold Fq130
  rw [impl_copyLibrary_ok a h, obs]
  by_cases h8 : e.fk_ = 8
  · obtain ⟨c1, c2, _⟩ := eCode_cell hc h8
    rw [hm] at c1
    unfold appE
    rw [if_pos h8, h8, hm, show std.eq (8 : Int) 8 = true from rfl, br_t]
    have c3 : m <= a.fC.length := by omega
    simp only [lq]
    unfold Fq41
    rw [if_pos ⟨by omega, by omega, by simp, by simp; omega⟩, obs, Int.toNat_natCast]
    rw [impl_renumber_ok _ _ _ (small_ins h m e.fN (by have := g.name; omega) (by omega)), obs]
    rw [ro_ (by simp [eL_]), ro_ (by simp [eL_])]
    rw [insA_map]
  · obtain ⟨m2, hm2, hlt⟩ := hcell h8
    obtain rfl : m = m2 := by omega
    clear hm2
    by_cases h9 : e.fk_ = 9
    · unfold appE
      rw [if_neg h8, if_pos h9, h9, hm, show std.eq (9 : Int) 8 = false from rfl, show std.eq (9 : Int) 9 = true from rfl, br_f, br_t]
      have hm1 : std.add .i64 (m : Int) 1 = ((m + 1 : Nat) : Int) := inc_nat (by omega)
      unfold Fq160 Fq105
      rw [hm1, if_pos ⟨by omega, by omega, by omega⟩, obs, obs, Int.toNat_natCast, Int.toNat_natCast]
      rw [show List.take m a.fC ++ List.drop (m + 1) a.fC = delA a.fC m from rfl, impl_renumber_ok ⟨delA a.fC m⟩ _ _ (small_del h m), obs]
      rw [ro_ (by simp [eL_]), ro_ (by simp [eL_])]
    · have hk7 : e.fk_ = 1 \/ e.fk_ = 2 \/ e.fk_ = 3 \/ e.fk_ = 4 \/ e.fk_ = 5 \/ e.fk_ = 6 \/ e.fk_ = 7 := by omega
      unfold appE
      rw [if_neg h8, if_neg h9]
      obtain ⟨d2, d4, d6⟩ := eCode_index hc hm hlt
      obtain ⟨n1, n3, n5⟩ := eCode_ins hc hm hlt
      obtain ⟨b1, b2, b3⟩ := okLib_cell hv hlt
      have hq1 : q <= 1000 -> std.add .i64 (q : Int) 1 = ((q + 1 : Nat) : Int) := fun hh => inc_nat (by omega)
      have hin : std.inR (m : Int) a.fC.length := ⟨by omega, by omega⟩
      clear hcell h8 h9 hk hc
      obtain ⟨kind, cell, index, name, shape, label, inst⟩ := e
      simp only at hk7 hm hq d2 d4 d6 n1 n3 n5 ⊢
      subst hm hq
      obtain ⟨c, hcd⟩ : ∃ c, c = gd a.fC m := ⟨_, rfl⟩
      rw [<- hcd] at d2 d4 d6 n1 n3 n5 b1 b2 b3
      have hgd : gd a.fC (Int.toNat (m : Int)) = c := by rw [Int.toNat_natCast, hcd]
      have hset : ∀ x : TC, (a.fC.set m x).length = a.fC.length := fun x => List.length_set
      rcases hk7 with rfl | rfl | rfl | rfl | rfl | rfl | rfl
      · obtain ⟨j1, j2⟩ := n1 rfl
        simp only [edC, hgd, Int.toNat_natCast, Int.reduceEq, if_true, if_false, eq_self]
        have ei : Fq35 c.fS (q : Int) [shape] = some (insA c.fS q shape) := by
          unfold Fq35
          rw [if_pos ⟨by omega, by omega, by simp, by simp; omega⟩, Int.toNat_natCast]
          rfl
        simp only [show std.eq (1 : Int) 1 = true from rfl, show std.eq (1 : Int) 2 = false from rfl, show std.eq (1 : Int) 3 = false from rfl, show std.eq (1 : Int) 4 = false from rfl, show std.eq (1 : Int) 5 = false from rfl, show std.eq (1 : Int) 6 = false from rfl, show std.eq (1 : Int) 7 = false from rfl, show std.eq (1 : Int) 8 = false from rfl, show std.eq (1 : Int) 9 = false from rfl, ei, br_f, br_t, obs, lq, s_ofN, s_toNn, s_nadd, s_nsub, Nat.zero_add, eL_, List.nil_append, show std.toN 0 = 0 from rfl, Nat.sub_zero, List.drop_zero, List.length_append, List.length_take, List.length_drop, List.length_cons, List.length_nil, List.length_map, <- hcd, hset]
        repeat (rw [ro_]; rotate_left; focus (first | trivial | exact ⟨by omega, by omega⟩ | exact room_of (by omega) (by omega) | omega))
      · obtain ⟨q2, j1, j2⟩ := d2 rfl
        obtain rfl : q = q2 := by omega
        simp only [edC, hgd, Int.toNat_natCast, Int.reduceEq, if_true, if_false, eq_self]
        have ei : Fq143 c.fS (q : Int) = some (delA c.fS q) := by
          unfold Fq143 Fq107
          rw [hq1 (by omega), if_pos ⟨by omega, by omega, by omega⟩, Int.toNat_natCast, Int.toNat_natCast]
          rfl
        simp only [show std.eq (2 : Int) 1 = false from rfl, show std.eq (2 : Int) 2 = true from rfl, show std.eq (2 : Int) 3 = false from rfl, show std.eq (2 : Int) 4 = false from rfl, show std.eq (2 : Int) 5 = false from rfl, show std.eq (2 : Int) 6 = false from rfl, show std.eq (2 : Int) 7 = false from rfl, show std.eq (2 : Int) 8 = false from rfl, show std.eq (2 : Int) 9 = false from rfl, hq1 (show q <= 1000 by omega), ei, br_f, br_t, obs, lq, s_ofN, s_toNn, s_nadd, s_nsub, Nat.zero_add, eL_, List.nil_append, show std.toN 0 = 0 from rfl, Nat.sub_zero, List.drop_zero, List.length_append, List.length_take, List.length_drop, List.length_cons, List.length_nil, List.length_map, <- hcd, hset]
        repeat (rw [ro_]; rotate_left; focus (first | trivial | exact ⟨by omega, by omega⟩ | exact room_of (by omega) (by omega) | omega))
      · obtain ⟨j1, j2⟩ := n3 rfl
        simp only [edC, hgd, Int.toNat_natCast, Int.reduceEq, if_true, if_false, eq_self]
        have ei : Fq36 c.fL (q : Int) [label] = some (insA c.fL q label) := by
          unfold Fq36
          rw [if_pos ⟨by omega, by omega, by simp, by simp; omega⟩, Int.toNat_natCast]
          rfl
        simp only [show std.eq (3 : Int) 1 = false from rfl, show std.eq (3 : Int) 2 = false from rfl, show std.eq (3 : Int) 3 = true from rfl, show std.eq (3 : Int) 4 = false from rfl, show std.eq (3 : Int) 5 = false from rfl, show std.eq (3 : Int) 6 = false from rfl, show std.eq (3 : Int) 7 = false from rfl, show std.eq (3 : Int) 8 = false from rfl, show std.eq (3 : Int) 9 = false from rfl, ei, br_f, br_t, obs, lq, s_ofN, s_toNn, s_nadd, s_nsub, Nat.zero_add, eL_, List.nil_append, show std.toN 0 = 0 from rfl, Nat.sub_zero, List.drop_zero, List.length_append, List.length_take, List.length_drop, List.length_cons, List.length_nil, List.length_map, <- hcd, hset]
        repeat (rw [ro_]; rotate_left; focus (first | trivial | exact ⟨by omega, by omega⟩ | exact room_of (by omega) (by omega) | omega))
      · obtain ⟨q2, j1, j2⟩ := d4 rfl
        obtain rfl : q = q2 := by omega
        simp only [edC, hgd, Int.toNat_natCast, Int.reduceEq, if_true, if_false, eq_self]
        have ei : Fq135 c.fL (q : Int) = some (delA c.fL q) := by
          unfold Fq135 Fq106
          rw [hq1 (by omega), if_pos ⟨by omega, by omega, by omega⟩, Int.toNat_natCast, Int.toNat_natCast]
          rfl
        simp only [show std.eq (4 : Int) 1 = false from rfl, show std.eq (4 : Int) 2 = false from rfl, show std.eq (4 : Int) 3 = false from rfl, show std.eq (4 : Int) 4 = true from rfl, show std.eq (4 : Int) 5 = false from rfl, show std.eq (4 : Int) 6 = false from rfl, show std.eq (4 : Int) 7 = false from rfl, show std.eq (4 : Int) 8 = false from rfl, show std.eq (4 : Int) 9 = false from rfl, hq1 (show q <= 1000 by omega), ei, br_f, br_t, obs, lq, s_ofN, s_toNn, s_nadd, s_nsub, Nat.zero_add, eL_, List.nil_append, show std.toN 0 = 0 from rfl, Nat.sub_zero, List.drop_zero, List.length_append, List.length_take, List.length_drop, List.length_cons, List.length_nil, List.length_map, <- hcd, hset]
        repeat (rw [ro_]; rotate_left; focus (first | trivial | exact ⟨by omega, by omega⟩ | exact room_of (by omega) (by omega) | omega))
      · obtain ⟨⟨j1, j2⟩, _⟩ := n5 rfl
        simp only [edC, hgd, Int.toNat_natCast, Int.reduceEq, if_true, if_false, eq_self]
        have ei : Fq37 c.fI (q : Int) [inst] = some (insA c.fI q inst) := by
          unfold Fq37
          rw [if_pos ⟨by omega, by omega, by simp, by simp; omega⟩, Int.toNat_natCast]
          rfl
        simp only [show std.eq (5 : Int) 1 = false from rfl, show std.eq (5 : Int) 2 = false from rfl, show std.eq (5 : Int) 3 = false from rfl, show std.eq (5 : Int) 4 = false from rfl, show std.eq (5 : Int) 5 = true from rfl, show std.eq (5 : Int) 6 = false from rfl, show std.eq (5 : Int) 7 = false from rfl, show std.eq (5 : Int) 8 = false from rfl, show std.eq (5 : Int) 9 = false from rfl, ei, br_f, br_t, obs, lq, s_ofN, s_toNn, s_nadd, s_nsub, Nat.zero_add, eL_, List.nil_append, show std.toN 0 = 0 from rfl, Nat.sub_zero, List.drop_zero, List.length_append, List.length_take, List.length_drop, List.length_cons, List.length_nil, List.length_map, <- hcd, hset]
        repeat (rw [ro_]; rotate_left; focus (first | trivial | exact ⟨by omega, by omega⟩ | exact room_of (by omega) (by omega) | omega))
      · obtain ⟨q2, j1, j2⟩ := d6 rfl
        obtain rfl : q = q2 := by omega
        simp only [edC, hgd, Int.toNat_natCast, Int.reduceEq, if_true, if_false, eq_self]
        have ei : Fq110 c.fI (q : Int) = some (delA c.fI q) := by
          unfold Fq110 Fq108
          rw [hq1 (by omega), if_pos ⟨by omega, by omega, by omega⟩, Int.toNat_natCast, Int.toNat_natCast]
          rfl
        simp only [show std.eq (6 : Int) 1 = false from rfl, show std.eq (6 : Int) 2 = false from rfl, show std.eq (6 : Int) 3 = false from rfl, show std.eq (6 : Int) 4 = false from rfl, show std.eq (6 : Int) 5 = false from rfl, show std.eq (6 : Int) 6 = true from rfl, show std.eq (6 : Int) 7 = false from rfl, show std.eq (6 : Int) 8 = false from rfl, show std.eq (6 : Int) 9 = false from rfl, hq1 (show q <= 1000 by omega), ei, br_f, br_t, obs, lq, s_ofN, s_toNn, s_nadd, s_nsub, Nat.zero_add, eL_, List.nil_append, show std.toN 0 = 0 from rfl, Nat.sub_zero, List.drop_zero, List.length_append, List.length_take, List.length_drop, List.length_cons, List.length_nil, List.length_map, <- hcd, hset]
        repeat (rw [ro_]; rotate_left; focus (first | trivial | exact ⟨by omega, by omega⟩ | exact room_of (by omega) (by omega) | omega))
      · simp only [edC, hgd, Int.toNat_natCast, Int.reduceEq, if_true, if_false, eq_self]
        simp only [show std.eq (7 : Int) 1 = false from rfl, show std.eq (7 : Int) 2 = false from rfl, show std.eq (7 : Int) 3 = false from rfl, show std.eq (7 : Int) 4 = false from rfl, show std.eq (7 : Int) 5 = false from rfl, show std.eq (7 : Int) 6 = false from rfl, show std.eq (7 : Int) 7 = true from rfl, show std.eq (7 : Int) 8 = false from rfl, show std.eq (7 : Int) 9 = false from rfl, br_f, br_t, obs, lq, s_ofN, s_toNn, s_nadd, s_nsub, Nat.zero_add, eL_, List.nil_append, show std.toN 0 = 0 from rfl, Nat.sub_zero, List.drop_zero, List.length_append, List.length_take, List.length_drop, List.length_cons, List.length_nil, List.length_map, <- hcd, hset]
        repeat (rw [ro_]; rotate_left; focus (first | trivial | exact ⟨by omega, by omega⟩ | exact room_of (by omega) (by omega) | omega))
/- ApplyEdit: both sides -/
theorem wBi (x a b : Int) : wB x a b = true ↔ (a <= x /\ x <= b) := by
  unfold wB
  rw [Bool.and_eq_true]
  show (decide (a <= x) = true /\ decide (x <= b) = true) ↔ _
  rw [decide_eq_true_eq, decide_eq_true_eq]
theorem insA_len {α : Type} (l : List α) (i : Nat) (x : α) : (insA l i x).length = l.length + 1 := by
  unfold insA
  simp only [List.length_append, List.length_take, List.length_drop, List.length_cons, List.length_nil]
  omega
theorem delA_len {α : Type} (l : List α) (i : Nat) : (delA l i).length <= l.length := by
  unfold delA
  simp only [List.length_append, List.length_take, List.length_drop]
  omega
theorem insA_mem {α : Type} {l : List α} {i : Nat} {x y : α} (h : y ∈ insA l i x) : y ∈ l \/ y = x := by
  unfold insA at h
  simp only [List.mem_append, List.mem_singleton] at h
  rcases h with (h | h) | h
  · exact .inl (List.mem_of_mem_take h)
  · exact .inr h
  · exact .inl (List.mem_of_mem_drop h)
theorem delA_mem {α : Type} {l : List α} {i : Nat} {y : α} (h : y ∈ delA l i) : y ∈ l := by
  unfold delA at h
  rw [List.mem_append] at h
  rcases h with h | h
  · exact List.mem_of_mem_take h
  · exact List.mem_of_mem_drop h
theorem small_shC {c : TC} (h : SmallC c) (f b : Int) : SmallC (shC f b c) :=
  ⟨h.name, h.shapes, h.labels, by show (c.fI.map _).length <= _; rw [List.length_map]; exact h.insts, h.lnames⟩
theorem small_edC {c : TC} {e : TE} (h : SmallC c) (g : SmallE e) (h1 : c.fS.length <= 1000) (h2 : c.fL.length <= 1000) (h3 : c.fI.length <= 1000) : SmallC (edC e c) := by
  have i1 := insA_len c.fS e.fx.toNat e.fs_
  have i2 := insA_len c.fL e.fx.toNat e.fl_
  have i3 := insA_len c.fI e.fx.toNat e.fi_
  have d1 := delA_len c.fS e.fx.toNat
  have d2 := delA_len c.fL e.fx.toNat
  have d3 := delA_len c.fI e.fx.toNat
  unfold edC
  split
  · exact ⟨h.name, by simp only; omega, h.labels, h.insts, h.lnames⟩
  split
  · exact ⟨h.name, by simp only; omega, h.labels, h.insts, h.lnames⟩
  split
  · refine ⟨h.name, h.shapes, by simp only; omega, h.insts, fun l hl => ?_⟩
    rcases insA_mem hl with hl | rfl
    · exact h.lnames l hl
    · exact g.lname
  split
  · exact ⟨h.name, h.shapes, by simp only; omega, h.insts, fun l hl => h.lnames l (delA_mem hl)⟩
  split
  · exact ⟨h.name, h.shapes, h.labels, by simp only; omega, h.lnames⟩
  split
  · exact ⟨h.name, h.shapes, h.labels, by simp only; omega, h.lnames⟩
  split
  · exact ⟨g.name, h.shapes, h.labels, h.insts, h.lnames⟩
  · exact h
theorem small_appE (a : TL) (e : TE) (h : SmallL a) (g : SmallE e) (hc : eCode a e = 0) : SmallL (appE a e) := by
  have hcl := h.cells
  obtain ⟨hv, he, hcell⟩ := eCode_zero hc
  have hl := okLib_len hv
  unfold appE
  split
  · refine ⟨by rw [insA_len, List.length_map]; omega, fun c hm => ?_⟩
    rcases insA_mem hm with hm | rfl
    · obtain ⟨c0, h0, rfl⟩ := List.mem_map.1 hm
      exact small_shC (h.cell _ h0) _ _
    · exact ⟨g.name, by simp, by simp, by simp, by simp⟩
  split
  · refine ⟨by rw [List.length_map]; have := delA_len a.fC e.fc.toNat; omega, fun c hm => ?_⟩
    obtain ⟨c0, h0, rfl⟩ := List.mem_map.1 hm
    exact small_shC (h.cell _ (delA_mem h0)) _ _
  · rename_i h8 h9
    obtain ⟨m, hm, hlt⟩ := hcell h8
    obtain ⟨b1, b2, b3⟩ := okLib_cell hv hlt
    have ht : e.fc.toNat = m := by omega
    rw [ht]
    refine ⟨by rw [List.length_set]; exact hcl, fun c hm => ?_⟩
    rcases List.mem_or_eq_of_mem_set hm with hm | rfl
    · exact h.cell c hm
    · exact small_edC (h.cell _ (gd_mem hlt)) g (by omega) (by omega) (by omega)
def apR (a : TL) (e : TE) : TL × Int := if eCode a e = 0 then (appE a e, 0) else (⟨[]⟩, eCode a e)
theorem apR_small (a : TL) (e : TE) (h : SmallL a) (g : SmallE e) : SmallL (apR a e).1 := by
  unfold apR
  split
  · rename_i hc; exact small_appE a e h g hc
  · exact ⟨by simp, fun c hc => by cases hc⟩
/- transactions: both sides -/
theorem inv_both (a : TL) (e : TE) (hc : eCode a e = 0) : Fq33 a e = some (invE a e) /\ Fq38 a e = some (invE a e) := ⟨spec_inverse_ok a e hc, impl_inverse_ok a e hc⟩
/-- a transaction's edits one after the other; back: what undoes those that are done -/
def runs (a : TL) (back : List TE) (i : Nat) : List TE -> (Int × Int) ⊕ (List TE × List TC)
  | [] => .inr (back, a.fC)
  | e :: r => if eCode a e = 0 then runs (appE a e) (invE a e :: back) (i + 1) r else .inl (eCode a e, (i : Int))
theorem spec_runs (l : List TE) (hl : l.length <= 8) (hE : ∀ e ∈ l, SmallE e) : ∀ (m i : Nat) (a : TL) (back : List TE), i + m = l.length -> SmallL a -> back.length <= i ->
    whileP (Lq62_x12 l) ((i : Int), back, a.fC) = some (match runs a back i (l.drop i) with | .inl x => .inl x | .inr y => .inr y) := by
  intro m
  induction m with
  | zero =>
    intro i a back hi ha hb
    have : i = l.length := by omega
    subst this
    rw [whileP_unfold]
    simp only [Lq62_x12, lq]
    rw [ltl_f, br_f, List.drop_length]
    rfl
  | succ m ih =>
    intro i a back hi ha hb
    have hil : i < l.length := by omega
    have hd : l.drop i = gd l i :: l.drop (i + 1) := by rw [List.drop_eq_getElem_cons hil, gd_lt hil]
    have hg := hE _ (gd_mem hil)
    rw [whileP_unfold, hd]
    simp only [Lq62_x12, lq, s_toNn]
    rw [ltl_t hil, br_t, ro_ (inRl hil), show TL.mk a.fC = a from rfl, spec_l13Code_ok a _ ha hg, obs]
    unfold runs
    by_cases hc : eCode a (gd l i) = 0
    · rw [if_pos hc, hc, notEq (eq_true' rfl), br_f, ro_ (inRl hil), (inv_both a _ hc).1, obs, ro_ (room_of (by rw [s_nadd, eL_, eL_]; simp only [List.length_cons, List.length_nil]; omega) (by omega)), ro_ (inRl hil), spec_l13Do_ok a _ ha hg hc, obs]
      have := ih (i + 1) (appE a (gd l i)) (invE a (gd l i) :: back) (by omega) (small_appE a _ ha hg hc) (by simp only [List.length_cons]; omega)
      rw [inc_nat (by omega)]
      exact this
    · rw [if_neg hc, eq_false' hc, s_not, Bool.not_false, br_t]
theorem impl_runs (l : List TE) (hl : l.length <= 8) (hE : ∀ e ∈ l, SmallE e) : ∀ (m i : Nat) (a : TL) (back : List TE), i + m = l.length -> SmallL a -> back.length <= i ->
    whileP (Lq53_x18 l) ((i : Int), back.reverse, a.fC) = some (match runs a back i (l.drop i) with | .inl x => .inl x | .inr y => .inr (y.1.reverse, y.2)) := by
  intro m
  induction m with
  | zero =>
    intro i a back hi ha hb
    have : i = l.length := by omega
    subst this
    rw [whileP_unfold]
    simp only [Lq53_x18, lq]
    rw [ltl_f, br_f, List.drop_length]
    rfl
  | succ m ih =>
    intro i a back hi ha hb
    have hil : i < l.length := by omega
    have hd : l.drop i = gd l i :: l.drop (i + 1) := by rw [List.drop_eq_getElem_cons hil, gd_lt hil]
    have hg := hE _ (gd_mem hil)
    rw [whileP_unfold, hd]
    simp only [Lq53_x18, lq, s_toNn]
    rw [ltl_t hil, br_t, ro_ (inRl hil), show TL.mk a.fC = a from rfl, impl_editCode_ok a _ ha hg, obs]
    unfold runs
    by_cases hc : eCode a (gd l i) = 0
    · rw [if_pos hc, hc, notEq (eq_true' rfl), br_f, (inv_both a _ hc).2, obs, ro_ (room_of (by rw [s_nadd, eL_, eL_]; simp only [List.length_cons, List.length_nil, List.length_reverse]; omega) (by omega)), impl_edited_ok a _ ha hg hc, obs]
      have := ih (i + 1) (appE a (gd l i)) (invE a (gd l i) :: back) (by omega) (small_appE a _ ha hg hc) (by simp only [List.length_cons]; omega)
      rw [inc_nat (by omega), <- List.reverse_cons]
      exact this
    · rw [if_neg hc, eq_false' hc, s_not, Bool.not_false, br_t]
/- slices.Reverse -/
def rv {α : Type} [Inhabited α] (l : List α) (k : Nat) : List α := (List.range l.length).map fun p => if p < k \/ l.length <= p + k then gd l (l.length - 1 - p) else gd l p
theorem rv_len {α : Type} [Inhabited α] (l : List α) (k : Nat) : (rv l k).length = l.length := by simp [rv]
theorem rv_gd {α : Type} [Inhabited α] {l : List α} {k p : Nat} (h : p < l.length) : gd (rv l k) p = if p < k \/ l.length <= p + k then gd l (l.length - 1 - p) else gd l p := by
  rw [gd_lt (show p < (rv l k).length by rw [rv_len]; exact h)]
  simp [rv]
theorem rv_zero {α : Type} [Inhabited α] (l : List α) : rv l 0 = l := by
  apply List.ext_getElem (rv_len l 0)
  intro p h1 h2
  rw [<- gd_lt h1, rv_gd h2, if_neg (by omega), gd_lt h2]
theorem rv_end {α : Type} [Inhabited α] (l : List α) (k : Nat) (h : l.length <= 2 * k + 1) : rv l k = l.reverse := by
  apply List.ext_getElem (by rw [rv_len, List.length_reverse])
  intro p h1 h2
  have h3 : p < l.length := by rw [rv_len] at h1; exact h1
  rw [<- gd_lt h1, rv_gd h3, List.getElem_reverse, <- gd_lt (show l.length - 1 - p < l.length by omega)]
  by_cases hc : p < k \/ l.length <= p + k
  · rw [if_pos hc]
  · rw [if_neg hc]
    have : l.length - 1 - p = p := by omega
    rw [this]
theorem rv_step {α : Type} [Inhabited α] (l : List α) (k : Nat) (h : 2 * k + 2 <= l.length) : List.set (List.set (rv l k) k (gd (rv l k) (l.length - 1 - k))) (l.length - 1 - k) (gd (rv l k) k) = rv l (k + 1) := by
  apply List.ext_getElem (by rw [List.length_set, List.length_set, rv_len, rv_len])
  intro p h1 h2
  have h3 : p < l.length := by rw [rv_len] at h2; exact h2
  have h4 : p < (rv l k).length := by rw [rv_len]; exact h3
  rw [List.getElem_set, List.getElem_set, <- gd_lt h2, <- gd_lt h4, rv_gd h3, rv_gd h3, rv_gd (show l.length - 1 - k < l.length by omega), rv_gd (show k < l.length by omega)]
  rw [if_neg (show ¬ (l.length - 1 - k < k \/ l.length <= l.length - 1 - k + k) by omega), if_neg (show ¬ (k < k \/ l.length <= k + k) by omega)]
  by_cases c1 : l.length - 1 - k = p
  · rw [if_pos c1, if_pos (by omega), show l.length - 1 - p = k by omega]
  · rw [if_neg c1]
    by_cases c2 : k = p
    · rw [if_pos c2, if_pos (by omega), c2]
    · rw [if_neg c2]
      by_cases c3 : p < k \/ l.length <= p + k
      · rw [if_pos c3, if_pos (by omega)]
      · rw [if_neg c3, if_neg (by omega)]
theorem reverse_ok (l : List TE) (hl : l.length <= 1000000) : Fq52 l = some l.reverse := by
  unfold Fq52
  have hw : whileP (Lq52_x4 l) (0, std.sub .i64 (std.ofN (len l)) 1, l) = some l.reverse := by
    by_cases h0 : l.length = 0
    · rw [List.length_eq_zero_iff.1 h0]
      rw [whileP_unfold]
      rfl
    · refine while_from (fun k => ((k : Int), ((l.length - 1 - k : Nat) : Int), rv l k)) (l.length / 2) ?_ (fun k hk => ?_) ?_
      · rw [s_ofN, eL_, sub_id (by omega) (by omega), rv_zero]
        refine Prod.ext rfl (Prod.ext ?_ rfl)
        show (l.length : Int) - 1 = ((l.length - 1 - 0 : Nat) : Int)
        omega
      · have hk2 : 2 * k + 2 <= l.length := by omega
        simp only [Lq52_x4, lq, s_toNn, s_nadd, Nat.zero_add]
        have i1 : std.inR (k : Int) (len l) := inRl (by omega)
        have i2 : std.inR ((l.length - 1 - k : Nat) : Int) (len l) := inRl (by omega)
        rw [lt_true (by omega), br_t, ro_ i2, ro_ i1, ro_ i1, ro_ (by rw [eL_, eL_, rv_len]), ro_ i2, ro_ (by rw [eL_, eL_, List.length_set, rv_len]), rv_step l k hk2, inc_nat (by omega), sub_id (by omega) (by omega)]
        have e : ((l.length - 1 - k : Nat) : Int) - 1 = ((l.length - 1 - (k + 1) : Nat) : Int) := by omega
        rw [e]
      · simp only [Lq52_x4, lq]
        rw [lt_false (by omega), br_f, rv_end l _ (by omega)]
  rw [hw, obs]
  simp only [lq]
  rw [ro_ (by rw [eL_, eL_, List.length_reverse])]
/- ApplyEdits: both sides -/
/-- the library, what undoes the transaction, a code, the index of the edit that fails -/
def allR (a : TL) (l : List TE) : TL × List TE × Int × Int :=
  if okLib a = true then (if 1 <= l.length /\ l.length <= 8 then (match runs a [] 0 l with | .inl x => (⟨[]⟩, [], x.1, x.2) | .inr y => (⟨y.2⟩, y.1, 0, -1)) else (⟨[]⟩, [], 3, -1)) else (⟨[]⟩, [], 1, -1)
theorem spec_l13All_ok (a : TL) (l : List TE) (h : SmallL a) (hE : ∀ e ∈ l, SmallE e) : Fq62 a l = some (allR a l) := by
  unfold Fq62 allR
  rw [spec_IsValidLibrary_ok a h, obs]
  cases hv : okLib a with
  | false => rfl
  | true =>
    rw [if_pos rfl, Bool.not_true, br_f, spec_l09In_ok, obs, s_ofN, eL_]
    by_cases hl : 1 <= l.length /\ l.length <= 8
    · rw [if_pos hl, (wBi _ _ _).2 (by omega), Bool.not_true, br_f, spec_Copy_ok a h, obs]
      simp only [lq]
      have hr := spec_runs l hl.2 hE l.length 0 a [] (by omega) h (by simp)
      rw [show ((0 : Nat) : Int) = 0 from rfl] at hr
      rw [hr, obs, List.drop_zero]
      cases runs a [] 0 l with
      | inl x => rfl
      | inr y => rfl
    · have hb : wB (l.length : Int) 1 8 = false := by
        cases hq : wB (l.length : Int) 1 8 with
        | false => rfl
        | true => exact absurd ((wBi _ _ _).1 hq) (by omega)
      rw [if_neg hl, hb, Bool.not_false, br_t]
theorem impl_applyAll_ok (a : TL) (l : List TE) (h : SmallL a) (hE : ∀ e ∈ l, SmallE e) : Fq53 a l = some (allR a l) := by
  unfold Fq53 allR
  rw [impl_IsValidLibrary_ok a h, obs]
  cases hv : okLib a with
  | false => rfl
  | true =>
    rw [if_pos rfl, Bool.not_true, br_f, s_ofN, eL_]
    by_cases hl : 1 <= l.length /\ l.length <= 8
    · have hback : ∀ (r : List TE) (i : Nat) (a : TL) (back : List TE) (y : List TE × List TC), back.length <= i -> runs a back i r = .inr y -> y.1.length <= i + r.length := by
        intro r
        induction r with
        | nil => intro i a back y hb hy; unfold runs at hy; injection hy with hy; subst hy; simpa using hb
        | cons e r ih =>
          intro i a back y hb hy
          unfold runs at hy
          split at hy
          · have := ih (i + 1) _ _ y (by simp only [List.length_cons]; omega) hy
            simp only [List.length_cons]; omega
          · cases hy
      rw [if_pos hl, lt_false (by omega), br_f, lt_false (by omega), obs, lq, br_f, impl_copyLibrary_ok a h, obs]
      simp only [lq]
      have hr := impl_runs l hl.2 hE l.length 0 a [] (by omega) h (by simp)
      rw [List.reverse_nil, show ((0 : Nat) : Int) = 0 from rfl] at hr
      rw [hr, obs, List.drop_zero]
      cases hrr : runs a [] 0 l with
      | inl x => rfl
      | inr y =>
        have hy := hback l 0 a [] y (by simp) hrr
        simp only
        rw [reverse_ok _ (by rw [List.length_reverse]; omega), obs, ro_ (by simp [eL_]), ro_ (by simp [eL_]), List.reverse_reverse]
    · rw [if_neg hl]
      by_cases h1 : l.length < 1
      · rw [lt_true (by omega), br_t]; rfl
      · rw [lt_false (by omega), br_f, lt_true (by omega)]; rfl
theorem small_runs (l : List TE) (hE : ∀ e ∈ l, SmallE e) : ∀ (a : TL) (back : List TE) (i : Nat) (y : List TE × List TC), SmallL a -> runs a back i l = .inr y -> SmallL ⟨y.2⟩ := by
  induction l with
  | nil => intro a back i y h hy; unfold runs at hy; injection hy with hy; subst hy; exact h
  | cons e r ih =>
    intro a back i y h hy
    unfold runs at hy
    split at hy
    · rename_i hc
      exact ih (fun x hx => hE x (by simp [hx])) _ _ _ y (small_appE a e h (hE e (by simp)) hc) hy
    · cases hy
theorem allR_small (a : TL) (l : List TE) (h : SmallL a) (hE : ∀ e ∈ l, SmallE e) : SmallL (allR a l).1 := by
  have hz : SmallL ⟨[]⟩ := ⟨by simp, fun c hc => by cases hc⟩
  unfold allR
  split
  · split
    · cases hrr : runs a [] 0 l with
      | inl x => exact hz
      | inr y => exact small_runs l hE a [] 0 y h hrr
    · exact hz
  · exact hz
theorem conv64 {x : Int} (h : -1000000000 <= x /\ x <= 1000000000) : std.conv .i64 x = x := wrap_id (by omega) (by omega)
theorem num2 {a b : Int} (ha : 0 <= a /\ a <= 1000) (hb : 0 <= b /\ b <= 1000) : std.add .i64 (std.shl .i64 (std.conv .i64 a) 8) (std.conv .i64 b) = a * 256 + b := by
  rw [conv64 (by omega), conv64 (by omega), shl8 (by omega), add_id (by omega) (by omega)]
set_option maxHeartbeats 1000000 in
/- both sides' readers: what is left of a string, a place in it -/
def drp (a : ByteArray) (i : Nat) : ByteArray := std.ssub a i (std.slen a)
theorem drp_size {a : ByteArray} {i : Nat} (h : i <= a.size) : (drp a i).size = a.size - i := by
  show (a.extract i a.size).size = _
  rw [ByteArray.size_extract]; omega
theorem drp_zero (a : ByteArray) : drp a 0 = a := by
  show a.extract 0 a.size = a
  apply ByteArray.ext
  rw [ByteArray.data_extract]
  exact Array.extract_eq_self_of_le (Nat.le_refl _)
theorem drp_drp {a : ByteArray} {i j : Nat} (h : i <= a.size) : drp (drp a i) j = drp a (i + j) := by
  show (a.extract i a.size).extract j (std.slen (drp a i)) = a.extract (i + j) a.size
  rw [s_slen, drp_size h, ByteArray.extract_extract]
  congr 1; omega
theorem drp_sub {a : ByteArray} {i n : Nat} (h : i <= a.size) (hn : i + n <= a.size) : std.ssub (drp a i) 0 n = std.ssub a i (i + n) := by
  show (a.extract i a.size).extract 0 n = a.extract i (i + n)
  rw [ByteArray.extract_extract]
  congr 1; omega
theorem drp_sat {a : ByteArray} {i : Nat} (h : i < a.size) : std.sat (drp a i) 0 = std.sat a i := by
  have h1 : 0 < (a.extract i a.size).size := by rw [ByteArray.size_extract]; omega
  show std.sat (a.extract i a.size) 0 = _
  rw [sat_get h1, sat_get h]
  simp [ByteArray.getElem_extract]
theorem drp_nil {a : ByteArray} {i : Nat} (h : i <= a.size) : std.seq (drp a i) (ByteArray.mk #[]) = decide (i = a.size) := by
  by_cases he : i = a.size
  · rw [decide_eq_true he]
    refine seq_iff.2 ?_
    apply ByteArray.ext
    apply Array.eq_empty_of_size_eq_zero
    show (drp a i).size = 0
    rw [drp_size h]; omega
  · rw [decide_eq_false he]
    cases hs : std.seq (drp a i) (ByteArray.mk #[]) with
    | false => rfl
    | true =>
      have h3 := congrArg ByteArray.size (seq_iff.1 hs)
      rw [drp_size h] at h3
      have : (ByteArray.mk #[]).size = 0 := rfl
      omega
/-- both sides read the same, and stand at the same place, at i0 or behind it -/
def Sim {α : Type} (i0 : Nat) (a : ByteArray) (b0 : Bool) (Q : α -> Prop) (x : Option (α × TbyteReader)) (y : Option (α × Tl13Reader)) : Prop :=
  ∃ v j b, i0 <= j /\ j <= a.size /\ (b0 = true -> b = true) /\ Q v /\ x = some (v, ⟨drp a j, b⟩) /\ y = some (v, ⟨a, (j : Int), b⟩)
theorem Sim.ret {α : Type} {i0 : Nat} {a : ByteArray} {b : Bool} {Q : α -> Prop} {v : α} {j : Nat} (h0 : i0 <= j) (hj : j <= a.size) (h : Q v) : Sim i0 a b Q (some (v, ⟨drp a j, b⟩)) (some (v, ⟨a, (j : Int), b⟩)) := ⟨v, j, b, h0, hj, id, h, rfl, rfl⟩
theorem Sim.bind {α β : Type} {i0 : Nat} {a : ByteArray} {b0 : Bool} {P : α -> Prop} {Q : β -> Prop} {x : Option (α × TbyteReader)} {y : Option (α × Tl13Reader)} {f : α × TbyteReader -> Option (β × TbyteReader)} {g : α × Tl13Reader -> Option (β × Tl13Reader)}
    (h : Sim i0 a b0 P x y) (k : ∀ v j b, j <= a.size -> P v -> Sim j a b Q (f (v, ⟨drp a j, b⟩)) (g (v, ⟨a, (j : Int), b⟩))) : Sim i0 a b0 Q (x.bind f) (y.bind g) := by
  obtain ⟨v, j, b, h0, h1, h2, h3, rfl, rfl⟩ := h
  obtain ⟨v', j', b', g0, g1, g2, g3, g4, g5⟩ := k v j b h1 h3
  exact ⟨v', j', b', Nat.le_trans h0 g0, g1, fun h => g2 (h2 h), g3, g4, g5⟩
theorem sat_rng (a : ByteArray) (i : Nat) : 0 <= std.sat a i /\ std.sat a i <= 255 := by
  show 0 <= (((a[i]?.getD 0).toNat : Nat) : Int) /\ (((a[i]?.getD 0).toNat : Nat) : Int) <= 255
  have := (a[i]?.getD 0).toNat_lt
  omega
def byteQ (v : Int) : Prop := 0 <= v /\ v <= 255
theorem sim_one {a : ByteArray} (ha : a.size <= 100000000) {i : Nat} (hi : i <= a.size) (b : Bool) : Sim i a b byteQ (Fq2 ⟨drp a i, b⟩) (Fq3 ⟨a, (i : Int), b⟩) := by
  unfold Fq2 Fq3
  have hd := drp_size hi
  simp only
  by_cases h : i < a.size
  · have hr := sat_rng a i
    rw [lt_false (by rw [s_ofN, s_slen, hd]; omega), br_f, ro_ ⟨by omega, by rw [s_slen, hd]; omega⟩, ro_ ⟨by omega, by rw [s_slen, hd]; omega⟩, le_false (by rw [s_ofN, s_slen]; omega), br_f, inc_nat (by omega), sub_id (by omega) (by omega),
      show (((i + 1 : Nat) : Int) - 1) = (i : Int) by omega, ro_ ⟨by omega, by rw [s_slen]; omega⟩, s_toNn, show std.toN 0 = 0 from rfl, show std.toN 1 = 1 from rfl, drp_sat h, conv64 (by omega)]
    have e : std.ssub (drp a i) 1 (std.slen (drp a i)) = drp a (i + 1) := drp_drp hi
    rw [e]
    exact Sim.ret (by omega) (by omega) hr
  · have he : i = a.size := by omega
    rw [lt_true (by rw [s_ofN, s_slen, hd]; omega), br_t, le_true (by rw [s_ofN, s_slen]; omega), br_t]
    exact ⟨0, i, true, Nat.le_refl _, hi, fun _ => rfl, ⟨Int.le_refl _, by omega⟩, rfl, rfl⟩
def wordQ (v : Int) : Prop := 0 <= v /\ v <= 65535
theorem sim_two {a : ByteArray} (ha : a.size <= 100000000) {i : Nat} (hi : i <= a.size) (b : Bool) : Sim i a b wordQ (Fq48 ⟨drp a i, b⟩) (Fq82 ⟨a, (i : Int), b⟩) := by
  unfold Fq48 Fq82
  refine Sim.bind (sim_one ha hi b) fun v j b hj hv => ?_
  simp only
  rw [ro_ (by rw [s_nneg]; omega)]
  refine Sim.bind (sim_one ha hj b) fun u q b hq hu => ?_
  simp only
  have hb : byteQ v := hv
  have hb2 : byteQ u := hu
  unfold byteQ at hb hb2
  have e1 := num2 (a := v) (b := u) (by omega) (by omega)
  rw [conv64 (by omega), conv64 (by omega)] at e1
  have e2 : std.add .i64 (std.mul .i64 256 v) u = v * 256 + u := by
    rw [mul_id (by omega) (by omega), add_id (by omega) (by omega)]; omega
  rw [e1, e2]
  exact Sim.ret (Nat.le_refl _) hq ⟨by omega, by omega⟩
theorem sim_coord {a : ByteArray} (ha : a.size <= 100000000) {i : Nat} (hi : i <= a.size) (b : Bool) : Sim i a b (fun _ => True) (Fq6 ⟨drp a i, b⟩) (Fq8 ⟨a, (i : Int), b⟩) := by
  unfold Fq6 Fq8
  exact Sim.bind (sim_two ha hi b) fun v j b hj hv => Sim.ret (Nat.le_refl _) hj trivial
theorem sim_name {a : ByteArray} (ha : a.size <= 100000000) {i : Nat} (hi : i <= a.size) (b : Bool) : Sim i a b (fun s => s.size <= 255) (Fq86 ⟨drp a i, b⟩) (Fq85 ⟨a, (i : Int), b⟩) := by
  unfold Fq86 Fq85
  refine Sim.bind (sim_one ha hi b) fun v j b hj hv => ?_
  have hb : byteQ v := hv
  unfold byteQ at hb
  obtain ⟨n, rfl⟩ : ∃ n : Nat, v = (n : Int) := ⟨v.toNat, by omega⟩
  have hd := drp_size hj
  simp only
  have e1 : std.add .i64 (j : Int) (n : Int) = ((j + n : Nat) : Int) := by rw [add_id (by omega) (by omega)]; omega
  rw [e1]
  by_cases h : a.size < j + n
  · rw [lt_true (by rw [s_ofN, s_slen, hd]; omega), br_t, lt_true (by rw [s_ofN, s_slen]; omega), br_t]
    exact ⟨ByteArray.mk #[], j, true, Nat.le_refl _, hj, fun _ => rfl, by show 0 <= 255; omega, rfl, rfl⟩
  · have e2 : std.sub .i64 ((j + n : Nat) : Int) (n : Int) = (j : Int) := by rw [sub_id (by omega) (by omega)]; omega
    rw [lt_false (by rw [s_ofN, s_slen, hd]; omega), br_f, lt_false (by rw [s_ofN, s_slen]; omega), br_f, e2, ro_ ⟨by omega, by rw [s_slen, hd]; omega⟩, ro_ ⟨by omega, by rw [s_slen, hd]; omega⟩, ro_ ⟨by omega, by rw [s_slen]; omega⟩, ro_ ⟨by omega, by rw [s_toNn]; omega⟩, s_toNn, s_toNn, s_toNn, drp_sub hj (by omega)]
    have e : std.ssub (drp a j) n (std.slen (drp a j)) = drp a (j + n) := drp_drp hj
    rw [e]
    refine Sim.ret (by omega) (by omega) ?_
    show (a.extract j (j + n)).size <= 255
    rw [ByteArray.size_extract]; omega
theorem sim_shape {a : ByteArray} (ha : a.size <= 100000000) {i : Nat} (hi : i <= a.size) (b : Bool) : Sim i a b (fun _ => True) (Fq137 ⟨drp a i, b⟩) (Fq140 ⟨a, (i : Int), b⟩) := by
  unfold Fq137 Fq140
  exact Sim.bind (sim_one ha hi b) fun _ _ b h _ => Sim.bind (sim_coord ha h b) fun _ _ b h _ => Sim.bind (sim_coord ha h b) fun _ _ b h _ => Sim.bind (sim_coord ha h b) fun _ _ b h _ => Sim.bind (sim_coord ha h b) fun _ _ b h _ => Sim.ret (Nat.le_refl _) h trivial
theorem sim_label {a : ByteArray} (ha : a.size <= 100000000) {i : Nat} (hi : i <= a.size) (b : Bool) : Sim i a b (fun l : TB => l.fN.size <= 255) (Fq114 ⟨drp a i, b⟩) (Fq144 ⟨a, (i : Int), b⟩) := by
  unfold Fq114 Fq144
  exact Sim.bind (sim_one ha hi b) fun _ _ b h _ => Sim.bind (sim_coord ha h b) fun _ _ b h _ => Sim.bind (sim_coord ha h b) fun _ _ b h _ => Sim.bind (sim_name ha h b) fun _ _ b h hq => Sim.ret (Nat.le_refl _) h hq
/- journal records -/
def okTrans (l : List TE) : Bool := (decide (1 <= l.length) && decide (l.length <= 8)) && l.all okEdit
theorem le_one (n : Nat) : std.le 1 (std.ofN n) = decide (1 <= n) := by
  rw [s_le, s_ofN]; congr 1; simp; omega
theorem le_eight (n : Nat) : std.le (std.ofN n) 8 = decide (n <= 8) := by
  rw [s_le, s_ofN]; congr 1; simp; omega
theorem spec_l13Transaction_ok (l : List TE) (h : l.length <= 10000000) (hs : ∀ e ∈ l, SmallE e) : Fq67 l = some (okTrans l) := by
  have hb := maxLen_eq
  unfold Fq67 okTrans
  rw [bind_of (scan (ok := fun i => okEdit (gd l i)) (n := l.length) (yes := .inr ()) (no := .inl ()) (fun i hi => ?_) ?_), range_all]
  · cases l.all okEdit with
    | false => simp
    | true =>
      simp only [if_true, spec_l09In_ok, wB, eL_, le_one, le_eight, obs, Bool.and_true]
  · simp only [Lq67_x2, lq]
    rw [ltl_f, br_f]
  · have := hs _ (gd_mem hi)
    simp only [Lq67_x2, lq, s_toNn]
    rw [ltl_t hi, br_t, ro_ (inRl hi), spec_IsValidEdit_ok _ (by have := this.name; omega) (by have := this.lname; omega), obs, inc_nat (by omega)]
    cases okEdit (gd l i) <;> rfl
theorem containsEdit (l : List TE) (h : l.length <= 10000000) (hs : ∀ e ∈ l, SmallE e) : Fq132 l = some (!l.all okEdit) := by
  have hb := maxLen_eq
  unfold Fq132 Fq87
  rw [bind_of (scan_first (p := fun i => !okEdit (gd l i)) (n := l.length) (fun i hi => ?_) ?_)]
  · have e := range_all okEdit l
    cases hf : (List.range l.length).find? (fun i => !okEdit (gd l i)) with
    | none =>
      rw [List.find?_eq_none] at hf
      have : l.all okEdit = true := by
        rw [<- e, List.all_eq_true]; intro i hi; have := hf i hi; simpa using this
      rw [this]
      show some (std.le 0 (-1)) = some false
      rw [le_false (by omega)]
    | some i =>
      have h1 := List.find?_some hf
      have h2 := List.mem_of_find?_eq_some hf
      have : l.all okEdit = false := by
        rw [<- e, Bool.eq_false_iff]; intro hc; rw [List.all_eq_true] at hc; have := hc i h2; simp [this] at h1
      rw [this]
      show some (std.le 0 (i : Int)) = some true
      rw [le_true (by omega)]
  · simp only [Lq87_x2, lq]
    rw [ltl_f, br_f]
  · have := hs _ (gd_mem hi)
    simp only [Lq87_x2, lq, s_toNn, Fq155]
    rw [ltl_t hi, br_t, ro_ (inRl hi), impl_IsValidEdit_ok _ (show (gd l i).fN.size <= maxLen by have := this.name; omega) (show (gd l i).fl_.fN.size <= maxLen by have := this.lname; omega), obs, obs, inc_nat (by omega)]
    show br (!okEdit (gd l i)) _ _ = _
    cases okEdit (gd l i) <;> rfl
theorem impl_isTransaction_ok (l : List TE) (h : l.length <= 10000000) (hs : ∀ e ∈ l, SmallE e) : Fq42 l = some (okTrans l) := by
  unfold Fq42 okTrans
  rw [containsEdit l h hs]
  simp only [eL_, le_one, le_eight, lq]
  cases decide (1 <= l.length) <;> cases decide (l.length <= 8) <;> cases l.all okEdit <;> rfl
/-- an edit's bytes -/
def edR (a : TE) : ByteArray := if okEdit a then ofL (editB a) else ByteArray.mk #[]
theorem editB_le {a : TE} (h : okEdit a = true) : (editB a).length <= 2000 := by
  unfold editB
  rw [List.length_append, show (headB a).length = 3 from rfl]
  split
  · rw [shapeB_len]; omega
  · split
    · rename_i h3; rw [labelB_len]; have := okEdit_label h h3; omega
    · split
      · rw [instB_len]; omega
      · split
        · rename_i h7; rw [nameB_len]; have := okEdit_name h h7; omega
        · simp
theorem edR_le (a : TE) : (edR a).size <= 2000 := by
  unfold edR
  split
  · rename_i h; rw [ofL_size]; exact editB_le h
  · show 0 <= 2000; omega
def bodyR (l : List TE) : ByteArray := catN (ByteArray.mk #[]) (fun i => edR (gd l i)) l.length
def journalR (l : List TE) : ByteArray :=
  let s := std.scat (std.scat (std.scat (ByteArray.mk #[84]) (ofL (oneB (std.ofN (len l))))) (ofL (twoR (std.ofN (std.slen (bodyR l)))))) (bodyR l)
  std.scat s (ofL (twoR (ck s)))
theorem okTrans_le {l : List TE} (h : okTrans l = true) : l.length <= 8 := by
  unfold okTrans at h
  simp only [Bool.and_eq_true, decide_eq_true_eq] at h
  exact h.1.2
theorem bodyR_le {l : List TE} (h : okTrans l = true) : (bodyR l).size <= 16000 := by
  have h1 := catN_size (ByteArray.mk #[]) (fun i => edR (gd l i)) 2000 l.length fun i _ => edR_le _
  have h2 : l.length * 2000 <= 8 * 2000 := Nat.mul_le_mul_right _ (okTrans_le h)
  have h3 : (ByteArray.mk #[]).size = 0 := rfl
  unfold bodyR; omega
theorem spec_JournalRecord_ok (l : List TE) (h : l.length <= 10000000) (hs : ∀ e ∈ l, SmallE e) : Fq43 l = some (if okTrans l then journalR l else ByteArray.mk #[]) := by
  have hb := maxLen_eq
  unfold Fq43
  rw [spec_l13Transaction_ok l h hs, obs]
  cases ht : okTrans l with
  | false => rfl
  | true =>
    have hB := bodyR_le ht
    have h3 : (ByteArray.mk #[]).size = 0 := rfl
    have h84 : (ByteArray.mk #[84]).size = 1 := rfl
    have hl := okTrans_le ht
    simp only [Bool.not_true, br_f, if_true]
    rw [bind_of (while_cat (st := Lq43_x5 l) (ByteArray.mk #[]) (fun i => edR (gd l i)) 2000 l.length (fun i _ => edR_le _) (fun i hi v hv => by
      have := hs _ (gd_mem hi)
      have h2 : l.length * 2000 <= 8 * 2000 := Nat.mul_le_mul_right _ hl
      have h5 := edR_le (gd l i)
      unfold edR at h5
      simp only [Lq43_x5, lq, s_toNn]
      rw [ltl_t hi, br_t, ro_ (inRl hi), spec_EditBytes_ok _ (by have := this.name; omega) (by have := this.lname; omega), obs, ro_ (room1 (by rw [s_slen, s_slen]; omega)), inc_nat (by omega)]
      rfl) (fun v => by
      simp only [Lq43_x5, lq]
      rw [ltl_f, br_f]))]
    have eB : catN (ByteArray.mk #[]) (fun i => edR (gd l i)) l.length = bodyR l := rfl
    simp only [lq, eB, spec_l13Byte_ok, spec_l13Two_ok, obs]
    rw [ro_ (room1 (by simp only [s_slen, ofL_size, one_len]; omega)), ro_ (room1 (by simp only [s_slen, scat_size, ofL_size, one_len, twoR_len]; omega)), ro_ (room1 (by simp only [s_slen, scat_size, ofL_size, one_len, twoR_len]; omega)), spec_Checksum16_ok _ (by simp only [scat_size, ofL_size, one_len, twoR_len]; omega), obs, ro_ (room1 (by simp only [s_slen, scat_size, ofL_size, one_len, twoR_len]; omega))]
    rfl
theorem impl_JournalRecord_ok (l : List TE) (h : l.length <= 10000000) (hs : ∀ e ∈ l, SmallE e) : Fq50 l = some (if okTrans l then journalR l else ByteArray.mk #[]) := by
  have hb := maxLen_eq
  unfold Fq50
  rw [impl_isTransaction_ok l h hs, obs]
  cases ht : okTrans l with
  | false => rfl
  | true =>
    have hB := bodyR_le ht
    have h3 : (ByteArray.mk #[]).size = 0 := rfl
    have hl := okTrans_le ht
    have eL : ∀ l : List Int, std.ofBytes (len l) (fun i => gd l (0 + i)) = ofL l := fun _ => rfl
    simp only [Bool.not_true, br_f, if_true]
    rw [bind_of (while_cat (st := Lq50_x5 l) (ByteArray.mk #[]) (fun i => edR (gd l i)) 2000 l.length (fun i _ => edR_le _) (fun i hi v hv => by
      have := hs _ (gd_mem hi)
      have h2 : l.length * 2000 <= 8 * 2000 := Nat.mul_le_mul_right _ hl
      have h5 := edR_le (gd l i)
      unfold edR at h5
      simp only [Lq50_x5, lq, s_toNn]
      rw [ltl_t hi, br_t, ro_ (inRl hi), impl_EditBytes_ok _ (by have := this.name; omega) (by have := this.lname; omega), obs, ro_ (room1 (by rw [s_slen, s_slen]; omega)), inc_nat (by omega)]
      rfl) (fun v => by
      simp only [Lq50_x5, lq]
      rw [ltl_f, br_f]))]
    have eB : catN (ByteArray.mk #[]) (fun i => edR (gd l i)) l.length = bodyR l := rfl
    simp only [lq, eB, eL]
    rw [impl_two_ok _ _ (by simp), obs, ro_ (room1 (by rw [eL_, s_slen, List.length_append, twoR_len]; simp only [List.length_cons, List.length_nil]; omega))]
    have e1 : ofL (([84, std.conv .u8 (std.ofN (len l))] ++ twoR (std.ofN (std.slen (bodyR l)))) ++ strL (bodyR l)) = std.scat (std.scat (std.scat (ByteArray.mk #[84]) (ofL (oneB (std.ofN (len l))))) (ofL (twoR (std.ofN (std.slen (bodyR l)))))) (bodyR l) := by
      have e84 : ofL [84] = ByteArray.mk #[84] := bytes_ext (by rw [ofL_data]; rfl)
      rw [ofL_cat, <- ofL_app, <- e84, ofL_app]
      rfl
    rw [e1, impl_Checksum16_ok _ (by simp only [scat_size, ofL_size, one_len, twoR_len]; have h84 : (ByteArray.mk #[84]).size = 1 := rfl; omega), obs, impl_two_ok _ _ (by simp only [List.length_append, twoR_len, strL_length, List.length_cons, List.length_nil]; omega), obs, <- ofL_app, e1]
    rfl
/- journals: both sides -/
def smE (e : TE) : Prop := e.fN.size <= 255 /\ e.fl_.fN.size <= 255
theorem smE.small {e : TE} (h : smE e) : SmallE e := ⟨by have := h.1; omega, by have := h.2; omega⟩
set_option maxHeartbeats 4000000 in
theorem sim_edit {a : ByteArray} (ha : a.size <= 100000000) {i : Nat} (hi : i <= a.size) (b : Bool) : Sim i a b smE (Fq116 ⟨drp a i, b⟩) (Fq122 ⟨a, (i : Int), b⟩) := by
  have hz : (ByteArray.mk #[]).size <= 255 := by decide
  unfold Fq116 Fq122
  refine Sim.bind (sim_one ha hi b) fun k j b hj _ => Sim.bind (sim_one ha hj b) fun c j b hj _ => Sim.bind (sim_one ha hj b) fun ix j b hj _ => ?_
  simp only
  by_cases h1 : k = 1
  · simp only [eq_true' h1, br_t, Option.bind_assoc, obs, lq]
    exact Sim.bind (sim_shape ha hj b) fun v j b hj _ => Sim.ret (Nat.le_refl _) hj ⟨hz, hz⟩
  by_cases h3 : k = 3
  · simp only [eq_false' h1, eq_true' h3, br_t, br_f, Option.bind_assoc, obs, lq]
    exact Sim.bind (sim_label ha hj b) fun v j b hj hv => Sim.ret (Nat.le_refl _) hj ⟨hz, hv⟩
  by_cases h5 : k = 5
  · simp only [eq_false' h1, eq_false' h3, eq_true' h5, br_t, br_f, Option.bind_assoc, obs, lq, Fq161, Fq159]
    exact Sim.bind (sim_one ha hj b) fun _ _ b h _ => Sim.bind (sim_one ha h b) fun _ _ b h _ => Sim.bind (sim_coord ha h b) fun _ _ b h _ => Sim.bind (sim_coord ha h b) fun _ _ b h _ => Sim.bind (sim_one ha h b) fun _ _ b h _ => Sim.bind (sim_one ha h b) fun _ _ b h _ => Sim.bind (sim_coord ha h b) fun _ _ b h _ => Sim.bind (sim_coord ha h b) fun _ _ b h _ => Sim.ret (Nat.le_refl _) h ⟨hz, hz⟩
  by_cases h7 : k = 7
  · simp only [eq_false' h1, eq_false' h3, eq_false' h5, eq_true' h7, br_t, br_f, Option.bind_assoc, obs, lq]
    exact Sim.bind (sim_name ha hj b) fun v j b hj hv => Sim.ret (Nat.le_refl _) hj ⟨hv, hz⟩
  by_cases h8 : k = 8
  · simp only [eq_false' h1, eq_false' h3, eq_false' h5, eq_false' h7, eq_true' h8, br_t, br_f, Option.bind_assoc, obs, lq]
    exact Sim.bind (sim_name ha hj b) fun v j b hj hv => Sim.ret (Nat.le_refl _) hj ⟨hv, hz⟩
  · simp only [eq_false' h1, eq_false' h3, eq_false' h5, eq_false' h7, eq_false' h8, br_t, br_f, Option.bind_assoc, obs, lq]
    exact Sim.ret (Nat.le_refl _) hj ⟨hz, hz⟩
/-- the edits of a record -/
theorem sim_edits {a : ByteArray} (ha : a.size <= 100000000) {c : Int} (hc : 0 <= c /\ c <= 255) (rd : Tl13Reader) : ∀ (m v i : Nat) (b : Bool) (l : List TE), v + m = 9 -> l.length = v -> (v : Int) <= c -> i <= a.size -> (∀ e ∈ l, smE e) ->
    ∃ l' j b', i <= j /\ j <= a.size /\ (∀ e ∈ l', smE e) /\ l'.length <= 9 /\ (b' = false -> (l'.length : Int) = c \/ 9 <= l'.length) /\ whileP (Lq34_x14 (c, rd)) ((v : Int), a, (i : Int), b, l) = some (a, (j : Int), b', l') /\
      (c <= 8 -> whileP Lq40_x15 (c - v, drp a i, b, l) = some (drp a j, b', l')) := by
  intro m
  induction m with
  | zero =>
    intro v i b l hv hl hvc hi hs
    refine ⟨l, i, b, Nat.le_refl _, hi, hs, by omega, fun _ => .inr (by omega), ?_, fun h => by omega⟩
    rw [whileP_unfold]
    simp only [Lq34_x14, lq]
    by_cases h1 : (v : Int) < c
    · rw [lt_true h1, br_t, le_false (by omega), br_f]; rfl
    · rw [lt_false h1, br_f]; rfl
  | succ m ih =>
    intro v i b l hv hl hvc hi hs
    by_cases h1 : (v : Int) < c
    · cases b with
      | true =>
        refine ⟨l, i, true, Nat.le_refl _, hi, hs, by omega, fun h => (by cases h), ?_, fun _ => ?_⟩
        · rw [whileP_unfold]
          simp only [Lq34_x14, lq]
          rw [lt_true h1, br_t, le_true (by omega), br_t]; rfl
        · rw [whileP_unfold]
          simp only [Lq40_x15, lq]
          rw [lt_true (by omega), br_t]; rfl
      | false =>
        obtain ⟨e, j, b1, g0, g1, g2, g3, g4, g5⟩ := sim_edit ha hi false
        have hlen : (l ++ [e]).length = v + 1 := by simp [hl]
        obtain ⟨l', j', b', k0, k1, k2, k3, k4, k5, k6⟩ := ih (v + 1) j b1 (l ++ [e]) (by omega) hlen (by omega) g1 (fun x hx => by
          rcases List.mem_append.1 hx with hx | hx
          · exact hs x hx
          · rw [List.mem_singleton.1 hx]; exact g3)
        refine ⟨l', j', b', by omega, k1, k2, k3, k4, ?_, fun h8 => ?_⟩
        · rw [whileP_unfold]
          simp only [Lq34_x14, lq]
          rw [lt_true h1, br_t, le_true (by omega), br_t, Bool.not_false, obs, br_t, g5, obs, ro_ (room_of (by rw [s_nadd, eL_, eL_, hl]; simp only [List.length_cons, List.length_nil]; omega) (by omega)), inc_nat (by omega)]
          exact k5
        · rw [whileP_unfold]
          simp only [Lq40_x15, lq]
          rw [lt_true (by omega), br_t, Bool.not_false, obs, br_t, g4, obs, ro_ (room_of (by rw [s_nadd, eL_, eL_, hl]; simp only [List.length_cons, List.length_nil]; omega) (by omega)), sub_id (by omega) (by omega)]
          have e1 : c - (v : Int) - 1 = c - ((v + 1 : Nat) : Int) := by omega
          simp only [e1]
          exact k6 h8
    · refine ⟨l, i, b, Nat.le_refl _, hi, hs, by omega, fun _ => .inl (by omega), ?_, fun _ => ?_⟩
      · rw [whileP_unfold]
        simp only [Lq34_x14, lq]
        rw [lt_false h1, br_f]; rfl
      · rw [whileP_unfold]
        simp only [Lq40_x15, lq]
        rw [lt_false (by omega), br_f]; rfl
/-- one byte, two bytes, exactly -/
theorem one_ex {a : ByteArray} (ha : a.size <= 100000000) {i : Nat} (hi : i <= a.size) (b : Bool) : ∃ v, byteQ v /\ Fq2 ⟨drp a i, b⟩ = some (v, if i < a.size then ⟨drp a (i + 1), b⟩ else ⟨drp a i, true⟩) := by
  unfold Fq2
  have hd := drp_size hi
  simp only
  by_cases h : i < a.size
  · have hr := sat_rng a i
    rw [lt_false (by rw [s_ofN, s_slen, hd]; omega), br_f, ro_ ⟨by omega, by rw [s_slen, hd]; omega⟩, ro_ ⟨by omega, by rw [s_slen, hd]; omega⟩, show std.toN 0 = 0 from rfl, show std.toN 1 = 1 from rfl, drp_sat h, conv64 (by omega)]
    have e : std.ssub (drp a i) 1 (std.slen (drp a i)) = drp a (i + 1) := drp_drp hi
    rw [e, if_pos h]
    exact ⟨_, hr, rfl⟩
  · rw [lt_true (by rw [s_ofN, s_slen, hd]; omega), br_t, if_neg h]
    exact ⟨0, ⟨Int.le_refl _, by omega⟩, rfl⟩
theorem two_ex {a : ByteArray} (ha : a.size <= 100000000) {i : Nat} (hi : i <= a.size) (b : Bool) : ∃ v j b', Fq48 ⟨drp a i, b⟩ = some (v, ⟨drp a j, b'⟩) /\ i <= j /\ j <= a.size /\ (b = true -> b' = true) /\ (b' = false -> j = i + 2) /\ (b = false -> i + 2 <= a.size -> b' = false) := by
  obtain ⟨v, hv, e1⟩ := one_ex ha hi b
  unfold Fq48
  rw [e1, obs]
  have hb : byteQ v := hv
  unfold byteQ at hb
  simp only
  rw [ro_ (by rw [s_nneg]; omega)]
  by_cases h1 : i < a.size
  · rw [if_pos h1]
    obtain ⟨u, hu, e2⟩ := one_ex ha (show i + 1 <= a.size by omega) b
    rw [e2, obs]
    by_cases h2 : i + 1 < a.size
    · rw [if_pos h2]
      exact ⟨_, i + 2, b, rfl, by omega, by omega, id, fun _ => rfl, fun h _ => h⟩
    · rw [if_neg h2]
      exact ⟨_, i + 1, true, rfl, by omega, by omega, fun _ => rfl, fun h => (by cases h), fun _ h => by omega⟩
  · rw [if_neg h1]
    obtain ⟨u, hu, e2⟩ := one_ex ha hi true
    rw [e2, obs, if_neg h1]
    exact ⟨_, i, true, rfl, by omega, by omega, fun _ => rfl, fun h => (by cases h), fun _ h => by omega⟩
/-- what a record is rebuilt to -/
def jrR (l : List TE) : ByteArray := if okTrans l then journalR l else ByteArray.mk #[]
theorem jr_both {l : List TE} (h : l.length <= 9) (hs : ∀ e ∈ l, smE e) : Fq43 l = some (jrR l) /\ Fq50 l = some (jrR l) := ⟨spec_JournalRecord_ok l (by omega) fun e he => (hs e he).small, impl_JournalRecord_ok l (by omega) fun e he => (hs e he).small⟩
theorem jr_tag {l : List TE} (h : okTrans l = true) : 0 < (jrR l).size /\ std.sat (jrR l) 0 = 84 := by
  unfold jrR
  rw [if_pos h]
  unfold journalR
  have h84 : (ByteArray.mk #[84]).size = 1 := rfl
  refine ⟨by simp only [scat_size]; omega, ?_⟩
  rw [sat_left (by simp only [scat_size]; omega), sat_left (by simp only [scat_size]; omega), sat_left (by simp only [scat_size]; omega), sat_left (by rw [h84]; omega)]
  rfl
theorem jr_empty {l : List TE} (h : okTrans l = false) : jrR l = ByteArray.mk #[] := by unfold jrR; rw [h]; rfl
theorem ssub_size {a : ByteArray} {i j : Nat} (h : j <= a.size) : (std.ssub a i j).size = j - i := by
  show (a.extract i j).size = _
  rw [ByteArray.size_extract]; omega
theorem ssub_sat {a : ByteArray} {i j : Nat} (h : j <= a.size) (hij : i < j) : std.sat (std.ssub a i j) 0 = std.sat a i := by
  have h1 : 0 < (a.extract i j).size := by rw [ByteArray.size_extract]; omega
  show std.sat (a.extract i j) 0 = _
  rw [sat_get h1, sat_get (show i < a.size by omega)]
  simp [ByteArray.getElem_extract]
/- a record, a journal: both sides -/
set_option maxHeartbeats 4000000 in
theorem record_both {a : ByteArray} (ha : a.size <= 100000000) {i : Nat} (hi : i <= a.size) : ∃ (l : List TE) (m : Nat), Fq40 (drp a i) = some (l, (m : Int)) /\ ((m ≠ 0 /\ i + m <= a.size /\ (∀ e ∈ l, smE e) /\ Fq34 a (i : Int) = some (l, ((i + m : Nat) : Int), true)) \/ (m = 0 /\ Fq34 a (i : Int) = some ([], (i : Int), false))) := by
  obtain ⟨tag, j1, b1, p1, q1, r1, s1, e1, f1⟩ := sim_one ha hi false
  obtain ⟨c, j2, b2, p2, q2, r2, s2, e2, f2⟩ := sim_one ha q1 b1
  obtain ⟨w, j3, b3, p3, q3, r3, s3, e3, f3⟩ := sim_two ha q2 b2
  have hc : byteQ c := s2
  unfold byteQ at hc
  obtain ⟨l, j, b, g1, g2, g3, g4, g5, g6, g7⟩ := sim_edits ha hc ⟨a, (j2 : Int), b2⟩ 9 0 j3 b3 [] (by omega) rfl (by omega) q3 (fun e he => by cases he)
  obtain ⟨ju, jv⟩ := jr_both g4 g3
  have e0 : ((0 : Nat) : Int) = 0 := rfl
  -- the reference
  have hspec : Fq34 a (i : Int) = some (if b = false /\ tag = 84 /\ j + 2 <= a.size /\ okTrans l = true /\ jrR l = std.ssub a i (j + 2) then (l, ((j + 2 : Nat) : Int), true) else ([], (i : Int), false)) := by
    unfold Fq34
    rw [f1, obs]
    simp only
    rw [f2, obs]
    simp only
    rw [f3, obs]
    simp only [lq]
    rw [e0] at g6
    rw [g6, obs]
    simp only
    have ea : std.add .i64 (j : Int) 2 = ((j + 2 : Nat) : Int) := by rw [add_id (by omega) (by omega)]; rfl
    rw [ea]
    cases b with
    | true => rw [br_t, obs, br_t, if_neg (by rintro ⟨h, _⟩; cases h)]
    | false =>
      rw [br_f]
      by_cases ht : tag = 84
      · rw [eq_true' ht, s_not, Bool.not_true, br_f]
        by_cases h2 : j + 2 <= a.size
        · rw [lt_false (by rw [s_ofN, s_slen]; omega), br_f, ju, obs]
          cases hk : okTrans l with
          | false =>
            rw [jr_empty hk, seq_self, br_t, obs, br_t, if_neg (by rintro ⟨_, _, _, h, _⟩; cases h)]
          | true =>
            have hn : std.seq (jrR l) (ByteArray.mk #[]) = false := by
              cases hq : std.seq (jrR l) (ByteArray.mk #[]) with
              | false => rfl
              | true =>
                have h3 := congrArg ByteArray.size (seq_iff.1 hq)
                have h4 := (jr_tag hk).1
                have : (ByteArray.mk #[]).size = 0 := rfl
                omega
            rw [hn, br_f, obs, ro_ ⟨by omega, by rw [s_slen]; omega⟩, ro_ ⟨by omega, by rw [s_toNn]; omega⟩, s_toNn, s_toNn, s_not, obs, br_bool]
            by_cases hq : jrR l = std.ssub a i (j + 2)
            · rw [seq_iff.2 hq, if_neg (by simp), if_pos ⟨rfl, ht, h2, rfl, hq⟩]
            · have : std.seq (jrR l) (std.ssub a i (j + 2)) = false := by
                cases hs : std.seq (jrR l) (std.ssub a i (j + 2)) with
                | false => rfl
                | true => exact absurd (seq_iff.1 hs) hq
              rw [this, Bool.not_false, if_pos rfl, if_neg (by rintro ⟨_, _, _, _, h⟩; exact hq h)]
        · rw [lt_true (by rw [s_ofN, s_slen]; omega), br_t, obs, br_t, if_neg (by rintro ⟨_, _, h, _⟩; exact h2 h)]
      · rw [eq_false' ht, s_not, Bool.not_false, br_t, obs, br_t, if_neg (by rintro ⟨_, h, _⟩; exact ht h)]
  have hd := drp_size hi
  by_cases h18 : 1 <= c /\ c <= 8
  · obtain ⟨x, j4, b4, t1, t2, t3, t4, t5, t6⟩ := two_ex ha g2 b
    have hd4 := drp_size t3
    have himpl : Fq40 (drp a i) = some (if b4 = false /\ jrR l = std.ssub a i j4 then (l, ((j4 - i : Nat) : Int)) else ([], 0)) := by
      unfold Fq40
      rw [e1, obs]
      simp only
      rw [e2, obs]
      simp only
      rw [e3, obs]
      simp only [lq]
      have h7 := g7 h18.2
      rw [show c - ((0 : Nat) : Int) = c by omega] at h7
      rw [impl_within_ok, obs, (wBi _ _ _).2 h18, Bool.not_true, br_f, h7, obs]
      simp only
      rw [t1, obs]
      simp only
      have hs4 : std.sub .i64 (std.ofN (std.slen (drp a i))) (std.ofN (std.slen (drp a j4))) = ((j4 - i : Nat) : Int) := by
        rw [s_slen, s_slen, s_ofN, s_ofN, hd, hd4, sub_id (by omega) (by omega)]; omega
      rw [hs4]
      cases b4 with
      | true => rw [br_t, obs, br_t, if_neg (by rintro ⟨h, _⟩; cases h)]
      | false =>
        rw [br_f, jv, obs, ro_ ⟨by omega, by rw [s_slen, hd]; omega⟩, s_toNn, drp_sub hi (by omega), show i + (j4 - i) = j4 by omega, s_not, obs, br_bool]
        by_cases hq : jrR l = std.ssub a i j4
        · rw [seq_iff.2 hq, if_neg (by simp), if_pos ⟨rfl, hq⟩]
        · have : std.seq (jrR l) (std.ssub a i j4) = false := by
            cases hs : std.seq (jrR l) (std.ssub a i j4) with
            | false => rfl
            | true => exact absurd (seq_iff.1 hs) hq
          rw [this, Bool.not_false, if_pos rfl, if_neg (by rintro ⟨_, h⟩; exact hq h)]
    by_cases hg : b4 = false /\ jrR l = std.ssub a i j4
    · obtain ⟨hb4, hq⟩ := hg
      have hb : b = false := by
        cases b with
        | false => rfl
        | true => rw [t4 rfl] at hb4; cases hb4
      have hj4 := t5 hb4
      rw [if_pos ⟨hb4, hq⟩] at himpl
      cases hk : okTrans l with
      | false =>
        -- nothing is rebuilt: nothing was read
        rw [jr_empty hk] at hq
        have h3 := congrArg ByteArray.size hq
        rw [ssub_size t3] at h3
        have : (ByteArray.mk #[]).size = 0 := rfl
        omega
      | true =>
        obtain ⟨k1, k2⟩ := jr_tag hk
        have h4 : 0 < j4 - i := by rw [hq, ssub_size t3] at k1; exact k1
        have htag : std.sat a i = 84 := by rw [hq, ssub_sat t3 (by omega)] at k2; exact k2
        refine ⟨l, j4 - i, himpl, .inl ⟨by omega, by omega, g3, ?_⟩⟩
        have ht : tag = 84 := by
          have h5 := e1
          unfold Fq2 at h5
          simp only at h5
          rw [lt_false (by rw [s_ofN, s_slen, hd]; omega), br_f, ro_ ⟨by omega, by rw [s_slen, hd]; omega⟩, ro_ ⟨by omega, by rw [s_slen, hd]; omega⟩, show std.toN 0 = 0 from rfl, drp_sat (by omega), htag, conv64 (by omega)] at h5
          injection h5 with h5
          exact (congrArg Prod.fst h5).symm
        rw [hspec, if_pos ⟨hb, ht, by omega, hk, by rw [hq, hj4]⟩, show i + (j4 - i) = j + 2 by omega]
    · rw [if_neg hg] at himpl
      refine ⟨[], 0, himpl, .inr ⟨rfl, ?_⟩⟩
      rw [hspec, if_neg]
      rintro ⟨h1, h2, h3, h4, h5⟩
      have h6 := t6 h1 h3
      exact hg ⟨h6, by rw [h5, t5 h6]⟩
  · have himpl : Fq40 (drp a i) = some ([], ((0 : Nat) : Int)) := by
      unfold Fq40
      rw [e1, obs]
      simp only
      rw [e2, obs]
      simp only
      rw [e3, obs]
      have hw : wB c 1 8 = false := by
        cases hq : wB c 1 8 with
        | false => rfl
        | true => exact absurd ((wBi _ _ _).1 hq) h18
      rw [impl_within_ok, obs, hw, Bool.not_false, br_t]
      rfl
    refine ⟨[], 0, himpl, .inr ⟨rfl, ?_⟩⟩
    rw [hspec, if_neg]
    rintro ⟨h1, h2, h3, h4, h5⟩
    have h6 := g5 h1
    unfold okTrans at h4
    simp only [Bool.and_eq_true, decide_eq_true_eq] at h4
    omega
/-- a journal, from a place in it -/
theorem recover_both {a : ByteArray} (ha : a.size <= 100000000) : ∀ (m i : Nat) (n : Nat) (L : TL), a.size - i < m -> i <= a.size -> n <= i -> SmallL L -> ∃ (k : Nat) (M : TL), SmallL M /\
    whileP (Lq45_x8 a) ((n : Int), (i : Int), L.fC) = some ((k : Int), M.fC) /\ whileP Lq39_x8 (drp a i, (n : Int), L.fC) = some ((k : Int), M.fC) := by
  intro m
  induction m with
  | zero => intro i n L h; omega
  | succ m ih =>
    intro i n L hm hi hn hL
    obtain ⟨l, q, h1, h2⟩ := record_both ha hi
    have hstop : ∀ (hs : Fq34 a (i : Int) = some ([], (i : Int), false)) (hq : q = 0), ∃ (k : Nat) (M : TL), SmallL M /\ whileP (Lq45_x8 a) ((n : Int), (i : Int), L.fC) = some ((k : Int), M.fC) /\ whileP Lq39_x8 (drp a i, (n : Int), L.fC) = some ((k : Int), M.fC) := by
      intro hs hq
      refine ⟨n, L, hL, ?_, ?_⟩
      · rw [whileP_unfold]
        simp only [Lq45_x8, lq]
        rw [hs, obs]
        rfl
      · rw [whileP_unfold]
        simp only [Lq39_x8, lq]
        rw [h1, obs, hq]
        rfl
    rcases h2 with ⟨g1, g2, g3, g4⟩ | ⟨g1, g2⟩
    · have hE : ∀ e ∈ l, SmallE e := fun e he => (g3 e he).small
      have hA := allR_small L l hL hE
      by_cases hc : (allR L l).2.2.1 = 0
      · obtain ⟨k, M, k1, k2, k3⟩ := ih (i + q) (n + 1) (allR L l).1 (by omega) g2 (by omega) hA
        refine ⟨k, M, k1, ?_, ?_⟩
        · rw [whileP_unfold]
          simp only [Lq45_x8, lq]
          rw [g4, obs, Bool.not_true, br_f, show TL.mk L.fC = L from rfl, spec_l13All_ok L l hL hE, obs, hc, eq_true' rfl, s_not, Bool.not_true, br_f, inc_nat (by omega)]
          exact k2
        · rw [whileP_unfold]
          simp only [Lq39_x8, lq]
          have hd := drp_size hi
          rw [h1, obs, eq_false' (by omega), br_f, show TL.mk L.fC = L from rfl]
          unfold Fq152
          rw [impl_applyAll_ok L l hL hE]
          simp only [obs]
          rw [hc, eq_true' rfl, s_not, Bool.not_true, br_f, ro_ ⟨by omega, by rw [s_slen, hd]; omega⟩, s_toNn, inc_nat (by omega)]
          have e : std.ssub (drp a i) q (std.slen (drp a i)) = drp a (i + q) := drp_drp hi
          rw [e]
          exact k3
      · refine ⟨n, L, hL, ?_, ?_⟩
        · rw [whileP_unfold]
          simp only [Lq45_x8, lq]
          rw [g4, obs, Bool.not_true, br_f, show TL.mk L.fC = L from rfl, spec_l13All_ok L l hL hE, obs, eq_false' hc, s_not, Bool.not_false, br_t]
        · rw [whileP_unfold]
          simp only [Lq39_x8, lq]
          rw [h1, obs, eq_false' (by omega), br_f, show TL.mk L.fC = L from rfl]
          unfold Fq152
          rw [impl_applyAll_ok L l hL hE]
          simp only [obs]
          rw [eq_false' hc, s_not, Bool.not_false, br_t]
    · exact hstop g2 g1
theorem recover_ex (L : TL) (a : ByteArray) (hL : SmallL L) (ha : a.size <= 100000000) : ∃ r : TL × Int × Int, SmallL r.1 /\ Fq45 L a = some r /\ Fq39 L a = some r := by
  unfold Fq45 Fq39
  rw [spec_IsValidLibrary_ok L hL, impl_IsValidLibrary_ok L hL, obs, obs]
  cases hv : okLib L with
  | false => exact ⟨(⟨[]⟩, 0, 1), ⟨by simp, fun x hx => by cases hx⟩, rfl, rfl⟩
  | true =>
    rw [Bool.not_true, br_f, br_f, spec_Copy_ok L hL, impl_copyLibrary_ok L hL, obs, obs]
    obtain ⟨k, M, h1, h2, h3⟩ := recover_both ha (a.size + 1) 0 0 L (by omega) (by omega) (by omega) hL
    rw [drp_zero] at h3
    rw [show ((0 : Nat) : Int) = 0 from rfl] at h2 h3
    rw [h2, h3]
    exact ⟨(M, (k : Int), 0), h1, rfl, rfl⟩
theorem lawW_RecoverJournal (a : TL) (s : ByteArray) (w : wfLibrary a) (ws : wfS s) : Fq167 a s = some true := by
  have hb := maxLen_eq
  have hws : s.size <= maxLen := ws
  unfold Fq167
  rw [br_bool, s_lt, s_ofN, s_slen]
  by_cases hl : (1048576 : Int) < (s.size : Int)
  · rw [if_pos (by simpa using hl)]
  · rw [if_neg (by simpa using hl)]
    obtain ⟨y, hy, hs⟩ := laws_szLibrary_ok2 a (wfLb_of w)
    rw [hy, obs, br_bool, s_lt]
    by_cases h0 : y < 0
    · rw [if_pos (by simpa using h0)]
    · obtain ⟨hy2, h⟩ := hs (by omega)
      rw [if_neg (by simpa using h0)]
      obtain ⟨r, hbs, hr1, hr2⟩ := recover_ex a s h (by omega)
      have m1 := markLibrary_ok a 1 h (by omega)
      have m2 := markLibrary_ok r.1 1 hbs (by omega)
      have m3 := heldLibrary_ok r.1 1 hbs (by omega)
      have e1 : ((1 : Nat) : Int) = 1 := rfl
      rw [e1] at m1 m2 m3
      have hml : ((List.range r.1.fC.length).map (mC r.1.fC 1)).length = r.1.fC.length := by simp
      have hml1 : ((List.range a.fC.length).map (mC a.fC 1)).length = a.fC.length := by simp
      simp only [laws_toLibrary_ok a h, obs, hr1, hr2, laws_eqLibrary_ok a h, laws_eqLibrary_ok r.1 hbs, Bool.not_true, br_f, eq_true' rfl, s_not, lq, m1, m2, m3]
      rw [ro_ (by rw [eL_, eL_, hml1]), lt_false (by omega)]
      simp only [br_f, obs]
      rw [ro_ (by rw [eL_, eL_, hml]), ro_ (by rw [eL_, eL_, hml]), lt_false (by omega)]
      simp only [br_f, obs, Bool.not_true]
      rw [ro_ (by rw [eL_, eL_, hml])]
end
end Go.Proofs.YtohgghncmkiicaaGreat.AM
