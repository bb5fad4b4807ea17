/-
  What the functions that the law reaches compute, and that they do. No condition.
-/
import Derived.Test.YtmdlnjeppemipaaAmCZ
namespace Go.Proofs.Ytmdlnjeppemipaa.AM
open Go Go.Proofs Go.RowKit
set_option linter.unusedVariables false
set_option linter.unusedSimpArgs false
set_option maxRecDepth 100000

/- how far boxes reach; overlaps -/
structure NB (r : TRect) (B : Int) : Prop where
  x0 : -B ≤ r.fX0
  x : r.fX0 < r.fX1
  x1 : r.fX1 ≤ B
  y0 : -B ≤ r.fY0
  y : r.fY0 < r.fY1
  y1 : r.fY1 ≤ B
theorem NB.mono {r : TRect} {B C : Int} (h : NB r B) (hc : B ≤ C) : NB r C := ⟨by have := h.x0; omega, h.x, by have := h.x1; omega, by have := h.y0; omega, h.y, by have := h.y1; omega⟩
theorem rem4 (o : Int) : (std.rem o 4).toNat = 0 ∨ (std.rem o 4).toNat = 1 ∨ (std.rem o 4).toNat = 2 ∨ (std.rem o 4).toNat = 3 := by
  have := rem_lt o
  omega
theorem mvP_bd {t : TTransform} {p : TPoint} {B S : Int} (hp : -B ≤ p.fX ∧ p.fX ≤ B ∧ -B ≤ p.fY ∧ p.fY ≤ B) (ht : -S ≤ t.fX ∧ t.fX ≤ S ∧ -S ≤ t.fY ∧ t.fY ≤ S) (hb : B + S ≤ 1000000) (hB : 0 ≤ B) (hS : 0 ≤ S) :
    -(B + S) ≤ (mvP t p).fX ∧ (mvP t p).fX ≤ B + S ∧ -(B + S) ≤ (mvP t p).fY ∧ (mvP t p).fY ≤ B + S := by
  unfold mvP
  rcases rem4 t.fOrientation with h | h | h | h <;> rw [h] <;> (by_cases h4 : 4 ≤ t.fOrientation) <;> simp only [h4, if_true, if_false] <;> simp (disch := omega) only [rot, sub_id, add_id] <;> omega
theorem mvR_NB {t : TTransform} {r : TRect} {B S : Int} (hr : NB r B) (ht : -S ≤ t.fX ∧ t.fX ≤ S ∧ -S ≤ t.fY ∧ t.fY ≤ S) (hb : B + S ≤ 1000000) (hS : 0 ≤ S) : NB (mvR t r) (B + S) := by
  obtain ⟨a1, a2, a3, a4, a5, a6⟩ := hr
  unfold mvR mvP
  rcases rem4 t.fOrientation with h | h | h | h <;> rw [h] <;> (by_cases h4 : 4 ≤ t.fOrientation) <;> simp only [h4, if_true, if_false] <;> simp (disch := omega) only [rot, sub_id, add_id, s_imin, s_imax] <;> constructor <;> simp only <;> omega
theorem hull_NB {a b : TRect} {B : Int} (ha : NB a B) (hb : NB b B) : NB (hull a b) B := by
  obtain ⟨a1, a2, a3, a4, a5, a6⟩ := ha
  obtain ⟨b1, b2, b3, b4, b5, b6⟩ := hb
  unfold hull
  constructor <;> simp only [s_imin, s_imax] <;> omega
theorem bxs_NB {l : List TRect} {B : Int} (h : l ≠ []) (hl : ∀ r ∈ l, NB r B) : NB (bxs l) B := by
  cases l with
  | nil => exact (h rfl).elim
  | cons a r =>
    have key : ∀ (r : List TRect) (a : TRect), NB a B → (∀ x ∈ r, NB x B) → NB (r.foldl hull a) B := by
      intro r
      induction r with
      | nil => intro a ha _; exact ha
      | cons b r ih => intro a ha hr; exact ih _ (hull_NB ha (hr b (by simp))) (fun x hx => hr x (by simp [hx]))
    exact key r a (hl a (by simp)) (fun x hx => hl x (by simp [hx]))
theorem okRect_iff {a : TRect} : okRect a = true ↔ (-40 ≤ a.fX0 ∧ a.fX0 < a.fX1 ∧ a.fX1 ≤ 40 ∧ -40 ≤ a.fY0 ∧ a.fY0 < a.fY1 ∧ a.fY1 ≤ 40) := by
  unfold okRect
  simp only [s_le, s_lt, Bool.and_eq_true, decide_eq_true_eq]
theorem okRect_NB {a : TRect} (h : okRect a = true) : NB a 40 := by
  obtain ⟨h1, h2, h3, h4, h5, h6⟩ := okRect_iff.1 h
  exact ⟨h1, h2, h3, h4, h5, h6⟩
theorem own_NB {c : TCell} {k : Nat} (h : VC c k) : ∀ r ∈ own c, NB r 40 := by
  intro r hr
  unfold own at hr
  rcases List.mem_append.1 hr with h1 | h1
  · obtain ⟨s, hs, rfl⟩ := List.mem_map.1 h1
    have := h.shape s hs
    unfold okShape at this
    rw [Bool.and_eq_true] at this
    exact okRect_NB this.2
  · obtain ⟨l, hl, rfl⟩ := List.mem_map.1 h1
    have := h.label l hl
    unfold okLabel okPoint at this
    simp only [Bool.and_eq_true, wB_iffG] at this
    obtain ⟨_, ⟨h2, h3⟩, _⟩ := this
    unfold unitR
    constructor <;> simp only <;> (try rw [add_id (by omega) (by omega)]) <;> omega
theorem elP_bd {x : TInstance} {k : Nat} (h : VI x k) {t : TTransform} (ht : t ∈ elsOf x) : (-320 ≤ t.fX ∧ t.fX ≤ 320 ∧ -320 ≤ t.fY ∧ t.fY ≤ 320) ∧ 0 ≤ t.fOrientation ∧ t.fOrientation ≤ 7 := by
  unfold elsOf at ht
  obtain ⟨r, hr, ht⟩ := List.mem_flatMap.1 ht
  unfold elRow at ht
  obtain ⟨c, hc, rfl⟩ := List.mem_map.1 ht
  rw [List.mem_range] at hr hc
  obtain ⟨n, hn, _, hn4⟩ := h.cols
  obtain ⟨m, hm, _, hm4⟩ := h.rows
  have hpx := h.px
  have hpy := h.py
  have hsx := h.sx
  have hsy := h.sy
  have hc3 : (c : Int) ≤ 3 := by omega
  have hr3 : (r : Int) ≤ 3 := by omega
  have e1 : -240 ≤ (c : Int) * x.fStepX ∧ (c : Int) * x.fStepX ≤ 240 := by
    have : c = 0 ∨ c = 1 ∨ c = 2 ∨ c = 3 := by omega
    rcases this with rfl | rfl | rfl | rfl <;> omega
  have e2 : -240 ≤ (r : Int) * x.fStepY ∧ (r : Int) * x.fStepY ≤ 240 := by
    have : r = 0 ∨ r = 1 ∨ r = 2 ∨ r = 3 := by omega
    rcases this with rfl | rfl | rfl | rfl <;> omega
  unfold elP
  simp only
  rw [mul_id (by omega) (by omega), mul_id (by omega) (by omega), add_id (by omega) (by omega), add_id (by omega) (by omega)]
  exact ⟨by omega, h.ori.1, h.ori.2⟩
theorem box_NB (a : TLibrary) (h : okLib a = true) (k : Nat) (hk : k < a.fCells.length) {b : TRect} (hb : boxV a k = [b]) : NB b (40 + 320 * k) := by
  have h8 := (okLib_leG h).2
  have key : ∀ m, ∀ k, k < m → k < a.fCells.length → ∀ b, gd (boxesN a.fCells a.fCells.length) k = [b] → NB b (40 + 320 * k) := by
    intro m
    induction m with
    | zero => intro k hk; omega
    | succ m ih =>
      intro k hkm hk b hb
      have hc := vc_of h hk
      rw [boxesN_gd a.fCells hk] at hb
      unfold one at hb
      split at hb
      · cases hb
      · rename_i hne
        injection hb with hb _
        subst hb
        refine bxs_NB hne (fun r hr => ?_)
        unfold allOf at hr
        rcases List.mem_append.1 hr with h1 | h1
        · exact (own_NB hc r h1).mono (by omega)
        · obtain ⟨x, hx, h1⟩ := List.mem_flatMap.1 h1
          have hv := hc.inst x hx
          obtain ⟨j, hj, hjk⟩ := hv.cell
          unfold part at h1
          obtain ⟨t, ht, h1⟩ := List.mem_flatMap.1 h1
          obtain ⟨q, hq, rfl⟩ := List.mem_map.1 h1
          rw [hj, Int.toNat_natCast, boxesN_gd a.fCells hjk] at hq
          have hq2 : gd (boxesN a.fCells a.fCells.length) j = [q] := by
            rw [boxesN_gd a.fCells (show j < a.fCells.length by omega)]
            have h1 := one_le (allOf (boxesN a.fCells j) (gd a.fCells j))
            cases hd : one (allOf (boxesN a.fCells j) (gd a.fCells j)) with
            | nil => rw [hd] at hq; cases hq
            | cons z r =>
              rw [hd] at hq h1
              cases r with
              | nil => rw [List.mem_singleton] at hq; rw [hq]
              | cons _ _ => simp at h1
          have hN := ih j (by omega) (by omega) q hq2
          have hbd := elP_bd hv ht
          exact (mvR_NB (S := 320) hN hbd.1 (by omega) (by omega)).mono (by omega)
  exact key (k + 1) k (by omega) hk b hb
noncomputable def ovlG (a b : TRect) : Bool := std.lt a.fX0 b.fX1 && (std.lt b.fX0 a.fX1 && (std.lt a.fY0 b.fY1 && std.lt b.fY0 a.fY1))
theorem ovlG_iff {a b : TRect} : ovlG a b = true ↔ (a.fX0 < b.fX1 ∧ b.fX0 < a.fX1 ∧ a.fY0 < b.fY1 ∧ b.fY0 < a.fY1) := by
  unfold ovlG
  simp only [s_lt, Bool.and_eq_true, decide_eq_true_eq]
theorem spec_l11Overlap_okG (a b : TRect) : F_spec_l11Overlap a b = some (ovlG a b) := by
  unfold F_spec_l11Overlap ovlG
  cases std.lt a.fX0 b.fX1 <;> cases std.lt b.fX0 a.fX1 <;> cases std.lt a.fY0 b.fY1 <;> rfl
theorem anywhere_ok {a b : TRect} {B C : Int} (ha : NB a B) (hb : NB b C) : F_impl_anywhere a b = some (ovlG a b) := by
  have e : F_impl_anywhere a b = some (decide (max a.fX0 b.fX0 < min a.fX1 b.fX1) && decide (max a.fY0 b.fY0 < min a.fY1 b.fY1)) := by
    unfold F_impl_anywhere F_impl_common
    simp only [Option.bind_some, letO_eq, s_imin, s_imax, s_lt]
    cases decide (max a.fX0 b.fX0 < min a.fX1 b.fX1) <;> rfl
  rw [e, Option.some.injEq, Bool.eq_iff_iff, ovlG_iff, Bool.and_eq_true, decide_eq_true_eq, decide_eq_true_eq]
  obtain ⟨a1, a2, a3, a4, a5, a6⟩ := ha
  obtain ⟨b1, b2, b3, b4, b5, b6⟩ := hb
  omega
/- composing; counting; the occurrences that a query visits, both sides -/
noncomputable def cmpO (a b : Int) : Int :=
  cond (std.not (std.beq (std.le 4 a) (std.le 4 b)))
    (std.add .i64 (std.rem (cond (std.le 4 b) (std.sub .i64 (std.add .i64 (std.rem b 4) 4) (std.rem a 4)) (std.add .i64 (std.rem b 4) (std.rem a 4))) 4) 4)
    (std.rem (cond (std.le 4 b) (std.sub .i64 (std.add .i64 (std.rem b 4) 4) (std.rem a 4)) (std.add .i64 (std.rem b 4) (std.rem a 4))) 4)
/-- an element's place t in an occurrence at u -/
noncomputable def cmpT (u t : TTransform) : TTransform := ⟨cmpO t.fOrientation u.fOrientation, (mvP u ⟨t.fX, t.fY⟩).fX, (mvP u ⟨t.fX, t.fY⟩).fY⟩
theorem impl_compose_ok (t u : TTransform) : F_impl_compose t u = some (cmpT u t) := by
  have nz : std.nz 4 := by rw [s_nz]; decide
  unfold F_impl_compose F_impl_composed cmpT cmpO
  rw [impl_move_ok, Option.bind_some]
  simp only [req_of nz, letO_eq]
  cases std.le 4 u.fOrientation <;> cases std.le 4 t.fOrientation <;> rfl
theorem ori8 {o : Int} (h : 0 ≤ o ∧ o ≤ 7) : o = 0 ∨ o = 1 ∨ o = 2 ∨ o = 3 ∨ o = 4 ∨ o = 5 ∨ o = 6 ∨ o = 7 := by omega
theorem spec_After_ok (t u : TTransform) (ht : 0 ≤ t.fOrientation ∧ t.fOrientation ≤ 7) (hu : 0 ≤ u.fOrientation ∧ u.fOrientation ≤ 7) : F_spec_l10After u t = some (cmpT u t) := by
  have nz : std.nz 4 := by rw [s_nz]; decide
  unfold F_spec_l10After cmpT
  rw [spec_l10Point_ok]
  simp only [req_of nz, Option.bind_some, letO_eq]
  generalize (mvP u ⟨t.fX, t.fY⟩).fX = X
  generalize (mvP u ⟨t.fX, t.fY⟩).fY = Y
  rcases ori8 ht with h | h | h | h | h | h | h | h <;> rcases ori8 hu with h' | h' | h' | h' | h' | h' | h' | h' <;> rw [h, h'] <;> rfl
theorem cmpO_ori {a b : Int} (ha : 0 ≤ a ∧ a ≤ 7) (hb : 0 ≤ b ∧ b ≤ 7) : 0 ≤ cmpO a b ∧ cmpO a b ≤ 7 := by
  rcases ori8 ha with rfl | rfl | rfl | rfl | rfl | rfl | rfl | rfl <;> rcases ori8 hb with rfl | rfl | rfl | rfl | rfl | rfl | rfl | rfl <;> decide
/-- the numbers of occurrences below the cells -/
def sumI (prev : List Nat) (l : List TInstance) : Nat := (l.map fun x => x.fColumns.toNat * x.fRows.toNat * gd prev x.fCell.toNat).sum
def cntN (cs : List TCell) : Nat → List Nat
  | 0 => []
  | k + 1 => cntN cs k ++ [1 + sumI (cntN cs k) (gd cs k).fInstances]
theorem cntN_len (cs : List TCell) : ∀ k, (cntN cs k).length = k
  | 0 => rfl
  | k + 1 => by rw [cntN, List.length_append, cntN_len cs k]; rfl
theorem cntN_gd (cs : List TCell) {i n : Nat} (h : i < n) : gd (cntN cs n) i = 1 + sumI (cntN cs i) (gd cs i).fInstances := by
  induction n with
  | zero => omega
  | succ n ih =>
    rw [cntN]
    have hl := cntN_len cs n
    by_cases h1 : i = n
    · subst h1
      rw [gd_lt (by simp; omega), List.getElem_append_right (by omega)]
      simp [hl]
    · rw [gd_lt (by simp; omega), List.getElem_append_left (by omega), ← gd_lt (by omega)]
      exact ih (by omega)
def cnt (cs : List TCell) (k : Nat) : Nat := 1 + sumI (cntN cs k) (gd cs k).fInstances
theorem cntN_cnt (cs : List TCell) {i n : Nat} (h : i < n) : gd (cntN cs n) i = cnt cs i := cntN_gd cs h
theorem sumI_le {prev : List Nat} {l : List TInstance} {k b : Nat} (hv : ∀ x ∈ l, VI x k) (hb : ∀ i, i < k → gd prev i ≤ b) : sumI prev l ≤ l.length * (16 * b) := by
  induction l with
  | nil => simp [sumI]
  | cons x r ih =>
    have hx := hv x (by simp)
    obtain ⟨c, hc, hck⟩ := hx.cell
    obtain ⟨n, hn, _, hn4⟩ := hx.cols
    obtain ⟨m, hm, _, hm4⟩ := hx.rows
    have h1 := ih (fun x h => hv x (by simp [h]))
    have h2 : x.fColumns.toNat * x.fRows.toNat ≤ 16 := by
      rw [hn, hm, Int.toNat_natCast, Int.toNat_natCast]
      exact Nat.mul_le_mul hn4 hm4
    have h3 : x.fColumns.toNat * x.fRows.toNat * gd prev x.fCell.toNat ≤ 16 * b := by
      rw [hc, Int.toNat_natCast]
      exact Nat.mul_le_mul h2 (hb c hck)
    show x.fColumns.toNat * x.fRows.toNat * gd prev x.fCell.toNat + sumI prev r ≤ _
    rw [List.length_cons, Nat.add_mul, Nat.one_mul]
    omega
theorem cnt_pow {a : TLibrary} (h : okLib a = true) : ∀ m k, k < m → k < a.fCells.length → cnt a.fCells k ≤ 129 ^ k := by
  intro m
  induction m with
  | zero => intro k hk; omega
  | succ m ih =>
    intro k hkm hk
    have hc := vc_of h hk
    have h8 := hc.insts
    cases k with
    | zero =>
      have h0 : (gd a.fCells 0).fInstances = [] := by
        cases hd : (gd a.fCells 0).fInstances with
        | nil => rfl
        | cons x r =>
          obtain ⟨c, _, hc0⟩ := (hc.inst x (by rw [hd]; simp)).cell
          omega
      show 1 + sumI _ (gd a.fCells 0).fInstances ≤ _
      rw [h0]; simp [sumI]
    | succ k =>
      have h1 := sumI_le (prev := cntN a.fCells (k + 1)) (b := 129 ^ k) hc.inst (fun i hi => by
        rw [cntN_cnt _ hi]
        exact Nat.le_trans (ih i (by omega) (by omega)) (Nat.pow_le_pow_right (by omega) (by omega)))
      show 1 + sumI (cntN a.fCells (k + 1)) (gd a.fCells (k + 1)).fInstances ≤ _
      have h2 : (gd a.fCells (k + 1)).fInstances.length * (16 * 129 ^ k) ≤ 8 * (16 * 129 ^ k) := Nat.mul_le_mul_right _ h8
      have h3 : 1 ≤ 129 ^ k := Nat.pos_of_ne_zero (by simp)
      rw [Nat.pow_succ]
      omega
theorem cnt_le {a : TLibrary} (h : okLib a = true) {k : Nat} (hk : k < a.fCells.length) : cnt a.fCells k ≤ 1000000000000000 := by
  have h8 := (okLib_leG h).2
  have h1 := cnt_pow h (k + 1) k (by omega) hk
  have h2 : 129 ^ k ≤ 129 ^ 7 := Nat.pow_le_pow_right (by omega) (by omega)
  have h3 : 129 ^ 7 = 594467302491009 := by decide
  omega
theorem take_gd1 {α : Type} [Inhabited α] {l : List α} {i : Nat} (h : i < l.length) : l.take (i + 1) = l.take i ++ [gd l i] := by
  rw [List.take_succ_eq_append_getElem h, gd_lt h]
theorem sumI_app (prev : List Nat) (l m : List TInstance) : sumI prev (l ++ m) = sumI prev l + sumI prev m := by simp [sumI]
theorem sumI_take_le (prev : List Nat) (l : List TInstance) (i : Nat) : sumI prev (l.take i) ≤ sumI prev l := by
  conv => rhs; rw [← List.take_append_drop i l]
  rw [sumI_app]; omega
theorem map_cast_gd (l : List Nat) {m : Nat} (h : m < l.length) : gd (l.map fun x : Nat => (x : Int)) m = ((gd l m : Nat) : Int) := by
  rw [gd_lt (by simp; omega), gd_lt h, List.getElem_map]
theorem spec_ElementCount_ok (a : TLibrary) (k : Nat) (hs : SmallL a) (h : okLib a = true) (hk : k < a.fCells.length) : F_spec_ElementCount a (k : Int) = some ((cnt a.fCells k : Nat) : Int) := by
  have h8 := (okLib_leG h).2
  unfold F_spec_ElementCount
  rw [spec_l09Has_ok a _ hs, h, (wB_iffG _ _ _).2 (show (0 : Int) ≤ (k : Int) ∧ (k : Int) ≤ (a.fCells.length : Int) - 1 by omega), Option.bind_some]
  simp only [Bool.and_self, Bool.not_true, br_f, letO_eq]
  rw [show whileP (L_spec_ElementCount_x7 a) (0, ([] : List Int)) = some ((cntN a.fCells a.fCells.length).map fun x : Nat => (x : Int)) from ?_]
  · simp only [Option.bind_some, s_nadd, Nat.zero_add, s_toNn]
    rw [req_of (inRl (by rw [List.length_map, cntN_len]; exact hk)), map_cast_gd _ (by rw [cntN_len]; exact hk), cntN_cnt _ hk]
  refine while_from (fun i => ((i : Int), (cntN a.fCells i).map fun x : Nat => (x : Int))) a.fCells.length rfl (fun i hi => ?_) ?_
  · have hc := vc_of h hi
    have i8 := hc.insts
    obtain ⟨c, hcd⟩ : ∃ c, c = gd a.fCells i := ⟨_, rfl⟩
    obtain ⟨prev, hprev⟩ : ∃ prev, prev = cntN a.fCells i := ⟨_, rfl⟩
    have hpl : prev.length = i := by rw [hprev]; exact cntN_len _ _
    have hcl := cnt_le h hi
    unfold cnt at hcl
    rw [← hcd] at hc i8 hcl
    rw [← hprev] at hcl
    have w : whileP (L_spec_ElementCount_x22 a (prev.map fun x : Nat => (x : Int)) (i : Int)) (1, 0) = some (((1 + sumI prev c.fInstances : Nat) : Int)) := by
      refine while_from (fun j => (((1 + sumI prev (c.fInstances.take j) : Nat) : Int), (j : Int))) c.fInstances.length rfl (fun j hj => ?_) ?_
      · obtain ⟨x, hx⟩ : ∃ x, x = gd c.fInstances j := ⟨_, rfl⟩
        have hv := hc.inst _ (gd_mem hj)
        rw [← hx] at hv
        obtain ⟨m, hm, hmi⟩ := hv.cell
        obtain ⟨p, hp, _, hp4⟩ := hv.cols
        obtain ⟨q, hq, _, hq4⟩ := hv.rows
        have hst := sumI_take_le prev c.fInstances (j + 1)
        rw [take_gd1 hj, ← hx, sumI_app] at hst
        have hone : sumI prev [x] = p * q * gd prev m := by simp [sumI, hp, hq, hm]
        have hpq : p * q ≤ 16 := Nat.mul_le_mul hp4 hq4
        simp only [L_spec_ElementCount_x22, letO_eq, s_toNn, s_nadd, Nat.zero_add, ← hcd, ← hx, hm, hp, hq]
        rw [ltl_t hj, br_t, req_of (inRl hj), req_of (inRl hj), req_of (inRl hj), req_of (inRl (by simp; omega)), map_cast_gd _ (by omega), inc_nat (by omega), take_gd1 hj, ← hx, sumI_app, hone]
        rw [hone] at hst
        have e1 : std.mul .i64 (p : Int) (q : Int) = ((p * q : Nat) : Int) := by rw [mul_id (by rw [← Int.natCast_mul]; omega) (by rw [← Int.natCast_mul]; omega), Int.natCast_mul]
        have e2 : std.mul .i64 ((p * q : Nat) : Int) ((gd prev m : Nat) : Int) = ((p * q * gd prev m : Nat) : Int) := by rw [mul_id (by rw [← Int.natCast_mul]; omega) (by rw [← Int.natCast_mul]; omega), ← Int.natCast_mul]
        rw [e1, e2, add_id (by omega) (by omega), ← Int.natCast_add, Nat.add_assoc]
      · simp only [L_spec_ElementCount_x22, letO_eq, s_toNn, ← hcd]
        rw [ltl_f, br_f, List.take_length]
    simp only [L_spec_ElementCount_x7, letO_eq, ← hprev]
    rw [ltl_t hi, br_t, req_of (inRl hi), w, Option.bind_some, req_of (roomG (by rw [s_nadd, len_eq, len_eq]; simp; omega) (by omega)), inc_nat (by omega), cntN, ← hprev, ← hcd, List.map_append]
    rfl
  · simp only [L_spec_ElementCount_x7, letO_eq]
    rw [ltl_f, br_f]
theorem subL_take {α : Type} (l : List α) (n : Nat) : subL l 0 n = l.take n := by simp [subL]
theorem impl_elementCount_ok (a : TLibrary) (k : Nat) (h : okLib a = true) (hk : k < a.fCells.length) : F_impl_elementCount a (k : Int) = some ((cnt a.fCells k : Nat) : Int) := by
  have h8 := (okLib_leG h).2
  unfold F_impl_elementCount
  simp only [letO_eq]
  rw [inc_nat (by omega), req_of (show std.upTo ((k + 1 : Nat) : Int) (len a.fCells) from ⟨by omega, by rw [len_eq]; omega⟩), req_of (show std.upTo 0 (std.toN ((k + 1 : Nat) : Int)) from ⟨by omega, by omega⟩), s_toNn, show std.toN 0 = 0 from rfl, subL_take]
  have hgl : (a.fCells.take (k + 1)).length = k + 1 := by rw [List.length_take]; omega
  have hgd : ∀ i, i < k + 1 → gd (a.fCells.take (k + 1)) i = gd a.fCells i := fun i hi => by
    rw [gd_lt (by omega), gd_lt (by omega), List.getElem_take]
  rw [show whileP (L_impl_elementCount_x8 (a.fCells.take (k + 1))) (0, ([] : List Int)) = some ((cntN a.fCells (k + 1)).map fun x : Nat => (x : Int)) from ?_]
  · simp only [Option.bind_some, s_nadd, Nat.zero_add]
    rw [s_toNn, req_of (inRl (by rw [List.length_map, cntN_len]; omega)), map_cast_gd _ (by rw [cntN_len]; omega), cntN_cnt _ (by omega)]
  refine while_from (fun i => ((i : Int), (cntN a.fCells i).map fun x : Nat => (x : Int))) (k + 1) rfl (fun i hi => ?_) ?_
  · have hi' : i < a.fCells.length := by omega
    have hc := vc_of h hi'
    have i8 := hc.insts
    obtain ⟨c, hcd⟩ : ∃ c, c = gd a.fCells i := ⟨_, rfl⟩
    obtain ⟨prev, hprev⟩ : ∃ prev, prev = cntN a.fCells i := ⟨_, rfl⟩
    have hpl : prev.length = i := by rw [hprev]; exact cntN_len _ _
    have hcl := cnt_le h hi'
    unfold cnt at hcl
    rw [← hcd] at hc i8 hcl
    rw [← hprev] at hcl
    have hcd2 : gd (a.fCells.take (k + 1)) i = c := by rw [hgd i hi, hcd]
    have w : whileP (L_impl_elementCount_x23 (a.fCells.take (k + 1)) (prev.map fun x : Nat => (x : Int)) (i : Int)) (1, 0) = some (((1 + sumI prev c.fInstances : Nat) : Int)) := by
      refine while_from (fun j => (((1 + sumI prev (c.fInstances.take j) : Nat) : Int), (j : Int))) c.fInstances.length rfl (fun j hj => ?_) ?_
      · obtain ⟨x, hx⟩ : ∃ x, x = gd c.fInstances j := ⟨_, rfl⟩
        have hv := hc.inst _ (gd_mem hj)
        rw [← hx] at hv
        obtain ⟨m, hm, hmi⟩ := hv.cell
        obtain ⟨p, hp, _, hp4⟩ := hv.cols
        obtain ⟨q, hq, _, hq4⟩ := hv.rows
        have hst := sumI_take_le prev c.fInstances (j + 1)
        rw [take_gd1 hj, ← hx, sumI_app] at hst
        have hone : sumI prev [x] = p * q * gd prev m := by simp [sumI, hp, hq, hm]
        have hpq : p * q ≤ 16 := Nat.mul_le_mul hp4 hq4
        simp only [L_impl_elementCount_x23, letO_eq, s_toNn, s_nadd, Nat.zero_add, hcd2, ← hx, hm, hp, hq]
        rw [ltl_t hj, br_t, req_of (inRl hj), req_of (inRl (by simp; omega)), map_cast_gd _ (by omega), inc_nat (by omega), take_gd1 hj, ← hx, sumI_app, hone]
        rw [hone] at hst
        have e1 : std.mul .i64 (p : Int) (q : Int) = ((p * q : Nat) : Int) := by rw [mul_id (by rw [← Int.natCast_mul]; omega) (by rw [← Int.natCast_mul]; omega), Int.natCast_mul]
        have e2 : std.mul .i64 ((p * q : Nat) : Int) ((gd prev m : Nat) : Int) = ((p * q * gd prev m : Nat) : Int) := by rw [mul_id (by rw [← Int.natCast_mul]; omega) (by rw [← Int.natCast_mul]; omega), ← Int.natCast_mul]
        rw [e1, e2, add_id (by omega) (by omega), ← Int.natCast_add, Nat.add_assoc]
      · simp only [L_impl_elementCount_x23, letO_eq, s_toNn, hcd2]
        rw [ltl_f, br_f, List.take_length]
    simp only [L_impl_elementCount_x8, letO_eq, ← hprev]
    rw [ltl_t (by omega), br_t, req_of (inRl (by omega)), w, Option.bind_some, req_of (roomG (by rw [s_nadd, len_eq, len_eq]; simp; omega) (by omega)), inc_nat (by omega), cntN, ← hprev, ← hcd, List.map_append]
    rfl
  · simp only [L_impl_elementCount_x8, letO_eq]
    rw [lt_false (by rw [s_ofN, len_eq, hgl]; omega), br_f]
/- the occurrences below one, those that a query visits: both sides -/
def ctr (G : Nat → Telement → List TOccurrence) : Nat → List Telement → List TOccurrence
  | _, [] => []
  | s, e :: r => G s e ++ ctr G (s + 1) r
theorem ctr_app (G : Nat → Telement → List TOccurrence) : ∀ (l m : List Telement) (s : Nat), ctr G s (l ++ m) = ctr G s l ++ ctr G (s + l.length) m
  | [], m, s => by simp [ctr]
  | e :: r, m, s => by
    rw [List.cons_append, ctr, ctr, ctr_app G r m (s + 1), List.append_assoc, List.length_cons, show s + 1 + r.length = s + (r.length + 1) by omega]
theorem ctr_range (G : Nat → Telement → List TOccurrence) : ∀ (l : List Telement) (s : Nat), ctr G s l = (List.range l.length).flatMap fun i => G (s + i) (gd l i)
  | [], s => rfl
  | e :: r, s => by
    rw [ctr, ctr_range G r (s + 1), List.length_cons, List.range_succ_eq_map, List.flatMap_cons, List.flatMap_map]
    congr 2
    funext i
    rw [show s + 1 + i = s + (i + 1) by omega]
    rfl
theorem ctr_len_le (G : Nat → Telement → List TOccurrence) (b : Telement → Nat) : ∀ (l : List Telement) (s : Nat), (∀ e ∈ l, ∀ s, (G s e).length ≤ b e) → (ctr G s l).length ≤ (l.map b).sum
  | [], s, h => by simp [ctr]
  | e :: r, s, h => by
    rw [ctr, List.length_append, List.map_cons, List.sum_cons]
    have h1 := h e (by simp) s
    have h2 := ctr_len_le G b r (s + 1) (fun x hx => h x (by simp [hx]))
    omega
theorem while_blk {ρ : Type} (G : Nat → Telement → List TOccurrence) (f : Nat → List Telement) (n s : Nat) (v : List TOccurrence) (B S : Nat) {st : Int × Int × List TOccurrence → Option ((Int × Int × List TOccurrence) ⊕ ρ)} {fin : Int → List TOccurrence → ρ}
    (hS : s + ((List.range n).flatMap f).length ≤ S) (hB : v.length + (ctr G s ((List.range n).flatMap f)).length ≤ B)
    (h : ∀ i, i < n → ∀ (s' : Nat) (u : List TOccurrence), s' + (f i).length ≤ S → u.length + (ctr G s' (f i)).length ≤ B → st ((s' : Int), (i : Int), u) = some (.inl (((s' + (f i).length : Nat) : Int), ((i + 1 : Nat) : Int), u ++ ctr G s' (f i))))
    (he : ∀ (s' : Nat) u, st ((s' : Int), (n : Int), u) = some (.inr (fin s' u))) :
    whileP st ((s : Int), 0, v) = some (fin ((s + ((List.range n).flatMap f).length : Nat) : Int) (v ++ ctr G s ((List.range n).flatMap f))) := by
  have hsp : ∀ i, i ≤ n → ∃ q, (List.range n).flatMap f = (List.range i).flatMap f ++ q := fun i hi => by
    obtain ⟨d, rfl⟩ := Nat.exists_eq_add_of_le hi
    exact ⟨_, by rw [List.range_eq_range', List.range_eq_range', ← List.range'_append_1 (s := 0) (m := i) (n := d), List.flatMap_append]⟩
  refine while_from (fun i => (((s + ((List.range i).flatMap f).length : Nat) : Int), (i : Int), v ++ ctr G s ((List.range i).flatMap f))) n (by simp [ctr]) (fun i hi => ?_) (he _ _)
  have e1 : (List.range (i + 1)).flatMap f = (List.range i).flatMap f ++ f i := by rw [List.range_succ, List.flatMap_append]; simp
  obtain ⟨q, hq⟩ := hsp (i + 1) hi
  have hl := congrArg List.length hq
  have hc := congrArg (fun l => (ctr G s l).length) hq
  simp only [ctr_app, List.length_append] at hc
  rw [e1, List.length_append, List.length_append] at hl
  rw [e1, ctr_app, List.length_append] at hc
  rw [h i hi _ _ (by omega) (by rw [List.length_append]; omega), e1, ctr_app, List.length_append, List.append_assoc, Nat.add_assoc]
/-- the occurrences below o, itself first, of those that p lets by -/
noncomputable def occG (a : TLibrary) (p : Nat → TTransform → Bool) : Nat → TOccurrence → List TOccurrence
  | 0, _ => []
  | n + 1, o => o :: ctr (fun s e => if p e.gcell.toNat (cmpT o.fPlace e.gplace) then occG a p n ⟨e.gcell, cmpT o.fPlace e.gplace, o.fPath ++ [(s : Int)]⟩ else []) 0 (elemsC (gd a.fCells o.fCell.toNat))
noncomputable def visP (a : TLibrary) (wd : TRect) (k : Nat) (t : TTransform) : Bool := decide (boxV a k ≠ []) && ovlG (mvR t (bxs (boxV a k))) wd
structure GO (a : TLibrary) (o : TOccurrence) : Prop where
  cell : ∃ c : Nat, o.fCell = (c : Int) ∧ c < a.fCells.length ∧ o.fPath.length + c ≤ 8
  place : -(320 * (o.fPath.length : Int)) ≤ o.fPlace.fX ∧ o.fPlace.fX ≤ 320 * (o.fPath.length : Int) ∧ -(320 * (o.fPath.length : Int)) ≤ o.fPlace.fY ∧ o.fPlace.fY ≤ 320 * (o.fPath.length : Int)
  ori : 0 ≤ o.fPlace.fOrientation ∧ o.fPlace.fOrientation ≤ 7
theorem mem_elemsC {c : TCell} {k : Nat} (h : VC c k) {e : Telement} (he : e ∈ elemsC c) : (∃ n : Nat, e.gcell = (n : Int) ∧ n < k) ∧ (-320 ≤ e.gplace.fX ∧ e.gplace.fX ≤ 320 ∧ -320 ≤ e.gplace.fY ∧ e.gplace.fY ≤ 320) ∧ 0 ≤ e.gplace.fOrientation ∧ e.gplace.fOrientation ≤ 7 := by
  unfold elemsC at he
  obtain ⟨x, hx, he⟩ := List.mem_flatMap.1 he
  unfold mkE at he
  obtain ⟨t, ht, rfl⟩ := List.mem_map.1 he
  exact ⟨(h.inst x hx).cell, elP_bd (h.inst x hx) ht⟩
theorem GO.child {a : TLibrary} {o : TOccurrence} (hv : okLib a = true) (h : GO a o) {e : Telement} (he : e ∈ elemsC (gd a.fCells o.fCell.toNat)) (s : Int) : GO a ⟨e.gcell, cmpT o.fPlace e.gplace, o.fPath ++ [s]⟩ ∧ (∃ m c : Nat, e.gcell = (m : Int) ∧ o.fCell = (c : Int) ∧ m < c ∧ c < a.fCells.length) := by
  obtain ⟨c, hc, hcn, hp⟩ := h.cell
  rw [hc, Int.toNat_natCast] at he
  obtain ⟨⟨m, hm, hmc⟩, hb, ho⟩ := mem_elemsC (vc_of hv hcn) he
  have hpl := h.place
  have hbd := mvP_bd (t := o.fPlace) (p := ⟨e.gplace.fX, e.gplace.fY⟩) (B := 320) (S := 320 * (o.fPath.length : Int)) hb hpl (by omega) (by omega) (by omega)
  refine ⟨⟨⟨m, hm, by omega, by rw [List.length_append, List.length_singleton]; omega⟩, ?_, cmpO_ori ho h.ori⟩, m, c, hm, hc, hmc, hcn⟩
  have e1 : ((o.fPath ++ [s]).length : Int) = (o.fPath.length : Int) + 1 := by rw [List.length_append, List.length_singleton]; omega
  show -(320 * ((o.fPath ++ [s]).length : Int)) ≤ (cmpT o.fPlace e.gplace).fX ∧ _
  rw [e1]
  unfold cmpT
  simp only
  omega
theorem elsOf_len (x : TInstance) : (elsOf x).length = x.fColumns.toNat * x.fRows.toNat := by
  unfold elsOf
  rw [List.length_flatMap]
  simp only [elRow_len]
  rw [List.map_const', List.sum_replicate_nat, List.length_range, Nat.mul_comm]
theorem sumE (b : Nat → Nat) (l : List TInstance) : ((l.flatMap mkE).map fun e => b e.gcell.toNat).sum = (l.map fun x => x.fColumns.toNat * x.fRows.toNat * b x.fCell.toNat).sum := by
  induction l with
  | nil => rfl
  | cons x r ih =>
    rw [List.flatMap_cons, List.map_append, List.sum_append_nat, ih, List.map_cons, List.sum_cons]
    congr 1
    unfold mkE
    rw [List.map_map, show ((fun e : Telement => b e.gcell.toNat) ∘ Telement.mk x.fCell) = fun _ => b x.fCell.toNat from rfl, List.map_const', List.sum_replicate_nat, elsOf_len]
theorem occG_le (a : TLibrary) (hv : okLib a = true) (p : Nat → TTransform → Bool) : ∀ n o, (∃ c : Nat, o.fCell = (c : Int) ∧ c < a.fCells.length) → (occG a p n o).length ≤ cnt a.fCells o.fCell.toNat := by
  intro n
  induction n with
  | zero => intro o _; simp [occG]
  | succ n ih =>
    intro o ⟨c, hc, hcn⟩
    have hvc := vc_of hv hcn
    rw [occG, List.length_cons, hc, Int.toNat_natCast]
    have h1 := ctr_len_le (fun s e => if p e.gcell.toNat (cmpT o.fPlace e.gplace) then occG a p n ⟨e.gcell, cmpT o.fPlace e.gplace, o.fPath ++ [(s : Int)]⟩ else []) (fun e => gd (cntN a.fCells c) e.gcell.toNat) (elemsC (gd a.fCells c)) 0 (fun e he s => by
      obtain ⟨⟨m, hm, hmc⟩, _⟩ := mem_elemsC hvc he
      split
      · have := ih ⟨e.gcell, cmpT o.fPlace e.gplace, o.fPath ++ [(s : Int)]⟩ ⟨m, hm, by omega⟩
        rw [hm, Int.toNat_natCast, cntN_cnt _ hmc]
        rw [show (TOccurrence.mk e.gcell (cmpT o.fPlace e.gplace) (o.fPath ++ [(s : Int)])).fCell = (m : Int) from hm, Int.toNat_natCast, hm] at this
        exact this
      · exact Nat.zero_le _)
    unfold elemsC at h1
    rw [sumE] at h1
    unfold cnt sumI
    unfold elemsC
    omega
theorem le_sum {l : List Nat} {x : Nat} (h : x ∈ l) : x ≤ l.sum := by
  induction l with
  | nil => cases h
  | cons a r ih =>
    rw [List.sum_cons]
    rcases List.mem_cons.1 h with rfl | h
    · omega
    · have := ih h; omega
theorem cnt_child {a : TLibrary} (hv : okLib a = true) {c : Nat} (hc : c < a.fCells.length) {e : Telement} (he : e ∈ elemsC (gd a.fCells c)) : cnt a.fCells e.gcell.toNat ≤ cnt a.fCells c := by
  obtain ⟨⟨m, hm, hmc⟩, _⟩ := mem_elemsC (vc_of hv hc) he
  have h1 : gd (cntN a.fCells c) e.gcell.toNat ≤ ((elemsC (gd a.fCells c)).map fun e => gd (cntN a.fCells c) e.gcell.toNat).sum := le_sum (List.mem_map.2 ⟨e, he, rfl⟩)
  unfold elemsC at h1
  rw [sumE, hm, Int.toNat_natCast, cntN_cnt _ hmc] at h1
  rw [hm, Int.toNat_natCast]
  show cnt a.fCells m ≤ 1 + sumI (cntN a.fCells c) (gd a.fCells c).fInstances
  unfold sumI
  omega
theorem cloneI_ok (l : List Int) (h : l.length ≤ 1000000) : F_slices_Clone_Lint64_int64 l = some l := by
  unfold F_slices_Clone_Lint64_int64 nilB
  have e : (letO ([] : List Int) fun l1 => req (std.room (std.nadd (len l1) (len l)) 8) <| letO (l1 ++ l) fun l3 => some l3) = some l := by
    simp only [letO_eq]
    rw [req_of (roomG (by rw [s_nadd, len_eq, len_eq]; simp; omega) (by omega)), List.nil_append]
  rw [e]
  by_cases h0 : l.length = 0
  · rw [List.length_eq_zero_iff.1 h0]; simp
  · rw [if_neg (by rw [len_eq]; omega)]
theorem place_small {a : TLibrary} {o : TOccurrence} (h : GO a o) : -2560 ≤ o.fPlace.fX ∧ o.fPlace.fX ≤ 2560 ∧ -2560 ≤ o.fPlace.fY ∧ o.fPlace.fY ≤ 2560 := by
  obtain ⟨c, _, _, hp⟩ := h.cell
  have := h.place
  omega
/-- the test of an element's box, as the program makes it -/
theorem test_impl {a : TLibrary} (hv : okLib a = true) {wd : TRect} (hw : okRect wd = true) {m : Nat} (hm : m < a.fCells.length) {o : TOccurrence} (ho : GO a o) :
    ((br (std.lt 0 (std.ofN (len (boxV a m)))) (req (std.inR 0 (len (boxV a m))) <| (F_impl_moveRect o.fPlace (gd (boxV a m) (std.toN 0))).bind fun y32 => (F_impl_anywhere y32 wd).bind fun y34 => some y34) (some false)) : Option Bool) = some (visP a wd m o.fPlace) := by
  unfold visP
  rcases boxV_cases a hm with h0 | ⟨b, h0⟩
  · rw [h0]; rfl
  · have hN := box_NB a hv m hm h0
    have h8 := (okLib_leG hv).2
    rw [h0, lt_true (by rw [s_ofN]; simp [len_eq]), br_t, req_of (show std.inR 0 (len [b]) from inRl (by simp)), show gd [b] (std.toN 0) = b from rfl, impl_moveRect_ok, Option.bind_some,
      anywhere_ok (mvR_NB (S := 2560) hN (place_small ho) (by omega) (by omega)) (okRect_NB hw), Option.bind_some]
    simp [bxs]
theorem impl_visits_ok (a : TLibrary) (hv : okLib a = true) (wd : TRect) (hw : okRect wd = true) : ∀ n o, GO a o → o.fCell.toNat < n → cnt a.fCells o.fCell.toNat ≤ 200 →
    FR_impl_visits n a (boxesN a.fCells a.fCells.length) wd o = some (occG a (visP a wd) n o) := by
  intro n
  induction n with
  | zero => intro o _ h; omega
  | succ n ih =>
    intro o ho hn hcnt
    obtain ⟨c, hc, hcn, hpl⟩ := ho.cell
    have hvc := vc_of hv hcn
    have hlen := occG_le a hv (visP a wd) (n + 1) o ⟨c, hc, hcn⟩
    have h8 := (okLib_leG hv).2
    show FS_impl_visits (FR_impl_visits n) a _ wd o = _
    unfold FS_impl_visits
    simp only [letO_eq]
    rw [occG] at hlen ⊢
    rw [hc, Int.toNat_natCast] at hlen hn hcnt ⊢
    rw [req_of (inRl hcn), s_toNn, impl_elements_ok _ hvc, Option.bind_some]
    have hL128 := elemsC_le hvc
    obtain ⟨L, hL⟩ : ∃ L, L = elemsC (gd a.fCells c) := ⟨_, rfl⟩
    rw [← hL] at hL128
    obtain ⟨G, hG⟩ : ∃ G : Nat → Telement → List TOccurrence, G = fun (s : Nat) (e : Telement) => if visP a wd e.gcell.toNat (cmpT o.fPlace e.gplace) then occG a (visP a wd) n ⟨e.gcell, cmpT o.fPlace e.gplace, o.fPath ++ [(s : Int)]⟩ else [] := ⟨_, rfl⟩
    rw [← hG, ← hL, List.length_cons] at hlen
    rw [← hG, ← hL]
    have eC := ctr_range G L 0
    simp only [Nat.zero_add] at eC
    have w : whileP (L_impl_visits_x8 a (boxesN a.fCells a.fCells.length) wd o (FR_impl_visits n) L) (0, [o]) = some ([o] ++ ctr G 0 L) := by
      rw [eC]
      refine while_fm (fun i => G i (gd L i)) L.length [o] 1000 (by rw [← eC]; simp; omega) (fun i hi v hvl => ?_) (fun v => ?_)
      · have hmem : gd L i ∈ elemsC (gd a.fCells o.fCell.toNat) := by rw [hc, Int.toNat_natCast, ← hL]; exact gd_mem hi
        obtain ⟨hch, m, c', hm, hc', hmc, _⟩ := ho.child hv hmem (i : Int)
        have hcc : c' = c := by omega
        subst hcc
        have hmem2 := hmem
        rw [hc, Int.toNat_natCast] at hmem2
        have hcn2 := cnt_child hv hcn hmem2
        rw [hm, Int.toNat_natCast] at hcn2
        simp only [L_impl_visits_x8, letO_eq, s_nadd, Nat.zero_add, s_toNn]
        have hcp : F_impl_compose (gd L i).gplace o.fPlace = some (cmpT o.fPlace (gd L i).gplace) := impl_compose_ok _ _
        rw [ltl_t hi, br_t, req_of (inRl hi), hcp, Option.bind_some, hm, req_of (inRl (by rw [boxesN_len]; omega)), s_toNn, show gd (boxesN a.fCells a.fCells.length) m = boxV a m from rfl]
        have ht := test_impl hv hw (show m < a.fCells.length by omega) hch
        simp only at ht
        rw [ht, Option.bind_some, inc_nat (by omega)]
        have hGi : G i (gd L i) = if visP a wd m (cmpT o.fPlace (gd L i).gplace) then occG a (visP a wd) n ⟨(m : Int), cmpT o.fPlace (gd L i).gplace, o.fPath ++ [(i : Int)]⟩ else [] := by rw [hG]; simp only [hm, Int.toNat_natCast]
        rw [hGi] at hvl ⊢
        rw [hm] at hch
        cases hp : visP a wd m (cmpT o.fPlace (gd L i).gplace) with
        | false => rw [br_f, Option.bind_some]; simp
        | true =>
          rw [hp, if_pos rfl] at hvl
          have hr := ih ⟨(m : Int), cmpT o.fPlace (gd L i).gplace, o.fPath ++ [(i : Int)]⟩ hch (by rw [Int.toNat_natCast]; omega) (by rw [Int.toNat_natCast]; omega)
          rw [br_t, cloneI_ok _ (by omega), Option.bind_some, req_of (roomG (by rw [len_eq, len_eq]; simp; omega) (by omega)), hr, Option.bind_some, req_of (roomG (by rw [len_eq, len_eq]; omega) (by omega)), Option.bind_some, if_pos rfl]
      · simp only [L_impl_visits_x8, letO_eq]
        rw [ltl_f, br_f]
    rw [w]
    rfl
theorem test_spec {a : TLibrary} {wd : TRect} {m : Nat} (t : TTransform) : ((br (decide (boxV a m ≠ [])) ((F_spec_l10Rect t (bxs (boxV a m))).bind fun y69 => (F_spec_l11Overlap y69 wd).bind fun y71 => some y71) (some false)) : Option Bool) = some (visP a wd m t) := by
  unfold visP
  rw [spec_l10Rect_ok]
  simp only [Option.bind_some, spec_l11Overlap_okG]
  cases decide (boxV a m ≠ []) <;> rfl
theorem spec_Visit_ok (a : TLibrary) (hv : okLib a = true) (wd : TRect) : ∀ n o out, GO a o → o.fCell.toNat < n → cnt a.fCells o.fCell.toNat ≤ 200 → out.length + (occG a (visP a wd) n o).length ≤ 1000 →
    FR_spec_l12Visit_mbxbb n a out o wd = some (out ++ occG a (visP a wd) n o) := by
  intro n
  induction n with
  | zero => intro o out _ h; omega
  | succ n ih =>
    intro o out ho hn hcnt hout
    obtain ⟨c, hc, hcn, hpl⟩ := ho.cell
    have hvc := vc_of hv hcn
    have h8 := (okLib_leG hv).2
    show FS_spec_l12Visit_mbxbb (FR_spec_l12Visit_mbxbb n) a out o wd = _
    unfold FS_spec_l12Visit_mbxbb
    simp only [letO_eq]
    rw [occG] at hout ⊢
    rw [hc, Int.toNat_natCast] at hn hcnt hout ⊢
    rw [List.length_cons] at hout
    rw [req_of (roomG (by rw [s_nadd, len_eq, len_eq]; simp; omega) (by omega)), req_of (inRl hcn)]
    obtain ⟨G, hG⟩ : ∃ G : Nat → Telement → List TOccurrence, G = fun (s : Nat) (e : Telement) => if visP a wd e.gcell.toNat (cmpT o.fPlace e.gplace) then occG a (visP a wd) n ⟨e.gcell, cmpT o.fPlace e.gplace, o.fPath ++ [(s : Int)]⟩ else [] := ⟨_, rfl⟩
    rw [← hG] at hout ⊢
    obtain ⟨C, hC⟩ : ∃ C, C = gd a.fCells c := ⟨_, rfl⟩
    rw [← hC] at hvc hout ⊢
    have i8 := hvc.insts
    have he128 := elemsC_le hvc
    have eE : (List.range C.fInstances.length).flatMap (fun i => mkE (gd C.fInstances i)) = elemsC C := range_fm _ _
    have w : whileP (L_spec_l12Visit_mbxbb_x10 a o wd (FR_spec_l12Visit_mbxbb n)) (0, 0, out ++ [o]) = some (out ++ [o] ++ ctr G 0 (elemsC C)) := by
      have key := while_blk (ρ := List TOccurrence) G (fun i => mkE (gd C.fInstances i)) C.fInstances.length 0 (out ++ [o]) 1000 1000 (st := L_spec_l12Visit_mbxbb_x10 a o wd (FR_spec_l12Visit_mbxbb n)) (fin := fun _ u => u) (by rw [eE]; omega) (by rw [eE]; simp; omega) (fun i hi s' u hs hu => ?_) (fun s' u => ?_)
      · rw [eE] at key; exact key
      · obtain ⟨x, hx⟩ : ∃ x, x = gd C.fInstances i := ⟨_, rfl⟩
        have hxm := gd_mem hi
        rw [← hx] at hxm hs hu ⊢
        have hv1 := hvc.inst _ hxm
        obtain ⟨m, hm, hmc⟩ := hv1.cell
        obtain ⟨p, hp, _, hp4⟩ := hv1.cols
        obtain ⟨q, hq, _, hq4⟩ := hv1.rows
        have hmcnt : ∀ t ∈ elsOf x, cnt a.fCells m ≤ 200 := fun t ht => by
          have := cnt_child hv hcn (e := Telement.mk x.fCell t) (by rw [← hC]; unfold elemsC; exact List.mem_flatMap.2 ⟨x, hxm, List.mem_map.2 ⟨t, ht, rfl⟩⟩)
          rw [show (Telement.mk x.fCell t).gcell = (m : Int) from hm, Int.toNat_natCast] at this
          omega
        simp only [L_spec_l12Visit_mbxbb_x10, letO_eq, s_toNn, hc, ← hC, ← hx]
        rw [ltl_t hi, br_t, req_of (inRl hi), hm, show TLibrary.mk a.fCells = a from rfl, spec_l12Box_ok a hv m (by omega), Option.bind_some, show gd (boxesN a.fCells a.fCells.length) m = boxV a m from rfl]
        have e2 : (List.range q).flatMap (fun r => (elRow x r).map (Telement.mk x.fCell)) = mkE x := by rw [mkE_eq, hq, Int.toNat_natCast]
        have w2 := while_blk (ρ := Int × List TOccurrence) G (fun r => (elRow x r).map (Telement.mk x.fCell)) q s' u 1000 1000 (st := L_spec_l12Visit_mbxbb_x28 a o wd (FR_spec_l12Visit_mbxbb n) (i : Int) (bxs (boxV a m), decide (boxV a m ≠ []))) (fin := fun s u => (s, u)) (by rw [e2]; exact hs) (by rw [e2]; exact hu) (fun r hr s2 u2 hs2 hu2 => by
          rw [List.length_map, elRow_len, hp, Int.toNat_natCast] at hs2
          have e3 : (List.range p).flatMap (fun k : Nat => [Telement.mk x.fCell (elP x k r)]) = (elRow x r).map (Telement.mk x.fCell) := by
            rw [map_fm]; unfold elRow; rw [List.map_map, hp, Int.toNat_natCast]; rfl
          have w3 := while_blk (ρ := Int × List TOccurrence) G (fun k : Nat => [Telement.mk x.fCell (elP x k r)]) p s2 u2 1000 1000 (st := L_spec_l12Visit_mbxbb_x44 a o wd (FR_spec_l12Visit_mbxbb n) (r : Int) (i : Int) (bxs (boxV a m), decide (boxV a m ≠ []))) (fin := fun s u => (s, u)) (by rw [e3, List.length_map, elRow_len, hp, Int.toNat_natCast]; exact hs2) (by rw [e3]; exact hu2) (fun k hk s3 u3 hs3 hu3 => by
            have hmem : elP x k r ∈ elsOf x := by
              unfold elsOf
              refine List.mem_flatMap.2 ⟨r, by rw [List.mem_range, hq]; omega, ?_⟩
              unfold elRow
              exact List.mem_map.2 ⟨k, by rw [List.mem_range, hp]; omega, rfl⟩
            have hmem2 : Telement.mk x.fCell (elP x k r) ∈ elemsC (gd a.fCells o.fCell.toNat) := by
              rw [hc, Int.toNat_natCast, ← hC]; unfold elemsC
              exact List.mem_flatMap.2 ⟨x, hxm, List.mem_map.2 ⟨_, hmem, rfl⟩⟩
            obtain ⟨hch, _⟩ := ho.child hv hmem2 (s3 : Int)
            simp only at hch
            rw [hm] at hch
            have hbd := elP_bd hv1 hmem
            simp only [List.length_singleton] at hs3
            simp only [ctr, List.append_nil] at hu3 ⊢
            simp only [List.length_singleton]
            have hGi : G s3 (Telement.mk x.fCell (elP x k r)) = if visP a wd m (cmpT o.fPlace (elP x k r)) then occG a (visP a wd) n ⟨(m : Int), cmpT o.fPlace (elP x k r), o.fPath ++ [(s3 : Int)]⟩ else [] := by rw [hG]; simp only [hm, Int.toNat_natCast]
            rw [hGi] at hu3 ⊢
            simp only [L_spec_l12Visit_mbxbb_x44, letO_eq, s_toNn, hc, ← hC, ← hx]
            rw [req_of (inRl hi), hp, lt_true (by omega), br_t, req_of (inRl hi), spec_l10Element_ok, Option.bind_some, spec_After_ok _ _ hbd.2 ho.ori, Option.bind_some, test_spec, Option.bind_some, inc_nat (by omega), inc_nat (by omega)]
            cases hpp : visP a wd m (cmpT o.fPlace (elP x k r)) with
            | false => rw [br_f, Option.bind_some]; simp
            | true =>
              rw [hpp, if_pos rfl] at hu3
              have hr2 := ih ⟨(m : Int), cmpT o.fPlace (elP x k r), o.fPath ++ [(s3 : Int)]⟩ u3 hch (by rw [Int.toNat_natCast]; omega) (by rw [Int.toNat_natCast]; exact hmcnt _ hmem) hu3
              rw [br_t, req_of (roomG (by rw [s_nadd, len_eq, len_eq]; simp; omega) (by omega)), req_of (roomG (by rw [s_nadd, len_eq, len_eq]; simp; omega) (by omega)), req_of (inRl hi), List.nil_append, hm, show TLibrary.mk a.fCells = a from rfl, hr2, Option.bind_some, Option.bind_some, if_pos rfl]) (fun s3 u3 => by
            simp only [L_spec_l12Visit_mbxbb_x44, letO_eq, s_toNn, hc, ← hC, ← hx]
            rw [req_of (inRl hi), hp, lt_false (by omega), br_f])
          rw [e3] at w3
          simp only [L_spec_l12Visit_mbxbb_x28, letO_eq, s_toNn, hc, ← hC, ← hx]
          rw [req_of (inRl hi), hq, lt_true (by omega), br_t, w3, Option.bind_some, inc_nat (by omega)]) (fun s2 u2 => by
          simp only [L_spec_l12Visit_mbxbb_x28, letO_eq, s_toNn, hc, ← hC, ← hx]
          rw [req_of (inRl hi), hq, lt_false (by omega), br_f])
        rw [e2] at w2
        rw [w2, Option.bind_some, inc_nat (by omega)]
      · simp only [L_spec_l12Visit_mbxbb_x10, letO_eq, s_toNn, hc, ← hC]
        rw [ltl_f, br_f]
    rw [w]
    simp
/- VisitedCount -/
noncomputable def rootO (k : Nat) : TOccurrence := ⟨(k : Int), ⟨0, 0, 0⟩, []⟩
theorem rootO_good (a : TLibrary) (hv : okLib a = true) {k : Nat} (hk : k < a.fCells.length) : GO a (rootO k) :=
  ⟨⟨k, rfl, hk, by have := (okLib_leG hv).2; simp [rootO]; omega⟩, by simp [rootO], by simp [rootO]⟩
noncomputable def visL (a : TLibrary) (k : Nat) (wd : TRect) : List TOccurrence := occG a (visP a wd) 64 (rootO k)
theorem impl_visited_ok (a : TLibrary) (hv : okLib a = true) (wd : TRect) (hw : okRect wd = true) (k : Nat) (hk : k < a.fCells.length) (hc : cnt a.fCells k ≤ 200) : F_impl_visited a (k : Int) wd = some (visL a k wd) := by
  have h8 := (okLib_leG hv).2
  unfold F_impl_visited
  rw [show TLibrary.mk a.fCells = a from rfl, impl_contentBoxes_ok a hv, Option.bind_some]
  have := impl_visits_ok a hv wd hw 64 (rootO k) (rootO_good a hv hk) (by show ((k : Int)).toNat < 64; omega) hc
  unfold F_impl_visits
  rw [show (TOccurrence.mk (k : Int) (TTransform.mk 0 0 0) ([] : List Int)) = rootO k from rfl, this]
  rfl
theorem visL_le (a : TLibrary) (hv : okLib a = true) (wd : TRect) (k : Nat) (hk : k < a.fCells.length) : (visL a k wd).length ≤ cnt a.fCells k := occG_le a hv _ 64 (rootO k) ⟨k, rfl, hk⟩
theorem spec_visited_ok (a : TLibrary) (hv : okLib a = true) (wd : TRect) (k : Nat) (hk : k < a.fCells.length) (hc : cnt a.fCells k ≤ 200) : F_spec_l12Visited a (k : Int) wd = some (visL a k wd) := by
  have h8 := (okLib_leG hv).2
  have hl := visL_le a hv wd k hk
  unfold F_spec_l12Visited
  simp only [letO_eq]
  have := spec_Visit_ok a hv wd 64 (rootO k) [] (rootO_good a hv hk) (by show ((k : Int)).toNat < 64; omega) hc (by
    show 0 + (visL a k wd).length ≤ 1000
    omega)
  unfold F_spec_l12Visit_mbxbb
  rw [show (TOccurrence.mk (k : Int) (TTransform.mk 0 0 0) ([] : List Int)) = rootO k from rfl, rect_eta, show TLibrary.mk a.fCells = a from rfl, this]
  rfl
noncomputable def visC (a : TLibrary) (k : Int) (wd : TRect) : Int := if hasC a k && (okRect wd && decide (cnt a.fCells k.toNat ≤ 200)) then ((visL a k.toNat wd).length : Int) else -1
theorem lt200 (n : Nat) : std.lt 200 ((n : Nat) : Int) = !decide (n ≤ 200) := by
  rw [s_lt]
  by_cases h : n ≤ 200
  · rw [decide_eq_true h]; simp; omega
  · rw [decide_eq_false h]; simp; omega
theorem spec_VisitedCount_ok (a : TLibrary) (k : Int) (wd : TRect) (h : SmallL a) : F_spec_VisitedCount a k wd = some (visC a k wd) := by
  unfold F_spec_VisitedCount visC
  rw [rect_eta, show TLibrary.mk a.fCells = a from rfl, spec_l09Has_ok a k h, Option.bind_some, spec_l09Rect_ok, Option.bind_some]
  cases hh : hasC a k with
  | false => unfold hasC at hh; rw [hh]; rfl
  | true =>
    obtain ⟨hv, n, rfl, hn⟩ := hasC_iff hh
    unfold hasC at hh
    rw [hh, Bool.not_true, br_f]
    cases hr : okRect wd with
    | false => rfl
    | true =>
      rw [Bool.not_true, br_f, spec_ElementCount_ok a n h hv hn, Option.bind_some, Option.bind_some, lt200]
      simp only [letO_eq]
      by_cases hc : cnt a.fCells n ≤ 200
      · rw [decide_eq_true hc, Bool.not_true, br_f, spec_visited_ok a hv wd n hn hc, Option.bind_some, show ((n : Int)).toNat = n from rfl, decide_eq_true hc]
        rfl
      · rw [decide_eq_false hc, Bool.not_false, br_t, show ((n : Int)).toNat = n from rfl, decide_eq_false hc]; rfl
theorem impl_VisitedCount_ok (a : TLibrary) (k : Int) (wd : TRect) (h : SmallL a) : F_impl_VisitedCount a k wd = some (visC a k wd) := by
  unfold F_impl_VisitedCount visC
  rw [show TLibrary.mk a.fCells = a from rfl, impl_hasCell_ok a k h, Option.bind_some, impl_IsValidRect_ok, Option.bind_some]
  cases hh : hasC a k with
  | false => unfold hasC at hh; rw [hh]; rfl
  | true =>
    obtain ⟨hv, n, rfl, hn⟩ := hasC_iff hh
    unfold hasC at hh
    rw [hh, Bool.not_true, br_f]
    cases hr : okRect wd with
    | false => rfl
    | true =>
      rw [Bool.not_true, br_f, impl_elementCount_ok a n hv hn, Option.bind_some, Option.bind_some, lt200]
      simp only [letO_eq]
      by_cases hc : cnt a.fCells n ≤ 200
      · rw [decide_eq_true hc, Bool.not_true, br_f, impl_visited_ok a hv wd hr n hn hc, Option.bind_some, show ((n : Int)).toNat = n from rfl, decide_eq_true hc]
        rfl
      · rw [decide_eq_false hc, Bool.not_false, br_t, show ((n : Int)).toNat = n from rfl, decide_eq_false hc]; rfl
theorem toRect_ok (r : TRect) : F_laws_toRect r = some r := rfl
theorem lawW_VisitedCount (a : TLibrary) (k : Int) (wd : TRect) (w : wfLibrary a) (_ : (Lit.int .i64 k).wf = true) (_ : wfRect wd) : F_laws_FnExactVisitedCount a k wd = some true := by
  unfold F_laws_FnExactVisitedCount
  rw [show TLibrary.mk a.fCells = a from rfl]
  obtain ⟨y, hy, hs⟩ := laws_szLibrary_ok a (wfLb_of w)
  rw [hy, Option.bind_some, br_bool, s_lt]
  by_cases h0 : y < 0
  · rw [if_pos (by simpa using h0)]
  · have h := hs (by omega)
    rw [if_neg (by simpa using h0)]
    simp only [laws_toLibrary_ok a h, toRect_ok, Option.bind_some, spec_VisitedCount_ok a k wd h, impl_VisitedCount_ok a k wd h, laws_eqLibrary_ok a h, eq_true' rfl, s_not, Bool.not_true, br_f]
end Go.Proofs.Ytmdlnjeppemipaa.AM
