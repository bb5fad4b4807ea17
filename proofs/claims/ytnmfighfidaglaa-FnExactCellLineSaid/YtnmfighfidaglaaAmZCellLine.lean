/-
  What the functions that the law reaches compute, and that they do. No condition.
-/
import Derived.Test.YtnmfighfidaglaaAmX
namespace Go.Proofs.Ytnmfighfidaglaa.AM
open Go Go.Proofs Go.RowKit
set_option linter.unusedVariables false
set_option linter.unusedSimpArgs false
set_option maxRecDepth 100000

theorem wB_iff (a b c : Int) : wB a b c = true ↔ b ≤ a ∧ a ≤ c := by
  unfold wB
  rw [s_le, s_le, Bool.and_eq_true, decide_eq_true_eq, decide_eq_true_eq]
noncomputable def elems (c : TCell) : Int := ((c.fShapes.length + c.fLabels.length + c.fInstances.length : Nat) : Int)
/-- the line of a cell -/
noncomputable def lineOf (l : List TCell) : Nat → Int
  | 0 => 1
  | k + 1 => lineOf l k + (elems (gd l k) + 2)
theorem okLib_len {a : TLibrary} (h : okLib a = true) : a.fCells.length ≤ 8 := by
  unfold okLib at h
  simp only [Bool.and_eq_true, decide_eq_true_eq] at h
  exact h.2.1
theorem elems_le {a : TLibrary} (h : SmallL a) {i : Nat} (hi : i < a.fCells.length) : 0 ≤ elems (gd a.fCells i) ∧ elems (gd a.fCells i) ≤ 3145728 := by
  have hc := h.cell _ (gd_mem hi)
  have h1 := hc.shapes; have h2 := hc.labels; have h3 := hc.insts
  unfold elems; omega
theorem lineOf_le {a : TLibrary} (h : SmallL a) : ∀ k, k ≤ a.fCells.length → 1 ≤ lineOf a.fCells k ∧ lineOf a.fCells k ≤ 1 + 3145730 * k
  | 0, _ => by unfold lineOf; omega
  | k + 1, hk => by
    have := lineOf_le h k (by omega)
    have := elems_le h (show k < a.fCells.length by omega)
    unfold lineOf; omega
theorem sums {c : TCell} (hc : SmallC c) : std.add .i64 (std.add .i64 (std.ofN (len c.fShapes)) (std.ofN (len c.fLabels))) (std.ofN (len c.fInstances)) = elems c := by
  have h1 := hc.shapes; have h2 := hc.labels; have h3 := hc.insts
  unfold elems
  simp only [s_ofN, len_eq]
  rw [add_id (x := (c.fShapes.length : Int)) (by omega) (by omega), add_id (by omega) (by omega)]
  omega
theorem spec_CellLine_ok (a : TLibrary) (k : Int) (h : SmallL a) : F_spec_CellLine a k = some (if okLib a && wB k 0 ((a.fCells.length : Int) - 1) then lineOf a.fCells k.toNat else 0) := by
  unfold F_spec_CellLine
  rw [spec_l09Has_ok _ _ h, Option.bind_some]
  cases hb : okLib a && wB k 0 ((a.fCells.length : Int) - 1) with
  | false => rfl
  | true =>
    rw [Bool.and_eq_true, wB_iff] at hb
    have hl := okLib_len hb.1
    simp only [Bool.not_true, br_f, if_true]
    refine Eq.trans (bind_of (while_from (fun i => (lineOf a.fCells i, (i : Int))) k.toNat rfl (fun i hi => ?_) ?_)) rfl
    · have hc := h.cell _ (gd_mem (show i < a.fCells.length by omega))
      have he := elems_le h (show i < a.fCells.length by omega)
      have hle := lineOf_le h i (by omega)
      simp only [L_spec_CellLine_x5, letO_eq, s_toNn]
      rw [lt_true (by omega), br_t, req_of (inRl (by omega)), sums hc, add_id (x := lineOf a.fCells i) (by omega) (by omega), add_id (by omega) (by omega), inc_nat (by omega)]
      rw [show lineOf a.fCells (i + 1) = lineOf a.fCells i + (elems (gd a.fCells i) + 2) from rfl]
      congr 3
      omega
    · simp only [L_spec_CellLine_x5, letO_eq]
      rw [lt_false (by omega), br_f]
theorem impl_CellLine_ok (a : TLibrary) (k : Int) (h : SmallL a) : F_impl_CellLine a k = some (if okLib a && wB k 0 ((a.fCells.length : Int) - 1) then lineOf a.fCells k.toNat else 0) := by
  unfold F_impl_CellLine
  rw [impl_hasCell_ok _ _ h, Option.bind_some]
  cases hb : okLib a && wB k 0 ((a.fCells.length : Int) - 1) with
  | false => rfl
  | true =>
    rw [Bool.and_eq_true, wB_iff] at hb
    have hl := okLib_len hb.1
    simp only [Bool.not_true, br_f, if_true]
    rw [req_of ⟨by omega, by rw [len_eq]; omega⟩, req_of ⟨by omega, by rw [s_toN]; omega⟩]
    simp only [letO_eq]
    have hlen : (subL a.fCells (std.toN 0) (std.toN k)).length = k.toNat := by
      rw [subL_len _ _ _ (by rw [s_toN]; omega), s_toN, s_toN]; simp
    have hgd : ∀ i, i < k.toNat → gd (subL a.fCells (std.toN 0) (std.toN k)) i = gd a.fCells i := fun i hi => by
      rw [subL_gd _ _ _ _ (by simpa [s_toN] using hi)]; simp [s_toN]
    refine Eq.trans (bind_of (while_from (fun i => (lineOf a.fCells i, (i : Int))) k.toNat rfl (fun i hi => ?_) ?_)) rfl
    · have hc := h.cell _ (gd_mem (show i < a.fCells.length by omega))
      have he := elems_le h (show i < a.fCells.length by omega)
      have hle := lineOf_le h i (by omega)
      simp only [L_impl_CellLine_x8, letO_eq, s_toNn, hgd i hi]
      rw [ltl_t (by omega), br_t, req_of (inRl (by omega)), sums hc, add_id (x := elems (gd a.fCells i)) (by omega) (by omega), add_id (by omega) (by omega), inc_nat (by omega)]
      rfl
    · simp only [L_impl_CellLine_x8, letO_eq]
      rw [← hlen, ltl_f, br_f]
theorem law_CellLine (a : TLibrary) (k : Int) (ha : wfLb a) : F_laws_FnExactCellLine a k = some true := by
  unfold F_laws_FnExactCellLine
  obtain ⟨y, hy, hs⟩ := laws_szLibrary_ok a ha
  rw [hy, Option.bind_some, br_bool, s_lt]
  by_cases h0 : y < 0
  · rw [if_pos (by simpa using h0)]
  · have h := hs (by omega)
    rw [if_neg (by simpa using h0)]
    simp only [laws_toLibrary_ok a h, Option.bind_some, spec_CellLine_ok a k h, impl_CellLine_ok a k h, laws_eqLibrary_ok a h, eq_true' rfl]
    rfl
theorem lawW_CellLine (a : TLibrary) (k : Int) (w : wfLibrary a) (_ : (Lit.int .i64 k).wf = true) : F_laws_FnExactCellLine a k = some true := law_CellLine a k (wfLb_of w)
end Go.Proofs.Ytnmfighfidaglaa.AM
