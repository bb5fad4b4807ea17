/-
  What the functions that the law reaches compute, and that they do. No condition.
-/
import Derived.Test.YtfhkecbopidgiaaDoorAnSX
import Derived.Test.YtfhkecbopidgiaaDoorAnSW
namespace Go.Proofs.YtfhkecbopidgiaaDoor.AM
open Go Go.Proofs Go.RowKit
set_option linter.unusedVariables false
set_option linter.unusedSimpArgs false
set_option maxRecDepth 100000

theorem ori_size (k : Int) (h : 0 ≤ k ∧ k ≤ 7) : (nameAt oriL k).size ≤ 9 := by
  obtain ⟨n, rfl⟩ := Int.eq_ofNat_of_zero_le h.1
  have : n = 0 ∨ n = 1 ∨ n = 2 ∨ n = 3 ∨ n = 4 ∨ n = 5 ∨ n = 6 ∨ n = 7 := by omega
  rcases this with rfl | rfl | rfl | rfl | rfl | rfl | rfl | rfl <;> decide
theorem ori_spec (k : Int) (h : 0 ≤ k ∧ k ≤ 7) : F_spec_OrientationName k = some (nameAt oriL k) := by
  unfold F_spec_OrientationName F_spec_l15Orientations
  have hw : wB k 0 7 = true := (wB_iffG _ _ _).2 h
  rw [spec_l09In_ok, hw]
  obtain ⟨n, rfl⟩ := Int.eq_ofNat_of_zero_le h.1
  have hn : n < 8 := by omega
  simp only [Option.bind_some, Bool.not_true, br_f, letO_eq]
  rw [req_of (inRn (by rw [len_eq]; exact hn)), s_nadd, s_toNn, Nat.zero_add]
  have : n = 0 ∨ n = 1 ∨ n = 2 ∨ n = 3 ∨ n = 4 ∨ n = 5 ∨ n = 6 ∨ n = 7 := by omega
  rcases this with rfl | rfl | rfl | rfl | rfl | rfl | rfl | rfl <;> rfl
theorem numsL_app (a b : List Int) : numsL (a ++ b) = numsL a ++ numsL b := by unfold numsL; rw [List.flatMap_append]
noncomputable def lineI (N : List UInt8) (x : TInstance) (O : List UInt8) : List UInt8 :=
  if x.fColumns = 1 ∧ x.fRows = 1 then [112, 108, 97, 99, 101, 32] ++ (N ++ [32] ++ O ++ numsL [x.fPlace.fX, x.fPlace.fY]) else [97, 114, 114, 97, 121, 32] ++ (N ++ [32] ++ O ++ numsL [x.fPlace.fX, x.fPlace.fY]) ++ numsL [x.fColumns, x.fRows, x.fStepX, x.fStepY]
theorem oneone (x : TInstance) : (br (std.eq x.fColumns 1) (some (std.eq x.fRows 1)) (some false) : Option Bool) = some (decide (x.fColumns = 1 ∧ x.fRows = 1)) := by
  by_cases h1 : x.fColumns = 1
  · rw [eq_true' h1, br_t]
    by_cases h2 : x.fRows = 1
    · rw [eq_true' h2, decide_eq_true ⟨h1, h2⟩]
    · rw [eq_false' h2, decide_eq_false (fun h => h2 h.2)]
  · rw [eq_false' h1, br_f, decide_eq_false (fun h => h1 h.1)]
theorem four_small {x : TInstance} {n : Nat} (h : VI x n) : ∀ z ∈ ([x.fPlace.fX, x.fPlace.fY, x.fColumns, x.fRows, x.fStepX, x.fStepY] : List Int), z.natAbs ≤ 1000000 := by
  obtain ⟨q1, h1, h2, h3⟩ := h.cols
  obtain ⟨q2, h4, h5, h6⟩ := h.rows
  have h7 := h.px; have h8 := h.py; have h9 := h.sx; have h10 := h.sy
  intro z hz
  simp only [List.mem_cons, List.not_mem_nil, or_false] at hz
  rcases hz with rfl | rfl | rfl | rfl | rfl | rfl <;> omega
theorem spec_line (a : TLibrary) (x : TInstance) {n c : Nat} (hx : VI x n) (hc : x.fCell = (c : Int)) (hcn : c < a.fCells.length) {N O : List UInt8} (hN : (gd a.fCells c).fName = bS N) (hNl : N.length ≤ 100) (hO : nameAt oriL x.fPlace.fOrientation = bS O) :
    F_spec_l15Instance a x = some (bS (lineI N x O)) := by
  have h4 := four_small hx
  have hOl : O.length ≤ 9 := by have := ori_size _ hx.ori; rw [hO, bS_size] at this; exact this
  have hA := numsL_len [x.fPlace.fX, x.fPlace.fY] (fun z hz => h4 z (by simp at hz ⊢; rcases hz with h | h <;> simp [h]))
  have hB := numsL_len [x.fColumns, x.fRows, x.fStepX, x.fStepY] (fun z hz => h4 z (by simp at hz ⊢; rcases hz with h | h | h | h <;> simp [h]))
  simp only [List.length_cons, List.length_nil] at hA hB
  unfold F_spec_l15Instance
  rw [hc, s_toNn, hN, show (ByteArray.mk #[32]) = bS [32] from rfl, show (ByteArray.mk #[112, 108, 97, 99, 101, 32]) = bS [112, 108, 97, 99, 101, 32] from rfl, show (ByteArray.mk #[97, 114, 114, 97, 121, 32]) = bS [97, 114, 114, 97, 121, 32] from rfl]
  simp only [letO_eq]
  rw [req_of (inRl hcn), req_of (room1 (by rw [s_slen, s_slen, bS_size, bS_size]; simp only [List.length_cons, List.length_nil]; omega)), ori_spec _ hx.ori, hO, Option.bind_some, bS_cat,
    req_of (room1 (by rw [s_slen, s_slen, bS_size, bS_size, List.length_append]; simp only [List.length_cons, List.length_nil]; omega)), bS_cat,
    numbers_ok _ (by simp only [List.length_cons, List.length_nil]; omega) (fun z hz => h4 z (by simp at hz ⊢; rcases hz with h | h <;> simp [h])), Option.bind_some,
    req_of (room1 (by rw [s_slen, s_slen, bS_size, bS_size]; simp only [List.length_append, List.length_cons, List.length_nil]; omega)), bS_cat, oneone, Option.bind_some]
  unfold lineI
  by_cases h11 : x.fColumns = 1 ∧ x.fRows = 1
  · rw [decide_eq_true h11, br_t, if_pos h11, req_of (room1 (by rw [s_slen, s_slen, bS_size, bS_size]; simp only [List.length_append, List.length_cons, List.length_nil]; omega)), bS_cat]
  · rw [decide_eq_false h11, br_f, if_neg h11, req_of (room1 (by rw [s_slen, s_slen, bS_size, bS_size]; simp only [List.length_append, List.length_cons, List.length_nil]; omega)), bS_cat,
      numbers_ok _ (by simp only [List.length_cons, List.length_nil]; omega) (fun z hz => h4 z (by simp at hz ⊢; rcases hz with h | h | h | h <;> simp [h])), Option.bind_some,
      req_of (room1 (by rw [s_slen, s_slen, bS_size, bS_size]; simp only [List.length_append, List.length_cons, List.length_nil]; omega)), bS_cat]
theorem impl_line (a : TLibrary) (x : TInstance) {n c : Nat} (hx : VI x n) (hc : x.fCell = (c : Int)) (hcn : c < a.fCells.length) {N O : List UInt8} (hN : (gd a.fCells c).fName = bS N) (hNl : N.length ≤ 100) (hO : nameAt oriL x.fPlace.fOrientation = bS O) :
    F_impl_formatInstance a x = some (bS (lineI N x O)) := by
  have h4 := four_small hx
  have hOl : O.length ≤ 9 := by have := ori_size _ hx.ori; rw [hO, bS_size] at this; exact this
  unfold F_impl_formatInstance F_impl_OrientationName
  rw [hc, s_toNn, hN, hO, show (ByteArray.mk #[112, 108, 97, 99, 101]) = bS [112, 108, 97, 99, 101] from rfl, show (ByteArray.mk #[97, 114, 114, 97, 121]) = bS [97, 114, 114, 97, 121] from rfl]
  simp only [letO_eq]
  rw [req_of (inRl hcn), Option.bind_some, oneone, Option.bind_some]
  unfold lineI
  by_cases h11 : x.fColumns = 1 ∧ x.fRows = 1
  · rw [decide_eq_true h11, br_t, if_pos h11, join_ok (bS [112, 108, 97, 99, 101]) [bS N, bS O] _ (by simp only [List.length_cons, List.length_nil]; omega) (by simp only [List.length_cons, List.length_nil]; omega) (fun z hz => h4 z (by simp at hz ⊢; rcases hz with h | h <;> simp [h])) (by rw [List.flatMap_cons, List.flatMap_cons, List.flatMap_nil, List.append_nil, bS_data, bS_data, bS_size]; simp only [List.length_append, List.length_cons, List.length_nil]; omega), Option.bind_some, List.flatMap_cons, List.flatMap_cons, List.flatMap_nil, List.append_nil, bS_data, bS_data, bS_data]
    congr 2
    simp
  · rw [decide_eq_false h11, br_f, if_neg h11, req_of ⟨by omega, by rw [len_eq]; simp only [List.length_cons, List.length_nil]; omega⟩, show List.set [bS [112, 108, 97, 99, 101], bS N, bS O] (std.nadd 0 (std.toN 0)) (bS [97, 114, 114, 97, 121]) = [bS [97, 114, 114, 97, 121], bS N, bS O] from rfl, join_ok (bS [97, 114, 114, 97, 121]) [bS N, bS O] _ (by simp only [List.length_cons, List.length_nil]; omega) (by simp only [List.length_cons, List.length_nil]; omega) h4 (by rw [List.flatMap_cons, List.flatMap_cons, List.flatMap_nil, List.append_nil, bS_data, bS_data, bS_size]; simp only [List.length_append, List.length_cons, List.length_nil]; omega), Option.bind_some, req_of (by rw [len_eq, len_eq]; rfl), List.flatMap_cons, List.flatMap_cons, List.flatMap_nil, List.append_nil, bS_data, bS_data, bS_data,
      show ([x.fPlace.fX, x.fPlace.fY, x.fColumns, x.fRows, x.fStepX, x.fStepY] : List Int) = [x.fPlace.fX, x.fPlace.fY] ++ [x.fColumns, x.fRows, x.fStepX, x.fStepY] from rfl, numsL_app]
    congr 2
    simp
theorem name_len {a : TLibrary} (h : okLib a = true) {k : Nat} (hk : k < a.fCells.length) : (gd a.fCells k).fName.size ≤ 100 := by
  unfold okLib at h
  simp only [Bool.and_eq_true, decide_eq_true_eq, List.all_eq_true, List.mem_range] at h
  have h1 := (h.2.2 k hk).1
  unfold okCell isName at h1
  simp only [Bool.and_eq_true, decide_eq_true_eq] at h1
  have := h1.1.2.2
  omega
theorem fmt_same (a : TLibrary) (k i : Int) (h : SmallL a) : ∃ r, F_spec_FormatInstance a k i = some r ∧ F_impl_FormatInstance a k i = some r := by
  unfold F_spec_FormatInstance F_impl_FormatInstance
  rw [spec_l09Has_ok a k h, impl_hasCell_ok a k h, Option.bind_some, Option.bind_some]
  cases hh : hasC a k with
  | false =>
    unfold hasC at hh
    rw [hh]
    exact ⟨_, rfl, rfl⟩
  | true =>
    obtain ⟨hv, n, rfl, hn⟩ := hasC_iff hh
    unfold hasC at hh
    have hvc := vc_of hv hn
    have h8 := hvc.insts
    rw [hh, Bool.not_true, br_f, br_f, s_toNn, sub_id (by rw [s_ofN, len_eq]; omega) (by rw [s_ofN, len_eq]; omega)]
    simp only [req_of (inRl hn), spec_l09In_ok, impl_within_ok, Option.bind_some, letO_eq]
    cases hw : wB i 0 (std.ofN (len (gd a.fCells n).fInstances) - 1) with
    | false => exact ⟨_, rfl, rfl⟩
    | true =>
      have hw' := (wB_iffG _ _ _).1 hw
      rw [s_ofN, len_eq] at hw'
      obtain ⟨j, rfl⟩ := Int.eq_ofNat_of_zero_le hw'.1
      have hj : j < (gd a.fCells n).fInstances.length := by omega
      have hx := hvc.inst _ (gd_mem hj)
      obtain ⟨c, hc, hcn⟩ := hx.cell
      simp only [Bool.not_true, br_f, req_of (inRl hj), s_toNn]
      have hname : (gd a.fCells c).fName.size ≤ 100 := name_len hv (by omega)
      have e1 := spec_line a _ hx hc (by omega) (bS_of _) (by rw [Array.length_toList]; exact hname) (bS_of _)
      have e2 := impl_line a _ hx hc (by omega) (bS_of _) (by rw [Array.length_toList]; exact hname) (bS_of _)
      rw [e1, e2]
      exact ⟨_, rfl, rfl⟩
theorem lawW_FormatInstance (a : TLibrary) (k i : Int) (w : wfLibrary a) (_ : (Lit.int .i64 k).wf = true) (_ : (Lit.int .i64 i).wf = true) : F_laws_FnExactFormatInstance a k i = some true := by
  unfold F_laws_FnExactFormatInstance
  try rw [show TLibrary.mk a.fCells = a from rfl]
  obtain ⟨y, hy, hs⟩ := laws_szLibrary_ok a (wfLb_of w)
  rw [hy, Option.bind_some, br_bool, s_lt]
  by_cases h0 : y < 0
  · rw [if_pos (by simpa using h0)]
  · have h := hs (by omega)
    rw [if_neg (by simpa using h0)]
    obtain ⟨r, h1, h2⟩ := fmt_same a k i h
    simp only [laws_toLibrary_ok a h, Option.bind_some, h1, h2, laws_eqLibrary_ok a h, seq_self, s_not, Bool.not_true, br_f, letO_eq]
end Go.Proofs.YtfhkecbopidgiaaDoor.AM
