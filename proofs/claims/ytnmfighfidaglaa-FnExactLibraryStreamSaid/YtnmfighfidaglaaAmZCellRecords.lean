/-
  What the functions that the law reaches compute, and that they do. No condition.
-/
import Derived.Test.YtnmfighfidaglaaAmY
namespace Go.Proofs.Ytnmfighfidaglaa.AM
open Go Go.Proofs Go.RowKit
set_option linter.unusedVariables false
set_option linter.unusedSimpArgs false
set_option maxRecDepth 100000

theorem okB_nat {a : TLibrary} {k : Int} (hb : (okLib a && wB k 0 ((a.fCells.length : Int) - 1)) = true) : okLib a = true ∧ ∃ n : Nat, k = (n : Int) ∧ n < a.fCells.length := by
  rw [Bool.and_eq_true, wB_iff'] at hb
  exact ⟨hb.1, k.toNat, by omega, by omega⟩
theorem spec_CellRecords_ok (a : TLibrary) (k : Int) (h : SmallL a) : F_spec_CellRecords a k = some (if okLib a && wB k 0 ((a.fCells.length : Int) - 1) then cellR a (gd a.fCells k.toNat) else ByteArray.mk #[]) := by
  unfold F_spec_CellRecords
  rw [show TLibrary.mk a.fCells = a from rfl, spec_l09Has_ok _ _ h, Option.bind_some]
  cases hb : okLib a && wB k 0 ((a.fCells.length : Int) - 1) with
  | false => rfl
  | true =>
    obtain ⟨h1, n, rfl, hn⟩ := okB_nat hb
    simp only [Bool.not_true, br_f, if_true]
    rw [spec_l14Cell_ok h1 hn]; rfl
theorem impl_CellRecords_ok (a : TLibrary) (k : Int) (h : SmallL a) : F_impl_CellRecords a k = some (if okLib a && wB k 0 ((a.fCells.length : Int) - 1) then cellR a (gd a.fCells k.toNat) else ByteArray.mk #[]) := by
  unfold F_impl_CellRecords
  rw [impl_hasCell_ok _ _ h, Option.bind_some]
  cases hb : okLib a && wB k 0 ((a.fCells.length : Int) - 1) with
  | false => rfl
  | true =>
    obtain ⟨h1, n, rfl, hn⟩ := okB_nat hb
    simp only [Bool.not_true, br_f, if_true]
    rw [req_of (inRl hn), s_toNn, impl_cellRecords_ok h1 hn]; rfl
theorem lawW_CellRecords (a : TLibrary) (k : Int) (w : wfLibrary a) (_ : (Lit.int .i64 k).wf = true) : F_laws_FnExactCellRecords a k = some true := by
  unfold F_laws_FnExactCellRecords
  obtain ⟨y, hy, hs⟩ := laws_szLibrary_ok a (wfLb_of w)
  rw [hy, Option.bind_some, br_bool, s_lt]
  by_cases h0 : y < 0
  · rw [if_pos (by simpa using h0)]
  · have h := hs (by omega)
    rw [if_neg (by simpa using h0)]
    simp only [laws_toLibrary_ok a h, Option.bind_some, spec_CellRecords_ok a k h, impl_CellRecords_ok a k h, laws_eqLibrary_ok a h, seq_self]
    rfl
/-- a library's stream -/
noncomputable def libR (a : TLibrary) : ByteArray :=
  let s := catN (recB 1 (ofL [1, std.conv .u8 (std.ofN (len a.fCells))])) (fun k => cellR a (gd a.fCells k)) a.fCells.length
  std.scat s (recB 7 (ofL (twoR (ck s))))
theorem spec_LibraryStream_ok (a : TLibrary) (h : SmallL a) : F_spec_LibraryStream a = some (if okLib a then libR a else ByteArray.mk #[]) := by
  unfold F_spec_LibraryStream
  rw [spec_IsValidLibrary_ok _ h, Option.bind_some]
  cases hb : okLib a with
  | false => rfl
  | true =>
    have hl := okLib_le hb
    have e1 : oneB 1 = [1] := rfl
    have n1 := catN_size (recB 1 (ofL [1, std.conv .u8 (std.ofN (len a.fCells))])) (fun k => cellR a (gd a.fCells k)) 1000 a.fCells.length fun k hk => cellR_le hb hk
    have m1 : a.fCells.length * 1000 ≤ 8 * 1000 := Nat.mul_le_mul_right _ hl.2
    have n0 : (recB 1 (ofL [1, std.conv .u8 (std.ofN (len a.fCells))])).size = 7 := by rw [recB_size, ofL_size]; rfl
    simp only [Bool.not_true, br_f, if_true, spec_l13Byte_ok, Option.bind_some]
    rw [req_of (room1 (by simp only [s_slen, ofL_size, one_len]; omega)), ofL_app, e1]
    rw [show [1] ++ oneB (std.ofN (len a.fCells)) = [1, std.conv .u8 (std.ofN (len a.fCells))] from rfl, spec_l14Record_ok _ _ (by rw [ofL_size]; simp), Option.bind_some]
    rw [bind_of (while_cat (st := L_spec_LibraryStream_x12 a) _ (fun k => cellR a (gd a.fCells k)) 1000 a.fCells.length (fun k hk => cellR_le hb hk) (fun i hi v hv => by
      have := cellR_le hb hi
      simp only [L_spec_LibraryStream_x12, letO_eq]
      rw [ltl_t hi, br_t, spec_l14Cell_ok hb hi, Option.bind_some, req_of (room1 (by rw [s_slen, s_slen]; omega)), inc_nat (by omega)]) (fun v => by
      simp only [L_spec_LibraryStream_x12, letO_eq]
      rw [ltl_f, br_f]))]
    simp only [letO_eq]
    rw [spec_Checksum16_ok _ (by omega), Option.bind_some, spec_l13Two_ok, Option.bind_some, spec_l14Record_ok _ _ (by rw [ofL_size, twoR_len]; omega), Option.bind_some, req_of (room1 (by simp only [s_slen, recB_size, ofL_size, twoR_len]; omega))]
    rfl
theorem impl_LibraryStream_ok (a : TLibrary) (h : SmallL a) : F_impl_LibraryStream a = some (if okLib a then libR a else ByteArray.mk #[]) := by
  unfold F_impl_LibraryStream
  rw [impl_IsValidLibrary_ok _ h, Option.bind_some]
  cases hb : okLib a with
  | false => rfl
  | true =>
    have hl := okLib_le hb
    have eL : ∀ l : List Int, std.ofBytes (len l) (fun i => gd l (0 + i)) = ofL l := fun _ => rfl
    have n1 := catN_size (recB 1 (ofL [1, std.conv .u8 (std.ofN (len a.fCells))])) (fun k => cellR a (gd a.fCells k)) 1000 a.fCells.length fun k hk => cellR_le hb hk
    have m1 : a.fCells.length * 1000 ≤ 8 * 1000 := Nat.mul_le_mul_right _ hl.2
    have n0 : (recB 1 (ofL [1, std.conv .u8 (std.ofN (len a.fCells))])).size = 7 := by rw [recB_size, ofL_size]; rfl
    simp only [Bool.not_true, br_f, if_true, letO_eq, eL]
    rw [impl_StreamRecord_ok _ _ (by omega) (by rw [ofL_size]; simp), Option.bind_some]
    rw [bind_of (while_cat (st := L_impl_LibraryStream_x9 a) _ (fun k => cellR a (gd a.fCells k)) 1000 a.fCells.length (fun k hk => cellR_le hb hk) (fun i hi v hv => by
      have := cellR_le hb hi
      simp only [L_impl_LibraryStream_x9, letO_eq, s_toNn]
      rw [ltl_t hi, br_t, req_of (inRl hi), impl_cellRecords_ok hb hi, Option.bind_some, req_of (room1 (by rw [s_slen, s_slen]; omega)), inc_nat (by omega)]) (fun v => by
      simp only [L_impl_LibraryStream_x9, letO_eq]
      rw [ltl_f, br_f]))]
    rw [impl_Checksum16_ok _ (by omega), Option.bind_some, impl_two_nil, Option.bind_some, impl_StreamRecord_ok _ _ (by omega) (by rw [ofL_size, twoR_len]; omega), Option.bind_some, req_of (room1 (by simp only [s_slen, recB_size, ofL_size, twoR_len]; omega))]
    rfl
theorem lawW_LibraryStream (a : TLibrary) (w : wfLibrary a) : F_laws_FnExactLibraryStream a = some true := by
  unfold F_laws_FnExactLibraryStream
  obtain ⟨y, hy, hs⟩ := laws_szLibrary_ok a (wfLb_of w)
  rw [hy, Option.bind_some, br_bool, s_lt]
  by_cases h0 : y < 0
  · rw [if_pos (by simpa using h0)]
  · have h := hs (by omega)
    rw [if_neg (by simpa using h0)]
    simp only [laws_toLibrary_ok a h, Option.bind_some, spec_LibraryStream_ok a h, impl_LibraryStream_ok a h, laws_eqLibrary_ok a h, seq_self]
    rfl
end Go.Proofs.Ytnmfighfidaglaa.AM
