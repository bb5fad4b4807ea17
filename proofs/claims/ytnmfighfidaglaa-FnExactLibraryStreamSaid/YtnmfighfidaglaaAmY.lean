/-
  What the functions that the law reaches compute, and that they do. No condition.
-/
import Derived.Test.YtnmfighfidaglaaAmX
import Derived.Test.YtnmfighfidaglaaAmP
namespace Go.Proofs.Ytnmfighfidaglaa.AM
open Go Go.Proofs Go.RowKit
set_option linter.unusedVariables false
set_option linter.unusedSimpArgs false
set_option maxRecDepth 100000

theorem spec_l13Byte_ok (x : Int) : F_spec_l13Byte x = some (ofL (oneB x)) := rfl
theorem spec_l13Two_ok (x : Int) : F_spec_l13Two x = some (ofL (twoR x)) := by
  unfold F_spec_l13Two
  rw [req_of (by rw [s_nneg]; omega)]; rfl
theorem spec_l13Coordinate_ok (x : Int) : F_spec_l13Coordinate x = some (ofL (twoB x)) := by
  unfold F_spec_l13Coordinate
  rw [spec_l13Two_ok]; rfl
noncomputable def shapeB (a : TShape) : List Int := oneB a.fLayer ++ [a.fBox.fX0, a.fBox.fY0, a.fBox.fX1, a.fBox.fY1].flatMap twoB
noncomputable def nameB (s : ByteArray) : List Int := oneB (std.ofN (std.slen s)) ++ strL s
noncomputable def labelB (a : TLabel) : List Int := (oneB a.fLayer ++ [a.fAt.fX, a.fAt.fY].flatMap twoB) ++ nameB a.fName
noncomputable def placeB (a : TInstance) : List Int := (oneB a.fPlace.fOrientation ++ [a.fPlace.fX, a.fPlace.fY].flatMap twoB) ++ (oneB a.fColumns ++ oneB a.fRows) ++ [a.fStepX, a.fStepY].flatMap twoB
noncomputable def instB (a : TInstance) : List Int := oneB a.fCell ++ placeB a
theorem spec_l13ShapeBytes_ok (a : TShape) : F_spec_l13ShapeBytes a = some (ofL (shapeB a)) := by
  unfold F_spec_l13ShapeBytes shapeB
  simp only [spec_l13Byte_ok, spec_l13Coordinate_ok, Option.bind_some, ofL_app, ofL_len]
  repeat rw [req_of (room1 (by simp only [List.length_append, two_len, one_len]; omega))]
  simp
theorem spec_l13Name_ok (s : ByteArray) (h : s.size ≤ 1000) : F_spec_l13Name s = some (ofL (nameB s)) := by
  unfold F_spec_l13Name nameB
  simp only [spec_l13Byte_ok, Option.bind_some, scat_str, ofL_len]
  rw [req_of (room1 (by simp only [one_len]; show 1 + s.size ≤ _; omega))]
theorem spec_l13LabelBytes_ok (a : TLabel) (h : a.fName.size ≤ 1000) : F_spec_l13LabelBytes a = some (ofL (labelB a)) := by
  unfold F_spec_l13LabelBytes labelB
  have hn : (nameB a.fName).length ≤ 1001 := by unfold nameB; rw [List.length_append, one_len, strL_length]; omega
  simp only [spec_l13Byte_ok, spec_l13Coordinate_ok, spec_l13Name_ok _ h, Option.bind_some, ofL_app, ofL_len]
  repeat rw [req_of (room1 (by simp only [List.length_append, two_len, one_len]; omega))]
  simp
theorem spec_l13InstanceBytes_ok (a : TInstance) : F_spec_l13InstanceBytes a = some (ofL (instB a)) := by
  unfold F_spec_l13InstanceBytes instB placeB
  simp only [spec_l13Byte_ok, spec_l13Coordinate_ok, Option.bind_some, ofL_app, ofL_len]
  repeat rw [req_of (room1 (by simp only [List.length_append, two_len, one_len]; omega))]
  simp
theorem impl_two_ok (l : List Int) (x : Int) (h : l.length ≤ 10000000) : F_impl_two_mob l x = some (l ++ twoR x) := by
  unfold F_impl_two_mob
  rw [req_of (by rw [s_nneg]; omega)]
  simp only [letO_eq]
  rw [req_of (room1 (by simp [len_eq]; omega))]; rfl
theorem impl_coordinates_ok (l vs : List Int) (hv : vs.length ≤ 1000) (hl : l.length ≤ 10000) : F_impl_coordinates_mob l vs = some (l ++ vs.flatMap twoB) := by
  unfold F_impl_coordinates_mob
  refine Eq.trans (bind_of (while_from (r := l ++ vs.flatMap twoB) (fun i : Nat => ((i : Int), l ++ (vs.take i).flatMap twoB)) vs.length (by simp) (fun i hi => ?_) ?_)) rfl
  · have h1 := flat_two (vs.take i)
    rw [List.length_take] at h1
    simp only [L_impl_coordinates_mob_x3, letO_eq, s_toNn]
    rw [ltl_t hi, br_t, req_of (inRl hi), impl_two_ok _ _ (by rw [List.length_append]; omega), Option.bind_some, inc_nat (by omega), gd_lt hi, List.take_succ_eq_append_getElem hi, List.flatMap_append, ← List.append_assoc]
    simp [twoB]
  · simp only [L_impl_coordinates_mob_x3, letO_eq]
    rw [ltl_f, br_f, List.take_length]
theorem impl_nameBytes_ok (l : List Int) (s : ByteArray) (h : l.length ≤ 100000) (hs : s.size ≤ 1000) : F_impl_nameBytes_mob l s = some (l ++ nameB s) := by
  unfold F_impl_nameBytes_mob nameB
  simp only [letO_eq]
  rw [req_of (room1 (by simp [len_eq]; omega)), req_of (room1 (by simp [len_eq]; show l.length + 1 + s.size ≤ _; omega))]
  simp [oneB]
theorem impl_placeBytes_ok (l : List Int) (a : TInstance) (h : l.length ≤ 1000) : F_impl_placeBytes_mob l a = some (l ++ placeB a) := by
  unfold F_impl_placeBytes_mob placeB
  simp only [letO_eq]
  rw [req_of (room1 (by simp [len_eq]; omega)), impl_coordinates_ok _ _ (by simp) (by simp; omega)]
  simp only [Option.bind_some]
  rw [req_of (room1 (by simp [len_eq, two_len]; omega)), impl_coordinates_ok _ _ (by simp) (by simp [two_len]; omega)]
  simp [oneB]
theorem nameB_len (s : ByteArray) : (nameB s).length = s.size + 1 := by unfold nameB; rw [List.length_append, one_len, strL_length]; omega
theorem shapeB_len (a : TShape) : (shapeB a).length = 9 := by unfold shapeB; rw [List.length_append, one_len, flat_two]; rfl
theorem labelB_len (a : TLabel) : (labelB a).length = a.fName.size + 6 := by unfold labelB; rw [List.length_append, List.length_append, one_len, flat_two, nameB_len]; simp only [List.length_cons, List.length_nil]; omega
theorem placeB_len (a : TInstance) : (placeB a).length = 11 := by
  unfold placeB
  simp only [List.length_append, one_len, flat_two, List.length_cons, List.length_nil]
theorem instB_len (a : TInstance) : (instB a).length = 12 := by unfold instB; rw [List.length_append, one_len, placeB_len]
-- the sum of a string
theorem spec_Checksum16_ex (s : ByteArray) (h : s.size ≤ 1000000000) : ∃ c, F_spec_Checksum16 s = some c ∧ 0 ≤ c ∧ c < 65521 := by
  obtain ⟨r, h1, h2⟩ := while_ex (step := L_spec_Checksum16_x3 s) (x0 := (1, 0)) (fun x => ∃ i : Nat, x.2 = (i : Int) ∧ i ≤ s.size ∧ 0 ≤ x.1 ∧ x.1 < 65521) (fun r => 0 ≤ r ∧ r < 65521) (fun x => s.size + 1 - x.2.toNat) ⟨0, rfl, by omega, by omega, by omega⟩ (by
    rintro ⟨c, _⟩ ⟨i, rfl, h1, h2, h3⟩
    simp only at h2 h3
    by_cases hi : i < s.size
    · left
      have hs : 0 ≤ std.sat s i ∧ std.sat s i ≤ 255 := by
        show 0 ≤ (((s[i]?.getD 0).toNat : Nat) : Int) ∧ (((s[i]?.getD 0).toNat : Nat) : Int) ≤ 255
        have := (s[i]?.getD 0).toNat_lt
        omega
      have e1 : std.conv .i64 (std.sat s i) = std.sat s i := wrap_id (by omega) (by omega)
      have e2 : std.mul .i64 31 c = 31 * c := mul_id (by omega) (by omega)
      simp only [L_spec_Checksum16_x3, letO_eq, s_toNn, e1, e2]
      rw [lt_true (by rw [s_ofN, s_slen]; omega), br_t, req_of (show std.inR (i : Int) (std.slen s) from inRn hi), req_of (by rw [s_nz]; decide), inc_nat (by omega), add_id (x := 31 * c) (by omega) (by omega), add_id (by omega) (by omega)]
      have e3 : std.rem (31 * c + std.sat s i + 1) 65521 = (31 * c + std.sat s i + 1) % 65521 := Int.tmod_eq_emod_of_nonneg (by omega)
      rw [e3]
      refine ⟨_, rfl, ⟨i + 1, rfl, by omega, ?_, ?_⟩, ?_⟩
      · simp only; omega
      · simp only; omega
      · simp only [Int.toNat_natCast]; omega
    · right
      refine ⟨c, ?_, h2, h3⟩
      simp only [L_spec_Checksum16_x3, letO_eq]
      rw [lt_false (by rw [s_ofN, s_slen]; omega), br_f])
  refine ⟨r, ?_, h2⟩
  unfold F_spec_Checksum16
  rw [bind_of h1]; rfl
noncomputable def ck (s : ByteArray) : Int := (F_spec_Checksum16 s).getD 0
theorem spec_Checksum16_ok (s : ByteArray) (h : s.size ≤ 1000000000) : F_spec_Checksum16 s = some (ck s) := by
  obtain ⟨c, hc, _⟩ := spec_Checksum16_ex s h
  unfold ck; rw [hc]; rfl
theorem impl_Checksum16_ok (s : ByteArray) (h : s.size ≤ 1000000000) : F_impl_Checksum16 s = some (ck s) := spec_Checksum16_ok s h
theorem impl_two_nil (l : List Int) (x : Int) : F_impl_two_mnb l x = some (twoR x) := by
  unfold F_impl_two_mnb
  rw [req_of (by rw [s_nneg]; omega)]
  simp only [letO_eq]
  rw [req_of (room1 (by simp [len_eq]))]; rfl
theorem impl_nameBytes_nil (l : List Int) (s : ByteArray) (hs : s.size ≤ 1000) : F_impl_nameBytes_mnb l s = some (nameB s) := by
  unfold F_impl_nameBytes_mnb nameB
  simp only [letO_eq]
  rw [req_of (room1 (by simp [len_eq])), req_of (room1 (by simp [len_eq]; show 1 + s.size ≤ _; omega))]
  simp [oneB]
theorem impl_shapeBytes_nil (l : List Int) (a : TShape) : F_impl_shapeBytes_mnb l a = some (shapeB a) := by
  unfold F_impl_shapeBytes_mnb shapeB
  simp only [letO_eq]
  rw [req_of (room1 (by simp [len_eq])), impl_coordinates_ok _ _ (by simp) (by simp)]
  simp [oneB]
theorem impl_labelBytes_nil (l : List Int) (a : TLabel) (hs : a.fName.size ≤ 1000) : F_impl_labelBytes_mnb l a = some (labelB a) := by
  unfold F_impl_labelBytes_mnb labelB
  simp only [letO_eq]
  rw [req_of (room1 (by simp [len_eq])), impl_coordinates_ok _ _ (by simp) (by simp)]
  simp only [Option.bind_some]
  rw [impl_nameBytes_ok _ _ (by simp [two_len]) hs]
  simp [oneB]
/-- a record -/
noncomputable def headR (k : Int) (s : ByteArray) : ByteArray := std.scat (std.scat (ofL (twoR (std.add .i64 (std.ofN (std.slen s)) 5))) (ofL (oneB k))) s
noncomputable def recB (k : Int) (s : ByteArray) : ByteArray := std.scat (headR k s) (ofL (twoR (ck (headR k s))))
theorem headR_size (k : Int) (s : ByteArray) : (headR k s).size = s.size + 3 := by
  unfold headR
  rw [scat_size, scat_size, ofL_size, ofL_size, twoR_len, one_len]; omega
theorem recB_size (k : Int) (s : ByteArray) : (recB k s).size = s.size + 5 := by
  unfold recB
  rw [scat_size, headR_size, ofL_size, twoR_len]
theorem spec_l14Record_ok (k : Int) (s : ByteArray) (h : s.size ≤ 100000000) : F_spec_l14Record k s = some (recB k s) := by
  have h1 : (headR k s).size ≤ 1000000000 := by rw [headR_size]; omega
  unfold F_spec_l14Record
  simp only [spec_l13Two_ok, spec_l13Byte_ok, Option.bind_some]
  rw [req_of (room1 (by simp only [s_slen, ofL_size, twoR_len, one_len]; omega)), req_of (room1 (by simp only [s_slen, scat_size, ofL_size, twoR_len, one_len]; omega))]
  have e : std.scat (std.scat (ofL (twoR (std.add .i64 (std.ofN (std.slen s)) 5))) (ofL (oneB k))) s = headR k s := rfl
  rw [e, spec_Checksum16_ok _ h1]
  simp only [Option.bind_some]
  rw [req_of (room1 (by simp only [s_slen, ofL_size, twoR_len, headR_size]; omega))]
  rfl
theorem impl_StreamRecord_ok (k : Int) (s : ByteArray) (hk : 1 ≤ k ∧ k ≤ 7) (h : s.size ≤ 200) : F_impl_StreamRecord k s = some (recB k s) := by
  have h1 : (headR k s).size ≤ 1000000000 := by rw [headR_size]; omega
  have e0 : wB k 1 7 = true := by unfold wB; rw [le_true hk.1, le_true hk.2]; rfl
  unfold F_impl_StreamRecord
  simp only [impl_within_ok, e0, Option.bind_some, Bool.not_true, br_f, letO_eq]
  rw [lt_false (by rw [s_ofN, s_slen]; omega), br_f, impl_two_nil, Option.bind_some]
  have hl : ∀ x, (twoR x ++ [std.conv .u8 k]).length = 3 := fun x => rfl
  rw [req_of (room1 (by rw [len_eq, len_eq, twoR_len]; simp)), req_of (room1 (by rw [len_eq, hl, s_slen]; omega))]
  have e : std.ofBytes (len ((twoR (std.add .i64 (std.ofN (std.slen s)) 5) ++ [std.conv .u8 k]) ++ strL s)) (fun i => gd ((twoR (std.add .i64 (std.ofN (std.slen s)) 5) ++ [std.conv .u8 k]) ++ strL s) (0 + i)) = headR k s := by
    show ofL _ = _
    rw [ofL_cat, ← ofL_app]; rfl
  rw [e, impl_Checksum16_ok _ h1, Option.bind_some, impl_two_ok _ _ (by rw [List.length_append, hl, strL_length]; omega), Option.bind_some]
  congr 1
  show ofL _ = _
  rw [← ofL_app, ofL_cat, ← ofL_app]; rfl
theorem isName_size {s : ByteArray} (h : isName s = true) : s.size ≤ 8 := by
  unfold isName at h
  simp only [Bool.and_eq_true, decide_eq_true_eq] at h
  exact h.2.2
theorem wB_iff' (a b c : Int) : wB a b c = true ↔ b ≤ a ∧ a ≤ c := by
  unfold wB
  rw [s_le, s_le, Bool.and_eq_true, decide_eq_true_eq, decide_eq_true_eq]
/-- what a valid cell is like -/
structure GoodC (c : TCell) (k : Int) (n : Nat) : Prop where
  name : c.fName.size ≤ 8
  shapes : c.fShapes.length ≤ 24
  labels : c.fLabels.length ≤ 8
  insts : c.fInstances.length ≤ 8
  lname : ∀ l ∈ c.fLabels, l.fName.size ≤ 8
  cell : ∀ i ∈ c.fInstances, 0 ≤ i.fCell ∧ i.fCell < k
theorem okLib_cell {a : TLibrary} (h : okLib a = true) {k : Nat} (hk : k < a.fCells.length) : okCell (gd a.fCells k) k = true := by
  unfold okLib at h
  simp only [Bool.and_eq_true, decide_eq_true_eq, List.all_eq_true, List.mem_range] at h
  exact (h.2.2 k hk).1
theorem okLib_le {a : TLibrary} (h : okLib a = true) : 1 ≤ a.fCells.length ∧ a.fCells.length ≤ 8 := by
  unfold okLib at h
  simp only [Bool.and_eq_true, decide_eq_true_eq] at h
  exact ⟨h.1, h.2.1⟩
theorem good_of {a : TLibrary} (h : okLib a = true) {k : Nat} (hk : k < a.fCells.length) : GoodC (gd a.fCells k) k a.fCells.length := by
  have h1 := okLib_cell h hk
  have h2 := (okLib_le h).2
  unfold okCell at h1
  simp only [Bool.and_eq_true, decide_eq_true_eq, List.all_eq_true] at h1
  obtain ⟨g1, g2, g3, g4, g5, g6, g7⟩ := h1
  refine ⟨isName_size g1, g2, g3, g4, fun l hl => ?_, fun i hi => ?_⟩
  · have := g6 l hl
    unfold okLabel at this
    simp only [Bool.and_eq_true] at this
    exact isName_size this.2.2
  · have := g7 i hi
    unfold okInst at this
    rw [Bool.and_eq_true, wB_iff', sub_id (by omega) (by omega)] at this
    omega
/-- the records of a cell -/
noncomputable def shapeR (c : TCell) (i : Nat) : ByteArray := recB 3 (ofL (shapeB (gd c.fShapes i)))
noncomputable def labelR (c : TCell) (i : Nat) : ByteArray := recB 4 (ofL (labelB (gd c.fLabels i)))
noncomputable def instR (a : TLibrary) (c : TCell) (i : Nat) : ByteArray := recB 5 (ofL (nameB (gd a.fCells (std.toN (gd c.fInstances i).fCell)).fName ++ placeB (gd c.fInstances i)))
noncomputable def endR (c : TCell) : ByteArray := recB 6 (ofL [std.conv .u8 (std.ofN (len c.fShapes)), std.conv .u8 (std.ofN (len c.fLabels)), std.conv .u8 (std.ofN (len c.fInstances))])
noncomputable def cellR (a : TLibrary) (c : TCell) : ByteArray :=
  std.scat (catN (catN (catN (recB 2 (ofL (nameB c.fName))) (shapeR c) c.fShapes.length) (labelR c) c.fLabels.length) (instR a c) c.fInstances.length) (endR c)
section
variable {a : TLibrary} {k : Nat} (h : okLib a = true) (hk : k < a.fCells.length)
theorem shapeR_le (c : TCell) (i : Nat) : (shapeR c i).size ≤ 14 := by unfold shapeR; rw [recB_size, ofL_size, shapeB_len]; omega
include h hk in
theorem labelR_le (i : Nat) (hi : i < (gd a.fCells k).fLabels.length) : (labelR (gd a.fCells k) i).size ≤ 19 := by
  have := (good_of h hk).lname _ (gd_mem hi)
  unfold labelR; rw [recB_size, ofL_size, labelB_len]; omega
include h hk in
theorem inst_in (i : Nat) (hi : i < (gd a.fCells k).fInstances.length) : std.inR (gd (gd a.fCells k).fInstances i).fCell (len a.fCells) ∧ (gd a.fCells (std.toN (gd (gd a.fCells k).fInstances i).fCell)).fName.size ≤ 8 := by
  have h1 := (good_of h hk).cell _ (gd_mem hi)
  refine ⟨⟨h1.1, by rw [len_eq]; omega⟩, ?_⟩
  exact (good_of h (k := std.toN (gd (gd a.fCells k).fInstances i).fCell) (by rw [s_toN]; omega)).name
include h hk in
theorem instR_le (i : Nat) (hi : i < (gd a.fCells k).fInstances.length) : (instR a (gd a.fCells k) i).size ≤ 25 := by
  have := (inst_in h hk i hi).2
  unfold instR; rw [recB_size, ofL_size, List.length_append, nameB_len, placeB_len]; omega
include h hk in
theorem spec_l14Cell_ok : F_spec_l14Cell a (k : Int) = some (cellR a (gd a.fCells k)) := by
  have hg := good_of h hk
  have n0 : (recB 2 (ofL (nameB (gd a.fCells k).fName))).size ≤ 14 := by rw [recB_size, ofL_size, nameB_len]; have := hg.name; omega
  have g1 := hg.shapes; have g2 := hg.labels; have g3 := hg.insts
  have n1 := catN_size (recB 2 (ofL (nameB (gd a.fCells k).fName))) (shapeR (gd a.fCells k)) 14 (gd a.fCells k).fShapes.length fun i _ => shapeR_le _ i
  have m1 : (gd a.fCells k).fShapes.length * 14 ≤ 24 * 14 := Nat.mul_le_mul_right _ g1
  have n2 := catN_size (catN (recB 2 (ofL (nameB (gd a.fCells k).fName))) (shapeR (gd a.fCells k)) (gd a.fCells k).fShapes.length) (labelR (gd a.fCells k)) 19 (gd a.fCells k).fLabels.length fun i hi => labelR_le h hk i hi
  have m2 : (gd a.fCells k).fLabels.length * 19 ≤ 8 * 19 := Nat.mul_le_mul_right _ g2
  have n3 := catN_size (catN (catN (recB 2 (ofL (nameB (gd a.fCells k).fName))) (shapeR (gd a.fCells k)) (gd a.fCells k).fShapes.length) (labelR (gd a.fCells k)) (gd a.fCells k).fLabels.length) (instR a (gd a.fCells k)) 25 (gd a.fCells k).fInstances.length fun i hi => instR_le h hk i hi
  have m3 : (gd a.fCells k).fInstances.length * 25 ≤ 8 * 25 := Nat.mul_le_mul_right _ g3
  unfold F_spec_l14Cell
  rw [req_of (inRl hk), s_toNn, spec_l13Name_ok _ (by have := hg.name; omega), Option.bind_some, spec_l14Record_ok _ _ (by rw [ofL_size, nameB_len]; have := hg.name; omega), Option.bind_some]
  rw [bind_of (while_cat (st := L_spec_l14Cell_x8 a k) (recB 2 (ofL (nameB (gd a.fCells k).fName))) (shapeR (gd a.fCells k)) 14 (gd a.fCells k).fShapes.length (fun i _ => shapeR_le _ i) (fun i hi v hv => by
    simp only [L_spec_l14Cell_x8, letO_eq, s_toNn]
    rw [ltl_t hi, br_t, req_of (inRl hi), spec_l13ShapeBytes_ok, Option.bind_some, spec_l14Record_ok _ _ (by rw [ofL_size, shapeB_len]; omega), Option.bind_some, req_of (room1 (by have := shapeR_le (gd a.fCells k) i; unfold shapeR at this; rw [s_slen, s_slen]; omega)), inc_nat (by omega)]
    rfl) (fun v => by
    simp only [L_spec_l14Cell_x8, letO_eq, s_toNn]
    rw [ltl_f, br_f]))]
  try simp only [letO_eq]
  rw [bind_of (while_cat (st := L_spec_l14Cell_x30 a k) _ (labelR (gd a.fCells k)) 19 (gd a.fCells k).fLabels.length (fun i hi => labelR_le h hk i hi) (fun i hi v hv => by
    have hn := hg.lname _ (gd_mem hi)
    simp only [L_spec_l14Cell_x30, letO_eq, s_toNn]
    rw [ltl_t hi, br_t, req_of (inRl hi), spec_l13LabelBytes_ok _ (by omega), Option.bind_some, spec_l14Record_ok _ _ (by rw [ofL_size, labelB_len]; omega), Option.bind_some, req_of (room1 (by have := labelR_le h hk i hi; unfold labelR at this; rw [s_slen, s_slen]; omega)), inc_nat (by omega)]
    rfl) (fun v => by
    simp only [L_spec_l14Cell_x30, letO_eq, s_toNn]
    rw [ltl_f, br_f]))]
  try simp only [letO_eq]
  rw [bind_of (while_cat (st := L_spec_l14Cell_x52 a k) _ (instR a (gd a.fCells k)) 25 (gd a.fCells k).fInstances.length (fun i hi => instR_le h hk i hi) (fun i hi v hv => by
    obtain ⟨hi1, hi2⟩ := inst_in h hk i hi
    simp only [L_spec_l14Cell_x52, letO_eq, s_toNn, F_spec_l14Instance]
    rw [ltl_t hi, br_t, req_of (inRl hi), req_of hi1, spec_l13Name_ok _ (by omega), Option.bind_some, spec_l13InstanceBytes_ok, Option.bind_some]
    have e1 : std.ssub (ofL (instB (gd (gd a.fCells k).fInstances i))) (std.toN 1) (std.slen (ofL (instB (gd (gd a.fCells k).fInstances i)))) = ofL (placeB (gd (gd a.fCells k).fInstances i)) := by
      unfold instB
      rw [← ofL_app]
      exact ssub_app (ofL (oneB _)) (ofL (placeB _))
    have e0 : std.upTo 1 (std.slen (ofL (instB (gd (gd a.fCells k).fInstances i)))) := ⟨by omega, by rw [ofL_len]; unfold instB; rw [List.length_append, one_len, placeB_len]; omega⟩
    rw [req_of e0, e1, req_of (room1 (by simp only [s_slen, ofL_size, nameB_len, placeB_len]; omega)), Option.bind_some, ofL_app, spec_l14Record_ok _ _ (by rw [ofL_size, List.length_append, nameB_len, placeB_len]; omega), Option.bind_some, req_of (room1 (by have := instR_le h hk i hi; unfold instR at this; rw [s_slen, s_slen]; omega)), inc_nat (by omega)]
    rfl) (fun v => by
    simp only [L_spec_l14Cell_x52, letO_eq, s_toNn]
    rw [ltl_f, br_f]))]
  simp only [letO_eq, spec_l13Byte_ok, Option.bind_some, ofL_app]
  rw [req_of (room1 (by simp only [s_slen, ofL_size, one_len]; omega)), req_of (room1 (by simp only [s_slen, ofL_size, List.length_append, one_len]; omega)), spec_l14Record_ok _ _ (by simp only [ofL_size, List.length_append, one_len]; omega), Option.bind_some, req_of (room1 (by simp only [s_slen, recB_size, ofL_size, List.length_append, one_len]; omega))]
  rfl
include h hk in
theorem impl_cellRecords_ok : F_impl_cellRecords a (gd a.fCells k) = some (cellR a (gd a.fCells k)) := by
  have hg := good_of h hk
  have n0 : (recB 2 (ofL (nameB (gd a.fCells k).fName))).size ≤ 14 := by rw [recB_size, ofL_size, nameB_len]; have := hg.name; omega
  have g1 := hg.shapes; have g2 := hg.labels; have g3 := hg.insts
  have n1 := catN_size (recB 2 (ofL (nameB (gd a.fCells k).fName))) (shapeR (gd a.fCells k)) 14 (gd a.fCells k).fShapes.length fun i _ => shapeR_le _ i
  have m1 : (gd a.fCells k).fShapes.length * 14 ≤ 24 * 14 := Nat.mul_le_mul_right _ g1
  have n2 := catN_size (catN (recB 2 (ofL (nameB (gd a.fCells k).fName))) (shapeR (gd a.fCells k)) (gd a.fCells k).fShapes.length) (labelR (gd a.fCells k)) 19 (gd a.fCells k).fLabels.length fun i hi => labelR_le h hk i hi
  have m2 : (gd a.fCells k).fLabels.length * 19 ≤ 8 * 19 := Nat.mul_le_mul_right _ g2
  have n3 := catN_size (catN (catN (recB 2 (ofL (nameB (gd a.fCells k).fName))) (shapeR (gd a.fCells k)) (gd a.fCells k).fShapes.length) (labelR (gd a.fCells k)) (gd a.fCells k).fLabels.length) (instR a (gd a.fCells k)) 25 (gd a.fCells k).fInstances.length fun i hi => instR_le h hk i hi
  have m3 : (gd a.fCells k).fInstances.length * 25 ≤ 8 * 25 := Nat.mul_le_mul_right _ g3
  have eL : ∀ l : List Int, std.ofBytes (len l) (fun i => gd l (0 + i)) = ofL l := fun _ => rfl
  unfold F_impl_cellRecords
  simp only [eL]
  rw [impl_nameBytes_nil _ _ (by have := hg.name; omega), Option.bind_some, impl_StreamRecord_ok _ _ (by omega) (by rw [ofL_size, nameB_len]; have := hg.name; omega), Option.bind_some]
  rw [bind_of (while_cat (st := L_impl_cellRecords_x7 (gd a.fCells k)) (recB 2 (ofL (nameB (gd a.fCells k).fName))) (shapeR (gd a.fCells k)) 14 (gd a.fCells k).fShapes.length (fun i _ => shapeR_le _ i) (fun i hi v hv => by
    simp only [L_impl_cellRecords_x7, letO_eq, s_toNn, eL]
    rw [ltl_t hi, br_t, req_of (inRl hi), impl_shapeBytes_nil, Option.bind_some, impl_StreamRecord_ok _ _ (by omega) (by rw [ofL_size, shapeB_len]; omega), Option.bind_some, req_of (room1 (by have := shapeR_le (gd a.fCells k) i; unfold shapeR at this; rw [s_slen, s_slen]; omega)), inc_nat (by omega)]
    rfl) (fun v => by
    simp only [L_impl_cellRecords_x7, letO_eq]
    rw [ltl_f, br_f]))]
  try simp only [letO_eq]
  rw [bind_of (while_cat (st := L_impl_cellRecords_x29 (gd a.fCells k)) _ (labelR (gd a.fCells k)) 19 (gd a.fCells k).fLabels.length (fun i hi => labelR_le h hk i hi) (fun i hi v hv => by
    have hn := hg.lname _ (gd_mem hi)
    simp only [L_impl_cellRecords_x29, letO_eq, s_toNn, eL]
    rw [ltl_t hi, br_t, req_of (inRl hi), impl_labelBytes_nil _ _ (by omega), Option.bind_some, impl_StreamRecord_ok _ _ (by omega) (by rw [ofL_size, labelB_len]; omega), Option.bind_some, req_of (room1 (by have := labelR_le h hk i hi; unfold labelR at this; rw [s_slen, s_slen]; omega)), inc_nat (by omega)]
    rfl) (fun v => by
    simp only [L_impl_cellRecords_x29, letO_eq]
    rw [ltl_f, br_f]))]
  try simp only [letO_eq]
  rw [bind_of (while_cat (st := L_impl_cellRecords_x51 a (gd a.fCells k)) _ (instR a (gd a.fCells k)) 25 (gd a.fCells k).fInstances.length (fun i hi => instR_le h hk i hi) (fun i hi v hv => by
    obtain ⟨hi1, hi2⟩ := inst_in h hk i hi
    simp only [L_impl_cellRecords_x51, letO_eq, s_toNn, eL]
    rw [ltl_t hi, br_t, req_of (inRl hi), req_of hi1, impl_nameBytes_nil _ _ (by omega), Option.bind_some, impl_placeBytes_ok _ _ (by rw [nameB_len]; omega), Option.bind_some, impl_StreamRecord_ok _ _ (by omega) (by rw [ofL_size, List.length_append, nameB_len, placeB_len]; omega), Option.bind_some, req_of (room1 (by have := instR_le h hk i hi; unfold instR at this; rw [s_slen, s_slen]; omega)), inc_nat (by omega)]
    rfl) (fun v => by
    simp only [L_impl_cellRecords_x51, letO_eq]
    rw [ltl_f, br_f]))]
  try simp only [letO_eq]
  rw [impl_StreamRecord_ok _ _ (by omega) (by rw [ofL_size]; simp), Option.bind_some, req_of (room1 (by simp only [s_slen, recB_size, ofL_size, List.length_cons, List.length_nil]; omega))]
  rfl
include h hk in
theorem cellR_le : (cellR a (gd a.fCells k)).size ≤ 1000 := by
  have hg := good_of h hk
  have n0 : (recB 2 (ofL (nameB (gd a.fCells k).fName))).size ≤ 14 := by rw [recB_size, ofL_size, nameB_len]; have := hg.name; omega
  have n1 := catN_size (recB 2 (ofL (nameB (gd a.fCells k).fName))) (shapeR (gd a.fCells k)) 14 (gd a.fCells k).fShapes.length fun i _ => shapeR_le _ i
  have m1 : (gd a.fCells k).fShapes.length * 14 ≤ 24 * 14 := Nat.mul_le_mul_right _ hg.shapes
  have n2 := catN_size (catN (recB 2 (ofL (nameB (gd a.fCells k).fName))) (shapeR (gd a.fCells k)) (gd a.fCells k).fShapes.length) (labelR (gd a.fCells k)) 19 (gd a.fCells k).fLabels.length fun i hi => labelR_le h hk i hi
  have m2 : (gd a.fCells k).fLabels.length * 19 ≤ 8 * 19 := Nat.mul_le_mul_right _ hg.labels
  have n3 := catN_size (catN (catN (recB 2 (ofL (nameB (gd a.fCells k).fName))) (shapeR (gd a.fCells k)) (gd a.fCells k).fShapes.length) (labelR (gd a.fCells k)) (gd a.fCells k).fLabels.length) (instR a (gd a.fCells k)) 25 (gd a.fCells k).fInstances.length fun i hi => instR_le h hk i hi
  have m3 : (gd a.fCells k).fInstances.length * 25 ≤ 8 * 25 := Nat.mul_le_mul_right _ hg.insts
  unfold cellR endR
  rw [scat_size, recB_size, ofL_size]
  simp only [List.length_cons, List.length_nil]
  omega
end
end Go.Proofs.Ytnmfighfidaglaa.AM
