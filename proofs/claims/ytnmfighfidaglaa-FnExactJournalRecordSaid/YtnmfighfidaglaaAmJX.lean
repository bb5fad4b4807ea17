/-
  What the functions that the law reaches compute, and that they do. No condition.
-/
import Derived.Test.YtnmfighfidaglaaAmJW
import Derived.Test.YtnmfighfidaglaaAmP
import Derived.Test.YtnmfighfidaglaaAmE
namespace Go.Proofs.Ytnmfighfidaglaa.AM
open Go Go.Proofs Go.RowKit
set_option linter.unusedVariables false
set_option linter.unusedSimpArgs false
set_option maxRecDepth 100000

noncomputable def wB (a b c : Int) : Bool := std.le b a && std.le a c
theorem spec_l09In_ok (a b c : Int) : F_spec_l09In a b c = some (wB a b c) := by
  unfold F_spec_l09In wB
  cases std.le b a <;> rfl
theorem impl_within_ok (a b c : Int) : F_impl_within a b c = some (wB a b c) := by
  unfold F_impl_within wB
  cases std.le b a <;> rfl
noncomputable def okRect (a : TRect) : Bool := std.le (-40) a.fX0 && (std.lt a.fX0 a.fX1 && (std.le a.fX1 40 && (std.le (-40) a.fY0 && (std.lt a.fY0 a.fY1 && std.le a.fY1 40))))
theorem spec_l09Rect_ok (a : TRect) : F_spec_l09Rect a = some (okRect a) := by
  unfold F_spec_l09Rect okRect
  cases std.le (-40) a.fX0 <;> cases std.lt a.fX0 a.fX1 <;> cases std.le a.fX1 40 <;> cases std.le (-40) a.fY0 <;> cases std.lt a.fY0 a.fY1 <;> rfl
theorem impl_IsValidRect_ok (a : TRect) : F_impl_IsValidRect a = some (okRect a) := by
  unfold F_impl_IsValidRect okRect
  cases std.le (-40) a.fX0 <;> cases std.lt a.fX0 a.fX1 <;> cases std.le a.fX1 40 <;> cases std.le (-40) a.fY0 <;> cases std.lt a.fY0 a.fY1 <;> rfl
theorem spec_l09Layer_ok (a : Int) : F_spec_l09Layer a = some (wB a 0 7) := by
  unfold F_spec_l09Layer
  rw [spec_l09In_ok]; rfl
noncomputable def okShape (a : TShape) : Bool := wB a.fLayer 0 7 && okRect a.fBox
theorem spec_l09Shape_ok (a : TShape) : F_spec_l09Shape a = some (okShape a) := by
  unfold F_spec_l09Shape okShape
  rw [spec_l09Layer_ok, spec_l09Rect_ok]
  cases wB a.fLayer 0 7 <;> rfl
theorem impl_validShape_ok (a : TShape) : F_impl_validShape a = some (okShape a) := by
  unfold F_impl_validShape okShape
  rw [impl_within_ok, impl_IsValidRect_ok]
  cases wB a.fLayer 0 7 <;> rfl
noncomputable def okPoint (a : TPoint) : Bool := wB a.fX (-40) 39 && wB a.fY (-40) 39
theorem spec_l09Unit_ok (a : TPoint) : F_spec_l09Unit a = some (okPoint a) := by
  unfold F_spec_l09Unit okPoint
  rw [spec_l09In_ok, spec_l09In_ok]
  cases wB a.fX (-40) 39 <;> rfl
theorem impl_isUnitCell_ok (a : TPoint) : F_impl_isUnitCell a = some (okPoint a) := by
  unfold F_impl_isUnitCell okPoint
  rw [impl_within_ok, impl_within_ok]
  cases wB a.fX (-40) 39 <;> rfl
noncomputable def okName (s : ByteArray) (i : Nat) : Bool :=
  (std.le 97 (std.sat s i) && std.le (std.sat s i) 122) || (std.le 48 (std.sat s i) && std.le (std.sat s i) 57)
noncomputable def isName (s : ByteArray) : Bool := (List.range s.size).all (okName s) && (decide (1 ≤ s.size) && decide (s.size ≤ 8))
theorem lt_le (a b : Int) : std.lt a b = !std.le b a := by
  rw [s_lt, s_le]
  by_cases h : a < b
  · have : ¬ b ≤ a := by omega
    simp [h]
  · have : b ≤ a := by omega
    simp [h, this]
theorem nameEnd (s : ByteArray) (b : Bool) : ((match (if b then .inr () else .inl () : Unit ⊕ Unit) with
    | .inl _ => some false
    | .inr _ => ((br (std.le 1 (std.ofN (std.slen s))) (some (std.le (std.ofN (std.slen s)) 8)) (some false)) : Option Bool).bind fun y33 => letO y33 fun w39 => some w39) : Option Bool) = some (b && (decide (1 ≤ s.size) && decide (s.size ≤ 8))) := by
  cases b with
  | false => rfl
  | true =>
    have e1 : std.le 1 (std.ofN (std.slen s)) = decide (1 ≤ s.size) := by rw [s_le, s_ofN, s_slen]; congr 1; simp; omega
    have e2 : std.le (std.ofN (std.slen s)) 8 = decide (s.size ≤ 8) := by rw [s_le, s_ofN, s_slen]; congr 1; simp; omega
    simp only [if_true, e1, e2, br_bool, letO_eq, Bool.true_and]
    cases decide (1 ≤ s.size) <;> rfl
theorem spec_IsName_ok (s : ByteArray) (hs : s.size ≤ maxLen) : F_spec_IsName s = some (isName s) := by
  have hb := maxLen_eq
  unfold F_spec_IsName
  refine Eq.trans (bind_of (scan (ok := okName s) (n := s.size) (yes := .inr ()) (no := .inl ()) (fun i hi => ?_) ?_)) (nameEnd s _)
  · simp only [L_spec_IsName_x2, letO_eq, s_toNn, req_of (show std.inR (i : Int) (std.slen s) from inRn hi), okName]
    rw [lt_true (by rw [s_ofN, s_slen]; omega), br_t, inc_nat (by omega)]
    generalize std.sat s i = c
    cases std.le 97 c <;> cases std.le c 122 <;> cases std.le 48 c <;> cases std.le c 57 <;> rfl
  · simp only [L_spec_IsName_x2, letO_eq]
    rw [lt_false (by rw [s_ofN, s_slen]; omega)]; rfl
theorem impl_IsName_ok (s : ByteArray) (hs : s.size ≤ maxLen) : F_impl_IsName s = some (isName s) := by
  have hb := maxLen_eq
  unfold F_impl_IsName
  refine Eq.trans (bind_of (scan (ok := okName s) (n := s.size) (yes := .inr ()) (no := .inl ()) (fun i hi => ?_) ?_)) (nameEnd s _)
  · simp only [L_impl_IsName_x2, letO_eq, s_toNn, req_of (show std.inR (i : Int) (std.slen s) from inRn hi), okName]
    rw [lt_true (by rw [s_ofN, s_slen]; omega), br_t, inc_nat (by omega)]
    generalize std.sat s i = c
    rw [lt_le c 97, lt_le c 48, lt_le 122 c, lt_le 57 c]
    cases std.le 97 c <;> cases std.le c 122 <;> cases std.le 48 c <;> cases std.le c 57 <;> rfl
  · simp only [L_impl_IsName_x2, letO_eq]
    rw [lt_false (by rw [s_ofN, s_slen]; omega)]; rfl
noncomputable def okLabel (a : TLabel) : Bool := wB a.fLayer 0 7 && (okPoint a.fAt && isName a.fName)
theorem spec_l09Label_ok (a : TLabel) (h : a.fName.size ≤ maxLen) : F_spec_l09Label a = some (okLabel a) := by
  unfold F_spec_l09Label okLabel
  rw [spec_l09Layer_ok, spec_l09Unit_ok, spec_IsName_ok _ h]
  cases wB a.fLayer 0 7 <;> cases okPoint a.fAt <;> rfl
theorem impl_validLabel_ok (a : TLabel) (h : a.fName.size ≤ maxLen) : F_impl_validLabel a = some (okLabel a) := by
  unfold F_impl_validLabel okLabel
  rw [impl_within_ok, impl_isUnitCell_ok, impl_IsName_ok _ h]
  cases wB a.fLayer 0 7 <;> cases okPoint a.fAt <;> rfl
noncomputable def okTr (a : TTransform) : Bool := wB a.fOrientation 0 7 && (wB a.fX (-80) 80 && wB a.fY (-80) 80)
theorem spec_l09Transform_ok (a : TTransform) : F_spec_l09Transform a = some (okTr a) := by
  unfold F_spec_l09Transform okTr
  simp only [spec_l09In_ok]
  cases wB a.fOrientation 0 7 <;> cases wB a.fX (-80) 80 <;> rfl
theorem impl_IsValidTransform_ok (a : TTransform) : F_impl_IsValidTransform a = some (okTr a) := by
  unfold F_impl_IsValidTransform okTr
  simp only [impl_within_ok]
  cases wB a.fOrientation 0 7 <;> cases wB a.fX (-80) 80 <;> rfl
noncomputable def okInst (a : TInstance) (m : Int) : Bool := wB a.fCell 0 (std.sub .i64 m 1) && (okTr a.fPlace && (wB a.fColumns 1 4 && (wB a.fRows 1 4 && (wB a.fStepX (-80) 80 && (wB a.fStepY (-80) 80 && ((std.lt 1 a.fColumns || std.eq a.fStepX 0) && (std.lt 1 a.fRows || std.eq a.fStepY 0)))))))
theorem spec_l09Instance_ok (a : TInstance) (m : Int) : F_spec_l09Instance a m = some (okInst a m) := by
  unfold F_spec_l09Instance okInst
  simp only [spec_l09In_ok, spec_l09Transform_ok]
  cases wB a.fCell 0 (std.sub .i64 m 1) <;> cases okTr a.fPlace <;> cases wB a.fColumns 1 4 <;> cases wB a.fRows 1 4 <;> try rfl
  cases wB a.fStepX (-80) 80 <;> cases wB a.fStepY (-80) 80 <;> try rfl
  cases std.lt 1 a.fColumns <;> cases std.eq a.fStepX 0 <;> cases std.lt 1 a.fRows <;> cases std.eq a.fStepY 0 <;> rfl
theorem impl_validInstance_ok (a : TInstance) (m : Int) : F_impl_validInstance a m = some (okInst a m) := by
  unfold F_impl_validInstance okInst
  simp only [impl_within_ok, impl_IsValidTransform_ok]
  cases wB a.fCell 0 (std.sub .i64 m 1) <;> cases okTr a.fPlace <;> cases wB a.fColumns 1 4 <;> cases wB a.fRows 1 4 <;> try rfl
  cases wB a.fStepX (-80) 80 <;> cases wB a.fStepY (-80) 80 <;> try rfl
  cases std.lt 1 a.fColumns <;> cases std.eq a.fStepX 0 <;> cases std.lt 1 a.fRows <;> cases std.eq a.fStepY 0 <;> rfl
theorem spec_l13Byte_ok (x : Int) : F_spec_l13Byte x = some (ofL (oneB x)) := rfl
theorem spec_l13Two_ok (x : Int) : F_spec_l13Two x = some (ofL (twoR x)) := by
  unfold F_spec_l13Two
  rw [req_of (by rw [s_nneg]; omega)]; rfl
theorem spec_l13Coordinate_ok (x : Int) : F_spec_l13Coordinate x = some (ofL (twoB x)) := by
  unfold F_spec_l13Coordinate
  rw [spec_l13Two_ok]; rfl
noncomputable def shapeB (a : TShape) : List Int := oneB a.fLayer ++ [a.fBox.fX0, a.fBox.fY0, a.fBox.fX1, a.fBox.fY1].flatMap twoB
noncomputable def nameB (s : ByteArray) : List Int := oneB (std.ofN (std.slen s)) ++ strL s
noncomputable def labelB (a : TLabel) : List Int := (oneB a.fLayer ++ [a.fAt.fX, a.fAt.fY].flatMap twoB) ++ nameB a.fName
noncomputable def placeB (a : TInstance) : List Int := (oneB a.fPlace.fOrientation ++ [a.fPlace.fX, a.fPlace.fY].flatMap twoB) ++ (oneB a.fColumns ++ oneB a.fRows) ++ [a.fStepX, a.fStepY].flatMap twoB
noncomputable def instB (a : TInstance) : List Int := oneB a.fCell ++ placeB a
theorem spec_l13ShapeBytes_ok (a : TShape) : F_spec_l13ShapeBytes a = some (ofL (shapeB a)) := by
  unfold F_spec_l13ShapeBytes shapeB
  simp only [spec_l13Byte_ok, spec_l13Coordinate_ok, Option.bind_some, ofL_app, ofL_len]
  repeat rw [req_of (room1 (by simp only [List.length_append, two_len, one_len]; omega))]
  simp
theorem spec_l13Name_ok (s : ByteArray) (h : s.size ≤ 1000) : F_spec_l13Name s = some (ofL (nameB s)) := by
  unfold F_spec_l13Name nameB
  simp only [spec_l13Byte_ok, Option.bind_some, scat_str, ofL_len]
  rw [req_of (room1 (by simp only [one_len]; show 1 + s.size ≤ _; omega))]
theorem spec_l13LabelBytes_ok (a : TLabel) (h : a.fName.size ≤ 1000) : F_spec_l13LabelBytes a = some (ofL (labelB a)) := by
  unfold F_spec_l13LabelBytes labelB
  have hn : (nameB a.fName).length ≤ 1001 := by unfold nameB; rw [List.length_append, one_len, strL_length]; omega
  simp only [spec_l13Byte_ok, spec_l13Coordinate_ok, spec_l13Name_ok _ h, Option.bind_some, ofL_app, ofL_len]
  repeat rw [req_of (room1 (by simp only [List.length_append, two_len, one_len]; omega))]
  simp
theorem spec_l13InstanceBytes_ok (a : TInstance) : F_spec_l13InstanceBytes a = some (ofL (instB a)) := by
  unfold F_spec_l13InstanceBytes instB placeB
  simp only [spec_l13Byte_ok, spec_l13Coordinate_ok, Option.bind_some, ofL_app, ofL_len]
  repeat rw [req_of (room1 (by simp only [List.length_append, two_len, one_len]; omega))]
  simp
theorem impl_two_ok (l : List Int) (x : Int) (h : l.length ≤ 10000000) : F_impl_two_mob l x = some (l ++ twoR x) := by
  unfold F_impl_two_mob
  rw [req_of (by rw [s_nneg]; omega)]
  simp only [letO_eq]
  rw [req_of (room1 (by simp [len_eq]; omega))]; rfl
theorem impl_coordinates_ok (l vs : List Int) (hv : vs.length ≤ 1000) (hl : l.length ≤ 10000) : F_impl_coordinates_mob l vs = some (l ++ vs.flatMap twoB) := by
  unfold F_impl_coordinates_mob
  refine Eq.trans (bind_of (while_from (r := l ++ vs.flatMap twoB) (fun i : Nat => ((i : Int), l ++ (vs.take i).flatMap twoB)) vs.length (by simp) (fun i hi => ?_) ?_)) rfl
  · have h1 := flat_two (vs.take i)
    rw [List.length_take] at h1
    simp only [L_impl_coordinates_mob_x3, letO_eq, s_toNn]
    rw [ltl_t hi, br_t, req_of (inRl hi), impl_two_ok _ _ (by rw [List.length_append]; omega), Option.bind_some, inc_nat (by omega), gd_lt hi, List.take_succ_eq_append_getElem hi, List.flatMap_append, ← List.append_assoc]
    simp [twoB]
  · simp only [L_impl_coordinates_mob_x3, letO_eq]
    rw [ltl_f, br_f, List.take_length]
theorem impl_nameBytes_ok (l : List Int) (s : ByteArray) (h : l.length ≤ 100000) (hs : s.size ≤ 1000) : F_impl_nameBytes_mob l s = some (l ++ nameB s) := by
  unfold F_impl_nameBytes_mob nameB
  simp only [letO_eq]
  rw [req_of (room1 (by simp [len_eq]; omega)), req_of (room1 (by simp [len_eq]; show l.length + 1 + s.size ≤ _; omega))]
  simp [oneB]
theorem impl_placeBytes_ok (l : List Int) (a : TInstance) (h : l.length ≤ 1000) : F_impl_placeBytes_mob l a = some (l ++ placeB a) := by
  unfold F_impl_placeBytes_mob placeB
  simp only [letO_eq]
  rw [req_of (room1 (by simp [len_eq]; omega)), impl_coordinates_ok _ _ (by simp) (by simp; omega)]
  simp only [Option.bind_some]
  rw [req_of (room1 (by simp [len_eq, two_len]; omega)), impl_coordinates_ok _ _ (by simp) (by simp [two_len]; omega)]
  simp [oneB]
theorem nameB_len (s : ByteArray) : (nameB s).length = s.size + 1 := by unfold nameB; rw [List.length_append, one_len, strL_length]; omega
theorem shapeB_len (a : TShape) : (shapeB a).length = 9 := by unfold shapeB; rw [List.length_append, one_len, flat_two]; rfl
theorem labelB_len (a : TLabel) : (labelB a).length = a.fName.size + 6 := by unfold labelB; rw [List.length_append, List.length_append, one_len, flat_two, nameB_len]; simp only [List.length_cons, List.length_nil]; omega
theorem placeB_len (a : TInstance) : (placeB a).length = 11 := by
  unfold placeB
  simp only [List.length_append, one_len, flat_two, List.length_cons, List.length_nil]
theorem instB_len (a : TInstance) : (instB a).length = 12 := by unfold instB; rw [List.length_append, one_len, placeB_len]
-- the sum of a string
theorem spec_Checksum16_ex (s : ByteArray) (h : s.size ≤ 1000000000) : ∃ c, F_spec_Checksum16 s = some c ∧ 0 ≤ c ∧ c < 65521 := by
  obtain ⟨r, h1, h2⟩ := while_ex (step := L_spec_Checksum16_x3 s) (x0 := (1, 0)) (fun x => ∃ i : Nat, x.2 = (i : Int) ∧ i ≤ s.size ∧ 0 ≤ x.1 ∧ x.1 < 65521) (fun r => 0 ≤ r ∧ r < 65521) (fun x => s.size + 1 - x.2.toNat) ⟨0, rfl, by omega, by omega, by omega⟩ (by
    rintro ⟨c, _⟩ ⟨i, rfl, h1, h2, h3⟩
    simp only at h2 h3
    by_cases hi : i < s.size
    · left
      have hs : 0 ≤ std.sat s i ∧ std.sat s i ≤ 255 := by
        show 0 ≤ (((s[i]?.getD 0).toNat : Nat) : Int) ∧ (((s[i]?.getD 0).toNat : Nat) : Int) ≤ 255
        have := (s[i]?.getD 0).toNat_lt
        omega
      have e1 : std.conv .i64 (std.sat s i) = std.sat s i := wrap_id (by omega) (by omega)
      have e2 : std.mul .i64 31 c = 31 * c := mul_id (by omega) (by omega)
      simp only [L_spec_Checksum16_x3, letO_eq, s_toNn, e1, e2]
      rw [lt_true (by rw [s_ofN, s_slen]; omega), br_t, req_of (show std.inR (i : Int) (std.slen s) from inRn hi), req_of (by rw [s_nz]; decide), inc_nat (by omega), add_id (x := 31 * c) (by omega) (by omega), add_id (by omega) (by omega)]
      have e3 : std.rem (31 * c + std.sat s i + 1) 65521 = (31 * c + std.sat s i + 1) % 65521 := Int.tmod_eq_emod_of_nonneg (by omega)
      rw [e3]
      refine ⟨_, rfl, ⟨i + 1, rfl, by omega, ?_, ?_⟩, ?_⟩
      · simp only; omega
      · simp only; omega
      · simp only [Int.toNat_natCast]; omega
    · right
      refine ⟨c, ?_, h2, h3⟩
      simp only [L_spec_Checksum16_x3, letO_eq]
      rw [lt_false (by rw [s_ofN, s_slen]; omega), br_f])
  refine ⟨r, ?_, h2⟩
  unfold F_spec_Checksum16
  rw [bind_of h1]; rfl
noncomputable def ck (s : ByteArray) : Int := (F_spec_Checksum16 s).getD 0
theorem spec_Checksum16_ok (s : ByteArray) (h : s.size ≤ 1000000000) : F_spec_Checksum16 s = some (ck s) := by
  obtain ⟨c, hc, _⟩ := spec_Checksum16_ex s h
  unfold ck; rw [hc]; rfl
theorem impl_Checksum16_ok (s : ByteArray) (h : s.size ≤ 1000000000) : F_impl_Checksum16 s = some (ck s) := spec_Checksum16_ok s h
theorem eq_self' (x : Int) : std.eq x x = true := by simp [std]
theorem eq_zero (x : Int) : std.eq 0 x = std.eq x 0 := by simp only [std]; exact Bool.beq_comm
theorem seq_zero (x : ByteArray) : std.seq (ByteArray.mk #[]) x = std.seq x (ByteArray.mk #[]) := by simp only [std]; exact Bool.beq_comm
theorem band_and (a b : Bool) : std.band a b = (a && b) := rfl
theorem not_not' (a : Bool) : std.not a = !a := rfl
noncomputable def zS (a : TShape) : Bool := std.eq a.fLayer 0 && (std.eq a.fBox.fX0 0 && (std.eq a.fBox.fY0 0 && (std.eq a.fBox.fX1 0 && std.eq a.fBox.fY1 0)))
noncomputable def zL (a : TLabel) : Bool := std.eq a.fLayer 0 && ((std.eq a.fAt.fX 0 && std.eq a.fAt.fY 0) && std.seq a.fName (ByteArray.mk #[]))
noncomputable def zI (a : TInstance) : Bool := std.eq a.fCell 0 && ((std.eq a.fPlace.fOrientation 0 && (std.eq a.fPlace.fX 0 && std.eq a.fPlace.fY 0)) && (std.eq a.fColumns 0 && (std.eq a.fRows 0 && (std.eq a.fStepX 0 && std.eq a.fStepY 0))))
theorem spec_l13NoShape_ok (a : TShape) : F_spec_l13NoShape a = some (zS a) := by
  unfold F_spec_l13NoShape zS
  simp only [band_and, Bool.and_true]
theorem spec_l13NoLabel_ok (a : TLabel) : F_spec_l13NoLabel a = some (zL a) := by
  unfold F_spec_l13NoLabel zL
  simp only [band_and, Bool.and_true]
theorem spec_l13NoInstance_ok (a : TInstance) : F_spec_l13NoInstance a = some (zI a) := by
  unfold F_spec_l13NoInstance zI
  simp only [band_and, Bool.and_true]
/-- is it an edit -/
noncomputable def okEdit (a : TEdit) : Bool :=
  (wB a.fCell 0 8 && wB a.fIndex 0 24) &&
  (if a.fKind = 1 then std.seq a.fName (ByteArray.mk #[]) && okShape a.fShape && zL a.fLabel && zI a.fInstance
   else if a.fKind = 3 then std.seq a.fName (ByteArray.mk #[]) && zS a.fShape && okLabel a.fLabel && zI a.fInstance
   else if a.fKind = 5 then std.seq a.fName (ByteArray.mk #[]) && zS a.fShape && zL a.fLabel && okInst a.fInstance 8
   else if a.fKind = 2 ∨ a.fKind = 4 ∨ a.fKind = 6 then std.seq a.fName (ByteArray.mk #[]) && zS a.fShape && zL a.fLabel && zI a.fInstance
   else if a.fKind = 7 ∨ a.fKind = 8 then std.eq a.fIndex 0 && isName a.fName && zS a.fShape && zL a.fLabel && zI a.fInstance
   else if a.fKind = 9 then std.eq a.fIndex 0 && std.seq a.fName (ByteArray.mk #[]) && zS a.fShape && zL a.fLabel && zI a.fInstance
   else false)
theorem eq_dec (x y : Int) : std.eq x y = decide (x = y) := by
  simp only [std]
  by_cases h : x = y <;> simp [h]
theorem spec_IsValidEdit_ok (a : TEdit) (h1 : a.fName.size ≤ maxLen) (h2 : a.fLabel.fName.size ≤ maxLen) : F_spec_IsValidEdit a = some (okEdit a) := by
  unfold F_spec_IsValidEdit okEdit
  simp only [spec_l09In_ok, spec_IsName_ok _ h1, spec_l09Shape_ok, spec_l13NoShape_ok, spec_l09Label_ok _ h2, spec_l13NoLabel_ok, spec_l09Instance_ok, spec_l13NoInstance_ok, not_not']
  generalize okShape a.fShape = s1
  generalize zS a.fShape = s2
  generalize okLabel a.fLabel = l1
  generalize zL a.fLabel = l2
  generalize okInst a.fInstance 8 = i1
  generalize zI a.fInstance = i2
  generalize isName a.fName = n1
  generalize std.seq a.fName _ = n2
  generalize wB a.fCell 0 8 = c1
  generalize wB a.fIndex 0 24 = c2
  generalize std.eq a.fIndex 0 = c3
  generalize a.fKind = k
  by_cases hk : 1 ≤ k ∧ k ≤ 9
  · have : k = 1 ∨ k = 2 ∨ k = 3 ∨ k = 4 ∨ k = 5 ∨ k = 6 ∨ k = 7 ∨ k = 8 ∨ k = 9 := by omega
    rcases this with rfl | rfl | rfl | rfl | rfl | rfl | rfl | rfl | rfl <;> cases c1 <;> cases c2 <;> try rfl
    all_goals (cases c3 <;> try rfl)
    all_goals (cases n2 <;> try rfl)
    all_goals (cases n1 <;> try rfl)
    all_goals (cases s2 <;> try rfl)
    all_goals (cases s1 <;> try rfl)
    all_goals (cases l2 <;> try rfl)
    all_goals (cases l1 <;> try rfl)
    all_goals (cases i2 <;> try rfl)
    all_goals (cases i1 <;> rfl)
  · have hw : wB k 1 9 = false := by
      simp [wB, std]; omega
    rw [hw]
    have e1 : ¬ k = 1 := by omega
    have e2 : ¬ k = 2 := by omega
    have e3 : ¬ k = 3 := by omega
    have e4 : ¬ k = 4 := by omega
    have e5 : ¬ k = 5 := by omega
    have e6 : ¬ k = 6 := by omega
    have e7 : ¬ k = 7 := by omega
    have e8 : ¬ k = 8 := by omega
    have e9 : ¬ k = 9 := by omega
    simp only [e1, e2, e3, e4, e5, e6, e7, e8, e9, or_self, if_false, Bool.and_false]
    rfl
theorem zS_fold (a : TShape) : (std.eq a.fLayer 0 && (std.eq a.fBox.fX0 0 && (std.eq a.fBox.fY0 0 && (std.eq a.fBox.fX1 0 && std.eq a.fBox.fY1 0)))) = zS a := rfl
theorem zL_fold (a : TLabel) : (std.eq a.fLayer 0 && ((std.eq a.fAt.fX 0 && std.eq a.fAt.fY 0) && std.seq a.fName (ByteArray.mk #[]))) = zL a := rfl
theorem zI_fold (a : TInstance) : (std.eq a.fCell 0 && ((std.eq a.fPlace.fOrientation 0 && (std.eq a.fPlace.fX 0 && std.eq a.fPlace.fY 0)) && (std.eq a.fColumns 0 && (std.eq a.fRows 0 && (std.eq a.fStepX 0 && std.eq a.fStepY 0))))) = zI a := rfl
theorem impl_IsValidEdit_ok (a : TEdit) (h1 : a.fName.size ≤ maxLen) (h2 : a.fLabel.fName.size ≤ maxLen) : F_impl_IsValidEdit a = some (okEdit a) := by
  unfold F_impl_IsValidEdit okEdit
  simp only [impl_within_ok, impl_IsName_ok _ h1, impl_validShape_ok, impl_validLabel_ok _ h2, impl_validInstance_ok, band_and, Bool.and_true, Bool.true_and, eq_self', seq_self, eq_zero, seq_zero, zS_fold, zL_fold, zI_fold]
  generalize okShape a.fShape = s1
  generalize zS a.fShape = s2
  generalize okLabel a.fLabel = l1
  generalize zL a.fLabel = l2
  generalize okInst a.fInstance 8 = i1
  generalize zI a.fInstance = i2
  generalize isName a.fName = n1
  generalize std.seq a.fName _ = n2
  generalize wB a.fCell 0 8 = c1
  generalize wB a.fIndex 0 24 = c2
  generalize std.eq a.fIndex 0 = c3
  generalize a.fKind = k
  by_cases hk : 1 ≤ k ∧ k ≤ 9
  · have : k = 1 ∨ k = 2 ∨ k = 3 ∨ k = 4 ∨ k = 5 ∨ k = 6 ∨ k = 7 ∨ k = 8 ∨ k = 9 := by omega
    rcases this with rfl | rfl | rfl | rfl | rfl | rfl | rfl | rfl | rfl <;> cases c1 <;> cases c2 <;> try rfl
    all_goals (cases c3 <;> try rfl)
    all_goals (cases n2 <;> try rfl)
    all_goals (cases n1 <;> try rfl)
    all_goals (cases s2 <;> try rfl)
    all_goals (cases s1 <;> try rfl)
    all_goals (cases l2 <;> try rfl)
    all_goals (cases l1 <;> try rfl)
    all_goals (cases i2 <;> try rfl)
    all_goals (cases i1 <;> rfl)
  · have e1 : ¬ k = 1 := by omega
    have e2 : ¬ k = 2 := by omega
    have e3 : ¬ k = 3 := by omega
    have e4 : ¬ k = 4 := by omega
    have e5 : ¬ k = 5 := by omega
    have e6 : ¬ k = 6 := by omega
    have e7 : ¬ k = 7 := by omega
    have e8 : ¬ k = 8 := by omega
    have e9 : ¬ k = 9 := by omega
    simp only [eq_dec, e1, e2, e3, e4, e5, e6, e7, e8, e9, or_self, if_false, Bool.and_false, decide_false]
    cases c1 <;> cases c2 <;> rfl
theorem impl_shapeBytes_ok (l : List Int) (a : TShape) (h : l.length ≤ 1000) : F_impl_shapeBytes_mob l a = some (l ++ shapeB a) := by
  unfold F_impl_shapeBytes_mob shapeB
  simp only [letO]
  rw [req_of (room1 (by simp [len]; omega)), impl_coordinates_ok _ _ (by simp) (by simp; omega)]
  simp [oneB]
theorem impl_labelBytes_ok (l : List Int) (a : TLabel) (h : l.length ≤ 1000) (hs : a.fName.size ≤ 1000) : F_impl_labelBytes_mob l a = some (l ++ labelB a) := by
  unfold F_impl_labelBytes_mob labelB
  simp only [letO]
  rw [req_of (room1 (by simp [len]; omega)), impl_coordinates_ok _ _ (by simp) (by simp; omega)]
  simp only [Option.bind_some]
  rw [impl_nameBytes_ok _ _ (by simp [two_len]; omega) hs]
  simp [oneB]
theorem impl_instBytes_ok (l : List Int) (a : TInstance) (h : l.length ≤ 900) : F_impl_placeBytes_mob (l ++ [std.conv .u8 a.fCell]) a = some (l ++ instB a) := by
  rw [impl_placeBytes_ok _ _ (by simp; omega)]
  unfold instB
  simp [oneB]
noncomputable def headB (a : TEdit) : List Int := [std.conv .u8 a.fKind, std.conv .u8 a.fCell, std.conv .u8 a.fIndex]
noncomputable def editB (a : TEdit) : List Int := headB a ++ (if a.fKind = 1 then shapeB a.fShape else if a.fKind = 3 then labelB a.fLabel else if a.fKind = 5 then instB a.fInstance else if a.fKind = 7 ∨ a.fKind = 8 then nameB a.fName else [])
theorem isName_size {s : ByteArray} (h : isName s = true) : s.size ≤ 8 := by
  unfold isName at h
  simp only [Bool.and_eq_true, decide_eq_true_eq] at h
  exact h.2.2
theorem okEdit_name {a : TEdit} (h : okEdit a = true) (hk : a.fKind = 7 ∨ a.fKind = 8) : a.fName.size ≤ 1000 := by
  unfold okEdit at h
  have e1 : ¬ a.fKind = 1 := by omega
  have e2 : ¬ a.fKind = 2 := by omega
  have e3 : ¬ a.fKind = 3 := by omega
  have e4 : ¬ a.fKind = 4 := by omega
  have e5 : ¬ a.fKind = 5 := by omega
  have e6 : ¬ a.fKind = 6 := by omega
  simp only [e1, e2, e3, e4, e5, e6, or_self, if_false, hk, if_true, Bool.and_eq_true] at h
  have := isName_size h.2.1.1.1.2
  omega
theorem okEdit_label {a : TEdit} (h : okEdit a = true) (hk : a.fKind = 3) : a.fLabel.fName.size ≤ 1000 := by
  unfold okEdit at h
  simp only [hk, show ¬ ((3 : Int) = 1) by decide, if_false, if_true, Bool.and_eq_true] at h
  have h2 := h.2.1.2
  unfold okLabel at h2
  simp only [Bool.and_eq_true] at h2
  have := isName_size h2.2.2
  omega
theorem spec_EditBytes_ok (a : TEdit) (h1 : a.fName.size ≤ maxLen) (h2 : a.fLabel.fName.size ≤ maxLen) : F_spec_EditBytes a = some (if okEdit a then ofL (editB a) else ByteArray.mk #[]) := by
  unfold F_spec_EditBytes
  rw [spec_IsValidEdit_ok a h1 h2]
  simp only [Option.bind_some]
  cases hok : okEdit a with
  | false => rfl
  | true =>
    simp only [Bool.not_true, br, if_true, spec_l13Byte_ok, spec_l13ShapeBytes_ok, spec_l13InstanceBytes_ok, Option.bind_some, ofL_app, ofL_len, eq_dec]
    repeat rw [req_of (room1 (by simp only [List.length_append, two_len, one_len]; omega))]
    unfold editB
    have e0 : oneB a.fKind ++ oneB a.fCell ++ oneB a.fIndex = headB a := rfl
    simp only [e0]
    by_cases k1 : a.fKind = 1
    · simp only [k1, decide_true, if_true]
      rw [req_of (room1 (by rw [show (headB a).length = 3 from rfl, shapeB_len]; omega))]
    · simp only [k1, decide_false, if_false]
      by_cases k3 : a.fKind = 3
      · have hn := okEdit_label hok k3
        simp only [k3, decide_true, if_true, spec_l13LabelBytes_ok _ hn, Option.bind_some, ofL_app, ofL_len]
        rw [req_of (room1 (by rw [show (headB a).length = 3 from rfl, labelB_len]; omega))]
      · simp only [k3, decide_false, if_false]
        by_cases k5 : a.fKind = 5
        · simp only [k5, decide_true, if_true]
          rw [req_of (room1 (by rw [show (headB a).length = 3 from rfl, instB_len]; omega))]
        · simp only [k5, decide_false, if_false]
          by_cases k7 : a.fKind = 7 ∨ a.fKind = 8
          · have hn := okEdit_name hok k7
            simp only [spec_l13Name_ok _ hn, Option.bind_some, ofL_app, ofL_len, letO]
            rw [req_of (room1 (by rw [show (headB a).length = 3 from rfl, nameB_len]; omega))]
            rcases k7 with k7 | k7
            · simp [k7]
            · simp [k7]
          · have k7' : ¬ a.fKind = 7 := fun h => k7 (.inl h)
            have k8' : ¬ a.fKind = 8 := fun h => k7 (.inr h)
            simp [k7', k8', letO]
theorem impl_EditBytes_ok (a : TEdit) (h1 : a.fName.size ≤ maxLen) (h2 : a.fLabel.fName.size ≤ maxLen) : F_impl_EditBytes a = some (if okEdit a then ofL (editB a) else ByteArray.mk #[]) := by
  unfold F_impl_EditBytes
  rw [impl_IsValidEdit_ok a h1 h2]
  simp only [Option.bind_some]
  cases hok : okEdit a with
  | false => rfl
  | true =>
    have e0 : [std.conv .u8 a.fKind, std.conv .u8 a.fCell, std.conv .u8 a.fIndex] = headB a := rfl
    have e1 : (headB a).length = 3 := rfl
    simp only [Bool.not_true, br, if_true, letO, e0, eq_dec]
    unfold editB
    by_cases k1 : a.fKind = 1
    · simp only [k1, decide_true, if_true, impl_shapeBytes_ok _ _ (show (headB a).length ≤ 1000 by omega), Option.bind_some]
      rfl
    · simp only [k1, decide_false, if_false]
      by_cases k3 : a.fKind = 3
      · have hn := okEdit_label hok k3
        simp only [k3, decide_true, if_true, impl_labelBytes_ok _ _ (show (headB a).length ≤ 1000 by omega) hn, Option.bind_some]
        rfl
      · simp only [k3, decide_false, if_false]
        by_cases k5 : a.fKind = 5
        · simp only [k5, decide_true, if_true]
          rw [req_of (room1 (by simp [len, e1])), impl_instBytes_ok _ _ (show (headB a).length ≤ 900 by omega)]
          rfl
        · simp only [k5, decide_false, if_false]
          by_cases k7 : a.fKind = 7 ∨ a.fKind = 8
          · have hn := okEdit_name hok k7
            rcases k7 with k7 | k7
            · simp [k7, impl_nameBytes_ok _ _ (show (headB a).length ≤ 100000 by omega) hn, ofL]
            · simp [k7, impl_nameBytes_ok _ _ (show (headB a).length ≤ 100000 by omega) hn, ofL]
          · have k7' : ¬ a.fKind = 7 := fun h => k7 (.inl h)
            have k8' : ¬ a.fKind = 8 := fun h => k7 (.inr h)
            simp [k7', k8']
            rfl
theorem op_2 (d : Nat) : Opens T (d + 1) 2 (clI .i64) (wfI .i64) := op_int .i64 (show T 2 = some d2 from rfl) rfl
theorem op_9 (d : Nat) : Opens T (d + 1) 9 (clS) (wfS) := op_str (show T 9 = some d9 from rfl) rfl
def clRect (e : TRect) : List AC := clI .i64 e.fX0 ++ (clI .i64 e.fY0 ++ (clI .i64 e.fX1 ++ (clI .i64 e.fY1 ++ ([]))))
def wfRect (e : TRect) : Prop := wfI .i64 e.fX0 ∧ wfI .i64 e.fY0 ∧ wfI .i64 e.fX1 ∧ wfI .i64 e.fY1
theorem op_35 (d : Nat) : Opens T (d + 2) 35 (clRect) (wfRect) := by
  intro cs hs
  obtain ⟨a0, b0, rfl, h0, a1, b1, rfl, h1, a2, b2, rfl, h2, a3, b3, rfl, h3, rfl⟩ := hs
  obtain ⟨e0, w0, r0⟩ := op_2 (d + 0) a0 h0
  obtain ⟨e1, w1, r1⟩ := op_2 (d + 0) a1 h1
  obtain ⟨e2, w2, r2⟩ := op_2 (d + 0) a2 h2
  obtain ⟨e3, w3, r3⟩ := op_2 (d + 0) a3 h3
  exact ⟨TRect.mk e0 e1 e2 e3, ⟨w0, w1, w2, w3⟩, rlist_app r0 (rlist_app r1 (rlist_app r2 (rlist_app r3 (trivial))))⟩
def clShape (e : TShape) : List AC := clI .i64 e.fLayer ++ (clRect e.fBox ++ ([]))
def wfShape (e : TShape) : Prop := wfI .i64 e.fLayer ∧ wfRect e.fBox
theorem op_37 (d : Nat) : Opens T (d + 3) 37 (clShape) (wfShape) := by
  intro cs hs
  obtain ⟨a0, b0, rfl, h0, a1, b1, rfl, h1, rfl⟩ := hs
  obtain ⟨e0, w0, r0⟩ := op_2 (d + 1) a0 h0
  obtain ⟨e1, w1, r1⟩ := op_35 (d + 0) a1 h1
  exact ⟨TShape.mk e0 e1, ⟨w0, w1⟩, rlist_app r0 (rlist_app r1 (trivial))⟩
def clPoint (e : TPoint) : List AC := clI .i64 e.fX ++ (clI .i64 e.fY ++ ([]))
def wfPoint (e : TPoint) : Prop := wfI .i64 e.fX ∧ wfI .i64 e.fY
theorem op_39 (d : Nat) : Opens T (d + 2) 39 (clPoint) (wfPoint) := by
  intro cs hs
  obtain ⟨a0, b0, rfl, h0, a1, b1, rfl, h1, rfl⟩ := hs
  obtain ⟨e0, w0, r0⟩ := op_2 (d + 0) a0 h0
  obtain ⟨e1, w1, r1⟩ := op_2 (d + 0) a1 h1
  exact ⟨TPoint.mk e0 e1, ⟨w0, w1⟩, rlist_app r0 (rlist_app r1 (trivial))⟩
def clLabel (e : TLabel) : List AC := clI .i64 e.fLayer ++ (clPoint e.fAt ++ (clS e.fName ++ ([])))
def wfLabel (e : TLabel) : Prop := wfI .i64 e.fLayer ∧ wfPoint e.fAt ∧ wfS e.fName
theorem op_41 (d : Nat) : Opens T (d + 3) 41 (clLabel) (wfLabel) := by
  intro cs hs
  obtain ⟨a0, b0, rfl, h0, a1, b1, rfl, h1, a2, b2, rfl, h2, rfl⟩ := hs
  obtain ⟨e0, w0, r0⟩ := op_2 (d + 1) a0 h0
  obtain ⟨e1, w1, r1⟩ := op_39 (d + 0) a1 h1
  obtain ⟨e2, w2, r2⟩ := op_9 (d + 1) a2 h2
  exact ⟨TLabel.mk e0 e1 e2, ⟨w0, w1, w2⟩, rlist_app r0 (rlist_app r1 (rlist_app r2 (trivial)))⟩
def clTransform (e : TTransform) : List AC := clI .i64 e.fOrientation ++ (clI .i64 e.fX ++ (clI .i64 e.fY ++ ([])))
def wfTransform (e : TTransform) : Prop := wfI .i64 e.fOrientation ∧ wfI .i64 e.fX ∧ wfI .i64 e.fY
theorem op_43 (d : Nat) : Opens T (d + 2) 43 (clTransform) (wfTransform) := by
  intro cs hs
  obtain ⟨a0, b0, rfl, h0, a1, b1, rfl, h1, a2, b2, rfl, h2, rfl⟩ := hs
  obtain ⟨e0, w0, r0⟩ := op_2 (d + 0) a0 h0
  obtain ⟨e1, w1, r1⟩ := op_2 (d + 0) a1 h1
  obtain ⟨e2, w2, r2⟩ := op_2 (d + 0) a2 h2
  exact ⟨TTransform.mk e0 e1 e2, ⟨w0, w1, w2⟩, rlist_app r0 (rlist_app r1 (rlist_app r2 (trivial)))⟩
def clInstance (e : TInstance) : List AC := clI .i64 e.fCell ++ (clTransform e.fPlace ++ (clI .i64 e.fColumns ++ (clI .i64 e.fRows ++ (clI .i64 e.fStepX ++ (clI .i64 e.fStepY ++ ([]))))))
def wfInstance (e : TInstance) : Prop := wfI .i64 e.fCell ∧ wfTransform e.fPlace ∧ wfI .i64 e.fColumns ∧ wfI .i64 e.fRows ∧ wfI .i64 e.fStepX ∧ wfI .i64 e.fStepY
theorem op_45 (d : Nat) : Opens T (d + 3) 45 (clInstance) (wfInstance) := by
  intro cs hs
  obtain ⟨a0, b0, rfl, h0, a1, b1, rfl, h1, a2, b2, rfl, h2, a3, b3, rfl, h3, a4, b4, rfl, h4, a5, b5, rfl, h5, rfl⟩ := hs
  obtain ⟨e0, w0, r0⟩ := op_2 (d + 1) a0 h0
  obtain ⟨e1, w1, r1⟩ := op_43 (d + 0) a1 h1
  obtain ⟨e2, w2, r2⟩ := op_2 (d + 1) a2 h2
  obtain ⟨e3, w3, r3⟩ := op_2 (d + 1) a3 h3
  obtain ⟨e4, w4, r4⟩ := op_2 (d + 1) a4 h4
  obtain ⟨e5, w5, r5⟩ := op_2 (d + 1) a5 h5
  exact ⟨TInstance.mk e0 e1 e2 e3 e4 e5, ⟨w0, w1, w2, w3, w4, w5⟩, rlist_app r0 (rlist_app r1 (rlist_app r2 (rlist_app r3 (rlist_app r4 (rlist_app r5 (trivial))))))⟩
def clEdit (e : TEdit) : List AC := clI .i64 e.fKind ++ (clI .i64 e.fCell ++ (clI .i64 e.fIndex ++ (clS e.fName ++ (clShape e.fShape ++ (clLabel e.fLabel ++ (clInstance e.fInstance ++ ([])))))))
def wfEdit (e : TEdit) : Prop := wfI .i64 e.fKind ∧ wfI .i64 e.fCell ∧ wfI .i64 e.fIndex ∧ wfS e.fName ∧ wfShape e.fShape ∧ wfLabel e.fLabel ∧ wfInstance e.fInstance
theorem op_47 (d : Nat) : Opens T (d + 4) 47 (clEdit) (wfEdit) := by
  intro cs hs
  obtain ⟨a0, b0, rfl, h0, a1, b1, rfl, h1, a2, b2, rfl, h2, a3, b3, rfl, h3, a4, b4, rfl, h4, a5, b5, rfl, h5, a6, b6, rfl, h6, rfl⟩ := hs
  obtain ⟨e0, w0, r0⟩ := op_2 (d + 2) a0 h0
  obtain ⟨e1, w1, r1⟩ := op_2 (d + 2) a1 h1
  obtain ⟨e2, w2, r2⟩ := op_2 (d + 2) a2 h2
  obtain ⟨e3, w3, r3⟩ := op_9 (d + 2) a3 h3
  obtain ⟨e4, w4, r4⟩ := op_37 (d + 0) a4 h4
  obtain ⟨e5, w5, r5⟩ := op_41 (d + 0) a5 h5
  obtain ⟨e6, w6, r6⟩ := op_45 (d + 0) a6 h6
  exact ⟨TEdit.mk e0 e1 e2 e3 e4 e5 e6, ⟨w0, w1, w2, w3, w4, w5, w6⟩, rlist_app r0 (rlist_app r1 (rlist_app r2 (rlist_app r3 (rlist_app r4 (rlist_app r5 (rlist_app r6 (trivial)))))))⟩
theorem op_63 (d : Nat) : Opens T (d + 5) 63 (clL 21 (encEdit)) (wfL wfEdit) := op_slice (e := 47) (sz := 21) (show T 63 = some d63 from rfl) rfl (show T 47 = some d47 from rfl) rfl (fun x j hj => by match j, hj with | 0, _ => rfl | 1, _ => rfl | 2, _ => rfl | 3, _ => rfl | 4, _ => rfl | 5, _ => rfl | 6, _ => rfl | 7, _ => rfl | 8, _ => rfl | 9, _ => rfl | 10, _ => rfl | 11, _ => rfl | 12, _ => rfl | 13, _ => rfl | 14, _ => rfl | 15, _ => rfl | 16, _ => rfl | 17, _ => rfl | 18, _ => rfl | 19, _ => rfl | 20, _ => rfl | (j_ + 21), h_ => exact absurd h_ (by omega)) (op_47 d)
theorem open_63 {H : Type} {enc : TypeId × Value → H} {W : World} {spare : Nat → Bool} {held : Bool} {r : Reach} {base : Nat} {v : Value} {x : DataW H} {ps : List MemPlace}
    (hv : Value.okWide Try.prog W r base 63 v) (h : DataW.Trod enc Try.prog W 0 spare held 63 v x ps) : ∃ e : List TEdit, (wfL wfEdit) e ∧ RelV (RelI (fun b => b < W.heap.size) W) (.c (.bs (len e) 21 (row gd (encEdit) e))) v := by
  refine opened_one tok (op_63 0) (fun _ => rfl) (by kernel_rfl) ?_ h
  have ht : Try.prog.underlying 63 = some (.slice 47) := (tok 63 d63 rfl).1
  unfold Value.okWide at hv
  rw [ht] at hv
  cases v <;> first | rfl | exact False.elim hv
end Go.Proofs.Ytnmfighfidaglaa.AM
