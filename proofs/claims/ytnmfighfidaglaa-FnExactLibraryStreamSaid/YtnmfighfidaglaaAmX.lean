/-
  What the functions that the law reaches compute, and that they do. No condition.
-/
import Derived.Test.YtnmfighfidaglaaAmW
import Derived.Test.YtnmfighfidaglaaAmP
import Derived.Test.YtnmfighfidaglaaAmE
namespace Go.Proofs.Ytnmfighfidaglaa.AM
open Go Go.Proofs Go.RowKit
set_option linter.unusedVariables false
set_option linter.unusedSimpArgs false
set_option maxRecDepth 100000

noncomputable def wB (a b c : Int) : Bool := std.le b a && std.le a c
theorem spec_l09In_ok (a b c : Int) : F_spec_l09In a b c = some (wB a b c) := by
  unfold F_spec_l09In wB
  cases std.le b a <;> rfl
theorem impl_within_ok (a b c : Int) : F_impl_within a b c = some (wB a b c) := by
  unfold F_impl_within wB
  cases std.le b a <;> rfl
noncomputable def okRect (a : TRect) : Bool := std.le (-40) a.fX0 && (std.lt a.fX0 a.fX1 && (std.le a.fX1 40 && (std.le (-40) a.fY0 && (std.lt a.fY0 a.fY1 && std.le a.fY1 40))))
theorem spec_l09Rect_ok (a : TRect) : F_spec_l09Rect a = some (okRect a) := by
  unfold F_spec_l09Rect okRect
  cases std.le (-40) a.fX0 <;> cases std.lt a.fX0 a.fX1 <;> cases std.le a.fX1 40 <;> cases std.le (-40) a.fY0 <;> cases std.lt a.fY0 a.fY1 <;> rfl
theorem impl_IsValidRect_ok (a : TRect) : F_impl_IsValidRect a = some (okRect a) := by
  unfold F_impl_IsValidRect okRect
  cases std.le (-40) a.fX0 <;> cases std.lt a.fX0 a.fX1 <;> cases std.le a.fX1 40 <;> cases std.le (-40) a.fY0 <;> cases std.lt a.fY0 a.fY1 <;> rfl
theorem spec_l09Layer_ok (a : Int) : F_spec_l09Layer a = some (wB a 0 7) := by
  unfold F_spec_l09Layer
  rw [spec_l09In_ok]; rfl
noncomputable def okShape (a : TShape) : Bool := wB a.fLayer 0 7 && okRect a.fBox
theorem spec_l09Shape_ok (a : TShape) : F_spec_l09Shape a = some (okShape a) := by
  unfold F_spec_l09Shape okShape
  rw [spec_l09Layer_ok, spec_l09Rect_ok]
  cases wB a.fLayer 0 7 <;> rfl
theorem impl_validShape_ok (a : TShape) : F_impl_validShape a = some (okShape a) := by
  unfold F_impl_validShape okShape
  rw [impl_within_ok, impl_IsValidRect_ok]
  cases wB a.fLayer 0 7 <;> rfl
noncomputable def okPoint (a : TPoint) : Bool := wB a.fX (-40) 39 && wB a.fY (-40) 39
theorem spec_l09Unit_ok (a : TPoint) : F_spec_l09Unit a = some (okPoint a) := by
  unfold F_spec_l09Unit okPoint
  rw [spec_l09In_ok, spec_l09In_ok]
  cases wB a.fX (-40) 39 <;> rfl
theorem impl_isUnitCell_ok (a : TPoint) : F_impl_isUnitCell a = some (okPoint a) := by
  unfold F_impl_isUnitCell okPoint
  rw [impl_within_ok, impl_within_ok]
  cases wB a.fX (-40) 39 <;> rfl
noncomputable def okName (s : ByteArray) (i : Nat) : Bool :=
  (std.le 97 (std.sat s i) && std.le (std.sat s i) 122) || (std.le 48 (std.sat s i) && std.le (std.sat s i) 57)
noncomputable def isName (s : ByteArray) : Bool := (List.range s.size).all (okName s) && (decide (1 ≤ s.size) && decide (s.size ≤ 8))
theorem lt_le (a b : Int) : std.lt a b = !std.le b a := by
  rw [s_lt, s_le]
  by_cases h : a < b
  · have : ¬ b ≤ a := by omega
    simp [h]
  · have : b ≤ a := by omega
    simp [h, this]
theorem nameEnd (s : ByteArray) (b : Bool) : ((match (if b then .inr () else .inl () : Unit ⊕ Unit) with
    | .inl _ => some false
    | .inr _ => ((br (std.le 1 (std.ofN (std.slen s))) (some (std.le (std.ofN (std.slen s)) 8)) (some false)) : Option Bool).bind fun y33 => letO y33 fun w39 => some w39) : Option Bool) = some (b && (decide (1 ≤ s.size) && decide (s.size ≤ 8))) := by
  cases b with
  | false => rfl
  | true =>
    have e1 : std.le 1 (std.ofN (std.slen s)) = decide (1 ≤ s.size) := by rw [s_le, s_ofN, s_slen]; congr 1; simp; omega
    have e2 : std.le (std.ofN (std.slen s)) 8 = decide (s.size ≤ 8) := by rw [s_le, s_ofN, s_slen]; congr 1; simp; omega
    simp only [if_true, e1, e2, br_bool, letO_eq, Bool.true_and]
    cases decide (1 ≤ s.size) <;> rfl
theorem spec_IsName_ok (s : ByteArray) (hs : s.size ≤ maxLen) : F_spec_IsName s = some (isName s) := by
  have hb := maxLen_eq
  unfold F_spec_IsName
  refine Eq.trans (bind_of (scan (ok := okName s) (n := s.size) (yes := .inr ()) (no := .inl ()) (fun i hi => ?_) ?_)) (nameEnd s _)
  · simp only [L_spec_IsName_x2, letO_eq, s_toNn, req_of (show std.inR (i : Int) (std.slen s) from inRn hi), okName]
    rw [lt_true (by rw [s_ofN, s_slen]; omega), br_t, inc_nat (by omega)]
    generalize std.sat s i = c
    cases std.le 97 c <;> cases std.le c 122 <;> cases std.le 48 c <;> cases std.le c 57 <;> rfl
  · simp only [L_spec_IsName_x2, letO_eq]
    rw [lt_false (by rw [s_ofN, s_slen]; omega)]; rfl
theorem impl_IsName_ok (s : ByteArray) (hs : s.size ≤ maxLen) : F_impl_IsName s = some (isName s) := by
  have hb := maxLen_eq
  unfold F_impl_IsName
  refine Eq.trans (bind_of (scan (ok := okName s) (n := s.size) (yes := .inr ()) (no := .inl ()) (fun i hi => ?_) ?_)) (nameEnd s _)
  · simp only [L_impl_IsName_x2, letO_eq, s_toNn, req_of (show std.inR (i : Int) (std.slen s) from inRn hi), okName]
    rw [lt_true (by rw [s_ofN, s_slen]; omega), br_t, inc_nat (by omega)]
    generalize std.sat s i = c
    rw [lt_le c 97, lt_le c 48, lt_le 122 c, lt_le 57 c]
    cases std.le 97 c <;> cases std.le c 122 <;> cases std.le 48 c <;> cases std.le c 57 <;> rfl
  · simp only [L_impl_IsName_x2, letO_eq]
    rw [lt_false (by rw [s_ofN, s_slen]; omega)]; rfl
noncomputable def okLabel (a : TLabel) : Bool := wB a.fLayer 0 7 && (okPoint a.fAt && isName a.fName)
theorem spec_l09Label_ok (a : TLabel) (h : a.fName.size ≤ maxLen) : F_spec_l09Label a = some (okLabel a) := by
  unfold F_spec_l09Label okLabel
  rw [spec_l09Layer_ok, spec_l09Unit_ok, spec_IsName_ok _ h]
  cases wB a.fLayer 0 7 <;> cases okPoint a.fAt <;> rfl
theorem impl_validLabel_ok (a : TLabel) (h : a.fName.size ≤ maxLen) : F_impl_validLabel a = some (okLabel a) := by
  unfold F_impl_validLabel okLabel
  rw [impl_within_ok, impl_isUnitCell_ok, impl_IsName_ok _ h]
  cases wB a.fLayer 0 7 <;> cases okPoint a.fAt <;> rfl
noncomputable def okTr (a : TTransform) : Bool := wB a.fOrientation 0 7 && (wB a.fX (-80) 80 && wB a.fY (-80) 80)
theorem spec_l09Transform_ok (a : TTransform) : F_spec_l09Transform a = some (okTr a) := by
  unfold F_spec_l09Transform okTr
  simp only [spec_l09In_ok]
  cases wB a.fOrientation 0 7 <;> cases wB a.fX (-80) 80 <;> rfl
theorem impl_IsValidTransform_ok (a : TTransform) : F_impl_IsValidTransform a = some (okTr a) := by
  unfold F_impl_IsValidTransform okTr
  simp only [impl_within_ok]
  cases wB a.fOrientation 0 7 <;> cases wB a.fX (-80) 80 <;> rfl
noncomputable def okInst (a : TInstance) (m : Int) : Bool := wB a.fCell 0 (std.sub .i64 m 1) && (okTr a.fPlace && (wB a.fColumns 1 4 && (wB a.fRows 1 4 && (wB a.fStepX (-80) 80 && (wB a.fStepY (-80) 80 && ((std.lt 1 a.fColumns || std.eq a.fStepX 0) && (std.lt 1 a.fRows || std.eq a.fStepY 0)))))))
theorem spec_l09Instance_ok (a : TInstance) (m : Int) : F_spec_l09Instance a m = some (okInst a m) := by
  unfold F_spec_l09Instance okInst
  simp only [spec_l09In_ok, spec_l09Transform_ok]
  cases wB a.fCell 0 (std.sub .i64 m 1) <;> cases okTr a.fPlace <;> cases wB a.fColumns 1 4 <;> cases wB a.fRows 1 4 <;> try rfl
  cases wB a.fStepX (-80) 80 <;> cases wB a.fStepY (-80) 80 <;> try rfl
  cases std.lt 1 a.fColumns <;> cases std.eq a.fStepX 0 <;> cases std.lt 1 a.fRows <;> cases std.eq a.fStepY 0 <;> rfl
theorem impl_validInstance_ok (a : TInstance) (m : Int) : F_impl_validInstance a m = some (okInst a m) := by
  unfold F_impl_validInstance okInst
  simp only [impl_within_ok, impl_IsValidTransform_ok]
  cases wB a.fCell 0 (std.sub .i64 m 1) <;> cases okTr a.fPlace <;> cases wB a.fColumns 1 4 <;> cases wB a.fRows 1 4 <;> try rfl
  cases wB a.fStepX (-80) 80 <;> cases wB a.fStepY (-80) 80 <;> try rfl
  cases std.lt 1 a.fColumns <;> cases std.eq a.fStepX 0 <;> cases std.lt 1 a.fRows <;> cases std.eq a.fStepY 0 <;> rfl
theorem laws_toShape_ok (a : TShape) : F_laws_toShape a = some a := rfl
theorem laws_toShapeS_ok (a : List TShape) (h : a.length ≤ 10000000) : F_laws_toShapeS a = some a := by
  unfold F_laws_toShapeS
  rw [req_of (nneg_len _), req_of (room_le (by rw [len_eq]; omega) (by decide))]
  simp only [letO_eq, s_ofN, s_toNn, len_eq]
  rw [bind_of (while_copy (st := L_laws_toShapeS_x7 a _) a (List.replicate a.length _) (by simp) (fun i hi v hv => ?_) (fun v => ?_)), req_of (by simp)]
  · simp only [L_laws_toShapeS_x7, letO_eq, s_toNn, s_nadd, Nat.zero_add]
    rw [ltl_t hi, br_t, req_of (inRl hi), laws_toShape_ok, Option.bind_some, req_of (inRl (by simpa using hi)), req_of (by simp [len_eq, hv]), inc_nat (by omega)]
  · simp only [L_laws_toShapeS_x7, letO_eq]
    rw [ltl_f, br_f]
theorem laws_toLabel_ok (a : TLabel) : F_laws_toLabel a = some a := rfl
theorem laws_toLabelS_ok (a : List TLabel) (h : a.length ≤ 10000000) : F_laws_toLabelS a = some a := by
  unfold F_laws_toLabelS
  rw [req_of (nneg_len _), req_of (room_le (by rw [len_eq]; omega) (by decide))]
  simp only [letO_eq, s_ofN, s_toNn, len_eq]
  rw [bind_of (while_copy (st := L_laws_toLabelS_x7 a _) a (List.replicate a.length _) (by simp) (fun i hi v hv => ?_) (fun v => ?_)), req_of (by simp)]
  · simp only [L_laws_toLabelS_x7, letO_eq, s_toNn, s_nadd, Nat.zero_add]
    rw [ltl_t hi, br_t, req_of (inRl hi), laws_toLabel_ok, Option.bind_some, req_of (inRl (by simpa using hi)), req_of (by simp [len_eq, hv]), inc_nat (by omega)]
  · simp only [L_laws_toLabelS_x7, letO_eq]
    rw [ltl_f, br_f]
theorem laws_toInstance_ok (a : TInstance) : F_laws_toInstance a = some a := rfl
theorem laws_toInstanceS_ok (a : List TInstance) (h : a.length ≤ 10000000) : F_laws_toInstanceS a = some a := by
  unfold F_laws_toInstanceS
  rw [req_of (nneg_len _), req_of (room_le (by rw [len_eq]; omega) (by decide))]
  simp only [letO_eq, s_ofN, s_toNn, len_eq]
  rw [bind_of (while_copy (st := L_laws_toInstanceS_x7 a _) a (List.replicate a.length _) (by simp) (fun i hi v hv => ?_) (fun v => ?_)), req_of (by simp)]
  · simp only [L_laws_toInstanceS_x7, letO_eq, s_toNn, s_nadd, Nat.zero_add]
    rw [ltl_t hi, br_t, req_of (inRl hi), laws_toInstance_ok, Option.bind_some, req_of (inRl (by simpa using hi)), req_of (by simp [len_eq, hv]), inc_nat (by omega)]
  · simp only [L_laws_toInstanceS_x7, letO_eq]
    rw [ltl_f, br_f]
/-- nothing is great -/
structure SmallC (c : TCell) : Prop where
  name : c.fName.size ≤ 1048576
  shapes : c.fShapes.length ≤ 1048576
  labels : c.fLabels.length ≤ 1048576
  insts : c.fInstances.length ≤ 1048576
  lnames : ∀ l ∈ c.fLabels, l.fName.size ≤ 1048576
structure SmallL (a : TLibrary) : Prop where
  cells : a.fCells.length ≤ 1048576
  cell : ∀ c ∈ a.fCells, SmallC c
theorem laws_toCell_ok (c : TCell) (h : SmallC c) : F_laws_toCell c = some c := by
  unfold F_laws_toCell
  rw [laws_toShapeS_ok _ (by have := h.shapes; omega), laws_toLabelS_ok _ (by have := h.labels; omega), laws_toInstanceS_ok _ (by have := h.insts; omega)]
  rfl
theorem laws_toCellS_ok (a : List TCell) (h : a.length ≤ 1048576) (hc : ∀ c ∈ a, SmallC c) : F_laws_toCellS a = some a := by
  unfold F_laws_toCellS
  rw [req_of (nneg_len _), req_of (room_le (by rw [len_eq]; omega) (by decide))]
  simp only [letO_eq, s_ofN, s_toNn, len_eq, Option.bind_some]
  rw [bind_of (while_copy (st := L_laws_toCellS_x14 a _) a (List.replicate a.length _) (by simp) (fun i hi v hv => ?_) (fun v => ?_)), req_of (by simp)]
  · simp only [L_laws_toCellS_x14, letO_eq, s_toNn, s_nadd, Nat.zero_add]
    rw [ltl_t hi, br_t, req_of (inRl hi), laws_toCell_ok _ (hc _ (gd_mem hi)), Option.bind_some, req_of (inRl (by simpa using hi)), req_of (by simp [len_eq, hv]), inc_nat (by omega)]
    rfl
  · simp only [L_laws_toCellS_x14, letO_eq]
    rw [ltl_f, br_f]
theorem laws_toLibrary_ok (a : TLibrary) (h : SmallL a) : F_laws_toLibrary a = some a := by
  unfold F_laws_toLibrary
  rw [laws_toCellS_ok _ h.cells h.cell]; rfl
-- the sizes
theorem subl_ok {n : Nat} {x : Int} (h : n ≤ maxLen) (hx : 0 ≤ x ∧ x ≤ 1048576) : std.sub .i64 x (std.ofN n) = x - n := by
  have := maxLen_eq
  rw [s_ofN, sub_id (by omega) (by omega)]
theorem laws_szShapeS_ok (a : List TShape) (x : Int) (ha : a.length ≤ maxLen) (hx : 0 ≤ x ∧ x ≤ 1048576) : ∃ y, F_laws_szShapeS a x = some y ∧ (0 ≤ y → y ≤ x ∧ a.length ≤ 1048576) := by
  unfold F_laws_szShapeS
  rw [len_eq, subl_ok ha hx, br_bool, s_lt]
  by_cases h : x - (a.length : Int) < 0
  · exact ⟨-1, by simp [h], fun h => by omega⟩
  · exact ⟨x - a.length, by simp [h], fun _ => ⟨by omega, by omega⟩⟩
theorem laws_szInstanceS_ok (a : List TInstance) (x : Int) (ha : a.length ≤ maxLen) (hx : 0 ≤ x ∧ x ≤ 1048576) : ∃ y, F_laws_szInstanceS a x = some y ∧ (0 ≤ y → y ≤ x ∧ a.length ≤ 1048576) := by
  unfold F_laws_szInstanceS
  rw [len_eq, subl_ok ha hx, br_bool, s_lt]
  by_cases h : x - (a.length : Int) < 0
  · exact ⟨-1, by simp [h], fun h => by omega⟩
  · exact ⟨x - a.length, by simp [h], fun _ => ⟨by omega, by omega⟩⟩
theorem laws_szLabel_ok (a : TLabel) (x : Int) (ha : a.fName.size ≤ maxLen) (hx : 0 ≤ x ∧ x ≤ 1048576) : ∃ y, F_laws_szLabel a x = some y ∧ (0 ≤ y → y ≤ x ∧ a.fName.size ≤ 1048576) := by
  unfold F_laws_szLabel
  rw [s_slen, subl_ok ha hx, br_bool, s_lt]
  by_cases h : x - (a.fName.size : Int) < 0
  · exact ⟨-1, by simp [h], fun h => by omega⟩
  · exact ⟨x - a.fName.size, by simp [h], fun _ => ⟨by omega, by omega⟩⟩
/-- a loop that takes from what is left -/
theorem while_sz {α : Type} [Inhabited α] {st : Int × Int → Option ((Int × Int) ⊕ (Int ⊕ Int))} (l : List α) (ok : α → Prop) (x : Int) (hx : 0 ≤ x ∧ x ≤ 1048576)
    (h : ∀ i, i < l.length → ∀ y : Int, 0 ≤ y ∧ y ≤ 1048576 → ∃ z : Int, (z < 0 ∧ st (y, (i : Int)) = some (.inr (.inl (-1)))) ∨ (0 ≤ z ∧ z ≤ y ∧ ok (gd l i) ∧ st (y, (i : Int)) = some (.inl (z, ((i + 1 : Nat) : Int)))))
    (he : ∀ y, st (y, (l.length : Int)) = some (.inr (.inr y))) : ∃ r, whileP st (x, 0) = some r ∧ (r = .inl (-1) ∨ ∃ z, r = .inr z ∧ 0 ≤ z ∧ z ≤ x ∧ ∀ e ∈ l, ok e) := by
  refine while_ex (fun s => ∃ (i : Nat) (y : Int), s = (y, (i : Int)) ∧ i ≤ l.length ∧ 0 ≤ y ∧ y ≤ x ∧ ∀ j, j < i → ok (gd l j)) _ (fun s => l.length + 1 - s.2.toNat) ⟨0, x, rfl, by omega, by omega, by omega, fun j hj => by omega⟩ ?_
  rintro _ ⟨i, y, rfl, h1, h2, h3, h4⟩
  by_cases hi : i < l.length
  · obtain ⟨z, ⟨_, hz⟩ | ⟨g1, g2, g3, hz⟩⟩ := h i hi y ⟨h2, by omega⟩
    · exact .inr ⟨_, hz, .inl rfl⟩
    · exact .inl ⟨_, hz, ⟨i + 1, z, rfl, by omega, g1, by omega, fun j hj => by
        rcases Nat.lt_or_ge j i with hj' | hj'
        · exact h4 j hj'
        · rw [show j = i by omega]; exact g3⟩, by simp only [Int.toNat_natCast]; omega⟩
  · have hil : i = l.length := by omega
    subst hil
    refine .inr ⟨_, he y, .inr ⟨y, rfl, h2, h3, fun e hm => ?_⟩⟩
    obtain ⟨j, hj, rfl⟩ := List.getElem_of_mem hm
    rw [← gd_lt hj]; exact h4 j hj
theorem laws_szLabelS_ok (a : List TLabel) (x : Int) (ha : a.length ≤ maxLen) (hn : ∀ l ∈ a, l.fName.size ≤ maxLen) (hx : 0 ≤ x ∧ x ≤ 1048576) : ∃ y, F_laws_szLabelS a x = some y ∧ (0 ≤ y → y ≤ x ∧ a.length ≤ 1048576 ∧ ∀ l ∈ a, l.fName.size ≤ 1048576) := by
  have hb := maxLen_eq
  unfold F_laws_szLabelS
  rw [len_eq, subl_ok ha hx, br_bool, s_lt]
  by_cases h : x - (a.length : Int) < 0
  · exact ⟨-1, by simp [h], fun h => by omega⟩
  · rw [if_neg (by simpa using h)]
    obtain ⟨r, h1, h2⟩ := while_sz (st := L_laws_szLabelS_x3 a) a (fun l => l.fName.size ≤ 1048576) (x - a.length) ⟨by omega, by omega⟩ (fun i hi y hy => by
      obtain ⟨z, hz, hz2⟩ := laws_szLabel_ok (gd a i) y (hn _ (gd_mem hi)) hy
      refine ⟨z, ?_⟩
      simp only [L_laws_szLabelS_x3, letO_eq, s_toNn]
      rw [ltl_t hi, br_t, req_of (inRl hi), hz, Option.bind_some, br_bool, s_lt, inc_nat (by omega)]
      by_cases h0 : z < 0
      · exact .inl ⟨h0, by simp [h0]⟩
      · exact .inr ⟨by omega, (hz2 (by omega)).1, (hz2 (by omega)).2, by simp [h0]⟩) (fun y => by
      simp only [L_laws_szLabelS_x3, letO_eq]
      rw [ltl_f, br_f])
    rw [h1, Option.bind_some]
    rcases h2 with rfl | ⟨z, rfl, h3, h4, h5⟩
    · exact ⟨-1, rfl, fun h => by omega⟩
    · exact ⟨z, rfl, fun _ => ⟨by omega, by omega, h5⟩⟩
def wfC (c : TCell) : Prop := c.fName.size ≤ maxLen ∧ c.fShapes.length ≤ maxLen ∧ c.fLabels.length ≤ maxLen ∧ c.fInstances.length ≤ maxLen ∧ ∀ l ∈ c.fLabels, l.fName.size ≤ maxLen
theorem laws_szCell_ok (c : TCell) (x : Int) (hc : wfC c) (hx : 0 ≤ x ∧ x ≤ 1048576) : ∃ y, F_laws_szCell c x = some y ∧ (0 ≤ y → y ≤ x ∧ SmallC c) := by
  obtain ⟨h1, h2, h3, h4, h5⟩ := hc
  unfold F_laws_szCell
  rw [s_slen, subl_ok h1 hx, br_bool, s_lt]
  by_cases h : x - (c.fName.size : Int) < 0
  · exact ⟨-1, by simp [h], fun h => by omega⟩
  · rw [if_neg (by simpa using h)]
    obtain ⟨y1, e1, f1⟩ := laws_szShapeS_ok c.fShapes (x - c.fName.size) h2 ⟨by omega, by omega⟩
    rw [e1, Option.bind_some, br_bool, s_lt]
    by_cases g1 : y1 < 0
    · exact ⟨-1, by simp [g1], fun h => by omega⟩
    · have f1 := f1 (by omega)
      rw [if_neg (by simpa using g1)]
      obtain ⟨y2, e2, f2⟩ := laws_szLabelS_ok c.fLabels y1 h3 h5 ⟨by omega, by omega⟩
      rw [e2, Option.bind_some, br_bool, s_lt]
      by_cases g2 : y2 < 0
      · exact ⟨-1, by simp [g2], fun h => by omega⟩
      · have f2 := f2 (by omega)
        rw [if_neg (by simpa using g2)]
        obtain ⟨y3, e3, f3⟩ := laws_szInstanceS_ok c.fInstances y2 h4 ⟨by omega, by omega⟩
        rw [e3, Option.bind_some, br_bool, s_lt]
        by_cases g3 : y3 < 0
        · exact ⟨-1, by simp [g3], fun h => by omega⟩
        · have f3 := f3 (by omega)
          exact ⟨y3, by simp [g3], fun _ => ⟨by omega, ⟨by omega, f1.2, f2.2.1, f3.2, f2.2.2⟩⟩⟩
def wfLb (a : TLibrary) : Prop := a.fCells.length ≤ maxLen ∧ ∀ c ∈ a.fCells, wfC c
/-- the size of a library: it fits, or the law says nothing -/
theorem laws_szLibrary_ok (a : TLibrary) (ha : wfLb a) : ∃ y, F_laws_szLibrary a 1048576 = some y ∧ (0 ≤ y → SmallL a) := by
  have hb := maxLen_eq
  unfold F_laws_szLibrary F_laws_szCellS
  rw [len_eq, subl_ok ha.1 ⟨by decide, by decide⟩, br_bool, s_lt]
  by_cases h : (1048576 : Int) - (a.fCells.length : Int) < 0
  · exact ⟨-1, by simp [h, br_bool, s_lt], fun h => by omega⟩
  · rw [if_neg (by simpa using h)]
    obtain ⟨r, h1, h2⟩ := while_sz (st := L_laws_szCellS_x3 a.fCells) a.fCells SmallC (1048576 - a.fCells.length) ⟨by omega, by omega⟩ (fun i hi y hy => by
      obtain ⟨z, hz, hz2⟩ := laws_szCell_ok (gd a.fCells i) y (ha.2 _ (gd_mem hi)) hy
      refine ⟨z, ?_⟩
      simp only [L_laws_szCellS_x3, letO_eq, s_toNn]
      have := ha.1
      rw [ltl_t hi, br_t, req_of (inRl hi), hz, Option.bind_some, br_bool, s_lt, inc_nat (by omega)]
      by_cases h0 : z < 0
      · exact .inl ⟨h0, by simp [h0]⟩
      · exact .inr ⟨by omega, (hz2 (by omega)).1, (hz2 (by omega)).2, by simp [h0]⟩) (fun y => by
      simp only [L_laws_szCellS_x3, letO_eq]
      rw [ltl_f, br_f])
    rw [h1, Option.bind_some]
    rcases h2 with rfl | ⟨z, rfl, h3, h4, h5⟩
    · exact ⟨-1, rfl, fun h => by omega⟩
    · refine ⟨z, ?_, fun _ => ⟨by omega, h5⟩⟩
      simp only [letO_eq, Option.bind_some]
      rw [lt_false (by omega), br_f]
-- nothing differs
theorem laws_eqRect_ok (a : TRect) : F_laws_eqRect a a = some true := by unfold F_laws_eqRect; simp [eq_true', s_not, br]
theorem laws_eqShape_ok (a : TShape) : F_laws_eqShape a a = some true := by unfold F_laws_eqShape; simp [eq_true', s_not, br, laws_eqRect_ok]
theorem laws_eqPoint_ok (a : TPoint) : F_laws_eqPoint a a = some true := by unfold F_laws_eqPoint; simp [eq_true', s_not, br]
theorem laws_eqLabel_ok (a : TLabel) : F_laws_eqLabel a a = some true := by unfold F_laws_eqLabel; simp [eq_true', s_not, br, laws_eqPoint_ok, seq_self]
theorem laws_eqTransform_ok (a : TTransform) : F_laws_eqTransform a a = some true := by unfold F_laws_eqTransform; simp [eq_true', s_not, br]
theorem laws_eqInstance_ok (a : TInstance) : F_laws_eqInstance a a = some true := by unfold F_laws_eqInstance; simp [eq_true', s_not, br, laws_eqTransform_ok]
theorem laws_eqShapeS_ok (l : List TShape) (h : l.length ≤ 10000000) : F_laws_eqShapeS l l = some true := by
  unfold F_laws_eqShapeS
  rw [notEq (eq_true' rfl), br_f]
  refine Eq.trans (bind_of (while_eq (r := .inr ()) l.length (fun i hi => ?_) ?_)) rfl
  · simp only [L_laws_eqShapeS_x2, letO_eq, s_toNn, laws_eqShape_ok, Option.bind_some]
    rw [ltl_t hi, br_t, req_of (inRl hi), req_of (inRl hi), inc_nat (by omega)]; rfl
  · simp only [L_laws_eqShapeS_x2, letO_eq]
    rw [ltl_f]; rfl
theorem laws_eqLabelS_ok (l : List TLabel) (h : l.length ≤ 10000000) : F_laws_eqLabelS l l = some true := by
  unfold F_laws_eqLabelS
  rw [notEq (eq_true' rfl), br_f]
  refine Eq.trans (bind_of (while_eq (r := .inr ()) l.length (fun i hi => ?_) ?_)) rfl
  · simp only [L_laws_eqLabelS_x2, letO_eq, s_toNn, laws_eqLabel_ok, Option.bind_some]
    rw [ltl_t hi, br_t, req_of (inRl hi), req_of (inRl hi), inc_nat (by omega)]; rfl
  · simp only [L_laws_eqLabelS_x2, letO_eq]
    rw [ltl_f]; rfl
theorem laws_eqInstanceS_ok (l : List TInstance) (h : l.length ≤ 10000000) : F_laws_eqInstanceS l l = some true := by
  unfold F_laws_eqInstanceS
  rw [notEq (eq_true' rfl), br_f]
  refine Eq.trans (bind_of (while_eq (r := .inr ()) l.length (fun i hi => ?_) ?_)) rfl
  · simp only [L_laws_eqInstanceS_x2, letO_eq, s_toNn, laws_eqInstance_ok, Option.bind_some]
    rw [ltl_t hi, br_t, req_of (inRl hi), req_of (inRl hi), inc_nat (by omega)]; rfl
  · simp only [L_laws_eqInstanceS_x2, letO_eq]
    rw [ltl_f]; rfl
theorem laws_eqCell_ok (c : TCell) (h : SmallC c) : F_laws_eqCell c c = some true := by
  unfold F_laws_eqCell
  rw [laws_eqShapeS_ok _ (by have := h.shapes; omega), laws_eqLabelS_ok _ (by have := h.labels; omega), laws_eqInstanceS_ok _ (by have := h.insts; omega)]
  simp [seq_self, s_not, br]
theorem laws_eqLibrary_ok (a : TLibrary) (h : SmallL a) : F_laws_eqLibrary a a = some true := by
  have hl := h.cells
  unfold F_laws_eqLibrary F_laws_eqCellS
  rw [notEq (eq_true' rfl), br_f]
  rw [bind_of (while_eq (st := L_laws_eqCellS_x2 a.fCells a.fCells) (r := .inr ()) a.fCells.length (fun i hi => ?_) ?_)]
  · rfl
  · simp only [L_laws_eqCellS_x2, letO_eq]
    rw [ltl_f]; rfl
  · simp only [L_laws_eqCellS_x2, letO_eq, s_toNn]
    rw [ltl_t hi, br_t, req_of (inRl hi), req_of (inRl hi), laws_eqCell_ok _ (h.cell _ (gd_mem hi)), inc_nat (by omega)]; rfl
theorem op_9 (d : Nat) : Opens T (d + 1) 9 (clS) (wfS) := op_str (show T 9 = some d9 from rfl) rfl
theorem op_2 (d : Nat) : Opens T (d + 1) 2 (clI .i64) (wfI .i64) := op_int .i64 (show T 2 = some d2 from rfl) rfl
def clRect (e : TRect) : List AC := clI .i64 e.fX0 ++ (clI .i64 e.fY0 ++ (clI .i64 e.fX1 ++ (clI .i64 e.fY1 ++ ([]))))
def wfRect (e : TRect) : Prop := wfI .i64 e.fX0 ∧ wfI .i64 e.fY0 ∧ wfI .i64 e.fX1 ∧ wfI .i64 e.fY1
theorem op_35 (d : Nat) : Opens T (d + 2) 35 (clRect) (wfRect) := by
  intro cs hs
  obtain ⟨a0, b0, rfl, h0, a1, b1, rfl, h1, a2, b2, rfl, h2, a3, b3, rfl, h3, rfl⟩ := hs
  obtain ⟨e0, w0, r0⟩ := op_2 (d + 0) a0 h0
  obtain ⟨e1, w1, r1⟩ := op_2 (d + 0) a1 h1
  obtain ⟨e2, w2, r2⟩ := op_2 (d + 0) a2 h2
  obtain ⟨e3, w3, r3⟩ := op_2 (d + 0) a3 h3
  exact ⟨TRect.mk e0 e1 e2 e3, ⟨w0, w1, w2, w3⟩, rlist_app r0 (rlist_app r1 (rlist_app r2 (rlist_app r3 (trivial))))⟩
def clShape (e : TShape) : List AC := clI .i64 e.fLayer ++ (clRect e.fBox ++ ([]))
def wfShape (e : TShape) : Prop := wfI .i64 e.fLayer ∧ wfRect e.fBox
theorem op_37 (d : Nat) : Opens T (d + 3) 37 (clShape) (wfShape) := by
  intro cs hs
  obtain ⟨a0, b0, rfl, h0, a1, b1, rfl, h1, rfl⟩ := hs
  obtain ⟨e0, w0, r0⟩ := op_2 (d + 1) a0 h0
  obtain ⟨e1, w1, r1⟩ := op_35 (d + 0) a1 h1
  exact ⟨TShape.mk e0 e1, ⟨w0, w1⟩, rlist_app r0 (rlist_app r1 (trivial))⟩
theorem op_212 (d : Nat) : Opens T (d + 4) 212 (clL 5 (encShape)) (wfL wfShape) := op_slice (e := 37) (sz := 5) (show T 212 = some d212 from rfl) rfl (show T 37 = some d37 from rfl) rfl (fun x j hj => by match j, hj with | 0, _ => rfl | 1, _ => rfl | 2, _ => rfl | 3, _ => rfl | 4, _ => rfl | (j_ + 5), h_ => exact absurd h_ (by omega)) (op_37 d)
def clPoint (e : TPoint) : List AC := clI .i64 e.fX ++ (clI .i64 e.fY ++ ([]))
def wfPoint (e : TPoint) : Prop := wfI .i64 e.fX ∧ wfI .i64 e.fY
theorem op_39 (d : Nat) : Opens T (d + 2) 39 (clPoint) (wfPoint) := by
  intro cs hs
  obtain ⟨a0, b0, rfl, h0, a1, b1, rfl, h1, rfl⟩ := hs
  obtain ⟨e0, w0, r0⟩ := op_2 (d + 0) a0 h0
  obtain ⟨e1, w1, r1⟩ := op_2 (d + 0) a1 h1
  exact ⟨TPoint.mk e0 e1, ⟨w0, w1⟩, rlist_app r0 (rlist_app r1 (trivial))⟩
def clLabel (e : TLabel) : List AC := clI .i64 e.fLayer ++ (clPoint e.fAt ++ (clS e.fName ++ ([])))
def wfLabel (e : TLabel) : Prop := wfI .i64 e.fLayer ∧ wfPoint e.fAt ∧ wfS e.fName
theorem op_41 (d : Nat) : Opens T (d + 3) 41 (clLabel) (wfLabel) := by
  intro cs hs
  obtain ⟨a0, b0, rfl, h0, a1, b1, rfl, h1, a2, b2, rfl, h2, rfl⟩ := hs
  obtain ⟨e0, w0, r0⟩ := op_2 (d + 1) a0 h0
  obtain ⟨e1, w1, r1⟩ := op_39 (d + 0) a1 h1
  obtain ⟨e2, w2, r2⟩ := op_9 (d + 1) a2 h2
  exact ⟨TLabel.mk e0 e1 e2, ⟨w0, w1, w2⟩, rlist_app r0 (rlist_app r1 (rlist_app r2 (trivial)))⟩
theorem op_213 (d : Nat) : Opens T (d + 4) 213 (clL 4 (encLabel)) (wfL wfLabel) := op_slice (e := 41) (sz := 4) (show T 213 = some d213 from rfl) rfl (show T 41 = some d41 from rfl) rfl (fun x j hj => by match j, hj with | 0, _ => rfl | 1, _ => rfl | 2, _ => rfl | 3, _ => rfl | (j_ + 4), h_ => exact absurd h_ (by omega)) (op_41 d)
def clTransform (e : TTransform) : List AC := clI .i64 e.fOrientation ++ (clI .i64 e.fX ++ (clI .i64 e.fY ++ ([])))
def wfTransform (e : TTransform) : Prop := wfI .i64 e.fOrientation ∧ wfI .i64 e.fX ∧ wfI .i64 e.fY
theorem op_43 (d : Nat) : Opens T (d + 2) 43 (clTransform) (wfTransform) := by
  intro cs hs
  obtain ⟨a0, b0, rfl, h0, a1, b1, rfl, h1, a2, b2, rfl, h2, rfl⟩ := hs
  obtain ⟨e0, w0, r0⟩ := op_2 (d + 0) a0 h0
  obtain ⟨e1, w1, r1⟩ := op_2 (d + 0) a1 h1
  obtain ⟨e2, w2, r2⟩ := op_2 (d + 0) a2 h2
  exact ⟨TTransform.mk e0 e1 e2, ⟨w0, w1, w2⟩, rlist_app r0 (rlist_app r1 (rlist_app r2 (trivial)))⟩
def clInstance (e : TInstance) : List AC := clI .i64 e.fCell ++ (clTransform e.fPlace ++ (clI .i64 e.fColumns ++ (clI .i64 e.fRows ++ (clI .i64 e.fStepX ++ (clI .i64 e.fStepY ++ ([]))))))
def wfInstance (e : TInstance) : Prop := wfI .i64 e.fCell ∧ wfTransform e.fPlace ∧ wfI .i64 e.fColumns ∧ wfI .i64 e.fRows ∧ wfI .i64 e.fStepX ∧ wfI .i64 e.fStepY
theorem op_45 (d : Nat) : Opens T (d + 3) 45 (clInstance) (wfInstance) := by
  intro cs hs
  obtain ⟨a0, b0, rfl, h0, a1, b1, rfl, h1, a2, b2, rfl, h2, a3, b3, rfl, h3, a4, b4, rfl, h4, a5, b5, rfl, h5, rfl⟩ := hs
  obtain ⟨e0, w0, r0⟩ := op_2 (d + 1) a0 h0
  obtain ⟨e1, w1, r1⟩ := op_43 (d + 0) a1 h1
  obtain ⟨e2, w2, r2⟩ := op_2 (d + 1) a2 h2
  obtain ⟨e3, w3, r3⟩ := op_2 (d + 1) a3 h3
  obtain ⟨e4, w4, r4⟩ := op_2 (d + 1) a4 h4
  obtain ⟨e5, w5, r5⟩ := op_2 (d + 1) a5 h5
  exact ⟨TInstance.mk e0 e1 e2 e3 e4 e5, ⟨w0, w1, w2, w3, w4, w5⟩, rlist_app r0 (rlist_app r1 (rlist_app r2 (rlist_app r3 (rlist_app r4 (rlist_app r5 (trivial))))))⟩
theorem op_214 (d : Nat) : Opens T (d + 4) 214 (clL 8 (encInstance)) (wfL wfInstance) := op_slice (e := 45) (sz := 8) (show T 214 = some d214 from rfl) rfl (show T 45 = some d45 from rfl) rfl (fun x j hj => by match j, hj with | 0, _ => rfl | 1, _ => rfl | 2, _ => rfl | 3, _ => rfl | 4, _ => rfl | 5, _ => rfl | 6, _ => rfl | 7, _ => rfl | (j_ + 8), h_ => exact absurd h_ (by omega)) (op_45 d)
def clCell (e : TCell) : List AC := clS e.fName ++ (clL 5 (encShape) e.fShapes ++ (clL 4 (encLabel) e.fLabels ++ (clL 8 (encInstance) e.fInstances ++ ([]))))
def wfCell (e : TCell) : Prop := wfS e.fName ∧ wfL wfShape e.fShapes ∧ wfL wfLabel e.fLabels ∧ wfL wfInstance e.fInstances
theorem op_216 (d : Nat) : Opens T (d + 5) 216 (clCell) (wfCell) := by
  intro cs hs
  obtain ⟨a0, b0, rfl, h0, a1, b1, rfl, h1, a2, b2, rfl, h2, a3, b3, rfl, h3, rfl⟩ := hs
  obtain ⟨e0, w0, r0⟩ := op_9 (d + 3) a0 h0
  obtain ⟨e1, w1, r1⟩ := op_212 (d + 0) a1 h1
  obtain ⟨e2, w2, r2⟩ := op_213 (d + 0) a2 h2
  obtain ⟨e3, w3, r3⟩ := op_214 (d + 0) a3 h3
  exact ⟨TCell.mk e0 e1 e2 e3, ⟨w0, w1, w2, w3⟩, rlist_app r0 (rlist_app r1 (rlist_app r2 (rlist_app r3 (trivial))))⟩
theorem op_109 (d : Nat) : Opens T (d + 6) 109 (clL 4 (encCell len gd)) (wfL wfCell) := op_slice (e := 216) (sz := 4) (show T 109 = some d109 from rfl) rfl (show T 216 = some d216 from rfl) rfl (fun x j hj => by match j, hj with | 0, _ => rfl | 1, _ => rfl | 2, _ => rfl | 3, _ => rfl | (j_ + 4), h_ => exact absurd h_ (by omega)) (op_216 d)
def clLibrary (e : TLibrary) : List AC := clL 4 (encCell len gd) e.fCells ++ ([])
def wfLibrary (e : TLibrary) : Prop := wfL wfCell e.fCells
theorem op_111 (d : Nat) : Opens T (d + 7) 111 (clLibrary) (wfLibrary) := by
  intro cs hs
  obtain ⟨a0, b0, rfl, h0, rfl⟩ := hs
  obtain ⟨e0, w0, r0⟩ := op_109 (d + 0) a0 h0
  exact ⟨TLibrary.mk e0, w0, rlist_app r0 (trivial)⟩
theorem open_111 {H : Type} {enc : TypeId × Value → H} {W : World} {spare : Nat → Bool} {held : Bool} {r : Reach} {base : Nat} {v : Value} {x : DataW H} {ps : List MemPlace}
    (hv : Value.okWide Try.prog W r base 111 v) (h : DataW.Trod enc Try.prog W 0 spare held 111 v x ps) : ∃ e : TLibrary, wfLibrary e ∧ RelV (RelI (fun b => b < W.heap.size) W) (.agg [.bs (len e.fCells) 4 (row gd (encCell len gd) e.fCells)]) v :=
  opened_agg tok (op_111 0) (by kernel_rfl) (tok 111 d111 rfl).1 hv h
theorem wfC_of {c : TCell} (h : wfCell c) : wfC c := ⟨h.1, h.2.1.1, h.2.2.1.1, h.2.2.2.1, fun l hl => (h.2.2.1.2 l hl).2.2⟩
theorem wfLb_of {a : TLibrary} (h : wfLibrary a) : wfLb a := ⟨h.1, fun c hc => wfC_of (h.2 c hc)⟩
noncomputable def okCell (c : TCell) (k : Int) : Bool := isName c.fName && (decide (c.fShapes.length ≤ 24) && (decide (c.fLabels.length ≤ 8) && (decide (c.fInstances.length ≤ 8) && (c.fShapes.all okShape && (c.fLabels.all okLabel && c.fInstances.all fun x => okInst x k)))))
theorem lt_lit (n : Nat) (k : Nat) : std.lt (k : Int) (std.ofN n) = !decide (n ≤ k) := by
  rw [s_lt, s_ofN]
  by_cases h : n ≤ k
  · have : ¬ ((k : Int) < (n : Int)) := by omega
    simp [h, this]
  · have : ((k : Int) < (n : Int)) := by omega
    simp [h, this]
theorem spec_l09Cell_ok (c : TCell) (k : Int) (h : SmallC c) : F_spec_l09Cell c k = some (okCell c k) := by
  have hb := maxLen_eq
  have e24 := lt_lit c.fShapes.length 24
  have e8 := lt_lit c.fLabels.length 8
  have e8' := lt_lit c.fInstances.length 8
  have s1 := h.shapes; have s2 := h.labels; have s3 := h.insts
  unfold F_spec_l09Cell okCell
  rw [spec_IsName_ok _ (by have := h.name; omega)]
  simp only [Option.bind_some, letO_eq, len_eq, show (24 : Int) = ((24 : Nat) : Int) from rfl, show (8 : Int) = ((8 : Nat) : Int) from rfl, e24, e8, e8']
  cases isName c.fName with
  | false => rfl
  | true =>
    cases decide (c.fShapes.length ≤ 24) with
    | false => rfl
    | true =>
      cases decide (c.fLabels.length ≤ 8) with
      | false => rfl
      | true =>
        cases decide (c.fInstances.length ≤ 8) with
        | false => rfl
        | true =>
          simp only [Bool.not_true, br_f, Option.bind_some, Bool.true_and]
          rw [bind_of (scan (ok := fun i => okShape (gd c.fShapes i)) (n := c.fShapes.length) (yes := .inr ()) (no := .inl false) (fun i hi => ?_) ?_), range_all]
          · cases c.fShapes.all okShape with
            | false => rfl
            | true =>
              simp only [if_true, Bool.true_and]
              rw [bind_of (scan (ok := fun i => okLabel (gd c.fLabels i)) (n := c.fLabels.length) (yes := .inr ()) (no := .inl false) (fun i hi => ?_) ?_), range_all]
              · cases c.fLabels.all okLabel with
                | false => rfl
                | true =>
                  simp only [if_true, Bool.true_and]
                  rw [bind_of (scan (ok := fun i => okInst (gd c.fInstances i) k) (n := c.fInstances.length) (yes := .inr ()) (no := .inl false) (fun i hi => ?_) ?_), range_all (fun x => okInst x k)]
                  · cases c.fInstances.all fun x => okInst x k <;> rfl
                  · simp only [L_spec_l09Cell_x52, letO_eq]
                    rw [ltl_f, br_f]
                  · simp only [L_spec_l09Cell_x52, letO_eq, s_toNn]
                    rw [ltl_t hi, br_t, req_of (inRl hi), spec_l09Instance_ok, Option.bind_some, inc_nat (by omega)]
                    cases okInst (gd c.fInstances i) k <;> rfl
              · simp only [L_spec_l09Cell_x33, letO_eq]
                rw [ltl_f, br_f]
              · simp only [L_spec_l09Cell_x33, letO_eq, s_toNn]
                rw [ltl_t hi, br_t, req_of (inRl hi), spec_l09Label_ok _ (by have := h.lnames _ (gd_mem hi); omega), Option.bind_some, inc_nat (by omega)]
                cases okLabel (gd c.fLabels i) <;> rfl
          · simp only [L_spec_l09Cell_x14, letO_eq]
            rw [ltl_f, br_f]
          · simp only [L_spec_l09Cell_x14, letO_eq, s_toNn]
            rw [ltl_t hi, br_t, req_of (inRl hi), spec_l09Shape_ok, Option.bind_some, inc_nat (by omega)]
            cases okShape (gd c.fShapes i) <;> rfl
/-- a loop that stops at the first element that is met -/
theorem scan_first {step : Int → Option (Int ⊕ (Int ⊕ Unit))} {p : Nat → Bool} {n : Nat} (h : ∀ i : Nat, i < n → step i = some (cond (p i) (.inr (.inl (i : Int))) (.inl ((i + 1 : Nat) : Int)))) (hn : step n = some (.inr (.inr ()))) :
    whileP step 0 = some (match (List.range n).find? p with | some i => .inl (i : Int) | none => .inr ()) := by
  have key : ∀ m i : Nat, i + m = n → whileP step i = some (match (List.range' i m).find? p with | some i => .inl (i : Int) | none => .inr ()) := by
    intro m
    induction m with
    | zero =>
      intro i hi
      have : i = n := by omega
      subst this
      rw [whileP_unfold, hn]; rfl
    | succ m ih =>
      intro i hi
      rw [whileP_unfold, h i (by omega)]
      cases hb : p i with
      | true => simp [List.range', hb]
      | false =>
        simp only [cond]
        rw [ih (i + 1) (by omega)]
        simp [List.range', hb]
  have := key n 0 (by omega)
  rw [List.range_eq_range']
  exact this
noncomputable def firstI (p : Nat → Bool) (n : Nat) : Int := match (List.range n).find? p with | some i => (i : Int) | none => -1
theorem firstI_any (p : Nat → Bool) (n : Nat) : std.le 0 (firstI p n) = (List.range n).any p := by
  unfold firstI
  cases h : (List.range n).find? p with
  | none =>
    rw [List.find?_eq_none] at h
    have : (List.range n).any p = false := by rw [List.any_eq_false]; exact h
    rw [this]; show std.le 0 (-1) = false; exact le_false (by omega)
  | some i =>
    have h1 := List.find?_some h
    have h2 := List.mem_of_find?_eq_some h
    have : (List.range n).any p = true := by rw [List.any_eq_true]; exact ⟨i, h2, h1⟩
    rw [this]; show std.le 0 (i : Int) = true; exact le_true (by omega)
theorem range_any {α : Type} [Inhabited α] (p : α → Bool) (l : List α) : (List.range l.length).any (fun i => !p (gd l i)) = !l.all p := by
  rw [← range_all p l, List.all_eq_not_any_not, Bool.not_not]
theorem containsShape (l : List TShape) (h : l.length ≤ 10000000) : F_slices_ContainsFunc_Limpl_Shape_impl_Shape_mbFimpl_validCell_1 l = some (!l.all okShape) := by
  unfold F_slices_ContainsFunc_Limpl_Shape_impl_Shape_mbFimpl_validCell_1 F_slices_IndexFunc_Limpl_Shape_impl_Shape_mbFimpl_validCell_1
  rw [bind_of (scan_first (p := fun i => !okShape (gd l i)) (n := l.length) (fun i hi => ?_) ?_)]
  · rw [← range_any okShape l, ← firstI_any]
    unfold firstI
    cases (List.range l.length).find? (fun i => !okShape (gd l i)) <;> rfl
  · simp only [L_slices_IndexFunc_Limpl_Shape_impl_Shape_mbFimpl_validCell_1_x2, letO_eq]
    rw [ltl_f, br_f]
  · simp only [L_slices_IndexFunc_Limpl_Shape_impl_Shape_mbFimpl_validCell_1_x2, letO_eq, s_toNn, F_impl_validCell_1]
    rw [ltl_t hi, br_t, req_of (inRl hi), impl_validShape_ok, Option.bind_some, Option.bind_some, inc_nat (by omega)]
    cases okShape (gd l i) <;> rfl
theorem containsLabel (l : List TLabel) (h : l.length ≤ 10000000) (hn : ∀ x ∈ l, x.fName.size ≤ maxLen) : F_slices_ContainsFunc_Limpl_Label_impl_Label_mbFimpl_validCell_2 l = some (!l.all okLabel) := by
  unfold F_slices_ContainsFunc_Limpl_Label_impl_Label_mbFimpl_validCell_2 F_slices_IndexFunc_Limpl_Label_impl_Label_mbFimpl_validCell_2
  rw [bind_of (scan_first (p := fun i => !okLabel (gd l i)) (n := l.length) (fun i hi => ?_) ?_)]
  · rw [← range_any okLabel l, ← firstI_any]
    unfold firstI
    cases (List.range l.length).find? (fun i => !okLabel (gd l i)) <;> rfl
  · simp only [L_slices_IndexFunc_Limpl_Label_impl_Label_mbFimpl_validCell_2_x2, letO_eq]
    rw [ltl_f, br_f]
  · simp only [L_slices_IndexFunc_Limpl_Label_impl_Label_mbFimpl_validCell_2_x2, letO_eq, s_toNn, F_impl_validCell_2]
    rw [ltl_t hi, br_t, req_of (inRl hi), impl_validLabel_ok _ (hn _ (gd_mem hi)), Option.bind_some, Option.bind_some, inc_nat (by omega)]
    cases okLabel (gd l i) <;> rfl
theorem containsInst (l : List TInstance) (k : Int) (h : l.length ≤ 10000000) : F_slices_ContainsFunc_Limpl_Instance_impl_Instance_mbFimpl_validCell_3p l k = some (!l.all fun x => okInst x k) := by
  unfold F_slices_ContainsFunc_Limpl_Instance_impl_Instance_mbFimpl_validCell_3p F_slices_IndexFunc_Limpl_Instance_impl_Instance_mbFimpl_validCell_3p
  rw [bind_of (scan_first (p := fun i => !okInst (gd l i) k) (n := l.length) (fun i hi => ?_) ?_)]
  · rw [← range_any (fun x => okInst x k) l, ← firstI_any]
    unfold firstI
    cases (List.range l.length).find? (fun i => !okInst (gd l i) k) <;> rfl
  · simp only [L_slices_IndexFunc_Limpl_Instance_impl_Instance_mbFimpl_validCell_3p_x2, letO_eq]
    rw [ltl_f, br_f]
  · simp only [L_slices_IndexFunc_Limpl_Instance_impl_Instance_mbFimpl_validCell_3p_x2, letO_eq, s_toNn, F_impl_validCell_3_mbp]
    rw [ltl_t hi, br_t, req_of (inRl hi), impl_validInstance_ok, Option.bind_some, Option.bind_some, inc_nat (by omega)]
    cases okInst (gd l i) k <;> rfl
theorem impl_validCell_ok (c : TCell) (k : Int) (h : SmallC c) : F_impl_validCell c k = some (okCell c k) := by
  have hb := maxLen_eq
  have e24 := lt_lit c.fShapes.length 24
  have e8 := lt_lit c.fLabels.length 8
  have e8' := lt_lit c.fInstances.length 8
  unfold F_impl_validCell okCell
  rw [impl_IsName_ok _ (by have := h.name; omega), containsShape _ (by have := h.shapes; omega), containsLabel _ (by have := h.labels; omega) (fun x hx => by have := h.lnames x hx; omega), containsInst _ _ (by have := h.insts; omega)]
  simp only [Option.bind_some, letO_eq, len_eq, show (24 : Int) = ((24 : Nat) : Int) from rfl, show (8 : Int) = ((8 : Nat) : Int) from rfl, e24, e8, e8']
  cases isName c.fName <;> cases decide (c.fShapes.length ≤ 24) <;> cases decide (c.fLabels.length ≤ 8) <;> cases decide (c.fInstances.length ≤ 8) <;> cases c.fShapes.all okShape <;> cases c.fLabels.all okLabel <;> cases (c.fInstances.all fun x => okInst x k) <;> rfl
/-- the first cell with this name -/
noncomputable def namedI (l : List TCell) (s : ByteArray) : Int := firstI (fun i => std.seq (gd l i).fName s) l.length
theorem impl_named_ok (a : TLibrary) (s : ByteArray) (h : a.fCells.length ≤ 10000000) : F_impl_named a s = some (namedI a.fCells s) := by
  unfold F_impl_named F_slices_IndexFunc_Limpl_Cell_impl_Cell_mbFimpl_named_1p
  rw [bind_of (scan_first (p := fun i => std.seq (gd a.fCells i).fName s) (n := a.fCells.length) (fun i hi => ?_) ?_)]
  · unfold namedI firstI
    cases (List.range a.fCells.length).find? (fun i => std.seq (gd a.fCells i).fName s) <;> rfl
  · simp only [L_slices_IndexFunc_Limpl_Cell_impl_Cell_mbFimpl_named_1p_x2, letO_eq]
    rw [ltl_f, br_f]
  · simp only [L_slices_IndexFunc_Limpl_Cell_impl_Cell_mbFimpl_named_1p_x2, letO_eq, s_toNn, F_impl_named_1_mbp]
    rw [ltl_t hi, br_t, req_of (inRl hi), Option.bind_some, inc_nat (by omega)]
    cases std.seq (gd a.fCells i).fName s <;> rfl
/-- no cell ahead of k has its name -/
noncomputable def fresh (l : List TCell) (k : Nat) : Bool := (List.range k).all fun j => !std.seq (gd l j).fName (gd l k).fName
theorem find_first (p : Nat → Bool) (n k : Nat) (hk : k < n) (hp : p k = true) : (List.range n).find? p = some k ↔ (List.range k).all (fun j => !p j) = true := by
  rw [List.all_eq_true, List.find?_eq_some_iff_append]
  constructor
  · rintro ⟨h1, l1, l2, h2, h3⟩ j hj
    apply h3
    have hlen : l1.length = k := by
      have h4 : (List.range n)[l1.length]? = some k := by rw [h2]; simp
      have hlt : l1.length < n := by
        have := (List.getElem?_eq_some_iff.1 h4).1
        simpa using this
      rw [List.getElem?_range hlt] at h4
      injection h4
    have h5 : l1 = List.range k := by
      have := congrArg (List.take l1.length) h2
      rw [List.take_left', List.take_range] at this
      · rw [← this, hlen]; congr 1; omega
      · rfl
    rw [h5]; exact hj
  · intro h
    refine ⟨hp, List.range k, List.range' (k + 1) (n - (k + 1)), ?_, fun j hj => h j hj⟩
    rw [List.range_eq_range', List.range_eq_range', show n = k + (1 + (n - (k + 1))) by omega, ← List.range'_append_1, Nat.add_comm 1, List.range'_succ]
    simp
    omega
theorem named_first (l : List TCell) (k : Nat) (hk : k < l.length) : std.eq (namedI l (gd l k).fName) (k : Int) = fresh l k := by
  rw [s_eq, Bool.eq_iff_iff]
  unfold fresh
  rw [← find_first (fun i => std.seq (gd l i).fName (gd l k).fName) l.length k hk (seq_self _)]
  unfold namedI firstI
  cases h : (List.range l.length).find? (fun i => std.seq (gd l i).fName (gd l k).fName) with
  | none => simp
  | some i => simp; omega
noncomputable def okLib (a : TLibrary) : Bool := decide (1 ≤ a.fCells.length) && (decide (a.fCells.length ≤ 8) && (List.range a.fCells.length).all fun k => okCell (gd a.fCells k) k && fresh a.fCells k)
theorem lt_one (n : Nat) : std.lt (std.ofN n) 1 = !decide (1 ≤ n) := by
  rw [s_lt, s_ofN]
  by_cases h : 1 ≤ n
  · have : ¬ ((n : Int) < 1) := by omega
    simp [h, this]
  · have : ((n : Int) < 1) := by omega
    simp [h, this]
theorem spec_IsValidLibrary_ok (a : TLibrary) (h : SmallL a) : F_spec_IsValidLibrary a = some (okLib a) := by
  have hl := h.cells
  have e8 := lt_lit a.fCells.length 8
  unfold F_spec_IsValidLibrary okLib
  simp only [letO_eq, len_eq, show (8 : Int) = ((8 : Nat) : Int) from rfl, e8, lt_one]
  cases decide (1 ≤ a.fCells.length) with
  | false => rfl
  | true =>
    cases decide (a.fCells.length ≤ 8) with
    | false => rfl
    | true =>
      simp only [Bool.not_true, br_f, Option.bind_some, Bool.true_and]
      rw [bind_of (scan (ok := fun k => okCell (gd a.fCells k) k && fresh a.fCells k) (n := a.fCells.length) (yes := .inr ()) (no := .inl false) (fun i hi => ?_) ?_)]
      · cases (List.range a.fCells.length).all fun k => okCell (gd a.fCells k) k && fresh a.fCells k <;> rfl
      · simp only [L_spec_IsValidLibrary_x10, letO_eq]
        rw [ltl_f, br_f]
      · simp only [L_spec_IsValidLibrary_x10, letO_eq, s_toNn]
        rw [ltl_t hi, br_t, req_of (inRl hi), spec_l09Cell_ok _ _ (h.cell _ (gd_mem hi)), Option.bind_some, inc_nat (by omega)]
        cases okCell (gd a.fCells i) (i : Int) with
        | false => rfl
        | true =>
          simp only [Bool.not_true, br_f, Bool.true_and]
          rw [bind_of (scan (ok := fun j => !std.seq (gd a.fCells j).fName (gd a.fCells i).fName) (n := i) (yes := .inr ()) (no := .inl false) (fun j hj => ?_) ?_)]
          · unfold fresh
            cases (List.range i).all fun j => !std.seq (gd a.fCells j).fName (gd a.fCells i).fName <;> rfl
          · simp only [L_spec_IsValidLibrary_x26, letO_eq]
            rw [lt_false (by omega), br_f]
          · simp only [L_spec_IsValidLibrary_x26, letO_eq, s_toNn]
            rw [lt_true (by omega), br_t, req_of (inRl (by omega)), req_of (inRl hi), inc_nat (by omega)]
            cases std.seq (gd a.fCells j).fName (gd a.fCells i).fName <;> rfl
theorem impl_IsValidLibrary_ok (a : TLibrary) (h : SmallL a) : F_impl_IsValidLibrary a = some (okLib a) := by
  have hl := h.cells
  have e8 := lt_lit a.fCells.length 8
  unfold F_impl_IsValidLibrary okLib
  simp only [letO_eq, len_eq, show (8 : Int) = ((8 : Nat) : Int) from rfl, e8, lt_one]
  cases decide (1 ≤ a.fCells.length) with
  | false => rfl
  | true =>
    cases decide (a.fCells.length ≤ 8) with
    | false => rfl
    | true =>
      simp only [Bool.not_true, br_f, Option.bind_some, Bool.true_and]
      rw [bind_of (scan (ok := fun k => okCell (gd a.fCells k) k && fresh a.fCells k) (n := a.fCells.length) (yes := .inr ()) (no := .inl false) (fun i hi => ?_) ?_)]
      · cases (List.range a.fCells.length).all fun k => okCell (gd a.fCells k) k && fresh a.fCells k <;> rfl
      · simp only [L_impl_IsValidLibrary_x10, letO_eq]
        rw [ltl_f, br_f]
      · simp only [L_impl_IsValidLibrary_x10, letO_eq, s_toNn]
        rw [ltl_t hi, br_t, req_of (inRl hi), impl_validCell_ok _ _ (h.cell _ (gd_mem hi)), Option.bind_some, inc_nat (by omega)]
        cases okCell (gd a.fCells i) (i : Int) with
        | false => rfl
        | true =>
          simp only [Bool.not_true, br_f, Bool.true_and]
          rw [impl_named_ok _ _ (show a.fCells.length ≤ 10000000 by omega), Option.bind_some, named_first _ _ hi]
          cases fresh a.fCells i <;> rfl
theorem spec_l09Has_ok (a : TLibrary) (k : Int) (h : SmallL a) : F_spec_l09Has a k = some (okLib a && wB k 0 ((a.fCells.length : Int) - 1)) := by
  have hl := h.cells
  unfold F_spec_l09Has
  rw [spec_IsValidLibrary_ok _ h]
  simp only [Option.bind_some, letO_eq, s_ofN, len_eq]
  rw [sub_id (by omega) (by omega), spec_l09In_ok]
  cases okLib a <;> rfl
theorem impl_hasCell_ok (a : TLibrary) (k : Int) (h : SmallL a) : F_impl_hasCell a k = some (okLib a && wB k 0 ((a.fCells.length : Int) - 1)) := by
  have hl := h.cells
  unfold F_impl_hasCell
  rw [impl_IsValidLibrary_ok _ h]
  simp only [Option.bind_some, letO_eq, s_ofN, len_eq]
  rw [sub_id (by omega) (by omega), impl_within_ok]
  cases okLib a <;> rfl
end Go.Proofs.Ytnmfighfidaglaa.AM
