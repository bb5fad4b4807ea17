/-
  What the functions that the law reaches compute, and that they do. No condition.
-/
import Derived.Test.YtmdlnjeppemipaaAmNY
import Derived.Test.YtmdlnjeppemipaaAmP
namespace Go.Proofs.Ytmdlnjeppemipaa.AM
open Go Go.Proofs Go.RowKit
set_option linter.unusedVariables false
set_option linter.unusedSimpArgs false
set_option maxRecDepth 100000

noncomputable def wB (a b c : Int) : Bool := std.le b a && std.le a c
theorem spec_l09In_ok (a b c : Int) : F_spec_l09In a b c = some (wB a b c) := by
  unfold F_spec_l09In wB
  cases std.le b a <;> rfl
theorem impl_within_ok (a b c : Int) : F_impl_within a b c = some (wB a b c) := by
  unfold F_impl_within wB
  cases std.le b a <;> rfl
noncomputable def okRect (a : TRect) : Bool := std.le (-40) a.fX0 && (std.lt a.fX0 a.fX1 && (std.le a.fX1 40 && (std.le (-40) a.fY0 && (std.lt a.fY0 a.fY1 && std.le a.fY1 40))))
theorem spec_l09Rect_ok (a : TRect) : F_spec_l09Rect a = some (okRect a) := by
  unfold F_spec_l09Rect okRect
  cases std.le (-40) a.fX0 <;> cases std.lt a.fX0 a.fX1 <;> cases std.le a.fX1 40 <;> cases std.le (-40) a.fY0 <;> cases std.lt a.fY0 a.fY1 <;> rfl
theorem impl_IsValidRect_ok (a : TRect) : F_impl_IsValidRect a = some (okRect a) := by
  unfold F_impl_IsValidRect okRect
  cases std.le (-40) a.fX0 <;> cases std.lt a.fX0 a.fX1 <;> cases std.le a.fX1 40 <;> cases std.le (-40) a.fY0 <;> cases std.lt a.fY0 a.fY1 <;> rfl
theorem spec_l09Layer_ok (a : Int) : F_spec_l09Layer a = some (wB a 0 7) := by
  unfold F_spec_l09Layer
  rw [spec_l09In_ok]; rfl
noncomputable def okShape (a : TShape) : Bool := wB a.fLayer 0 7 && okRect a.fBox
theorem spec_l09Shape_ok (a : TShape) : F_spec_l09Shape a = some (okShape a) := by
  unfold F_spec_l09Shape okShape
  rw [spec_l09Layer_ok, spec_l09Rect_ok]
  cases wB a.fLayer 0 7 <;> rfl
theorem impl_validShape_ok (a : TShape) : F_impl_validShape a = some (okShape a) := by
  unfold F_impl_validShape okShape
  rw [impl_within_ok, impl_IsValidRect_ok]
  cases wB a.fLayer 0 7 <;> rfl
noncomputable def okPoint (a : TPoint) : Bool := wB a.fX (-40) 39 && wB a.fY (-40) 39
theorem spec_l09Unit_ok (a : TPoint) : F_spec_l09Unit a = some (okPoint a) := by
  unfold F_spec_l09Unit okPoint
  rw [spec_l09In_ok, spec_l09In_ok]
  cases wB a.fX (-40) 39 <;> rfl
theorem impl_isUnitCell_ok (a : TPoint) : F_impl_isUnitCell a = some (okPoint a) := by
  unfold F_impl_isUnitCell okPoint
  rw [impl_within_ok, impl_within_ok]
  cases wB a.fX (-40) 39 <;> rfl
noncomputable def okName (s : ByteArray) (i : Nat) : Bool :=
  (std.le 97 (std.sat s i) && std.le (std.sat s i) 122) || (std.le 48 (std.sat s i) && std.le (std.sat s i) 57)
noncomputable def isName (s : ByteArray) : Bool := (List.range s.size).all (okName s) && (decide (1 ≤ s.size) && decide (s.size ≤ 8))
theorem lt_le (a b : Int) : std.lt a b = !std.le b a := by
  rw [s_lt, s_le]
  by_cases h : a < b
  · have : ¬ b ≤ a := by omega
    simp [h]
  · have : b ≤ a := by omega
    simp [h, this]
theorem nameEnd (s : ByteArray) (b : Bool) : ((match (if b then .inr () else .inl () : Unit ⊕ Unit) with
    | .inl _ => some false
    | .inr _ => ((br (std.le 1 (std.ofN (std.slen s))) (some (std.le (std.ofN (std.slen s)) 8)) (some false)) : Option Bool).bind fun y33 => letO y33 fun w39 => some w39) : Option Bool) = some (b && (decide (1 ≤ s.size) && decide (s.size ≤ 8))) := by
  cases b with
  | false => rfl
  | true =>
    have e1 : std.le 1 (std.ofN (std.slen s)) = decide (1 ≤ s.size) := by rw [s_le, s_ofN, s_slen]; congr 1; simp; omega
    have e2 : std.le (std.ofN (std.slen s)) 8 = decide (s.size ≤ 8) := by rw [s_le, s_ofN, s_slen]; congr 1; simp; omega
    simp only [if_true, e1, e2, br_bool, letO_eq, Bool.true_and]
    cases decide (1 ≤ s.size) <;> rfl
theorem spec_IsName_ok (s : ByteArray) (hs : s.size ≤ maxLen) : F_spec_IsName s = some (isName s) := by
  have hb := maxLen_eq
  unfold F_spec_IsName
  refine Eq.trans (bind_of (scan (ok := okName s) (n := s.size) (yes := .inr ()) (no := .inl ()) (fun i hi => ?_) ?_)) (nameEnd s _)
  · simp only [L_spec_IsName_x2, letO_eq, s_toNn, req_of (show std.inR (i : Int) (std.slen s) from inRn hi), okName]
    rw [lt_true (by rw [s_ofN, s_slen]; omega), br_t, inc_nat (by omega)]
    generalize std.sat s i = c
    cases std.le 97 c <;> cases std.le c 122 <;> cases std.le 48 c <;> cases std.le c 57 <;> rfl
  · simp only [L_spec_IsName_x2, letO_eq]
    rw [lt_false (by rw [s_ofN, s_slen]; omega)]; rfl
theorem impl_IsName_ok (s : ByteArray) (hs : s.size ≤ maxLen) : F_impl_IsName s = some (isName s) := by
  have hb := maxLen_eq
  unfold F_impl_IsName
  refine Eq.trans (bind_of (scan (ok := okName s) (n := s.size) (yes := .inr ()) (no := .inl ()) (fun i hi => ?_) ?_)) (nameEnd s _)
  · simp only [L_impl_IsName_x2, letO_eq, s_toNn, req_of (show std.inR (i : Int) (std.slen s) from inRn hi), okName]
    rw [lt_true (by rw [s_ofN, s_slen]; omega), br_t, inc_nat (by omega)]
    generalize std.sat s i = c
    rw [lt_le c 97, lt_le c 48, lt_le 122 c, lt_le 57 c]
    cases std.le 97 c <;> cases std.le c 122 <;> cases std.le 48 c <;> cases std.le c 57 <;> rfl
  · simp only [L_impl_IsName_x2, letO_eq]
    rw [lt_false (by rw [s_ofN, s_slen]; omega)]; rfl
noncomputable def okLabel (a : TLabel) : Bool := wB a.fLayer 0 7 && (okPoint a.fAt && isName a.fName)
theorem spec_l09Label_ok (a : TLabel) (h : a.fName.size ≤ maxLen) : F_spec_l09Label a = some (okLabel a) := by
  unfold F_spec_l09Label okLabel
  rw [spec_l09Layer_ok, spec_l09Unit_ok, spec_IsName_ok _ h]
  cases wB a.fLayer 0 7 <;> cases okPoint a.fAt <;> rfl
theorem impl_validLabel_ok (a : TLabel) (h : a.fName.size ≤ maxLen) : F_impl_validLabel a = some (okLabel a) := by
  unfold F_impl_validLabel okLabel
  rw [impl_within_ok, impl_isUnitCell_ok, impl_IsName_ok _ h]
  cases wB a.fLayer 0 7 <;> cases okPoint a.fAt <;> rfl
noncomputable def okTr (a : TTransform) : Bool := wB a.fOrientation 0 7 && (wB a.fX (-80) 80 && wB a.fY (-80) 80)
theorem spec_l09Transform_ok (a : TTransform) : F_spec_l09Transform a = some (okTr a) := by
  unfold F_spec_l09Transform okTr
  simp only [spec_l09In_ok]
  cases wB a.fOrientation 0 7 <;> cases wB a.fX (-80) 80 <;> rfl
theorem impl_IsValidTransform_ok (a : TTransform) : F_impl_IsValidTransform a = some (okTr a) := by
  unfold F_impl_IsValidTransform okTr
  simp only [impl_within_ok]
  cases wB a.fOrientation 0 7 <;> cases wB a.fX (-80) 80 <;> rfl
noncomputable def okInst (a : TInstance) (m : Int) : Bool := wB a.fCell 0 (std.sub .i64 m 1) && (okTr a.fPlace && (wB a.fColumns 1 4 && (wB a.fRows 1 4 && (wB a.fStepX (-80) 80 && (wB a.fStepY (-80) 80 && ((std.lt 1 a.fColumns || std.eq a.fStepX 0) && (std.lt 1 a.fRows || std.eq a.fStepY 0)))))))
theorem spec_l09Instance_ok (a : TInstance) (m : Int) : F_spec_l09Instance a m = some (okInst a m) := by
  unfold F_spec_l09Instance okInst
  simp only [spec_l09In_ok, spec_l09Transform_ok]
  cases wB a.fCell 0 (std.sub .i64 m 1) <;> cases okTr a.fPlace <;> cases wB a.fColumns 1 4 <;> cases wB a.fRows 1 4 <;> try rfl
  cases wB a.fStepX (-80) 80 <;> cases wB a.fStepY (-80) 80 <;> try rfl
  cases std.lt 1 a.fColumns <;> cases std.eq a.fStepX 0 <;> cases std.lt 1 a.fRows <;> cases std.eq a.fStepY 0 <;> rfl
theorem impl_validInstance_ok (a : TInstance) (m : Int) : F_impl_validInstance a m = some (okInst a m) := by
  unfold F_impl_validInstance okInst
  simp only [impl_within_ok, impl_IsValidTransform_ok]
  cases wB a.fCell 0 (std.sub .i64 m 1) <;> cases okTr a.fPlace <;> cases wB a.fColumns 1 4 <;> cases wB a.fRows 1 4 <;> try rfl
  cases wB a.fStepX (-80) 80 <;> cases wB a.fStepY (-80) 80 <;> try rfl
  cases std.lt 1 a.fColumns <;> cases std.eq a.fStepX 0 <;> cases std.lt 1 a.fRows <;> cases std.eq a.fStepY 0 <;> rfl
theorem laws_toShape_ok (a : TShape) : F_laws_toShape a = some a := rfl
theorem laws_toShapeS_ok (a : List TShape) (h : a.length ≤ 10000000) : F_laws_toShapeS a = some a := by
  unfold F_laws_toShapeS
  rw [req_of (nneg_len _), req_of (room_le (by rw [len_eq]; omega) (by decide))]
  simp only [letO_eq, s_ofN, s_toNn, len_eq]
  rw [bind_of (while_copy (st := L_laws_toShapeS_x7 a _) a (List.replicate a.length _) (by simp) (fun i hi v hv => ?_) (fun v => ?_)), req_of (by simp)]
  · simp only [L_laws_toShapeS_x7, letO_eq, s_toNn, s_nadd, Nat.zero_add]
    rw [ltl_t hi, br_t, req_of (inRl hi), laws_toShape_ok, Option.bind_some, req_of (inRl (by simpa using hi)), req_of (by simp [len_eq, hv]), inc_nat (by omega)]
  · simp only [L_laws_toShapeS_x7, letO_eq]
    rw [ltl_f, br_f]
theorem laws_toLabel_ok (a : TLabel) : F_laws_toLabel a = some a := rfl
theorem laws_toLabelS_ok (a : List TLabel) (h : a.length ≤ 10000000) : F_laws_toLabelS a = some a := by
  unfold F_laws_toLabelS
  rw [req_of (nneg_len _), req_of (room_le (by rw [len_eq]; omega) (by decide))]
  simp only [letO_eq, s_ofN, s_toNn, len_eq]
  rw [bind_of (while_copy (st := L_laws_toLabelS_x7 a _) a (List.replicate a.length _) (by simp) (fun i hi v hv => ?_) (fun v => ?_)), req_of (by simp)]
  · simp only [L_laws_toLabelS_x7, letO_eq, s_toNn, s_nadd, Nat.zero_add]
    rw [ltl_t hi, br_t, req_of (inRl hi), laws_toLabel_ok, Option.bind_some, req_of (inRl (by simpa using hi)), req_of (by simp [len_eq, hv]), inc_nat (by omega)]
  · simp only [L_laws_toLabelS_x7, letO_eq]
    rw [ltl_f, br_f]
theorem laws_toInstance_ok (a : TInstance) : F_laws_toInstance a = some a := rfl
theorem laws_toInstanceS_ok (a : List TInstance) (h : a.length ≤ 10000000) : F_laws_toInstanceS a = some a := by
  unfold F_laws_toInstanceS
  rw [req_of (nneg_len _), req_of (room_le (by rw [len_eq]; omega) (by decide))]
  simp only [letO_eq, s_ofN, s_toNn, len_eq]
  rw [bind_of (while_copy (st := L_laws_toInstanceS_x7 a _) a (List.replicate a.length _) (by simp) (fun i hi v hv => ?_) (fun v => ?_)), req_of (by simp)]
  · simp only [L_laws_toInstanceS_x7, letO_eq, s_toNn, s_nadd, Nat.zero_add]
    rw [ltl_t hi, br_t, req_of (inRl hi), laws_toInstance_ok, Option.bind_some, req_of (inRl (by simpa using hi)), req_of (by simp [len_eq, hv]), inc_nat (by omega)]
  · simp only [L_laws_toInstanceS_x7, letO_eq]
    rw [ltl_f, br_f]
/-- nothing is great -/
structure SmallC (c : TCell) : Prop where
  name : c.fName.size ≤ 1048576
  shapes : c.fShapes.length ≤ 1048576
  labels : c.fLabels.length ≤ 1048576
  insts : c.fInstances.length ≤ 1048576
  lnames : ∀ l ∈ c.fLabels, l.fName.size ≤ 1048576
structure SmallL (a : TLibrary) : Prop where
  cells : a.fCells.length ≤ 1048576
  cell : ∀ c ∈ a.fCells, SmallC c
theorem laws_toCell_ok (c : TCell) (h : SmallC c) : F_laws_toCell c = some c := by
  unfold F_laws_toCell
  rw [laws_toShapeS_ok _ (by have := h.shapes; omega), laws_toLabelS_ok _ (by have := h.labels; omega), laws_toInstanceS_ok _ (by have := h.insts; omega)]
  rfl
theorem laws_toCellS_ok (a : List TCell) (h : a.length ≤ 1048576) (hc : ∀ c ∈ a, SmallC c) : F_laws_toCellS a = some a := by
  unfold F_laws_toCellS
  rw [req_of (nneg_len _), req_of (room_le (by rw [len_eq]; omega) (by decide))]
  simp only [letO_eq, s_ofN, s_toNn, len_eq, Option.bind_some]
  rw [bind_of (while_copy (st := L_laws_toCellS_x14 a _) a (List.replicate a.length _) (by simp) (fun i hi v hv => ?_) (fun v => ?_)), req_of (by simp)]
  · simp only [L_laws_toCellS_x14, letO_eq, s_toNn, s_nadd, Nat.zero_add]
    rw [ltl_t hi, br_t, req_of (inRl hi), laws_toCell_ok _ (hc _ (gd_mem hi)), Option.bind_some, req_of (inRl (by simpa using hi)), req_of (by simp [len_eq, hv]), inc_nat (by omega)]
    rfl
  · simp only [L_laws_toCellS_x14, letO_eq]
    rw [ltl_f, br_f]
theorem laws_toLibrary_ok (a : TLibrary) (h : SmallL a) : F_laws_toLibrary a = some a := by
  unfold F_laws_toLibrary
  rw [laws_toCellS_ok _ h.cells h.cell]; rfl
-- the sizes
theorem subl_ok {n : Nat} {x : Int} (h : n ≤ maxLen) (hx : 0 ≤ x ∧ x ≤ 1048576) : std.sub .i64 x (std.ofN n) = x - n := by
  have := maxLen_eq
  rw [s_ofN, sub_id (by omega) (by omega)]
theorem laws_szShapeS_ok (a : List TShape) (x : Int) (ha : a.length ≤ maxLen) (hx : 0 ≤ x ∧ x ≤ 1048576) : ∃ y, F_laws_szShapeS a x = some y ∧ (0 ≤ y → y ≤ x ∧ a.length ≤ 1048576) := by
  unfold F_laws_szShapeS
  rw [len_eq, subl_ok ha hx, br_bool, s_lt]
  by_cases h : x - (a.length : Int) < 0
  · exact ⟨-1, by simp [h], fun h => by omega⟩
  · exact ⟨x - a.length, by simp [h], fun _ => ⟨by omega, by omega⟩⟩
theorem laws_szInstanceS_ok (a : List TInstance) (x : Int) (ha : a.length ≤ maxLen) (hx : 0 ≤ x ∧ x ≤ 1048576) : ∃ y, F_laws_szInstanceS a x = some y ∧ (0 ≤ y → y ≤ x ∧ a.length ≤ 1048576) := by
  unfold F_laws_szInstanceS
  rw [len_eq, subl_ok ha hx, br_bool, s_lt]
  by_cases h : x - (a.length : Int) < 0
  · exact ⟨-1, by simp [h], fun h => by omega⟩
  · exact ⟨x - a.length, by simp [h], fun _ => ⟨by omega, by omega⟩⟩
theorem laws_szLabel_ok (a : TLabel) (x : Int) (ha : a.fName.size ≤ maxLen) (hx : 0 ≤ x ∧ x ≤ 1048576) : ∃ y, F_laws_szLabel a x = some y ∧ (0 ≤ y → y ≤ x ∧ a.fName.size ≤ 1048576) := by
  unfold F_laws_szLabel
  rw [s_slen, subl_ok ha hx, br_bool, s_lt]
  by_cases h : x - (a.fName.size : Int) < 0
  · exact ⟨-1, by simp [h], fun h => by omega⟩
  · exact ⟨x - a.fName.size, by simp [h], fun _ => ⟨by omega, by omega⟩⟩
/-- a loop that takes from what is left -/
theorem while_sz {α : Type} [Inhabited α] {st : Int × Int → Option ((Int × Int) ⊕ (Int ⊕ Int))} (l : List α) (ok : α → Prop) (x : Int) (hx : 0 ≤ x ∧ x ≤ 1048576)
    (h : ∀ i, i < l.length → ∀ y : Int, 0 ≤ y ∧ y ≤ 1048576 → ∃ z : Int, (z < 0 ∧ st (y, (i : Int)) = some (.inr (.inl (-1)))) ∨ (0 ≤ z ∧ z ≤ y ∧ ok (gd l i) ∧ st (y, (i : Int)) = some (.inl (z, ((i + 1 : Nat) : Int)))))
    (he : ∀ y, st (y, (l.length : Int)) = some (.inr (.inr y))) : ∃ r, whileP st (x, 0) = some r ∧ (r = .inl (-1) ∨ ∃ z, r = .inr z ∧ 0 ≤ z ∧ z ≤ x ∧ ∀ e ∈ l, ok e) := by
  refine while_ex (fun s => ∃ (i : Nat) (y : Int), s = (y, (i : Int)) ∧ i ≤ l.length ∧ 0 ≤ y ∧ y ≤ x ∧ ∀ j, j < i → ok (gd l j)) _ (fun s => l.length + 1 - s.2.toNat) ⟨0, x, rfl, by omega, by omega, by omega, fun j hj => by omega⟩ ?_
  rintro _ ⟨i, y, rfl, h1, h2, h3, h4⟩
  by_cases hi : i < l.length
  · obtain ⟨z, ⟨_, hz⟩ | ⟨g1, g2, g3, hz⟩⟩ := h i hi y ⟨h2, by omega⟩
    · exact .inr ⟨_, hz, .inl rfl⟩
    · exact .inl ⟨_, hz, ⟨i + 1, z, rfl, by omega, g1, by omega, fun j hj => by
        rcases Nat.lt_or_ge j i with hj' | hj'
        · exact h4 j hj'
        · rw [show j = i by omega]; exact g3⟩, by simp only [Int.toNat_natCast]; omega⟩
  · have hil : i = l.length := by omega
    subst hil
    refine .inr ⟨_, he y, .inr ⟨y, rfl, h2, h3, fun e hm => ?_⟩⟩
    obtain ⟨j, hj, rfl⟩ := List.getElem_of_mem hm
    rw [← gd_lt hj]; exact h4 j hj
theorem laws_szLabelS_ok (a : List TLabel) (x : Int) (ha : a.length ≤ maxLen) (hn : ∀ l ∈ a, l.fName.size ≤ maxLen) (hx : 0 ≤ x ∧ x ≤ 1048576) : ∃ y, F_laws_szLabelS a x = some y ∧ (0 ≤ y → y ≤ x ∧ a.length ≤ 1048576 ∧ ∀ l ∈ a, l.fName.size ≤ 1048576) := by
  have hb := maxLen_eq
  unfold F_laws_szLabelS
  rw [len_eq, subl_ok ha hx, br_bool, s_lt]
  by_cases h : x - (a.length : Int) < 0
  · exact ⟨-1, by simp [h], fun h => by omega⟩
  · rw [if_neg (by simpa using h)]
    obtain ⟨r, h1, h2⟩ := while_sz (st := L_laws_szLabelS_x3 a) a (fun l => l.fName.size ≤ 1048576) (x - a.length) ⟨by omega, by omega⟩ (fun i hi y hy => by
      obtain ⟨z, hz, hz2⟩ := laws_szLabel_ok (gd a i) y (hn _ (gd_mem hi)) hy
      refine ⟨z, ?_⟩
      simp only [L_laws_szLabelS_x3, letO_eq, s_toNn]
      rw [ltl_t hi, br_t, req_of (inRl hi), hz, Option.bind_some, br_bool, s_lt, inc_nat (by omega)]
      by_cases h0 : z < 0
      · exact .inl ⟨h0, by simp [h0]⟩
      · exact .inr ⟨by omega, (hz2 (by omega)).1, (hz2 (by omega)).2, by simp [h0]⟩) (fun y => by
      simp only [L_laws_szLabelS_x3, letO_eq]
      rw [ltl_f, br_f])
    rw [h1, Option.bind_some]
    rcases h2 with rfl | ⟨z, rfl, h3, h4, h5⟩
    · exact ⟨-1, rfl, fun h => by omega⟩
    · exact ⟨z, rfl, fun _ => ⟨by omega, by omega, h5⟩⟩
def wfC (c : TCell) : Prop := c.fName.size ≤ maxLen ∧ c.fShapes.length ≤ maxLen ∧ c.fLabels.length ≤ maxLen ∧ c.fInstances.length ≤ maxLen ∧ ∀ l ∈ c.fLabels, l.fName.size ≤ maxLen
theorem laws_szCell_ok (c : TCell) (x : Int) (hc : wfC c) (hx : 0 ≤ x ∧ x ≤ 1048576) : ∃ y, F_laws_szCell c x = some y ∧ (0 ≤ y → y ≤ x ∧ SmallC c) := by
  obtain ⟨h1, h2, h3, h4, h5⟩ := hc
  unfold F_laws_szCell
  rw [s_slen, subl_ok h1 hx, br_bool, s_lt]
  by_cases h : x - (c.fName.size : Int) < 0
  · exact ⟨-1, by simp [h], fun h => by omega⟩
  · rw [if_neg (by simpa using h)]
    obtain ⟨y1, e1, f1⟩ := laws_szShapeS_ok c.fShapes (x - c.fName.size) h2 ⟨by omega, by omega⟩
    rw [e1, Option.bind_some, br_bool, s_lt]
    by_cases g1 : y1 < 0
    · exact ⟨-1, by simp [g1], fun h => by omega⟩
    · have f1 := f1 (by omega)
      rw [if_neg (by simpa using g1)]
      obtain ⟨y2, e2, f2⟩ := laws_szLabelS_ok c.fLabels y1 h3 h5 ⟨by omega, by omega⟩
      rw [e2, Option.bind_some, br_bool, s_lt]
      by_cases g2 : y2 < 0
      · exact ⟨-1, by simp [g2], fun h => by omega⟩
      · have f2 := f2 (by omega)
        rw [if_neg (by simpa using g2)]
        obtain ⟨y3, e3, f3⟩ := laws_szInstanceS_ok c.fInstances y2 h4 ⟨by omega, by omega⟩
        rw [e3, Option.bind_some, br_bool, s_lt]
        by_cases g3 : y3 < 0
        · exact ⟨-1, by simp [g3], fun h => by omega⟩
        · have f3 := f3 (by omega)
          exact ⟨y3, by simp [g3], fun _ => ⟨by omega, ⟨by omega, f1.2, f2.2.1, f3.2, f2.2.2⟩⟩⟩
def wfLb (a : TLibrary) : Prop := a.fCells.length ≤ maxLen ∧ ∀ c ∈ a.fCells, wfC c
/-- the size of a library: it fits, or the law says nothing -/
theorem laws_szLibrary_ok (a : TLibrary) (ha : wfLb a) : ∃ y, F_laws_szLibrary a 1048576 = some y ∧ (0 ≤ y → SmallL a) := by
  have hb := maxLen_eq
  unfold F_laws_szLibrary F_laws_szCellS
  rw [len_eq, subl_ok ha.1 ⟨by decide, by decide⟩, br_bool, s_lt]
  by_cases h : (1048576 : Int) - (a.fCells.length : Int) < 0
  · exact ⟨-1, by simp [h, br_bool, s_lt], fun h => by omega⟩
  · rw [if_neg (by simpa using h)]
    obtain ⟨r, h1, h2⟩ := while_sz (st := L_laws_szCellS_x3 a.fCells) a.fCells SmallC (1048576 - a.fCells.length) ⟨by omega, by omega⟩ (fun i hi y hy => by
      obtain ⟨z, hz, hz2⟩ := laws_szCell_ok (gd a.fCells i) y (ha.2 _ (gd_mem hi)) hy
      refine ⟨z, ?_⟩
      simp only [L_laws_szCellS_x3, letO_eq, s_toNn]
      have := ha.1
      rw [ltl_t hi, br_t, req_of (inRl hi), hz, Option.bind_some, br_bool, s_lt, inc_nat (by omega)]
      by_cases h0 : z < 0
      · exact .inl ⟨h0, by simp [h0]⟩
      · exact .inr ⟨by omega, (hz2 (by omega)).1, (hz2 (by omega)).2, by simp [h0]⟩) (fun y => by
      simp only [L_laws_szCellS_x3, letO_eq]
      rw [ltl_f, br_f])
    rw [h1, Option.bind_some]
    rcases h2 with rfl | ⟨z, rfl, h3, h4, h5⟩
    · exact ⟨-1, rfl, fun h => by omega⟩
    · refine ⟨z, ?_, fun _ => ⟨by omega, h5⟩⟩
      simp only [letO_eq, Option.bind_some]
      rw [lt_false (by omega), br_f]
-- nothing differs
theorem laws_eqRect_ok (a : TRect) : F_laws_eqRect a a = some true := by unfold F_laws_eqRect; simp [eq_true', s_not, br]
theorem laws_eqShape_ok (a : TShape) : F_laws_eqShape a a = some true := by unfold F_laws_eqShape; simp [eq_true', s_not, br, laws_eqRect_ok]
theorem laws_eqPoint_ok (a : TPoint) : F_laws_eqPoint a a = some true := by unfold F_laws_eqPoint; simp [eq_true', s_not, br]
theorem laws_eqLabel_ok (a : TLabel) : F_laws_eqLabel a a = some true := by unfold F_laws_eqLabel; simp [eq_true', s_not, br, laws_eqPoint_ok, seq_self]
theorem laws_eqTransform_ok (a : TTransform) : F_laws_eqTransform a a = some true := by unfold F_laws_eqTransform; simp [eq_true', s_not, br]
theorem laws_eqInstance_ok (a : TInstance) : F_laws_eqInstance a a = some true := by unfold F_laws_eqInstance; simp [eq_true', s_not, br, laws_eqTransform_ok]
theorem laws_eqShapeS_ok (l : List TShape) (h : l.length ≤ 10000000) : F_laws_eqShapeS l l = some true := by
  unfold F_laws_eqShapeS
  rw [notEq (eq_true' rfl), br_f]
  refine Eq.trans (bind_of (while_eq (r := .inr ()) l.length (fun i hi => ?_) ?_)) rfl
  · simp only [L_laws_eqShapeS_x2, letO_eq, s_toNn, laws_eqShape_ok, Option.bind_some]
    rw [ltl_t hi, br_t, req_of (inRl hi), req_of (inRl hi), inc_nat (by omega)]; rfl
  · simp only [L_laws_eqShapeS_x2, letO_eq]
    rw [ltl_f]; rfl
theorem laws_eqLabelS_ok (l : List TLabel) (h : l.length ≤ 10000000) : F_laws_eqLabelS l l = some true := by
  unfold F_laws_eqLabelS
  rw [notEq (eq_true' rfl), br_f]
  refine Eq.trans (bind_of (while_eq (r := .inr ()) l.length (fun i hi => ?_) ?_)) rfl
  · simp only [L_laws_eqLabelS_x2, letO_eq, s_toNn, laws_eqLabel_ok, Option.bind_some]
    rw [ltl_t hi, br_t, req_of (inRl hi), req_of (inRl hi), inc_nat (by omega)]; rfl
  · simp only [L_laws_eqLabelS_x2, letO_eq]
    rw [ltl_f]; rfl
theorem laws_eqInstanceS_ok (l : List TInstance) (h : l.length ≤ 10000000) : F_laws_eqInstanceS l l = some true := by
  unfold F_laws_eqInstanceS
  rw [notEq (eq_true' rfl), br_f]
  refine Eq.trans (bind_of (while_eq (r := .inr ()) l.length (fun i hi => ?_) ?_)) rfl
  · simp only [L_laws_eqInstanceS_x2, letO_eq, s_toNn, laws_eqInstance_ok, Option.bind_some]
    rw [ltl_t hi, br_t, req_of (inRl hi), req_of (inRl hi), inc_nat (by omega)]; rfl
  · simp only [L_laws_eqInstanceS_x2, letO_eq]
    rw [ltl_f]; rfl
theorem laws_eqCell_ok (c : TCell) (h : SmallC c) : F_laws_eqCell c c = some true := by
  unfold F_laws_eqCell
  rw [laws_eqShapeS_ok _ (by have := h.shapes; omega), laws_eqLabelS_ok _ (by have := h.labels; omega), laws_eqInstanceS_ok _ (by have := h.insts; omega)]
  simp [seq_self, s_not, br]
theorem laws_eqLibrary_ok (a : TLibrary) (h : SmallL a) : F_laws_eqLibrary a a = some true := by
  have hl := h.cells
  unfold F_laws_eqLibrary F_laws_eqCellS
  rw [notEq (eq_true' rfl), br_f]
  rw [bind_of (while_eq (st := L_laws_eqCellS_x2 a.fCells a.fCells) (r := .inr ()) a.fCells.length (fun i hi => ?_) ?_)]
  · rfl
  · simp only [L_laws_eqCellS_x2, letO_eq]
    rw [ltl_f]; rfl
  · simp only [L_laws_eqCellS_x2, letO_eq, s_toNn]
    rw [ltl_t hi, br_t, req_of (inRl hi), req_of (inRl hi), laws_eqCell_ok _ (h.cell _ (gd_mem hi)), inc_nat (by omega)]; rfl
noncomputable def okCell (c : TCell) (k : Int) : Bool := isName c.fName && (decide (c.fShapes.length ≤ 24) && (decide (c.fLabels.length ≤ 8) && (decide (c.fInstances.length ≤ 8) && (c.fShapes.all okShape && (c.fLabels.all okLabel && c.fInstances.all fun x => okInst x k)))))
theorem lt_lit (n : Nat) (k : Nat) : std.lt (k : Int) (std.ofN n) = !decide (n ≤ k) := by
  rw [s_lt, s_ofN]
  by_cases h : n ≤ k
  · have : ¬ ((k : Int) < (n : Int)) := by omega
    simp [h, this]
  · have : ((k : Int) < (n : Int)) := by omega
    simp [h, this]
theorem spec_l09Cell_ok (c : TCell) (k : Int) (h : SmallC c) : F_spec_l09Cell c k = some (okCell c k) := by
  have hb := maxLen_eq
  have e24 := lt_lit c.fShapes.length 24
  have e8 := lt_lit c.fLabels.length 8
  have e8' := lt_lit c.fInstances.length 8
  have s1 := h.shapes; have s2 := h.labels; have s3 := h.insts
  unfold F_spec_l09Cell okCell
  rw [spec_IsName_ok _ (by have := h.name; omega)]
  simp only [Option.bind_some, letO_eq, len_eq, show (24 : Int) = ((24 : Nat) : Int) from rfl, show (8 : Int) = ((8 : Nat) : Int) from rfl, e24, e8, e8']
  cases isName c.fName with
  | false => rfl
  | true =>
    cases decide (c.fShapes.length ≤ 24) with
    | false => rfl
    | true =>
      cases decide (c.fLabels.length ≤ 8) with
      | false => rfl
      | true =>
        cases decide (c.fInstances.length ≤ 8) with
        | false => rfl
        | true =>
          simp only [Bool.not_true, br_f, Option.bind_some, Bool.true_and]
          rw [bind_of (scan (ok := fun i => okShape (gd c.fShapes i)) (n := c.fShapes.length) (yes := .inr ()) (no := .inl false) (fun i hi => ?_) ?_), range_all]
          · cases c.fShapes.all okShape with
            | false => rfl
            | true =>
              simp only [if_true, Bool.true_and]
              rw [bind_of (scan (ok := fun i => okLabel (gd c.fLabels i)) (n := c.fLabels.length) (yes := .inr ()) (no := .inl false) (fun i hi => ?_) ?_), range_all]
              · cases c.fLabels.all okLabel with
                | false => rfl
                | true =>
                  simp only [if_true, Bool.true_and]
                  rw [bind_of (scan (ok := fun i => okInst (gd c.fInstances i) k) (n := c.fInstances.length) (yes := .inr ()) (no := .inl false) (fun i hi => ?_) ?_), range_all (fun x => okInst x k)]
                  · cases c.fInstances.all fun x => okInst x k <;> rfl
                  · simp only [L_spec_l09Cell_x52, letO_eq]
                    rw [ltl_f, br_f]
                  · simp only [L_spec_l09Cell_x52, letO_eq, s_toNn]
                    rw [ltl_t hi, br_t, req_of (inRl hi), spec_l09Instance_ok, Option.bind_some, inc_nat (by omega)]
                    cases okInst (gd c.fInstances i) k <;> rfl
              · simp only [L_spec_l09Cell_x33, letO_eq]
                rw [ltl_f, br_f]
              · simp only [L_spec_l09Cell_x33, letO_eq, s_toNn]
                rw [ltl_t hi, br_t, req_of (inRl hi), spec_l09Label_ok _ (by have := h.lnames _ (gd_mem hi); omega), Option.bind_some, inc_nat (by omega)]
                cases okLabel (gd c.fLabels i) <;> rfl
          · simp only [L_spec_l09Cell_x14, letO_eq]
            rw [ltl_f, br_f]
          · simp only [L_spec_l09Cell_x14, letO_eq, s_toNn]
            rw [ltl_t hi, br_t, req_of (inRl hi), spec_l09Shape_ok, Option.bind_some, inc_nat (by omega)]
            cases okShape (gd c.fShapes i) <;> rfl
/-- a loop that stops at the first element that is met -/
theorem scan_first {step : Int → Option (Int ⊕ (Int ⊕ Unit))} {p : Nat → Bool} {n : Nat} (h : ∀ i : Nat, i < n → step i = some (cond (p i) (.inr (.inl (i : Int))) (.inl ((i + 1 : Nat) : Int)))) (hn : step n = some (.inr (.inr ()))) :
    whileP step 0 = some (match (List.range n).find? p with | some i => .inl (i : Int) | none => .inr ()) := by
  have key : ∀ m i : Nat, i + m = n → whileP step i = some (match (List.range' i m).find? p with | some i => .inl (i : Int) | none => .inr ()) := by
    intro m
    induction m with
    | zero =>
      intro i hi
      have : i = n := by omega
      subst this
      rw [whileP_unfold, hn]; rfl
    | succ m ih =>
      intro i hi
      rw [whileP_unfold, h i (by omega)]
      cases hb : p i with
      | true => simp [List.range', hb]
      | false =>
        simp only [cond]
        rw [ih (i + 1) (by omega)]
        simp [List.range', hb]
  have := key n 0 (by omega)
  rw [List.range_eq_range']
  exact this
noncomputable def firstI (p : Nat → Bool) (n : Nat) : Int := match (List.range n).find? p with | some i => (i : Int) | none => -1
theorem firstI_any (p : Nat → Bool) (n : Nat) : std.le 0 (firstI p n) = (List.range n).any p := by
  unfold firstI
  cases h : (List.range n).find? p with
  | none =>
    rw [List.find?_eq_none] at h
    have : (List.range n).any p = false := by rw [List.any_eq_false]; exact h
    rw [this]; show std.le 0 (-1) = false; exact le_false (by omega)
  | some i =>
    have h1 := List.find?_some h
    have h2 := List.mem_of_find?_eq_some h
    have : (List.range n).any p = true := by rw [List.any_eq_true]; exact ⟨i, h2, h1⟩
    rw [this]; show std.le 0 (i : Int) = true; exact le_true (by omega)
theorem range_any {α : Type} [Inhabited α] (p : α → Bool) (l : List α) : (List.range l.length).any (fun i => !p (gd l i)) = !l.all p := by
  rw [← range_all p l, List.all_eq_not_any_not, Bool.not_not]
theorem containsShape (l : List TShape) (h : l.length ≤ 10000000) : F_slices_ContainsFunc_Limpl_Shape_impl_Shape_mbFimpl_validCell_1 l = some (!l.all okShape) := by
  unfold F_slices_ContainsFunc_Limpl_Shape_impl_Shape_mbFimpl_validCell_1 F_slices_IndexFunc_Limpl_Shape_impl_Shape_mbFimpl_validCell_1
  rw [bind_of (scan_first (p := fun i => !okShape (gd l i)) (n := l.length) (fun i hi => ?_) ?_)]
  · rw [← range_any okShape l, ← firstI_any]
    unfold firstI
    cases (List.range l.length).find? (fun i => !okShape (gd l i)) <;> rfl
  · simp only [L_slices_IndexFunc_Limpl_Shape_impl_Shape_mbFimpl_validCell_1_x2, letO_eq]
    rw [ltl_f, br_f]
  · simp only [L_slices_IndexFunc_Limpl_Shape_impl_Shape_mbFimpl_validCell_1_x2, letO_eq, s_toNn, F_impl_validCell_1]
    rw [ltl_t hi, br_t, req_of (inRl hi), impl_validShape_ok, Option.bind_some, Option.bind_some, inc_nat (by omega)]
    cases okShape (gd l i) <;> rfl
theorem containsLabel (l : List TLabel) (h : l.length ≤ 10000000) (hn : ∀ x ∈ l, x.fName.size ≤ maxLen) : F_slices_ContainsFunc_Limpl_Label_impl_Label_mbFimpl_validCell_2 l = some (!l.all okLabel) := by
  unfold F_slices_ContainsFunc_Limpl_Label_impl_Label_mbFimpl_validCell_2 F_slices_IndexFunc_Limpl_Label_impl_Label_mbFimpl_validCell_2
  rw [bind_of (scan_first (p := fun i => !okLabel (gd l i)) (n := l.length) (fun i hi => ?_) ?_)]
  · rw [← range_any okLabel l, ← firstI_any]
    unfold firstI
    cases (List.range l.length).find? (fun i => !okLabel (gd l i)) <;> rfl
  · simp only [L_slices_IndexFunc_Limpl_Label_impl_Label_mbFimpl_validCell_2_x2, letO_eq]
    rw [ltl_f, br_f]
  · simp only [L_slices_IndexFunc_Limpl_Label_impl_Label_mbFimpl_validCell_2_x2, letO_eq, s_toNn, F_impl_validCell_2]
    rw [ltl_t hi, br_t, req_of (inRl hi), impl_validLabel_ok _ (hn _ (gd_mem hi)), Option.bind_some, Option.bind_some, inc_nat (by omega)]
    cases okLabel (gd l i) <;> rfl
theorem containsInst (l : List TInstance) (k : Int) (h : l.length ≤ 10000000) : F_slices_ContainsFunc_Limpl_Instance_impl_Instance_mbFimpl_validCell_3p l k = some (!l.all fun x => okInst x k) := by
  unfold F_slices_ContainsFunc_Limpl_Instance_impl_Instance_mbFimpl_validCell_3p F_slices_IndexFunc_Limpl_Instance_impl_Instance_mbFimpl_validCell_3p
  rw [bind_of (scan_first (p := fun i => !okInst (gd l i) k) (n := l.length) (fun i hi => ?_) ?_)]
  · rw [← range_any (fun x => okInst x k) l, ← firstI_any]
    unfold firstI
    cases (List.range l.length).find? (fun i => !okInst (gd l i) k) <;> rfl
  · simp only [L_slices_IndexFunc_Limpl_Instance_impl_Instance_mbFimpl_validCell_3p_x2, letO_eq]
    rw [ltl_f, br_f]
  · simp only [L_slices_IndexFunc_Limpl_Instance_impl_Instance_mbFimpl_validCell_3p_x2, letO_eq, s_toNn, F_impl_validCell_3_mbp]
    rw [ltl_t hi, br_t, req_of (inRl hi), impl_validInstance_ok, Option.bind_some, Option.bind_some, inc_nat (by omega)]
    cases okInst (gd l i) k <;> rfl
theorem impl_validCell_ok (c : TCell) (k : Int) (h : SmallC c) : F_impl_validCell c k = some (okCell c k) := by
  have hb := maxLen_eq
  have e24 := lt_lit c.fShapes.length 24
  have e8 := lt_lit c.fLabels.length 8
  have e8' := lt_lit c.fInstances.length 8
  unfold F_impl_validCell okCell
  rw [impl_IsName_ok _ (by have := h.name; omega), containsShape _ (by have := h.shapes; omega), containsLabel _ (by have := h.labels; omega) (fun x hx => by have := h.lnames x hx; omega), containsInst _ _ (by have := h.insts; omega)]
  simp only [Option.bind_some, letO_eq, len_eq, show (24 : Int) = ((24 : Nat) : Int) from rfl, show (8 : Int) = ((8 : Nat) : Int) from rfl, e24, e8, e8']
  cases isName c.fName <;> cases decide (c.fShapes.length ≤ 24) <;> cases decide (c.fLabels.length ≤ 8) <;> cases decide (c.fInstances.length ≤ 8) <;> cases c.fShapes.all okShape <;> cases c.fLabels.all okLabel <;> cases (c.fInstances.all fun x => okInst x k) <;> rfl
/-- the first cell with this name -/
noncomputable def namedI (l : List TCell) (s : ByteArray) : Int := firstI (fun i => std.seq (gd l i).fName s) l.length
theorem impl_named_ok (a : TLibrary) (s : ByteArray) (h : a.fCells.length ≤ 10000000) : F_impl_named a s = some (namedI a.fCells s) := by
  unfold F_impl_named F_slices_IndexFunc_Limpl_Cell_impl_Cell_mbFimpl_named_1p
  rw [bind_of (scan_first (p := fun i => std.seq (gd a.fCells i).fName s) (n := a.fCells.length) (fun i hi => ?_) ?_)]
  · unfold namedI firstI
    cases (List.range a.fCells.length).find? (fun i => std.seq (gd a.fCells i).fName s) <;> rfl
  · simp only [L_slices_IndexFunc_Limpl_Cell_impl_Cell_mbFimpl_named_1p_x2, letO_eq]
    rw [ltl_f, br_f]
  · simp only [L_slices_IndexFunc_Limpl_Cell_impl_Cell_mbFimpl_named_1p_x2, letO_eq, s_toNn, F_impl_named_1_mbp]
    rw [ltl_t hi, br_t, req_of (inRl hi), Option.bind_some, inc_nat (by omega)]
    cases std.seq (gd a.fCells i).fName s <;> rfl
/-- no cell ahead of k has its name -/
noncomputable def fresh (l : List TCell) (k : Nat) : Bool := (List.range k).all fun j => !std.seq (gd l j).fName (gd l k).fName
theorem find_first (p : Nat → Bool) (n k : Nat) (hk : k < n) (hp : p k = true) : (List.range n).find? p = some k ↔ (List.range k).all (fun j => !p j) = true := by
  rw [List.all_eq_true, List.find?_eq_some_iff_append]
  constructor
  · rintro ⟨h1, l1, l2, h2, h3⟩ j hj
    apply h3
    have hlen : l1.length = k := by
      have h4 : (List.range n)[l1.length]? = some k := by rw [h2]; simp
      have hlt : l1.length < n := by
        have := (List.getElem?_eq_some_iff.1 h4).1
        simpa using this
      rw [List.getElem?_range hlt] at h4
      injection h4
    have h5 : l1 = List.range k := by
      have := congrArg (List.take l1.length) h2
      rw [List.take_left', List.take_range] at this
      · rw [← this, hlen]; congr 1; omega
      · rfl
    rw [h5]; exact hj
  · intro h
    refine ⟨hp, List.range k, List.range' (k + 1) (n - (k + 1)), ?_, fun j hj => h j hj⟩
    rw [List.range_eq_range', List.range_eq_range', show n = k + (1 + (n - (k + 1))) by omega, ← List.range'_append_1, Nat.add_comm 1, List.range'_succ]
    simp
    omega
theorem named_first (l : List TCell) (k : Nat) (hk : k < l.length) : std.eq (namedI l (gd l k).fName) (k : Int) = fresh l k := by
  rw [s_eq, Bool.eq_iff_iff]
  unfold fresh
  rw [← find_first (fun i => std.seq (gd l i).fName (gd l k).fName) l.length k hk (seq_self _)]
  unfold namedI firstI
  cases h : (List.range l.length).find? (fun i => std.seq (gd l i).fName (gd l k).fName) with
  | none => simp
  | some i => simp; omega
noncomputable def okLib (a : TLibrary) : Bool := decide (1 ≤ a.fCells.length) && (decide (a.fCells.length ≤ 8) && (List.range a.fCells.length).all fun k => okCell (gd a.fCells k) k && fresh a.fCells k)
theorem lt_one (n : Nat) : std.lt (std.ofN n) 1 = !decide (1 ≤ n) := by
  rw [s_lt, s_ofN]
  by_cases h : 1 ≤ n
  · have : ¬ ((n : Int) < 1) := by omega
    simp [h, this]
  · have : ((n : Int) < 1) := by omega
    simp [h, this]
theorem spec_IsValidLibrary_ok (a : TLibrary) (h : SmallL a) : F_spec_IsValidLibrary a = some (okLib a) := by
  have hl := h.cells
  have e8 := lt_lit a.fCells.length 8
  unfold F_spec_IsValidLibrary okLib
  simp only [letO_eq, len_eq, show (8 : Int) = ((8 : Nat) : Int) from rfl, e8, lt_one]
  cases decide (1 ≤ a.fCells.length) with
  | false => rfl
  | true =>
    cases decide (a.fCells.length ≤ 8) with
    | false => rfl
    | true =>
      simp only [Bool.not_true, br_f, Option.bind_some, Bool.true_and]
      rw [bind_of (scan (ok := fun k => okCell (gd a.fCells k) k && fresh a.fCells k) (n := a.fCells.length) (yes := .inr ()) (no := .inl false) (fun i hi => ?_) ?_)]
      · cases (List.range a.fCells.length).all fun k => okCell (gd a.fCells k) k && fresh a.fCells k <;> rfl
      · simp only [L_spec_IsValidLibrary_x10, letO_eq]
        rw [ltl_f, br_f]
      · simp only [L_spec_IsValidLibrary_x10, letO_eq, s_toNn]
        rw [ltl_t hi, br_t, req_of (inRl hi), spec_l09Cell_ok _ _ (h.cell _ (gd_mem hi)), Option.bind_some, inc_nat (by omega)]
        cases okCell (gd a.fCells i) (i : Int) with
        | false => rfl
        | true =>
          simp only [Bool.not_true, br_f, Bool.true_and]
          rw [bind_of (scan (ok := fun j => !std.seq (gd a.fCells j).fName (gd a.fCells i).fName) (n := i) (yes := .inr ()) (no := .inl false) (fun j hj => ?_) ?_)]
          · unfold fresh
            cases (List.range i).all fun j => !std.seq (gd a.fCells j).fName (gd a.fCells i).fName <;> rfl
          · simp only [L_spec_IsValidLibrary_x26, letO_eq]
            rw [lt_false (by omega), br_f]
          · simp only [L_spec_IsValidLibrary_x26, letO_eq, s_toNn]
            rw [lt_true (by omega), br_t, req_of (inRl (by omega)), req_of (inRl hi), inc_nat (by omega)]
            cases std.seq (gd a.fCells j).fName (gd a.fCells i).fName <;> rfl
theorem impl_IsValidLibrary_ok (a : TLibrary) (h : SmallL a) : F_impl_IsValidLibrary a = some (okLib a) := by
  have hl := h.cells
  have e8 := lt_lit a.fCells.length 8
  unfold F_impl_IsValidLibrary okLib
  simp only [letO_eq, len_eq, show (8 : Int) = ((8 : Nat) : Int) from rfl, e8, lt_one]
  cases decide (1 ≤ a.fCells.length) with
  | false => rfl
  | true =>
    cases decide (a.fCells.length ≤ 8) with
    | false => rfl
    | true =>
      simp only [Bool.not_true, br_f, Option.bind_some, Bool.true_and]
      rw [bind_of (scan (ok := fun k => okCell (gd a.fCells k) k && fresh a.fCells k) (n := a.fCells.length) (yes := .inr ()) (no := .inl false) (fun i hi => ?_) ?_)]
      · cases (List.range a.fCells.length).all fun k => okCell (gd a.fCells k) k && fresh a.fCells k <;> rfl
      · simp only [L_impl_IsValidLibrary_x10, letO_eq]
        rw [ltl_f, br_f]
      · simp only [L_impl_IsValidLibrary_x10, letO_eq, s_toNn]
        rw [ltl_t hi, br_t, req_of (inRl hi), impl_validCell_ok _ _ (h.cell _ (gd_mem hi)), Option.bind_some, inc_nat (by omega)]
        cases okCell (gd a.fCells i) (i : Int) with
        | false => rfl
        | true =>
          simp only [Bool.not_true, br_f, Bool.true_and]
          rw [impl_named_ok _ _ (show a.fCells.length ≤ 10000000 by omega), Option.bind_some, named_first _ _ hi]
          cases fresh a.fCells i <;> rfl
theorem wfC_of {c : TCell} (h : wfCell c) : wfC c := ⟨h.1, h.2.1.1, h.2.2.1.1, h.2.2.2.1, fun l hl => (h.2.2.1.2 l hl).2.2⟩
theorem wfLb_of {a : TLibrary} (h : wfLibrary a) : wfLb a := ⟨h.1, fun c hc => wfC_of (h.2 c hc)⟩
/- copies of libraries -/
theorem roomC {n b : Nat} (hn : n ≤ 10000000) (hb : b ≤ 1000) : std.room n b := by
  rw [s_room]
  exact Nat.le_trans (Nat.mul_le_mul hn hb) (by omega)
theorem cloneShape_ok (l : List TShape) (h : l.length ≤ 10000000) : F_slices_Clone_Limpl_Shape_impl_Shape l = some l := by
  unfold F_slices_Clone_Limpl_Shape_impl_Shape nilB
  have e : (letO ([] : List TShape) fun l1 => req (std.room (std.nadd (len l1) (len l)) 40) <| letO (l1 ++ l) fun l3 => some l3) = some l := by
    simp only [letO_eq]
    rw [req_of (roomC (by rw [s_nadd, len_eq, len_eq]; simp; omega) (by omega)), List.nil_append]
  rw [e]
  by_cases h0 : l.length = 0
  · rw [List.length_eq_zero_iff.1 h0]; simp
  · rw [if_neg (by rw [len_eq]; omega)]
theorem cloneLabel_ok (l : List TLabel) (h : l.length ≤ 10000000) : F_slices_Clone_Limpl_Label_impl_Label l = some l := by
  unfold F_slices_Clone_Limpl_Label_impl_Label nilB
  have e : (letO ([] : List TLabel) fun l1 => req (std.room (std.nadd (len l1) (len l)) 40) <| letO (l1 ++ l) fun l3 => some l3) = some l := by
    simp only [letO_eq]
    rw [req_of (roomC (by rw [s_nadd, len_eq, len_eq]; simp; omega) (by omega)), List.nil_append]
  rw [e]
  by_cases h0 : l.length = 0
  · rw [List.length_eq_zero_iff.1 h0]; simp
  · rw [if_neg (by rw [len_eq]; omega)]
theorem cloneInstance_ok (l : List TInstance) (h : l.length ≤ 10000000) : F_slices_Clone_Limpl_Instance_impl_Instance l = some l := by
  unfold F_slices_Clone_Limpl_Instance_impl_Instance nilB
  have e : (letO ([] : List TInstance) fun l1 => req (std.room (std.nadd (len l1) (len l)) 64) <| letO (l1 ++ l) fun l3 => some l3) = some l := by
    simp only [letO_eq]
    rw [req_of (roomC (by rw [s_nadd, len_eq, len_eq]; simp; omega) (by omega)), List.nil_append]
  rw [e]
  by_cases h0 : l.length = 0
  · rw [List.length_eq_zero_iff.1 h0]; simp
  · rw [if_neg (by rw [len_eq]; omega)]
theorem impl_copyCell_ok (c : TCell) (h : SmallC c) : F_impl_copyCell c = some c := by
  have h1 := h.shapes
  have h2 := h.labels
  have h3 := h.insts
  unfold F_impl_copyCell
  rw [cloneShape_ok _ (by omega), Option.bind_some, cloneLabel_ok _ (by omega), Option.bind_some, cloneInstance_ok _ (by omega), Option.bind_some]
theorem spec_CopyCell_ok (c : TCell) (h : SmallC c) : F_spec_l09CopyCell c = some c := by
  have h1 := h.shapes
  have h2 := h.labels
  have h3 := h.insts
  unfold F_spec_l09CopyCell
  simp only [letO_eq]
  rw [req_of (roomC (by rw [s_nadd, len_eq, len_eq, List.length_nil]; omega) (by omega)), req_of (roomC (by rw [s_nadd, len_eq, len_eq, List.length_nil]; omega) (by omega)), req_of (roomC (by rw [s_nadd, len_eq, len_eq, List.length_nil]; omega) (by omega))]
  rfl
theorem impl_copyLibrary_ok (a : TLibrary) (h : SmallL a) : F_impl_copyLibrary a = some a := by
  have hl := h.cells
  unfold F_impl_copyLibrary
  rw [show whileP (L_impl_copyLibrary_x3 a) (0, ([] : List TCell)) = some a.fCells from ?_]
  · rfl
  refine while_from (fun i => ((i : Int), a.fCells.take i)) a.fCells.length rfl (fun i hi => ?_) ?_
  · simp only [L_impl_copyLibrary_x3, letO_eq]
    rw [ltl_t hi, br_t, req_of (inRl hi), s_toNn, impl_copyCell_ok _ (h.cell _ (gd_mem hi)), Option.bind_some, req_of (roomC (by rw [s_nadd, len_eq, len_eq, List.length_take, List.length_singleton]; omega) (by omega)), Option.bind_some, inc_nat (by omega), List.take_succ_eq_append_getElem hi, gd_lt hi]
  · simp only [L_impl_copyLibrary_x3, letO_eq]
    rw [ltl_f, br_f, List.take_length]
theorem spec_Copy_ok (a : TLibrary) (h : SmallL a) : F_spec_l09Copy a = some a := by
  have hl := h.cells
  unfold F_spec_l09Copy
  rw [show whileP (L_spec_l09Copy_x3 a) (0, ([] : List TCell)) = some a.fCells from ?_]
  · rfl
  refine while_from (fun i => ((i : Int), a.fCells.take i)) a.fCells.length rfl (fun i hi => ?_) ?_
  · simp only [L_spec_l09Copy_x3, letO_eq]
    rw [ltl_t hi, br_t, req_of (inRl hi), s_toNn, spec_CopyCell_ok _ (h.cell _ (gd_mem hi)), Option.bind_some, req_of (roomC (by rw [s_nadd, len_eq, len_eq, List.length_take, List.length_singleton]; omega) (by omega)), Option.bind_some, inc_nat (by omega), List.take_succ_eq_append_getElem hi, gd_lt hi]
  · simp only [L_spec_l09Copy_x3, letO_eq]
    rw [ltl_f, br_f, List.take_length]
/- what the marks write -/
theorem gd_set_selfM {α : Type} [Inhabited α] (l : List α) (i : Nat) (x : α) (h : i < l.length) : gd (l.set i x) i = x := by
  rw [gd_lt (by simpa using h)]; simp
theorem req_reflM {α β : Type} (x : α) (k : Option β) : req (x = x) k = k := req_of rfl
theorem markText_ex (n : Nat) (h : n ≤ 1000000000000000) : ∃ s, F_laws_markText (n : Int) = some s ∧ s.size ≤ 20 := by
  unfold F_laws_markText
  by_cases h0 : n = 0
  · subst h0
    exact ⟨_, rfl, by decide⟩
  · rw [le_false (by omega), br_f]
    obtain ⟨r, h1, h2⟩ := while_ex (step := L_laws_markText_x3) (x0 := ((n : Int), ByteArray.mk #[])) (fun x => ∃ v : Nat, x.1 = (v : Int) ∧ v * 10 ^ x.2.size ≤ n ∧ x.2.size ≤ 17) (fun r => r.size ≤ 17) (fun x => x.1.toNat) ⟨n, rfl, by simp [ByteArray.size], by simp [ByteArray.size]⟩ (by
      rintro ⟨x, s⟩ ⟨v, hv, hle, hs⟩
      simp only at hv hle hs
      subst hv
      simp only [L_laws_markText_x3, letO_eq]
      by_cases hp : 0 < v
      · have hs15 : s.size ≤ 15 := by
          rcases Nat.lt_or_ge s.size 16 with h | h
          · omega
          · have h3 : 10 ^ 16 ≤ 10 ^ s.size := Nat.pow_le_pow_right (by omega) h
            have h4 : 1 * 10 ^ s.size ≤ v * 10 ^ s.size := Nat.mul_le_mul_right _ hp
            have h5 : 10 ^ 16 = 10000000000000000 := by decide
            omega
        have nz : std.nz 10 := by rw [s_nz]; decide
        have hq : std.quo .i64 (v : Int) 10 = ((v / 10 : Nat) : Int) := by
          show IntKind.i64.wrap ((v : Int).tdiv 10) = _
          have e : (v : Int).tdiv 10 = ((v / 10 : Nat) : Int) := rfl
          have hv15 : v ≤ n := by
            have h4 : v * 1 ≤ v * 10 ^ s.size := Nat.mul_le_mul_left _ (Nat.pos_of_ne_zero (by simp))
            omega
          rw [e, wrap_id (by omega) (by omega)]
        have hsz : (std.scat (std.ofBytes (len [std.conv .u8 (std.add .i64 48 (std.rem (v : Int) 10))]) fun i => gd [std.conv .u8 (std.add .i64 48 (std.rem (v : Int) 10))] (0 + i)) s).size = s.size + 1 := by
          rw [scat_size]
          have := ofL_size [std.conv .u8 (std.add .i64 48 (std.rem (v : Int) 10))]
          unfold ofL at this
          rw [this]; simp; omega
        have hl1 : std.slen (std.ofBytes (len [std.conv .u8 (std.add .i64 48 (std.rem (v : Int) 10))]) fun i => gd [std.conv .u8 (std.add .i64 48 (std.rem (v : Int) 10))] (0 + i)) = 1 := by
          have := ofL_len [std.conv .u8 (std.add .i64 48 (std.rem (v : Int) 10))]
          unfold ofL at this
          rw [this]; rfl
        rw [lt_true (by omega), br_t, req_of nz, hl1, req_of (room1 (by rw [s_slen]; omega)), req_of nz, hq]
        refine .inl ⟨_, rfl, ⟨v / 10, rfl, ?_, by simp only; rw [hsz]; omega⟩, by simp only [Int.toNat_natCast]; omega⟩
        simp only
        rw [hsz, Nat.pow_succ]
        have h6 : v / 10 * 10 ≤ v := by omega
        have h7 : v / 10 * (10 ^ s.size * 10) = (v / 10 * 10) * 10 ^ s.size := by rw [Nat.mul_comm (10 ^ s.size) 10, Nat.mul_assoc]
        rw [h7]
        exact Nat.le_trans (Nat.mul_le_mul_right _ h6) hle
      · rw [lt_false (by omega), br_f]
        exact .inr ⟨_, rfl, hs⟩)
    rw [h1]
    simp only [Option.bind_some, letO_eq]
    have h1' : (ByteArray.mk #[109]).size = 1 := rfl
    rw [req_of (room1 (by rw [s_slen, s_slen, h1']; omega))]
    exact ⟨_, rfl, by rw [scat_size, h1']; omega⟩
noncomputable def mkT (n : Nat) : ByteArray := (F_laws_markText (n : Int)).getD (ByteArray.mk #[])
theorem markText_ok (n : Nat) (h : n ≤ 1000000000000000) : F_laws_markText (n : Int) = some (mkT n) := by
  obtain ⟨s, hs, _⟩ := markText_ex n h
  unfold mkT
  rw [hs]; rfl
def mShape (k i : Nat) : TShape := ⟨((k + 5 * i : Nat) : Int), ⟨((k + 5 * i + 1 : Nat) : Int), ((k + 5 * i + 1 + 1 : Nat) : Int), ((k + 5 * i + 1 + 1 + 1 : Nat) : Int), ((k + 5 * i + 1 + 1 + 1 + 1 : Nat) : Int)⟩⟩
set_option maxHeartbeats 4000000 in
theorem markShapeS_ok (l : List TShape) (k : Nat) (h : k + 5 * l.length ≤ 1000000000000000) : F_laws_markShapeS_mob l k = some (((k + 5 * l.length : Nat) : Int), (List.range l.length).map (mShape k)) := by
  unfold F_laws_markShapeS_mob
  refine Eq.trans (bind_of (while_from (r := (((k + 5 * l.length : Nat) : Int), (List.range l.length).map (mShape k))) (fun i => (((k + 5 * i : Nat) : Int), (i : Int), markd (mShape k) l i)) l.length (by simp [markd_zero]) (fun i hi => ?_) ?_)) ?_
  · have hml : (markd (mShape k) l i).length = l.length := markd_len _ _ _ (by omega)
    have hmi : i < (markd (mShape k) l i).length := by rw [hml]; exact hi
    have hin : std.inR (i : Int) l.length := inRl hi
    have hlt : std.lt (i : Int) (std.ofN l.length) = true := ltl_t hi
    have a1 : std.add .i64 ((k + 5 * i : Nat) : Int) 1 = ((k + 5 * i + 1 : Nat) : Int) := inc_nat (by omega)
    have a2 : std.add .i64 ((k + 5 * i + 1 : Nat) : Int) 1 = ((k + 5 * i + 1 + 1 : Nat) : Int) := inc_nat (by omega)
    have a3 : std.add .i64 ((k + 5 * i + 1 + 1 : Nat) : Int) 1 = ((k + 5 * i + 1 + 1 + 1 : Nat) : Int) := inc_nat (by omega)
    have a4 : std.add .i64 ((k + 5 * i + 1 + 1 + 1 : Nat) : Int) 1 = ((k + 5 * i + 1 + 1 + 1 + 1 : Nat) : Int) := inc_nat (by omega)
    have a5 : std.add .i64 ((k + 5 * i + 1 + 1 + 1 + 1 : Nat) : Int) 1 = ((k + 5 * i + 1 + 1 + 1 + 1 + 1 : Nat) : Int) := inc_nat (by omega)
    have b1 : std.add .i64 (i : Int) 1 = ((i + 1 : Nat) : Int) := inc_nat (by omega)
    simp only [L_laws_markShapeS_mob_x4, letO_eq, s_toNn, s_nadd, Nat.zero_add, len_eq, List.length_set, hml, hlt, br_t, req_of hin, req_reflM, List.set_set, gd_set_selfM _ _ _ hmi, a1, a2, a3, a4, a5, b1]
    try simp only [req_true]
    rw [← markd_set (mShape k) l i hi]
    rfl
  · simp only [L_laws_markShapeS_mob_x4, letO_eq]
    rw [ltl_f, br_f, markd_full]
  · simp only [letO_eq]
    rw [req_of (by simp [len_eq])]
noncomputable def mLabel (k i : Nat) : TLabel := ⟨((k + 4 * i : Nat) : Int), ⟨((k + 4 * i + 1 : Nat) : Int), ((k + 4 * i + 1 + 1 : Nat) : Int)⟩, mkT (k + 4 * i + 1 + 1 + 1)⟩
set_option maxHeartbeats 4000000 in
theorem markLabelS_ok (l : List TLabel) (k : Nat) (h : k + 4 * l.length ≤ 1000000000000000) : F_laws_markLabelS_mob l k = some (((k + 4 * l.length : Nat) : Int), (List.range l.length).map (mLabel k)) := by
  unfold F_laws_markLabelS_mob
  refine Eq.trans (bind_of (while_from (r := (((k + 4 * l.length : Nat) : Int), (List.range l.length).map (mLabel k))) (fun i => (((k + 4 * i : Nat) : Int), (i : Int), markd (mLabel k) l i)) l.length (by simp [markd_zero]) (fun i hi => ?_) ?_)) ?_
  · have hml : (markd (mLabel k) l i).length = l.length := markd_len _ _ _ (by omega)
    have hmi : i < (markd (mLabel k) l i).length := by rw [hml]; exact hi
    have hin : std.inR (i : Int) l.length := inRl hi
    have hlt : std.lt (i : Int) (std.ofN l.length) = true := ltl_t hi
    have a1 : std.add .i64 ((k + 4 * i : Nat) : Int) 1 = ((k + 4 * i + 1 : Nat) : Int) := inc_nat (by omega)
    have a2 : std.add .i64 ((k + 4 * i + 1 : Nat) : Int) 1 = ((k + 4 * i + 1 + 1 : Nat) : Int) := inc_nat (by omega)
    have a3 : std.add .i64 ((k + 4 * i + 1 + 1 : Nat) : Int) 1 = ((k + 4 * i + 1 + 1 + 1 : Nat) : Int) := inc_nat (by omega)
    have a4 : std.add .i64 ((k + 4 * i + 1 + 1 + 1 : Nat) : Int) 1 = ((k + 4 * i + 1 + 1 + 1 + 1 : Nat) : Int) := inc_nat (by omega)
    have b1 : std.add .i64 (i : Int) 1 = ((i + 1 : Nat) : Int) := inc_nat (by omega)
    have hT : F_laws_markText ((k + 4 * i + 1 + 1 + 1 : Nat) : Int) = some (mkT (k + 4 * i + 1 + 1 + 1)) := markText_ok _ (by omega)
    simp only [L_laws_markLabelS_mob_x4, letO_eq, s_toNn, s_nadd, Nat.zero_add, len_eq, List.length_set, hml, hlt, br_t, req_of hin, req_reflM, List.set_set, gd_set_selfM _ _ _ hmi, a1, a2, a3, a4, b1, hT, Option.bind_some]
    try simp only [req_true]
    rw [← markd_set (mLabel k) l i hi]
    rfl
  · simp only [L_laws_markLabelS_mob_x4, letO_eq]
    rw [ltl_f, br_f, markd_full]
  · simp only [letO_eq]
    rw [req_of (by simp [len_eq])]
def mInstance (k i : Nat) : TInstance := ⟨((k + 8 * i : Nat) : Int), ⟨((k + 8 * i + 1 : Nat) : Int), ((k + 8 * i + 1 + 1 : Nat) : Int), ((k + 8 * i + 1 + 1 + 1 : Nat) : Int)⟩, ((k + 8 * i + 1 + 1 + 1 + 1 : Nat) : Int), ((k + 8 * i + 1 + 1 + 1 + 1 + 1 : Nat) : Int), ((k + 8 * i + 1 + 1 + 1 + 1 + 1 + 1 : Nat) : Int), ((k + 8 * i + 1 + 1 + 1 + 1 + 1 + 1 + 1 : Nat) : Int)⟩
set_option maxHeartbeats 4000000 in
theorem markInstanceS_ok (l : List TInstance) (k : Nat) (h : k + 8 * l.length ≤ 1000000000000000) : F_laws_markInstanceS_mob l k = some (((k + 8 * l.length : Nat) : Int), (List.range l.length).map (mInstance k)) := by
  unfold F_laws_markInstanceS_mob
  refine Eq.trans (bind_of (while_from (r := (((k + 8 * l.length : Nat) : Int), (List.range l.length).map (mInstance k))) (fun i => (((k + 8 * i : Nat) : Int), (i : Int), markd (mInstance k) l i)) l.length (by simp [markd_zero]) (fun i hi => ?_) ?_)) ?_
  · have hml : (markd (mInstance k) l i).length = l.length := markd_len _ _ _ (by omega)
    have hmi : i < (markd (mInstance k) l i).length := by rw [hml]; exact hi
    have hin : std.inR (i : Int) l.length := inRl hi
    have hlt : std.lt (i : Int) (std.ofN l.length) = true := ltl_t hi
    have a1 : std.add .i64 ((k + 8 * i : Nat) : Int) 1 = ((k + 8 * i + 1 : Nat) : Int) := inc_nat (by omega)
    have a2 : std.add .i64 ((k + 8 * i + 1 : Nat) : Int) 1 = ((k + 8 * i + 1 + 1 : Nat) : Int) := inc_nat (by omega)
    have a3 : std.add .i64 ((k + 8 * i + 1 + 1 : Nat) : Int) 1 = ((k + 8 * i + 1 + 1 + 1 : Nat) : Int) := inc_nat (by omega)
    have a4 : std.add .i64 ((k + 8 * i + 1 + 1 + 1 : Nat) : Int) 1 = ((k + 8 * i + 1 + 1 + 1 + 1 : Nat) : Int) := inc_nat (by omega)
    have a5 : std.add .i64 ((k + 8 * i + 1 + 1 + 1 + 1 : Nat) : Int) 1 = ((k + 8 * i + 1 + 1 + 1 + 1 + 1 : Nat) : Int) := inc_nat (by omega)
    have a6 : std.add .i64 ((k + 8 * i + 1 + 1 + 1 + 1 + 1 : Nat) : Int) 1 = ((k + 8 * i + 1 + 1 + 1 + 1 + 1 + 1 : Nat) : Int) := inc_nat (by omega)
    have a7 : std.add .i64 ((k + 8 * i + 1 + 1 + 1 + 1 + 1 + 1 : Nat) : Int) 1 = ((k + 8 * i + 1 + 1 + 1 + 1 + 1 + 1 + 1 : Nat) : Int) := inc_nat (by omega)
    have a8 : std.add .i64 ((k + 8 * i + 1 + 1 + 1 + 1 + 1 + 1 + 1 : Nat) : Int) 1 = ((k + 8 * i + 1 + 1 + 1 + 1 + 1 + 1 + 1 + 1 : Nat) : Int) := inc_nat (by omega)
    have b1 : std.add .i64 (i : Int) 1 = ((i + 1 : Nat) : Int) := inc_nat (by omega)
    simp only [L_laws_markInstanceS_mob_x4, letO_eq, s_toNn, s_nadd, Nat.zero_add, len_eq, List.length_set, hml, hlt, br_t, req_of hin, req_reflM, List.set_set, gd_set_selfM _ _ _ hmi, a1, a2, a3, a4, a5, a6, a7, a8, b1]
    try simp only [req_true]
    rw [← markd_set (mInstance k) l i hi]
    rfl
  · simp only [L_laws_markInstanceS_mob_x4, letO_eq]
    rw [ltl_f, br_f, markd_full]
  · simp only [letO_eq]
    rw [req_of (by simp [len_eq])]
/-- how many numbers the marks of a cell take -/
def wtC (c : TCell) : Nat := 1 + 5 * c.fShapes.length + 4 * c.fLabels.length + 8 * c.fInstances.length
noncomputable def mCell (c : TCell) (K : Nat) : TCell := ⟨mkT K, (List.range c.fShapes.length).map (mShape (K + 1)), (List.range c.fLabels.length).map (mLabel (K + 1 + 5 * c.fShapes.length)), (List.range c.fInstances.length).map (mInstance (K + 1 + 5 * c.fShapes.length + 4 * c.fLabels.length))⟩
def offC (l : List TCell) : Nat → Nat
  | 0 => 0
  | i + 1 => offC l i + wtC (gd l i)
theorem wtC_le {c : TCell} (h : SmallC c) : wtC c ≤ 20000000 := by
  have h1 := h.shapes
  have h2 := h.labels
  have h3 := h.insts
  unfold wtC; omega
theorem offC_le {l : List TCell} (hc : ∀ c ∈ l, SmallC c) : ∀ i, i ≤ l.length → offC l i ≤ i * 20000000
  | 0, _ => by simp [offC]
  | i + 1, h => by
    have h1 := offC_le hc i (by omega)
    have h2 := wtC_le (hc _ (gd_mem (show i < l.length by omega)))
    show offC l i + wtC (gd l i) ≤ _
    omega
noncomputable def mC (l : List TCell) (k i : Nat) : TCell := mCell (gd l i) (k + offC l i)
theorem markd_gdM {α : Type} [Inhabited α] (f : Nat → α) (a : List α) (i : Nat) (h : i < a.length) : gd (markd f a i) i = gd a i := by
  unfold gd markd
  rw [List.getD_eq_getElem?_getD, List.getD_eq_getElem?_getD, List.getElem?_append_right (by simp)]
  simp
theorem markCellS_ok (l : List TCell) (k : Nat) (hl : l.length ≤ 1048576) (hc : ∀ c ∈ l, SmallC c) (hk : k ≤ 100000000000000) : F_laws_markCellS_mob l k = some (((k + offC l l.length : Nat) : Int), (List.range l.length).map (mC l k)) := by
  unfold F_laws_markCellS_mob
  refine Eq.trans (bind_of (while_from (r := (((k + offC l l.length : Nat) : Int), (List.range l.length).map (mC l k))) (fun i => (((k + offC l i : Nat) : Int), (i : Int), markd (mC l k) l i)) l.length (by simp [markd_zero, offC]) (fun i hi => ?_) ?_)) ?_
  · have ho := offC_le hc i (by omega)
    have h2 := wtC_le (hc _ (gd_mem hi))
    obtain ⟨c, hcd⟩ : ∃ c, c = gd l i := ⟨_, rfl⟩
    obtain ⟨K, hK⟩ : ∃ K, K = k + offC l i := ⟨_, rfl⟩
    rw [← hcd] at h2
    unfold wtC at h2
    have hml : (markd (mC l k) l i).length = l.length := markd_len _ _ _ (by omega)
    have hmi : i < (markd (mC l k) l i).length := by rw [hml]; exact hi
    have hin : std.inR (i : Int) l.length := inRl hi
    have hlt : std.lt (i : Int) (std.ofN l.length) = true := ltl_t hi
    have hg : gd (markd (mC l k) l i) i = c := by rw [markd_gdM _ _ _ hi, hcd]
    have e1 : offC l (i + 1) = offC l i + wtC c := by rw [hcd]; rfl
    have hS := markShapeS_ok c.fShapes (K + 1) (by omega)
    have hL := markLabelS_ok c.fLabels (K + 1 + 5 * c.fShapes.length) (by omega)
    have hI := markInstanceS_ok c.fInstances (K + 1 + 5 * c.fShapes.length + 4 * c.fLabels.length) (by omega)
    have a1 : std.add .i64 ((K : Nat) : Int) 1 = ((K + 1 : Nat) : Int) := inc_nat (by omega)
    have b1 : std.add .i64 (i : Int) 1 = ((i + 1 : Nat) : Int) := inc_nat (by omega)
    have hT := markText_ok K (by omega)
    rw [← hK]
    simp only [L_laws_markCellS_mob_x4, letO_eq, s_toNn, s_nadd, Nat.zero_add, len_eq, List.length_set, hml, hlt, br_t, hT, Option.bind_some, req_of hin, req_reflM, req_true, List.set_set, gd_set_selfM _ _ _ hmi, hg, a1, hS, hL, hI, List.length_map, List.length_range, b1]
    rw [e1, ← markd_set (mC l k) l i hi]
    have e2 : mC l k i = mCell c K := by unfold mC; rw [← hcd, ← hK]
    have e3 : K + 1 + 5 * c.fShapes.length + 4 * c.fLabels.length + 8 * c.fInstances.length = k + (offC l i + wtC c) := by unfold wtC; omega
    rw [e2, e3]
    rfl
  · simp only [L_laws_markCellS_mob_x4, letO_eq]
    rw [ltl_f, br_f, markd_full]
  · simp only [letO_eq]
    rw [req_of (by simp [len_eq])]
theorem markLibrary_ok (a : TLibrary) (k : Nat) (h : SmallL a) (hk : k ≤ 100000000000000) : F_laws_markLibrary_mob a k = some (((k + offC a.fCells a.fCells.length : Nat) : Int), (List.range a.fCells.length).map (mC a.fCells k)) := by
  unfold F_laws_markLibrary_mob
  rw [markCellS_ok _ _ h.cells h.cell hk, Option.bind_some, req_of (by simp [len_eq]), req_of (by simp [len_eq])]
/- what was marked is held -/
theorem heldLabelS_ok (n k : Nat) (h : k + 4 * n ≤ 1000000000000000) : F_laws_heldLabelS ((List.range n).map (mLabel k)) k = some ((k + 4 * n : Nat) : Int) := by
  unfold F_laws_heldLabelS
  have hL : ((List.range n).map (mLabel k)).length = n := by simp
  refine Eq.trans (bind_of (while_from (r := .inr ((k + 4 * n : Nat) : Int)) (fun i => (((k + 4 * i : Nat) : Int), (i : Int))) n rfl (fun i hi => ?_) ?_)) rfl
  · have hin : std.inR (i : Int) n := inRn hi
    have hlt : std.lt (i : Int) (std.ofN n) = true := lt_true (by rw [s_ofN]; omega)
    have a1 : std.add .i64 ((k + 4 * i : Nat) : Int) 1 = ((k + 4 * i + 1 : Nat) : Int) := inc_nat (by omega)
    have a2 : std.add .i64 ((k + 4 * i + 1 : Nat) : Int) 1 = ((k + 4 * i + 1 + 1 : Nat) : Int) := inc_nat (by omega)
    have a3 : std.add .i64 ((k + 4 * i + 1 + 1 : Nat) : Int) 1 = ((k + 4 * i + 1 + 1 + 1 : Nat) : Int) := inc_nat (by omega)
    have a4 : std.add .i64 ((k + 4 * i + 1 + 1 + 1 : Nat) : Int) 1 = ((k + 4 * i + 1 + 1 + 1 + 1 : Nat) : Int) := inc_nat (by omega)
    have b1 : std.add .i64 (i : Int) 1 = ((i + 1 : Nat) : Int) := inc_nat (by omega)
    have hT : F_laws_markText ((k + 4 * i + 1 + 1 + 1 : Nat) : Int) = some (mkT (k + 4 * i + 1 + 1 + 1)) := markText_ok _ (by omega)
    simp only [L_laws_heldLabelS_x3, letO_eq, s_toNn, len_eq, hL, hlt, br_t, req_of hin, range_gd (mLabel k) n i hi, a1, a2, a3, a4, b1]
    simp only [mLabel, notEq (eq_true' rfl), br_f, hT, Option.bind_some, seq_self, s_not, Bool.not_true]
    rfl
  · simp only [L_laws_heldLabelS_x3, letO_eq, len_eq, hL]
    rw [lt_false (by rw [s_ofN]; omega), br_f]
/- what was marked is held -/
theorem heldShapeS_ok (n k : Nat) (h : k + 5 * n ≤ 1000000000000000) : F_laws_heldShapeS ((List.range n).map (mShape k)) k = some ((k + 5 * n : Nat) : Int) := by
  unfold F_laws_heldShapeS
  have hL : ((List.range n).map (mShape k)).length = n := by simp
  refine Eq.trans (bind_of (while_from (r := .inr ((k + 5 * n : Nat) : Int)) (fun i => (((k + 5 * i : Nat) : Int), (i : Int))) n rfl (fun i hi => ?_) ?_)) rfl
  · have hin : std.inR (i : Int) n := inRn hi
    have hlt : std.lt (i : Int) (std.ofN n) = true := lt_true (by rw [s_ofN]; omega)
    have a1 : std.add .i64 ((k + 5 * i : Nat) : Int) 1 = ((k + 5 * i + 1 : Nat) : Int) := inc_nat (by omega)
    have a2 : std.add .i64 ((k + 5 * i + 1 : Nat) : Int) 1 = ((k + 5 * i + 1 + 1 : Nat) : Int) := inc_nat (by omega)
    have a3 : std.add .i64 ((k + 5 * i + 1 + 1 : Nat) : Int) 1 = ((k + 5 * i + 1 + 1 + 1 : Nat) : Int) := inc_nat (by omega)
    have a4 : std.add .i64 ((k + 5 * i + 1 + 1 + 1 : Nat) : Int) 1 = ((k + 5 * i + 1 + 1 + 1 + 1 : Nat) : Int) := inc_nat (by omega)
    have a5 : std.add .i64 ((k + 5 * i + 1 + 1 + 1 + 1 : Nat) : Int) 1 = ((k + 5 * i + 1 + 1 + 1 + 1 + 1 : Nat) : Int) := inc_nat (by omega)
    have b1 : std.add .i64 (i : Int) 1 = ((i + 1 : Nat) : Int) := inc_nat (by omega)
    simp only [L_laws_heldShapeS_x3, letO_eq, s_toNn, len_eq, hL, hlt, br_t, req_of hin, range_gd (mShape k) n i hi, a1, a2, a3, a4, a5, b1]
    simp only [mShape, notEq (eq_true' rfl), br_f]
    rfl
  · simp only [L_laws_heldShapeS_x3, letO_eq, len_eq, hL]
    rw [lt_false (by rw [s_ofN]; omega), br_f]
theorem heldInstanceS_ok (n k : Nat) (h : k + 8 * n ≤ 1000000000000000) : F_laws_heldInstanceS ((List.range n).map (mInstance k)) k = some ((k + 8 * n : Nat) : Int) := by
  unfold F_laws_heldInstanceS
  have hL : ((List.range n).map (mInstance k)).length = n := by simp
  refine Eq.trans (bind_of (while_from (r := .inr ((k + 8 * n : Nat) : Int)) (fun i => (((k + 8 * i : Nat) : Int), (i : Int))) n rfl (fun i hi => ?_) ?_)) rfl
  · have hin : std.inR (i : Int) n := inRn hi
    have hlt : std.lt (i : Int) (std.ofN n) = true := lt_true (by rw [s_ofN]; omega)
    have a1 : std.add .i64 ((k + 8 * i : Nat) : Int) 1 = ((k + 8 * i + 1 : Nat) : Int) := inc_nat (by omega)
    have a2 : std.add .i64 ((k + 8 * i + 1 : Nat) : Int) 1 = ((k + 8 * i + 1 + 1 : Nat) : Int) := inc_nat (by omega)
    have a3 : std.add .i64 ((k + 8 * i + 1 + 1 : Nat) : Int) 1 = ((k + 8 * i + 1 + 1 + 1 : Nat) : Int) := inc_nat (by omega)
    have a4 : std.add .i64 ((k + 8 * i + 1 + 1 + 1 : Nat) : Int) 1 = ((k + 8 * i + 1 + 1 + 1 + 1 : Nat) : Int) := inc_nat (by omega)
    have a5 : std.add .i64 ((k + 8 * i + 1 + 1 + 1 + 1 : Nat) : Int) 1 = ((k + 8 * i + 1 + 1 + 1 + 1 + 1 : Nat) : Int) := inc_nat (by omega)
    have a6 : std.add .i64 ((k + 8 * i + 1 + 1 + 1 + 1 + 1 : Nat) : Int) 1 = ((k + 8 * i + 1 + 1 + 1 + 1 + 1 + 1 : Nat) : Int) := inc_nat (by omega)
    have a7 : std.add .i64 ((k + 8 * i + 1 + 1 + 1 + 1 + 1 + 1 : Nat) : Int) 1 = ((k + 8 * i + 1 + 1 + 1 + 1 + 1 + 1 + 1 : Nat) : Int) := inc_nat (by omega)
    have a8 : std.add .i64 ((k + 8 * i + 1 + 1 + 1 + 1 + 1 + 1 + 1 : Nat) : Int) 1 = ((k + 8 * i + 1 + 1 + 1 + 1 + 1 + 1 + 1 + 1 : Nat) : Int) := inc_nat (by omega)
    have b1 : std.add .i64 (i : Int) 1 = ((i + 1 : Nat) : Int) := inc_nat (by omega)
    simp only [L_laws_heldInstanceS_x3, letO_eq, s_toNn, len_eq, hL, hlt, br_t, req_of hin, range_gd (mInstance k) n i hi, a1, a2, a3, a4, a5, a6, a7, a8, b1]
    simp only [mInstance, notEq (eq_true' rfl), br_f]
    rfl
  · simp only [L_laws_heldInstanceS_x3, letO_eq, len_eq, hL]
    rw [lt_false (by rw [s_ofN]; omega), br_f]
theorem heldCellS_ok (l : List TCell) (k : Nat) (hl : l.length ≤ 1048576) (hc : ∀ c ∈ l, SmallC c) (hk : k ≤ 100000000000000) : F_laws_heldCellS ((List.range l.length).map (mC l k)) k = some ((k + offC l l.length : Nat) : Int) := by
  unfold F_laws_heldCellS
  have hL : ((List.range l.length).map (mC l k)).length = l.length := by simp
  refine Eq.trans (bind_of (while_from (r := .inr ((k + offC l l.length : Nat) : Int)) (fun i => (((k + offC l i : Nat) : Int), (i : Int))) l.length rfl (fun i hi => ?_) ?_)) rfl
  · have ho := offC_le hc i (by omega)
    have h2 := wtC_le (hc _ (gd_mem hi))
    obtain ⟨c, hcd⟩ : ∃ c, c = gd l i := ⟨_, rfl⟩
    obtain ⟨K, hK⟩ : ∃ K, K = k + offC l i := ⟨_, rfl⟩
    rw [← hcd] at h2
    unfold wtC at h2
    have hin : std.inR (i : Int) l.length := inRl hi
    have hlt : std.lt (i : Int) (std.ofN l.length) = true := ltl_t hi
    have e1 : offC l (i + 1) = offC l i + wtC c := by rw [hcd]; rfl
    have e2 : mC l k i = mCell c K := by unfold mC; rw [← hcd, ← hK]
    have e3 : K + 1 + 5 * c.fShapes.length + 4 * c.fLabels.length + 8 * c.fInstances.length = k + (offC l i + wtC c) := by unfold wtC; omega
    have hS := heldShapeS_ok c.fShapes.length (K + 1) (by omega)
    have hLb := heldLabelS_ok c.fLabels.length (K + 1 + 5 * c.fShapes.length) (by omega)
    have hI := heldInstanceS_ok c.fInstances.length (K + 1 + 5 * c.fShapes.length + 4 * c.fLabels.length) (by omega)
    have a1 : std.add .i64 ((K : Nat) : Int) 1 = ((K + 1 : Nat) : Int) := inc_nat (by omega)
    have b1 : std.add .i64 (i : Int) 1 = ((i + 1 : Nat) : Int) := inc_nat (by omega)
    have hT := markText_ok K (by omega)
    rw [← hK]
    simp only [L_laws_heldCellS_x3, letO_eq, s_toNn, len_eq, hL, hlt, br_t, req_of hin, range_gd (mC l k) l.length i hi, a1, b1, e2, hT, Option.bind_some]
    simp only [mCell, seq_self, s_not, Bool.not_true, br_f, hS, hLb, hI, Option.bind_some]
    rw [lt_false (by omega), br_f]
    try simp only [hLb, hI, Option.bind_some]
    rw [lt_false (by omega), br_f]
    try simp only [hI, Option.bind_some]
    rw [lt_false (by omega), br_f, e1, e3]
  · simp only [L_laws_heldCellS_x3, letO_eq, len_eq, hL]
    rw [lt_false (by rw [s_ofN]; omega), br_f]
theorem heldLibrary_ok (a : TLibrary) (k : Nat) (h : SmallL a) (hk : k ≤ 100000000000000) : F_laws_heldLibrary ⟨(List.range a.fCells.length).map (mC a.fCells k)⟩ k = some ((k + offC a.fCells a.fCells.length : Nat) : Int) := by
  unfold F_laws_heldLibrary
  rw [heldCellS_ok _ _ h.cells h.cell hk, Option.bind_some, lt_false (by omega), br_f]
/- NewEditor -/
noncomputable def newR (a : TLibrary) : TEditor × Bool := if okLib a then (⟨a, [], []⟩, true) else (⟨⟨[]⟩, [], []⟩, false)
theorem spec_NewEditor_ok (a : TLibrary) (h : SmallL a) : F_spec_NewEditor a = some (newR a) := by
  unfold F_spec_NewEditor newR
  rw [show TLibrary.mk a.fCells = a from rfl, spec_IsValidLibrary_ok a h, Option.bind_some, spec_Copy_ok a h]
  cases okLib a <;> rfl
theorem impl_NewEditor_ok (a : TLibrary) (h : SmallL a) : F_impl_NewEditor a = some (newR a) := by
  unfold F_impl_NewEditor newR
  rw [show TLibrary.mk a.fCells = a from rfl, impl_IsValidLibrary_ok a h, Option.bind_some, impl_copyLibrary_ok a h]
  cases okLib a <;> rfl
theorem eqEditSS_nil : F_laws_eqEditSS [] [] = some true := by
  unfold F_laws_eqEditSS
  rw [notEq (eq_true' rfl), br_f]
  refine Eq.trans (bind_of (while_eq (r := .inr ()) 0 (fun i hi => by omega) ?_)) rfl
  simp only [L_laws_eqEditSS_x2, letO_eq]
  rfl
theorem eqEditor_ok (a : TLibrary) (h : SmallL a) : F_laws_eqEditor ⟨a, [], []⟩ ⟨a, [], []⟩ = some true := by
  unfold F_laws_eqEditor
  simp only [laws_eqLibrary_ok a h, eqEditSS_nil, Option.bind_some, Bool.not_true, br_f]
theorem markEditSS_nil (k : Int) : F_laws_markEditSS_mnb [] k = some k := by
  unfold F_laws_markEditSS_mnb
  rw [whileP_unfold]
  rfl
theorem heldEditSS_nil (k : Int) : F_laws_heldEditSS [] k = some k := by
  unfold F_laws_heldEditSS
  rw [whileP_unfold]
  rfl
theorem newR_small (a : TLibrary) (h : SmallL a) : SmallL (newR a).1.fCurrent := by
  unfold newR
  split
  · exact h
  · exact ⟨by simp, fun c hc => by cases hc⟩
theorem lawW_NewEditor (a : TLibrary) (w : wfLibrary a) : F_laws_FnExactNewEditor a = some true := by
  unfold F_laws_FnExactNewEditor
  obtain ⟨y, hy, hs⟩ := laws_szLibrary_ok a (wfLb_of w)
  rw [hy, Option.bind_some, br_bool, s_lt]
  by_cases h0 : y < 0
  · rw [if_pos (by simpa using h0)]
  · have h := hs (by omega)
    rw [if_neg (by simpa using h0)]
    obtain ⟨b, hb⟩ : ∃ b, b = (newR a).1.fCurrent := ⟨_, rfl⟩
    have hbs : SmallL b := by rw [hb]; exact newR_small a h
    have m1 := markLibrary_ok a 1 h (by omega)
    have m2 := markLibrary_ok b 1 hbs (by omega)
    have m3 := heldLibrary_ok b 1 hbs (by omega)
    have e1 : ((1 : Nat) : Int) = 1 := rfl
    rw [e1] at m1 m2 m3
    have hml : ((List.range b.fCells.length).map (mC b.fCells 1)).length = b.fCells.length := by simp
    have m4 : F_laws_markEditor_monnb ⟨b, [], []⟩ 1 = some (((1 + offC b.fCells b.fCells.length : Nat) : Int), (List.range b.fCells.length).map (mC b.fCells 1)) := by
      unfold F_laws_markEditor_monnb
      simp only [m2, Option.bind_some, markEditSS_nil]
      rw [req_of (by rw [len_eq, len_eq, hml]), req_of (by rw [len_eq, len_eq, hml])]
    have m5 : F_laws_heldEditor ⟨⟨(List.range b.fCells.length).map (mC b.fCells 1)⟩, [], []⟩ 1 = some ((1 + offC b.fCells b.fCells.length : Nat) : Int) := by
      unfold F_laws_heldEditor
      simp only [m3, Option.bind_some, heldEditSS_nil]
      rw [lt_false (by omega)]
      rfl
    simp only [laws_toLibrary_ok a h, Option.bind_some, spec_NewEditor_ok a h, impl_NewEditor_ok a h, laws_eqLibrary_ok a h, ← hb, eqEditor_ok b hbs, Bool.not_true, br_f, m1, m4, m5, letO_eq, s_beq, beq_self_eq_true, s_not]
    rw [req_of (by simp [len_eq]), lt_false (by omega), br_f, Option.bind_some, br_f, req_of (by rw [len_eq, len_eq, hml]), req_of (by rw [len_eq, len_eq, hml]), lt_false (by omega), br_f, eq_true' rfl]
    simp only [Bool.not_true, br_f]
    rw [req_of (by rw [len_eq, len_eq, hml])]
end Go.Proofs.Ytmdlnjeppemipaa.AM
