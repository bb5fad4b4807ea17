/-
  What the functions that the law reaches compute, and that they do. No condition.
-/
import Derived.Test.YtmdlnjeppemipaaAmIY
import Derived.Test.YtmdlnjeppemipaaAmP
namespace Go.Proofs.Ytmdlnjeppemipaa.AM
open Go Go.Proofs Go.RowKit
set_option linter.unusedVariables false
set_option linter.unusedSimpArgs false
set_option maxRecDepth 100000

noncomputable def wB (a b c : Int) : Bool := std.le b a && std.le a c
theorem spec_l09In_ok (a b c : Int) : F_spec_l09In a b c = some (wB a b c) := by
  unfold F_spec_l09In wB
  cases std.le b a <;> rfl
theorem impl_within_ok (a b c : Int) : F_impl_within a b c = some (wB a b c) := by
  unfold F_impl_within wB
  cases std.le b a <;> rfl
noncomputable def okRect (a : TRect) : Bool := std.le (-40) a.fX0 && (std.lt a.fX0 a.fX1 && (std.le a.fX1 40 && (std.le (-40) a.fY0 && (std.lt a.fY0 a.fY1 && std.le a.fY1 40))))
theorem spec_l09Rect_ok (a : TRect) : F_spec_l09Rect a = some (okRect a) := by
  unfold F_spec_l09Rect okRect
  cases std.le (-40) a.fX0 <;> cases std.lt a.fX0 a.fX1 <;> cases std.le a.fX1 40 <;> cases std.le (-40) a.fY0 <;> cases std.lt a.fY0 a.fY1 <;> rfl
theorem impl_IsValidRect_ok (a : TRect) : F_impl_IsValidRect a = some (okRect a) := by
  unfold F_impl_IsValidRect okRect
  cases std.le (-40) a.fX0 <;> cases std.lt a.fX0 a.fX1 <;> cases std.le a.fX1 40 <;> cases std.le (-40) a.fY0 <;> cases std.lt a.fY0 a.fY1 <;> rfl
theorem spec_l09Layer_ok (a : Int) : F_spec_l09Layer a = some (wB a 0 7) := by
  unfold F_spec_l09Layer
  rw [spec_l09In_ok]; rfl
noncomputable def okShape (a : TShape) : Bool := wB a.fLayer 0 7 && okRect a.fBox
theorem spec_l09Shape_ok (a : TShape) : F_spec_l09Shape a = some (okShape a) := by
  unfold F_spec_l09Shape okShape
  rw [spec_l09Layer_ok, spec_l09Rect_ok]
  cases wB a.fLayer 0 7 <;> rfl
theorem impl_validShape_ok (a : TShape) : F_impl_validShape a = some (okShape a) := by
  unfold F_impl_validShape okShape
  rw [impl_within_ok, impl_IsValidRect_ok]
  cases wB a.fLayer 0 7 <;> rfl
noncomputable def okPoint (a : TPoint) : Bool := wB a.fX (-40) 39 && wB a.fY (-40) 39
theorem spec_l09Unit_ok (a : TPoint) : F_spec_l09Unit a = some (okPoint a) := by
  unfold F_spec_l09Unit okPoint
  rw [spec_l09In_ok, spec_l09In_ok]
  cases wB a.fX (-40) 39 <;> rfl
theorem impl_isUnitCell_ok (a : TPoint) : F_impl_isUnitCell a = some (okPoint a) := by
  unfold F_impl_isUnitCell okPoint
  rw [impl_within_ok, impl_within_ok]
  cases wB a.fX (-40) 39 <;> rfl
noncomputable def okName (s : ByteArray) (i : Nat) : Bool :=
  (std.le 97 (std.sat s i) && std.le (std.sat s i) 122) || (std.le 48 (std.sat s i) && std.le (std.sat s i) 57)
noncomputable def isName (s : ByteArray) : Bool := (List.range s.size).all (okName s) && (decide (1 ≤ s.size) && decide (s.size ≤ 8))
theorem lt_le (a b : Int) : std.lt a b = !std.le b a := by
  rw [s_lt, s_le]
  by_cases h : a < b
  · have : ¬ b ≤ a := by omega
    simp [h]
  · have : b ≤ a := by omega
    simp [h, this]
theorem nameEnd (s : ByteArray) (b : Bool) : ((match (if b then .inr () else .inl () : Unit ⊕ Unit) with
    | .inl _ => some false
    | .inr _ => ((br (std.le 1 (std.ofN (std.slen s))) (some (std.le (std.ofN (std.slen s)) 8)) (some false)) : Option Bool).bind fun y33 => letO y33 fun w39 => some w39) : Option Bool) = some (b && (decide (1 ≤ s.size) && decide (s.size ≤ 8))) := by
  cases b with
  | false => rfl
  | true =>
    have e1 : std.le 1 (std.ofN (std.slen s)) = decide (1 ≤ s.size) := by rw [s_le, s_ofN, s_slen]; congr 1; simp; omega
    have e2 : std.le (std.ofN (std.slen s)) 8 = decide (s.size ≤ 8) := by rw [s_le, s_ofN, s_slen]; congr 1; simp; omega
    simp only [if_true, e1, e2, br_bool, letO_eq, Bool.true_and]
    cases decide (1 ≤ s.size) <;> rfl
theorem spec_IsName_ok (s : ByteArray) (hs : s.size ≤ maxLen) : F_spec_IsName s = some (isName s) := by
  have hb := maxLen_eq
  unfold F_spec_IsName
  refine Eq.trans (bind_of (scan (ok := okName s) (n := s.size) (yes := .inr ()) (no := .inl ()) (fun i hi => ?_) ?_)) (nameEnd s _)
  · simp only [L_spec_IsName_x2, letO_eq, s_toNn, req_of (show std.inR (i : Int) (std.slen s) from inRn hi), okName]
    rw [lt_true (by rw [s_ofN, s_slen]; omega), br_t, inc_nat (by omega)]
    generalize std.sat s i = c
    cases std.le 97 c <;> cases std.le c 122 <;> cases std.le 48 c <;> cases std.le c 57 <;> rfl
  · simp only [L_spec_IsName_x2, letO_eq]
    rw [lt_false (by rw [s_ofN, s_slen]; omega)]; rfl
theorem impl_IsName_ok (s : ByteArray) (hs : s.size ≤ maxLen) : F_impl_IsName s = some (isName s) := by
  have hb := maxLen_eq
  unfold F_impl_IsName
  refine Eq.trans (bind_of (scan (ok := okName s) (n := s.size) (yes := .inr ()) (no := .inl ()) (fun i hi => ?_) ?_)) (nameEnd s _)
  · simp only [L_impl_IsName_x2, letO_eq, s_toNn, req_of (show std.inR (i : Int) (std.slen s) from inRn hi), okName]
    rw [lt_true (by rw [s_ofN, s_slen]; omega), br_t, inc_nat (by omega)]
    generalize std.sat s i = c
    rw [lt_le c 97, lt_le c 48, lt_le 122 c, lt_le 57 c]
    cases std.le 97 c <;> cases std.le c 122 <;> cases std.le 48 c <;> cases std.le c 57 <;> rfl
  · simp only [L_impl_IsName_x2, letO_eq]
    rw [lt_false (by rw [s_ofN, s_slen]; omega)]; rfl
noncomputable def okLabel (a : TLabel) : Bool := wB a.fLayer 0 7 && (okPoint a.fAt && isName a.fName)
theorem spec_l09Label_ok (a : TLabel) (h : a.fName.size ≤ maxLen) : F_spec_l09Label a = some (okLabel a) := by
  unfold F_spec_l09Label okLabel
  rw [spec_l09Layer_ok, spec_l09Unit_ok, spec_IsName_ok _ h]
  cases wB a.fLayer 0 7 <;> cases okPoint a.fAt <;> rfl
theorem impl_validLabel_ok (a : TLabel) (h : a.fName.size ≤ maxLen) : F_impl_validLabel a = some (okLabel a) := by
  unfold F_impl_validLabel okLabel
  rw [impl_within_ok, impl_isUnitCell_ok, impl_IsName_ok _ h]
  cases wB a.fLayer 0 7 <;> cases okPoint a.fAt <;> rfl
noncomputable def okTr (a : TTransform) : Bool := wB a.fOrientation 0 7 && (wB a.fX (-80) 80 && wB a.fY (-80) 80)
theorem spec_l09Transform_ok (a : TTransform) : F_spec_l09Transform a = some (okTr a) := by
  unfold F_spec_l09Transform okTr
  simp only [spec_l09In_ok]
  cases wB a.fOrientation 0 7 <;> cases wB a.fX (-80) 80 <;> rfl
theorem impl_IsValidTransform_ok (a : TTransform) : F_impl_IsValidTransform a = some (okTr a) := by
  unfold F_impl_IsValidTransform okTr
  simp only [impl_within_ok]
  cases wB a.fOrientation 0 7 <;> cases wB a.fX (-80) 80 <;> rfl
noncomputable def okInst (a : TInstance) (m : Int) : Bool := wB a.fCell 0 (std.sub .i64 m 1) && (okTr a.fPlace && (wB a.fColumns 1 4 && (wB a.fRows 1 4 && (wB a.fStepX (-80) 80 && (wB a.fStepY (-80) 80 && ((std.lt 1 a.fColumns || std.eq a.fStepX 0) && (std.lt 1 a.fRows || std.eq a.fStepY 0)))))))
theorem spec_l09Instance_ok (a : TInstance) (m : Int) : F_spec_l09Instance a m = some (okInst a m) := by
  unfold F_spec_l09Instance okInst
  simp only [spec_l09In_ok, spec_l09Transform_ok]
  cases wB a.fCell 0 (std.sub .i64 m 1) <;> cases okTr a.fPlace <;> cases wB a.fColumns 1 4 <;> cases wB a.fRows 1 4 <;> try rfl
  cases wB a.fStepX (-80) 80 <;> cases wB a.fStepY (-80) 80 <;> try rfl
  cases std.lt 1 a.fColumns <;> cases std.eq a.fStepX 0 <;> cases std.lt 1 a.fRows <;> cases std.eq a.fStepY 0 <;> rfl
theorem impl_validInstance_ok (a : TInstance) (m : Int) : F_impl_validInstance a m = some (okInst a m) := by
  unfold F_impl_validInstance okInst
  simp only [impl_within_ok, impl_IsValidTransform_ok]
  cases wB a.fCell 0 (std.sub .i64 m 1) <;> cases okTr a.fPlace <;> cases wB a.fColumns 1 4 <;> cases wB a.fRows 1 4 <;> try rfl
  cases wB a.fStepX (-80) 80 <;> cases wB a.fStepY (-80) 80 <;> try rfl
  cases std.lt 1 a.fColumns <;> cases std.eq a.fStepX 0 <;> cases std.lt 1 a.fRows <;> cases std.eq a.fStepY 0 <;> rfl
theorem laws_toShape_ok (a : TShape) : F_laws_toShape a = some a := rfl
theorem laws_toShapeS_ok (a : List TShape) (h : a.length ≤ 10000000) : F_laws_toShapeS a = some a := by
  unfold F_laws_toShapeS
  rw [req_of (nneg_len _), req_of (room_le (by rw [len_eq]; omega) (by decide))]
  simp only [letO_eq, s_ofN, s_toNn, len_eq]
  rw [bind_of (while_copy (st := L_laws_toShapeS_x7 a _) a (List.replicate a.length _) (by simp) (fun i hi v hv => ?_) (fun v => ?_)), req_of (by simp)]
  · simp only [L_laws_toShapeS_x7, letO_eq, s_toNn, s_nadd, Nat.zero_add]
    rw [ltl_t hi, br_t, req_of (inRl hi), laws_toShape_ok, Option.bind_some, req_of (inRl (by simpa using hi)), req_of (by simp [len_eq, hv]), inc_nat (by omega)]
  · simp only [L_laws_toShapeS_x7, letO_eq]
    rw [ltl_f, br_f]
theorem laws_toLabel_ok (a : TLabel) : F_laws_toLabel a = some a := rfl
theorem laws_toLabelS_ok (a : List TLabel) (h : a.length ≤ 10000000) : F_laws_toLabelS a = some a := by
  unfold F_laws_toLabelS
  rw [req_of (nneg_len _), req_of (room_le (by rw [len_eq]; omega) (by decide))]
  simp only [letO_eq, s_ofN, s_toNn, len_eq]
  rw [bind_of (while_copy (st := L_laws_toLabelS_x7 a _) a (List.replicate a.length _) (by simp) (fun i hi v hv => ?_) (fun v => ?_)), req_of (by simp)]
  · simp only [L_laws_toLabelS_x7, letO_eq, s_toNn, s_nadd, Nat.zero_add]
    rw [ltl_t hi, br_t, req_of (inRl hi), laws_toLabel_ok, Option.bind_some, req_of (inRl (by simpa using hi)), req_of (by simp [len_eq, hv]), inc_nat (by omega)]
  · simp only [L_laws_toLabelS_x7, letO_eq]
    rw [ltl_f, br_f]
theorem laws_toInstance_ok (a : TInstance) : F_laws_toInstance a = some a := rfl
theorem laws_toInstanceS_ok (a : List TInstance) (h : a.length ≤ 10000000) : F_laws_toInstanceS a = some a := by
  unfold F_laws_toInstanceS
  rw [req_of (nneg_len _), req_of (room_le (by rw [len_eq]; omega) (by decide))]
  simp only [letO_eq, s_ofN, s_toNn, len_eq]
  rw [bind_of (while_copy (st := L_laws_toInstanceS_x7 a _) a (List.replicate a.length _) (by simp) (fun i hi v hv => ?_) (fun v => ?_)), req_of (by simp)]
  · simp only [L_laws_toInstanceS_x7, letO_eq, s_toNn, s_nadd, Nat.zero_add]
    rw [ltl_t hi, br_t, req_of (inRl hi), laws_toInstance_ok, Option.bind_some, req_of (inRl (by simpa using hi)), req_of (by simp [len_eq, hv]), inc_nat (by omega)]
  · simp only [L_laws_toInstanceS_x7, letO_eq]
    rw [ltl_f, br_f]
/-- nothing is great -/
structure SmallC (c : TCell) : Prop where
  name : c.fName.size ≤ 1048576
  shapes : c.fShapes.length ≤ 1048576
  labels : c.fLabels.length ≤ 1048576
  insts : c.fInstances.length ≤ 1048576
  lnames : ∀ l ∈ c.fLabels, l.fName.size ≤ 1048576
structure SmallL (a : TLibrary) : Prop where
  cells : a.fCells.length ≤ 1048576
  cell : ∀ c ∈ a.fCells, SmallC c
theorem laws_toCell_ok (c : TCell) (h : SmallC c) : F_laws_toCell c = some c := by
  unfold F_laws_toCell
  rw [laws_toShapeS_ok _ (by have := h.shapes; omega), laws_toLabelS_ok _ (by have := h.labels; omega), laws_toInstanceS_ok _ (by have := h.insts; omega)]
  rfl
theorem laws_toCellS_ok (a : List TCell) (h : a.length ≤ 1048576) (hc : ∀ c ∈ a, SmallC c) : F_laws_toCellS a = some a := by
  unfold F_laws_toCellS
  rw [req_of (nneg_len _), req_of (room_le (by rw [len_eq]; omega) (by decide))]
  simp only [letO_eq, s_ofN, s_toNn, len_eq, Option.bind_some]
  rw [bind_of (while_copy (st := L_laws_toCellS_x14 a _) a (List.replicate a.length _) (by simp) (fun i hi v hv => ?_) (fun v => ?_)), req_of (by simp)]
  · simp only [L_laws_toCellS_x14, letO_eq, s_toNn, s_nadd, Nat.zero_add]
    rw [ltl_t hi, br_t, req_of (inRl hi), laws_toCell_ok _ (hc _ (gd_mem hi)), Option.bind_some, req_of (inRl (by simpa using hi)), req_of (by simp [len_eq, hv]), inc_nat (by omega)]
    rfl
  · simp only [L_laws_toCellS_x14, letO_eq]
    rw [ltl_f, br_f]
theorem laws_toLibrary_ok (a : TLibrary) (h : SmallL a) : F_laws_toLibrary a = some a := by
  unfold F_laws_toLibrary
  rw [laws_toCellS_ok _ h.cells h.cell]; rfl
-- the sizes
theorem subl_ok {n : Nat} {x : Int} (h : n ≤ maxLen) (hx : 0 ≤ x ∧ x ≤ 1048576) : std.sub .i64 x (std.ofN n) = x - n := by
  have := maxLen_eq
  rw [s_ofN, sub_id (by omega) (by omega)]
theorem laws_szShapeS_ok (a : List TShape) (x : Int) (ha : a.length ≤ maxLen) (hx : 0 ≤ x ∧ x ≤ 1048576) : ∃ y, F_laws_szShapeS a x = some y ∧ (0 ≤ y → y ≤ x ∧ a.length ≤ 1048576) := by
  unfold F_laws_szShapeS
  rw [len_eq, subl_ok ha hx, br_bool, s_lt]
  by_cases h : x - (a.length : Int) < 0
  · exact ⟨-1, by simp [h], fun h => by omega⟩
  · exact ⟨x - a.length, by simp [h], fun _ => ⟨by omega, by omega⟩⟩
theorem laws_szInstanceS_ok (a : List TInstance) (x : Int) (ha : a.length ≤ maxLen) (hx : 0 ≤ x ∧ x ≤ 1048576) : ∃ y, F_laws_szInstanceS a x = some y ∧ (0 ≤ y → y ≤ x ∧ a.length ≤ 1048576) := by
  unfold F_laws_szInstanceS
  rw [len_eq, subl_ok ha hx, br_bool, s_lt]
  by_cases h : x - (a.length : Int) < 0
  · exact ⟨-1, by simp [h], fun h => by omega⟩
  · exact ⟨x - a.length, by simp [h], fun _ => ⟨by omega, by omega⟩⟩
theorem laws_szLabel_ok (a : TLabel) (x : Int) (ha : a.fName.size ≤ maxLen) (hx : 0 ≤ x ∧ x ≤ 1048576) : ∃ y, F_laws_szLabel a x = some y ∧ (0 ≤ y → y ≤ x ∧ a.fName.size ≤ 1048576) := by
  unfold F_laws_szLabel
  rw [s_slen, subl_ok ha hx, br_bool, s_lt]
  by_cases h : x - (a.fName.size : Int) < 0
  · exact ⟨-1, by simp [h], fun h => by omega⟩
  · exact ⟨x - a.fName.size, by simp [h], fun _ => ⟨by omega, by omega⟩⟩
/-- a loop that takes from what is left -/
theorem while_sz {α : Type} [Inhabited α] {st : Int × Int → Option ((Int × Int) ⊕ (Int ⊕ Int))} (l : List α) (ok : α → Prop) (x : Int) (hx : 0 ≤ x ∧ x ≤ 1048576)
    (h : ∀ i, i < l.length → ∀ y : Int, 0 ≤ y ∧ y ≤ 1048576 → ∃ z : Int, (z < 0 ∧ st (y, (i : Int)) = some (.inr (.inl (-1)))) ∨ (0 ≤ z ∧ z ≤ y ∧ ok (gd l i) ∧ st (y, (i : Int)) = some (.inl (z, ((i + 1 : Nat) : Int)))))
    (he : ∀ y, st (y, (l.length : Int)) = some (.inr (.inr y))) : ∃ r, whileP st (x, 0) = some r ∧ (r = .inl (-1) ∨ ∃ z, r = .inr z ∧ 0 ≤ z ∧ z ≤ x ∧ ∀ e ∈ l, ok e) := by
  refine while_ex (fun s => ∃ (i : Nat) (y : Int), s = (y, (i : Int)) ∧ i ≤ l.length ∧ 0 ≤ y ∧ y ≤ x ∧ ∀ j, j < i → ok (gd l j)) _ (fun s => l.length + 1 - s.2.toNat) ⟨0, x, rfl, by omega, by omega, by omega, fun j hj => by omega⟩ ?_
  rintro _ ⟨i, y, rfl, h1, h2, h3, h4⟩
  by_cases hi : i < l.length
  · obtain ⟨z, ⟨_, hz⟩ | ⟨g1, g2, g3, hz⟩⟩ := h i hi y ⟨h2, by omega⟩
    · exact .inr ⟨_, hz, .inl rfl⟩
    · exact .inl ⟨_, hz, ⟨i + 1, z, rfl, by omega, g1, by omega, fun j hj => by
        rcases Nat.lt_or_ge j i with hj' | hj'
        · exact h4 j hj'
        · rw [show j = i by omega]; exact g3⟩, by simp only [Int.toNat_natCast]; omega⟩
  · have hil : i = l.length := by omega
    subst hil
    refine .inr ⟨_, he y, .inr ⟨y, rfl, h2, h3, fun e hm => ?_⟩⟩
    obtain ⟨j, hj, rfl⟩ := List.getElem_of_mem hm
    rw [← gd_lt hj]; exact h4 j hj
theorem laws_szLabelS_ok (a : List TLabel) (x : Int) (ha : a.length ≤ maxLen) (hn : ∀ l ∈ a, l.fName.size ≤ maxLen) (hx : 0 ≤ x ∧ x ≤ 1048576) : ∃ y, F_laws_szLabelS a x = some y ∧ (0 ≤ y → y ≤ x ∧ a.length ≤ 1048576 ∧ ∀ l ∈ a, l.fName.size ≤ 1048576) := by
  have hb := maxLen_eq
  unfold F_laws_szLabelS
  rw [len_eq, subl_ok ha hx, br_bool, s_lt]
  by_cases h : x - (a.length : Int) < 0
  · exact ⟨-1, by simp [h], fun h => by omega⟩
  · rw [if_neg (by simpa using h)]
    obtain ⟨r, h1, h2⟩ := while_sz (st := L_laws_szLabelS_x3 a) a (fun l => l.fName.size ≤ 1048576) (x - a.length) ⟨by omega, by omega⟩ (fun i hi y hy => by
      obtain ⟨z, hz, hz2⟩ := laws_szLabel_ok (gd a i) y (hn _ (gd_mem hi)) hy
      refine ⟨z, ?_⟩
      simp only [L_laws_szLabelS_x3, letO_eq, s_toNn]
      rw [ltl_t hi, br_t, req_of (inRl hi), hz, Option.bind_some, br_bool, s_lt, inc_nat (by omega)]
      by_cases h0 : z < 0
      · exact .inl ⟨h0, by simp [h0]⟩
      · exact .inr ⟨by omega, (hz2 (by omega)).1, (hz2 (by omega)).2, by simp [h0]⟩) (fun y => by
      simp only [L_laws_szLabelS_x3, letO_eq]
      rw [ltl_f, br_f])
    rw [h1, Option.bind_some]
    rcases h2 with rfl | ⟨z, rfl, h3, h4, h5⟩
    · exact ⟨-1, rfl, fun h => by omega⟩
    · exact ⟨z, rfl, fun _ => ⟨by omega, by omega, h5⟩⟩
def wfC (c : TCell) : Prop := c.fName.size ≤ maxLen ∧ c.fShapes.length ≤ maxLen ∧ c.fLabels.length ≤ maxLen ∧ c.fInstances.length ≤ maxLen ∧ ∀ l ∈ c.fLabels, l.fName.size ≤ maxLen
theorem laws_szCell_ok (c : TCell) (x : Int) (hc : wfC c) (hx : 0 ≤ x ∧ x ≤ 1048576) : ∃ y, F_laws_szCell c x = some y ∧ (0 ≤ y → y ≤ x ∧ SmallC c) := by
  obtain ⟨h1, h2, h3, h4, h5⟩ := hc
  unfold F_laws_szCell
  rw [s_slen, subl_ok h1 hx, br_bool, s_lt]
  by_cases h : x - (c.fName.size : Int) < 0
  · exact ⟨-1, by simp [h], fun h => by omega⟩
  · rw [if_neg (by simpa using h)]
    obtain ⟨y1, e1, f1⟩ := laws_szShapeS_ok c.fShapes (x - c.fName.size) h2 ⟨by omega, by omega⟩
    rw [e1, Option.bind_some, br_bool, s_lt]
    by_cases g1 : y1 < 0
    · exact ⟨-1, by simp [g1], fun h => by omega⟩
    · have f1 := f1 (by omega)
      rw [if_neg (by simpa using g1)]
      obtain ⟨y2, e2, f2⟩ := laws_szLabelS_ok c.fLabels y1 h3 h5 ⟨by omega, by omega⟩
      rw [e2, Option.bind_some, br_bool, s_lt]
      by_cases g2 : y2 < 0
      · exact ⟨-1, by simp [g2], fun h => by omega⟩
      · have f2 := f2 (by omega)
        rw [if_neg (by simpa using g2)]
        obtain ⟨y3, e3, f3⟩ := laws_szInstanceS_ok c.fInstances y2 h4 ⟨by omega, by omega⟩
        rw [e3, Option.bind_some, br_bool, s_lt]
        by_cases g3 : y3 < 0
        · exact ⟨-1, by simp [g3], fun h => by omega⟩
        · have f3 := f3 (by omega)
          exact ⟨y3, by simp [g3], fun _ => ⟨by omega, ⟨by omega, f1.2, f2.2.1, f3.2, f2.2.2⟩⟩⟩
def wfLb (a : TLibrary) : Prop := a.fCells.length ≤ maxLen ∧ ∀ c ∈ a.fCells, wfC c
/-- the size of a library: it fits, or the law says nothing -/
theorem laws_szLibrary_ok2 (a : TLibrary) (ha : wfLb a) : ∃ y, F_laws_szLibrary a 1048576 = some y ∧ (0 ≤ y → y ≤ 1048576 ∧ SmallL a) := by
  have hb := maxLen_eq
  unfold F_laws_szLibrary F_laws_szCellS
  rw [len_eq, subl_ok ha.1 ⟨by decide, by decide⟩, br_bool, s_lt]
  by_cases h : (1048576 : Int) - (a.fCells.length : Int) < 0
  · exact ⟨-1, by simp [h, br_bool, s_lt], fun h => by omega⟩
  · rw [if_neg (by simpa using h)]
    obtain ⟨r, h1, h2⟩ := while_sz (st := L_laws_szCellS_x3 a.fCells) a.fCells SmallC (1048576 - a.fCells.length) ⟨by omega, by omega⟩ (fun i hi y hy => by
      obtain ⟨z, hz, hz2⟩ := laws_szCell_ok (gd a.fCells i) y (ha.2 _ (gd_mem hi)) hy
      refine ⟨z, ?_⟩
      simp only [L_laws_szCellS_x3, letO_eq, s_toNn]
      have := ha.1
      rw [ltl_t hi, br_t, req_of (inRl hi), hz, Option.bind_some, br_bool, s_lt, inc_nat (by omega)]
      by_cases h0 : z < 0
      · exact .inl ⟨h0, by simp [h0]⟩
      · exact .inr ⟨by omega, (hz2 (by omega)).1, (hz2 (by omega)).2, by simp [h0]⟩) (fun y => by
      simp only [L_laws_szCellS_x3, letO_eq]
      rw [ltl_f, br_f])
    rw [h1, Option.bind_some]
    rcases h2 with rfl | ⟨z, rfl, h3, h4, h5⟩
    · exact ⟨-1, rfl, fun h => by omega⟩
    · refine ⟨z, ?_, fun _ => ⟨by omega, ⟨by omega, h5⟩⟩⟩
      simp only [letO_eq, Option.bind_some]
      rw [lt_false (by omega), br_f]
theorem laws_szLibrary_ok (a : TLibrary) (ha : wfLb a) : ∃ y, F_laws_szLibrary a 1048576 = some y ∧ (0 ≤ y → SmallL a) := by
  obtain ⟨y, h1, h2⟩ := laws_szLibrary_ok2 a ha
  exact ⟨y, h1, fun h => (h2 h).2⟩
-- nothing differs
theorem laws_eqRect_ok (a : TRect) : F_laws_eqRect a a = some true := by unfold F_laws_eqRect; simp [eq_true', s_not, br]
theorem laws_eqShape_ok (a : TShape) : F_laws_eqShape a a = some true := by unfold F_laws_eqShape; simp [eq_true', s_not, br, laws_eqRect_ok]
theorem laws_eqPoint_ok (a : TPoint) : F_laws_eqPoint a a = some true := by unfold F_laws_eqPoint; simp [eq_true', s_not, br]
theorem laws_eqLabel_ok (a : TLabel) : F_laws_eqLabel a a = some true := by unfold F_laws_eqLabel; simp [eq_true', s_not, br, laws_eqPoint_ok, seq_self]
theorem laws_eqTransform_ok (a : TTransform) : F_laws_eqTransform a a = some true := by unfold F_laws_eqTransform; simp [eq_true', s_not, br]
theorem laws_eqInstance_ok (a : TInstance) : F_laws_eqInstance a a = some true := by unfold F_laws_eqInstance; simp [eq_true', s_not, br, laws_eqTransform_ok]
theorem laws_eqShapeS_ok (l : List TShape) (h : l.length ≤ 10000000) : F_laws_eqShapeS l l = some true := by
  unfold F_laws_eqShapeS
  rw [notEq (eq_true' rfl), br_f]
  refine Eq.trans (bind_of (while_eq (r := .inr ()) l.length (fun i hi => ?_) ?_)) rfl
  · simp only [L_laws_eqShapeS_x2, letO_eq, s_toNn, laws_eqShape_ok, Option.bind_some]
    rw [ltl_t hi, br_t, req_of (inRl hi), req_of (inRl hi), inc_nat (by omega)]; rfl
  · simp only [L_laws_eqShapeS_x2, letO_eq]
    rw [ltl_f]; rfl
theorem laws_eqLabelS_ok (l : List TLabel) (h : l.length ≤ 10000000) : F_laws_eqLabelS l l = some true := by
  unfold F_laws_eqLabelS
  rw [notEq (eq_true' rfl), br_f]
  refine Eq.trans (bind_of (while_eq (r := .inr ()) l.length (fun i hi => ?_) ?_)) rfl
  · simp only [L_laws_eqLabelS_x2, letO_eq, s_toNn, laws_eqLabel_ok, Option.bind_some]
    rw [ltl_t hi, br_t, req_of (inRl hi), req_of (inRl hi), inc_nat (by omega)]; rfl
  · simp only [L_laws_eqLabelS_x2, letO_eq]
    rw [ltl_f]; rfl
theorem laws_eqInstanceS_ok (l : List TInstance) (h : l.length ≤ 10000000) : F_laws_eqInstanceS l l = some true := by
  unfold F_laws_eqInstanceS
  rw [notEq (eq_true' rfl), br_f]
  refine Eq.trans (bind_of (while_eq (r := .inr ()) l.length (fun i hi => ?_) ?_)) rfl
  · simp only [L_laws_eqInstanceS_x2, letO_eq, s_toNn, laws_eqInstance_ok, Option.bind_some]
    rw [ltl_t hi, br_t, req_of (inRl hi), req_of (inRl hi), inc_nat (by omega)]; rfl
  · simp only [L_laws_eqInstanceS_x2, letO_eq]
    rw [ltl_f]; rfl
theorem laws_eqCell_ok (c : TCell) (h : SmallC c) : F_laws_eqCell c c = some true := by
  unfold F_laws_eqCell
  rw [laws_eqShapeS_ok _ (by have := h.shapes; omega), laws_eqLabelS_ok _ (by have := h.labels; omega), laws_eqInstanceS_ok _ (by have := h.insts; omega)]
  simp [seq_self, s_not, br]
theorem laws_eqLibrary_ok (a : TLibrary) (h : SmallL a) : F_laws_eqLibrary a a = some true := by
  have hl := h.cells
  unfold F_laws_eqLibrary F_laws_eqCellS
  rw [notEq (eq_true' rfl), br_f]
  rw [bind_of (while_eq (st := L_laws_eqCellS_x2 a.fCells a.fCells) (r := .inr ()) a.fCells.length (fun i hi => ?_) ?_)]
  · rfl
  · simp only [L_laws_eqCellS_x2, letO_eq]
    rw [ltl_f]; rfl
  · simp only [L_laws_eqCellS_x2, letO_eq, s_toNn]
    rw [ltl_t hi, br_t, req_of (inRl hi), req_of (inRl hi), laws_eqCell_ok _ (h.cell _ (gd_mem hi)), inc_nat (by omega)]; rfl
noncomputable def okCell (c : TCell) (k : Int) : Bool := isName c.fName && (decide (c.fShapes.length ≤ 24) && (decide (c.fLabels.length ≤ 8) && (decide (c.fInstances.length ≤ 8) && (c.fShapes.all okShape && (c.fLabels.all okLabel && c.fInstances.all fun x => okInst x k)))))
theorem lt_lit (n : Nat) (k : Nat) : std.lt (k : Int) (std.ofN n) = !decide (n ≤ k) := by
  rw [s_lt, s_ofN]
  by_cases h : n ≤ k
  · have : ¬ ((k : Int) < (n : Int)) := by omega
    simp [h, this]
  · have : ((k : Int) < (n : Int)) := by omega
    simp [h, this]
theorem spec_l09Cell_ok (c : TCell) (k : Int) (h : SmallC c) : F_spec_l09Cell c k = some (okCell c k) := by
  have hb := maxLen_eq
  have e24 := lt_lit c.fShapes.length 24
  have e8 := lt_lit c.fLabels.length 8
  have e8' := lt_lit c.fInstances.length 8
  have s1 := h.shapes; have s2 := h.labels; have s3 := h.insts
  unfold F_spec_l09Cell okCell
  rw [spec_IsName_ok _ (by have := h.name; omega)]
  simp only [Option.bind_some, letO_eq, len_eq, show (24 : Int) = ((24 : Nat) : Int) from rfl, show (8 : Int) = ((8 : Nat) : Int) from rfl, e24, e8, e8']
  cases isName c.fName with
  | false => rfl
  | true =>
    cases decide (c.fShapes.length ≤ 24) with
    | false => rfl
    | true =>
      cases decide (c.fLabels.length ≤ 8) with
      | false => rfl
      | true =>
        cases decide (c.fInstances.length ≤ 8) with
        | false => rfl
        | true =>
          simp only [Bool.not_true, br_f, Option.bind_some, Bool.true_and]
          rw [bind_of (scan (ok := fun i => okShape (gd c.fShapes i)) (n := c.fShapes.length) (yes := .inr ()) (no := .inl false) (fun i hi => ?_) ?_), range_all]
          · cases c.fShapes.all okShape with
            | false => rfl
            | true =>
              simp only [if_true, Bool.true_and]
              rw [bind_of (scan (ok := fun i => okLabel (gd c.fLabels i)) (n := c.fLabels.length) (yes := .inr ()) (no := .inl false) (fun i hi => ?_) ?_), range_all]
              · cases c.fLabels.all okLabel with
                | false => rfl
                | true =>
                  simp only [if_true, Bool.true_and]
                  rw [bind_of (scan (ok := fun i => okInst (gd c.fInstances i) k) (n := c.fInstances.length) (yes := .inr ()) (no := .inl false) (fun i hi => ?_) ?_), range_all (fun x => okInst x k)]
                  · cases c.fInstances.all fun x => okInst x k <;> rfl
                  · simp only [L_spec_l09Cell_x52, letO_eq]
                    rw [ltl_f, br_f]
                  · simp only [L_spec_l09Cell_x52, letO_eq, s_toNn]
                    rw [ltl_t hi, br_t, req_of (inRl hi), spec_l09Instance_ok, Option.bind_some, inc_nat (by omega)]
                    cases okInst (gd c.fInstances i) k <;> rfl
              · simp only [L_spec_l09Cell_x33, letO_eq]
                rw [ltl_f, br_f]
              · simp only [L_spec_l09Cell_x33, letO_eq, s_toNn]
                rw [ltl_t hi, br_t, req_of (inRl hi), spec_l09Label_ok _ (by have := h.lnames _ (gd_mem hi); omega), Option.bind_some, inc_nat (by omega)]
                cases okLabel (gd c.fLabels i) <;> rfl
          · simp only [L_spec_l09Cell_x14, letO_eq]
            rw [ltl_f, br_f]
          · simp only [L_spec_l09Cell_x14, letO_eq, s_toNn]
            rw [ltl_t hi, br_t, req_of (inRl hi), spec_l09Shape_ok, Option.bind_some, inc_nat (by omega)]
            cases okShape (gd c.fShapes i) <;> rfl
/-- a loop that stops at the first element that is met -/
theorem scan_first {step : Int → Option (Int ⊕ (Int ⊕ Unit))} {p : Nat → Bool} {n : Nat} (h : ∀ i : Nat, i < n → step i = some (cond (p i) (.inr (.inl (i : Int))) (.inl ((i + 1 : Nat) : Int)))) (hn : step n = some (.inr (.inr ()))) :
    whileP step 0 = some (match (List.range n).find? p with | some i => .inl (i : Int) | none => .inr ()) := by
  have key : ∀ m i : Nat, i + m = n → whileP step i = some (match (List.range' i m).find? p with | some i => .inl (i : Int) | none => .inr ()) := by
    intro m
    induction m with
    | zero =>
      intro i hi
      have : i = n := by omega
      subst this
      rw [whileP_unfold, hn]; rfl
    | succ m ih =>
      intro i hi
      rw [whileP_unfold, h i (by omega)]
      cases hb : p i with
      | true => simp [List.range', hb]
      | false =>
        simp only [cond]
        rw [ih (i + 1) (by omega)]
        simp [List.range', hb]
  have := key n 0 (by omega)
  rw [List.range_eq_range']
  exact this
noncomputable def firstI (p : Nat → Bool) (n : Nat) : Int := match (List.range n).find? p with | some i => (i : Int) | none => -1
theorem firstI_any (p : Nat → Bool) (n : Nat) : std.le 0 (firstI p n) = (List.range n).any p := by
  unfold firstI
  cases h : (List.range n).find? p with
  | none =>
    rw [List.find?_eq_none] at h
    have : (List.range n).any p = false := by rw [List.any_eq_false]; exact h
    rw [this]; show std.le 0 (-1) = false; exact le_false (by omega)
  | some i =>
    have h1 := List.find?_some h
    have h2 := List.mem_of_find?_eq_some h
    have : (List.range n).any p = true := by rw [List.any_eq_true]; exact ⟨i, h2, h1⟩
    rw [this]; show std.le 0 (i : Int) = true; exact le_true (by omega)
theorem range_any {α : Type} [Inhabited α] (p : α → Bool) (l : List α) : (List.range l.length).any (fun i => !p (gd l i)) = !l.all p := by
  rw [← range_all p l, List.all_eq_not_any_not, Bool.not_not]
theorem containsShape (l : List TShape) (h : l.length ≤ 10000000) : F_slices_ContainsFunc_Limpl_Shape_impl_Shape_mbFimpl_validCell_1 l = some (!l.all okShape) := by
  unfold F_slices_ContainsFunc_Limpl_Shape_impl_Shape_mbFimpl_validCell_1 F_slices_IndexFunc_Limpl_Shape_impl_Shape_mbFimpl_validCell_1
  rw [bind_of (scan_first (p := fun i => !okShape (gd l i)) (n := l.length) (fun i hi => ?_) ?_)]
  · rw [← range_any okShape l, ← firstI_any]
    unfold firstI
    cases (List.range l.length).find? (fun i => !okShape (gd l i)) <;> rfl
  · simp only [L_slices_IndexFunc_Limpl_Shape_impl_Shape_mbFimpl_validCell_1_x2, letO_eq]
    rw [ltl_f, br_f]
  · simp only [L_slices_IndexFunc_Limpl_Shape_impl_Shape_mbFimpl_validCell_1_x2, letO_eq, s_toNn, F_impl_validCell_1]
    rw [ltl_t hi, br_t, req_of (inRl hi), impl_validShape_ok, Option.bind_some, Option.bind_some, inc_nat (by omega)]
    cases okShape (gd l i) <;> rfl
theorem containsLabel (l : List TLabel) (h : l.length ≤ 10000000) (hn : ∀ x ∈ l, x.fName.size ≤ maxLen) : F_slices_ContainsFunc_Limpl_Label_impl_Label_mbFimpl_validCell_2 l = some (!l.all okLabel) := by
  unfold F_slices_ContainsFunc_Limpl_Label_impl_Label_mbFimpl_validCell_2 F_slices_IndexFunc_Limpl_Label_impl_Label_mbFimpl_validCell_2
  rw [bind_of (scan_first (p := fun i => !okLabel (gd l i)) (n := l.length) (fun i hi => ?_) ?_)]
  · rw [← range_any okLabel l, ← firstI_any]
    unfold firstI
    cases (List.range l.length).find? (fun i => !okLabel (gd l i)) <;> rfl
  · simp only [L_slices_IndexFunc_Limpl_Label_impl_Label_mbFimpl_validCell_2_x2, letO_eq]
    rw [ltl_f, br_f]
  · simp only [L_slices_IndexFunc_Limpl_Label_impl_Label_mbFimpl_validCell_2_x2, letO_eq, s_toNn, F_impl_validCell_2]
    rw [ltl_t hi, br_t, req_of (inRl hi), impl_validLabel_ok _ (hn _ (gd_mem hi)), Option.bind_some, Option.bind_some, inc_nat (by omega)]
    cases okLabel (gd l i) <;> rfl
theorem containsInst (l : List TInstance) (k : Int) (h : l.length ≤ 10000000) : F_slices_ContainsFunc_Limpl_Instance_impl_Instance_mbFimpl_validCell_3p l k = some (!l.all fun x => okInst x k) := by
  unfold F_slices_ContainsFunc_Limpl_Instance_impl_Instance_mbFimpl_validCell_3p F_slices_IndexFunc_Limpl_Instance_impl_Instance_mbFimpl_validCell_3p
  rw [bind_of (scan_first (p := fun i => !okInst (gd l i) k) (n := l.length) (fun i hi => ?_) ?_)]
  · rw [← range_any (fun x => okInst x k) l, ← firstI_any]
    unfold firstI
    cases (List.range l.length).find? (fun i => !okInst (gd l i) k) <;> rfl
  · simp only [L_slices_IndexFunc_Limpl_Instance_impl_Instance_mbFimpl_validCell_3p_x2, letO_eq]
    rw [ltl_f, br_f]
  · simp only [L_slices_IndexFunc_Limpl_Instance_impl_Instance_mbFimpl_validCell_3p_x2, letO_eq, s_toNn, F_impl_validCell_3_mbp]
    rw [ltl_t hi, br_t, req_of (inRl hi), impl_validInstance_ok, Option.bind_some, Option.bind_some, inc_nat (by omega)]
    cases okInst (gd l i) k <;> rfl
theorem impl_validCell_ok (c : TCell) (k : Int) (h : SmallC c) : F_impl_validCell c k = some (okCell c k) := by
  have hb := maxLen_eq
  have e24 := lt_lit c.fShapes.length 24
  have e8 := lt_lit c.fLabels.length 8
  have e8' := lt_lit c.fInstances.length 8
  unfold F_impl_validCell okCell
  rw [impl_IsName_ok _ (by have := h.name; omega), containsShape _ (by have := h.shapes; omega), containsLabel _ (by have := h.labels; omega) (fun x hx => by have := h.lnames x hx; omega), containsInst _ _ (by have := h.insts; omega)]
  simp only [Option.bind_some, letO_eq, len_eq, show (24 : Int) = ((24 : Nat) : Int) from rfl, show (8 : Int) = ((8 : Nat) : Int) from rfl, e24, e8, e8']
  cases isName c.fName <;> cases decide (c.fShapes.length ≤ 24) <;> cases decide (c.fLabels.length ≤ 8) <;> cases decide (c.fInstances.length ≤ 8) <;> cases c.fShapes.all okShape <;> cases c.fLabels.all okLabel <;> cases (c.fInstances.all fun x => okInst x k) <;> rfl
/-- the first cell with this name -/
noncomputable def namedI (l : List TCell) (s : ByteArray) : Int := firstI (fun i => std.seq (gd l i).fName s) l.length
theorem impl_named_ok (a : TLibrary) (s : ByteArray) (h : a.fCells.length ≤ 10000000) : F_impl_named a s = some (namedI a.fCells s) := by
  unfold F_impl_named F_slices_IndexFunc_Limpl_Cell_impl_Cell_mbFimpl_named_1p
  rw [bind_of (scan_first (p := fun i => std.seq (gd a.fCells i).fName s) (n := a.fCells.length) (fun i hi => ?_) ?_)]
  · unfold namedI firstI
    cases (List.range a.fCells.length).find? (fun i => std.seq (gd a.fCells i).fName s) <;> rfl
  · simp only [L_slices_IndexFunc_Limpl_Cell_impl_Cell_mbFimpl_named_1p_x2, letO_eq]
    rw [ltl_f, br_f]
  · simp only [L_slices_IndexFunc_Limpl_Cell_impl_Cell_mbFimpl_named_1p_x2, letO_eq, s_toNn, F_impl_named_1_mbp]
    rw [ltl_t hi, br_t, req_of (inRl hi), Option.bind_some, inc_nat (by omega)]
    cases std.seq (gd a.fCells i).fName s <;> rfl
/-- no cell ahead of k has its name -/
noncomputable def fresh (l : List TCell) (k : Nat) : Bool := (List.range k).all fun j => !std.seq (gd l j).fName (gd l k).fName
theorem find_first (p : Nat → Bool) (n k : Nat) (hk : k < n) (hp : p k = true) : (List.range n).find? p = some k ↔ (List.range k).all (fun j => !p j) = true := by
  rw [List.all_eq_true, List.find?_eq_some_iff_append]
  constructor
  · rintro ⟨h1, l1, l2, h2, h3⟩ j hj
    apply h3
    have hlen : l1.length = k := by
      have h4 : (List.range n)[l1.length]? = some k := by rw [h2]; simp
      have hlt : l1.length < n := by
        have := (List.getElem?_eq_some_iff.1 h4).1
        simpa using this
      rw [List.getElem?_range hlt] at h4
      injection h4
    have h5 : l1 = List.range k := by
      have := congrArg (List.take l1.length) h2
      rw [List.take_left', List.take_range] at this
      · rw [← this, hlen]; congr 1; omega
      · rfl
    rw [h5]; exact hj
  · intro h
    refine ⟨hp, List.range k, List.range' (k + 1) (n - (k + 1)), ?_, fun j hj => h j hj⟩
    rw [List.range_eq_range', List.range_eq_range', show n = k + (1 + (n - (k + 1))) by omega, ← List.range'_append_1, Nat.add_comm 1, List.range'_succ]
    simp
    omega
theorem named_first (l : List TCell) (k : Nat) (hk : k < l.length) : std.eq (namedI l (gd l k).fName) (k : Int) = fresh l k := by
  rw [s_eq, Bool.eq_iff_iff]
  unfold fresh
  rw [← find_first (fun i => std.seq (gd l i).fName (gd l k).fName) l.length k hk (seq_self _)]
  unfold namedI firstI
  cases h : (List.range l.length).find? (fun i => std.seq (gd l i).fName (gd l k).fName) with
  | none => simp
  | some i => simp; omega
noncomputable def okLib (a : TLibrary) : Bool := decide (1 ≤ a.fCells.length) && (decide (a.fCells.length ≤ 8) && (List.range a.fCells.length).all fun k => okCell (gd a.fCells k) k && fresh a.fCells k)
theorem lt_one (n : Nat) : std.lt (std.ofN n) 1 = !decide (1 ≤ n) := by
  rw [s_lt, s_ofN]
  by_cases h : 1 ≤ n
  · have : ¬ ((n : Int) < 1) := by omega
    simp [h, this]
  · have : ((n : Int) < 1) := by omega
    simp [h, this]
theorem spec_IsValidLibrary_ok (a : TLibrary) (h : SmallL a) : F_spec_IsValidLibrary a = some (okLib a) := by
  have hl := h.cells
  have e8 := lt_lit a.fCells.length 8
  unfold F_spec_IsValidLibrary okLib
  simp only [letO_eq, len_eq, show (8 : Int) = ((8 : Nat) : Int) from rfl, e8, lt_one]
  cases decide (1 ≤ a.fCells.length) with
  | false => rfl
  | true =>
    cases decide (a.fCells.length ≤ 8) with
    | false => rfl
    | true =>
      simp only [Bool.not_true, br_f, Option.bind_some, Bool.true_and]
      rw [bind_of (scan (ok := fun k => okCell (gd a.fCells k) k && fresh a.fCells k) (n := a.fCells.length) (yes := .inr ()) (no := .inl false) (fun i hi => ?_) ?_)]
      · cases (List.range a.fCells.length).all fun k => okCell (gd a.fCells k) k && fresh a.fCells k <;> rfl
      · simp only [L_spec_IsValidLibrary_x10, letO_eq]
        rw [ltl_f, br_f]
      · simp only [L_spec_IsValidLibrary_x10, letO_eq, s_toNn]
        rw [ltl_t hi, br_t, req_of (inRl hi), spec_l09Cell_ok _ _ (h.cell _ (gd_mem hi)), Option.bind_some, inc_nat (by omega)]
        cases okCell (gd a.fCells i) (i : Int) with
        | false => rfl
        | true =>
          simp only [Bool.not_true, br_f, Bool.true_and]
          rw [bind_of (scan (ok := fun j => !std.seq (gd a.fCells j).fName (gd a.fCells i).fName) (n := i) (yes := .inr ()) (no := .inl false) (fun j hj => ?_) ?_)]
          · unfold fresh
            cases (List.range i).all fun j => !std.seq (gd a.fCells j).fName (gd a.fCells i).fName <;> rfl
          · simp only [L_spec_IsValidLibrary_x26, letO_eq]
            rw [lt_false (by omega), br_f]
          · simp only [L_spec_IsValidLibrary_x26, letO_eq, s_toNn]
            rw [lt_true (by omega), br_t, req_of (inRl (by omega)), req_of (inRl hi), inc_nat (by omega)]
            cases std.seq (gd a.fCells j).fName (gd a.fCells i).fName <;> rfl
theorem impl_IsValidLibrary_ok (a : TLibrary) (h : SmallL a) : F_impl_IsValidLibrary a = some (okLib a) := by
  have hl := h.cells
  have e8 := lt_lit a.fCells.length 8
  unfold F_impl_IsValidLibrary okLib
  simp only [letO_eq, len_eq, show (8 : Int) = ((8 : Nat) : Int) from rfl, e8, lt_one]
  cases decide (1 ≤ a.fCells.length) with
  | false => rfl
  | true =>
    cases decide (a.fCells.length ≤ 8) with
    | false => rfl
    | true =>
      simp only [Bool.not_true, br_f, Option.bind_some, Bool.true_and]
      rw [bind_of (scan (ok := fun k => okCell (gd a.fCells k) k && fresh a.fCells k) (n := a.fCells.length) (yes := .inr ()) (no := .inl false) (fun i hi => ?_) ?_)]
      · cases (List.range a.fCells.length).all fun k => okCell (gd a.fCells k) k && fresh a.fCells k <;> rfl
      · simp only [L_impl_IsValidLibrary_x10, letO_eq]
        rw [ltl_f, br_f]
      · simp only [L_impl_IsValidLibrary_x10, letO_eq, s_toNn]
        rw [ltl_t hi, br_t, req_of (inRl hi), impl_validCell_ok _ _ (h.cell _ (gd_mem hi)), Option.bind_some, inc_nat (by omega)]
        cases okCell (gd a.fCells i) (i : Int) with
        | false => rfl
        | true =>
          simp only [Bool.not_true, br_f, Bool.true_and]
          rw [impl_named_ok _ _ (show a.fCells.length ≤ 10000000 by omega), Option.bind_some, named_first _ _ hi]
          cases fresh a.fCells i <;> rfl
theorem wfC_of {c : TCell} (h : wfCell c) : wfC c := ⟨h.1, h.2.1.1, h.2.2.1.1, h.2.2.2.1, fun l hl => (h.2.2.1.2 l hl).2.2⟩
theorem wfLb_of {a : TLibrary} (h : wfLibrary a) : wfLb a := ⟨h.1, fun c hc => wfC_of (h.2 c hc)⟩
/- sz, to, eq of an edit -/
structure SmallE (a : TEdit) : Prop where
  name : a.fName.size ≤ 1048576
  lname : a.fLabel.fName.size ≤ 1048576
theorem laws_szEdit_ok (a : TEdit) (x : Int) (h1 : a.fName.size ≤ maxLen) (h2 : a.fLabel.fName.size ≤ maxLen) (hx : 0 ≤ x ∧ x ≤ 1048576) : ∃ y, F_laws_szEdit a x = some y ∧ (0 ≤ y → y ≤ x ∧ SmallE a) := by
  have hb := maxLen_eq
  unfold F_laws_szEdit F_laws_szLabel
  rw [s_slen, s_ofN, sub_id (x := x) (by omega) (by omega), br_bool, s_lt]
  by_cases h : x - (a.fName.size : Int) < 0
  · exact ⟨-1, by simp [h], fun h => by omega⟩
  · rw [if_neg (by simpa using h), s_slen, s_ofN, sub_id (by omega) (by omega), br_bool, s_lt]
    by_cases g : x - (a.fName.size : Int) - (a.fLabel.fName.size : Int) < 0
    · exact ⟨-1, by simp [g, br_bool, s_lt], fun h => by omega⟩
    · exact ⟨x - (a.fName.size : Int) - (a.fLabel.fName.size : Int), by simp [g, br_bool, s_lt], fun _ => ⟨by omega, by omega, by omega⟩⟩
theorem laws_toEdit_ok (a : TEdit) : F_laws_toEdit a = some a := rfl
theorem laws_eqEdit_ok (a : TEdit) : F_laws_eqEdit a a = some true := by
  unfold F_laws_eqEdit
  simp [eq_true', s_not, br, laws_eqShape_ok, laws_eqLabel_ok, laws_eqInstance_ok, seq_self]
/- is it an edit -/
theorem eq_self' (x : Int) : std.eq x x = true := by simp [std]
theorem eq_zero (x : Int) : std.eq 0 x = std.eq x 0 := by simp only [std]; exact Bool.beq_comm
theorem seq_zero (x : ByteArray) : std.seq (ByteArray.mk #[]) x = std.seq x (ByteArray.mk #[]) := by simp only [std]; exact Bool.beq_comm
theorem band_and (a b : Bool) : std.band a b = (a && b) := rfl
theorem not_not' (a : Bool) : std.not a = !a := rfl
noncomputable def zS (a : TShape) : Bool := std.eq a.fLayer 0 && (std.eq a.fBox.fX0 0 && (std.eq a.fBox.fY0 0 && (std.eq a.fBox.fX1 0 && std.eq a.fBox.fY1 0)))
noncomputable def zL (a : TLabel) : Bool := std.eq a.fLayer 0 && ((std.eq a.fAt.fX 0 && std.eq a.fAt.fY 0) && std.seq a.fName (ByteArray.mk #[]))
noncomputable def zI (a : TInstance) : Bool := std.eq a.fCell 0 && ((std.eq a.fPlace.fOrientation 0 && (std.eq a.fPlace.fX 0 && std.eq a.fPlace.fY 0)) && (std.eq a.fColumns 0 && (std.eq a.fRows 0 && (std.eq a.fStepX 0 && std.eq a.fStepY 0))))
theorem spec_l13NoShape_ok (a : TShape) : F_spec_l13NoShape a = some (zS a) := by
  unfold F_spec_l13NoShape zS
  simp only [band_and, Bool.and_true]
theorem spec_l13NoLabel_ok (a : TLabel) : F_spec_l13NoLabel a = some (zL a) := by
  unfold F_spec_l13NoLabel zL
  simp only [band_and, Bool.and_true]
theorem spec_l13NoInstance_ok (a : TInstance) : F_spec_l13NoInstance a = some (zI a) := by
  unfold F_spec_l13NoInstance zI
  simp only [band_and, Bool.and_true]
/-- is it an edit -/
noncomputable def okEdit (a : TEdit) : Bool :=
  (wB a.fCell 0 8 && wB a.fIndex 0 24) &&
  (if a.fKind = 1 then std.seq a.fName (ByteArray.mk #[]) && okShape a.fShape && zL a.fLabel && zI a.fInstance
   else if a.fKind = 3 then std.seq a.fName (ByteArray.mk #[]) && zS a.fShape && okLabel a.fLabel && zI a.fInstance
   else if a.fKind = 5 then std.seq a.fName (ByteArray.mk #[]) && zS a.fShape && zL a.fLabel && okInst a.fInstance 8
   else if a.fKind = 2 ∨ a.fKind = 4 ∨ a.fKind = 6 then std.seq a.fName (ByteArray.mk #[]) && zS a.fShape && zL a.fLabel && zI a.fInstance
   else if a.fKind = 7 ∨ a.fKind = 8 then std.eq a.fIndex 0 && isName a.fName && zS a.fShape && zL a.fLabel && zI a.fInstance
   else if a.fKind = 9 then std.eq a.fIndex 0 && std.seq a.fName (ByteArray.mk #[]) && zS a.fShape && zL a.fLabel && zI a.fInstance
   else false)
theorem eq_dec (x y : Int) : std.eq x y = decide (x = y) := by
  simp only [std]
  by_cases h : x = y <;> simp [h]
theorem spec_IsValidEdit_ok (a : TEdit) (h1 : a.fName.size ≤ maxLen) (h2 : a.fLabel.fName.size ≤ maxLen) : F_spec_IsValidEdit a = some (okEdit a) := by
  unfold F_spec_IsValidEdit okEdit
  simp only [spec_l09In_ok, spec_IsName_ok _ h1, spec_l09Shape_ok, spec_l13NoShape_ok, spec_l09Label_ok _ h2, spec_l13NoLabel_ok, spec_l09Instance_ok, spec_l13NoInstance_ok, not_not']
  generalize okShape a.fShape = s1
  generalize zS a.fShape = s2
  generalize okLabel a.fLabel = l1
  generalize zL a.fLabel = l2
  generalize okInst a.fInstance 8 = i1
  generalize zI a.fInstance = i2
  generalize isName a.fName = n1
  generalize std.seq a.fName _ = n2
  generalize wB a.fCell 0 8 = c1
  generalize wB a.fIndex 0 24 = c2
  generalize std.eq a.fIndex 0 = c3
  generalize a.fKind = k
  by_cases hk : 1 ≤ k ∧ k ≤ 9
  · have : k = 1 ∨ k = 2 ∨ k = 3 ∨ k = 4 ∨ k = 5 ∨ k = 6 ∨ k = 7 ∨ k = 8 ∨ k = 9 := by omega
    rcases this with rfl | rfl | rfl | rfl | rfl | rfl | rfl | rfl | rfl <;> cases c1 <;> cases c2 <;> try rfl
    all_goals (cases c3 <;> try rfl)
    all_goals (cases n2 <;> try rfl)
    all_goals (cases n1 <;> try rfl)
    all_goals (cases s2 <;> try rfl)
    all_goals (cases s1 <;> try rfl)
    all_goals (cases l2 <;> try rfl)
    all_goals (cases l1 <;> try rfl)
    all_goals (cases i2 <;> try rfl)
    all_goals (cases i1 <;> rfl)
  · have hw : wB k 1 9 = false := by
      simp [wB, std]; omega
    rw [hw]
    have e1 : ¬ k = 1 := by omega
    have e2 : ¬ k = 2 := by omega
    have e3 : ¬ k = 3 := by omega
    have e4 : ¬ k = 4 := by omega
    have e5 : ¬ k = 5 := by omega
    have e6 : ¬ k = 6 := by omega
    have e7 : ¬ k = 7 := by omega
    have e8 : ¬ k = 8 := by omega
    have e9 : ¬ k = 9 := by omega
    simp only [e1, e2, e3, e4, e5, e6, e7, e8, e9, or_self, if_false, Bool.and_false]
    rfl
theorem zS_fold (a : TShape) : (std.eq a.fLayer 0 && (std.eq a.fBox.fX0 0 && (std.eq a.fBox.fY0 0 && (std.eq a.fBox.fX1 0 && std.eq a.fBox.fY1 0)))) = zS a := rfl
theorem zL_fold (a : TLabel) : (std.eq a.fLayer 0 && ((std.eq a.fAt.fX 0 && std.eq a.fAt.fY 0) && std.seq a.fName (ByteArray.mk #[]))) = zL a := rfl
theorem zI_fold (a : TInstance) : (std.eq a.fCell 0 && ((std.eq a.fPlace.fOrientation 0 && (std.eq a.fPlace.fX 0 && std.eq a.fPlace.fY 0)) && (std.eq a.fColumns 0 && (std.eq a.fRows 0 && (std.eq a.fStepX 0 && std.eq a.fStepY 0))))) = zI a := rfl
theorem impl_IsValidEdit_ok (a : TEdit) (h1 : a.fName.size ≤ maxLen) (h2 : a.fLabel.fName.size ≤ maxLen) : F_impl_IsValidEdit a = some (okEdit a) := by
  unfold F_impl_IsValidEdit okEdit
  simp only [impl_within_ok, impl_IsName_ok _ h1, impl_validShape_ok, impl_validLabel_ok _ h2, impl_validInstance_ok, band_and, Bool.and_true, Bool.true_and, eq_self', seq_self, eq_zero, seq_zero, zS_fold, zL_fold, zI_fold]
  generalize okShape a.fShape = s1
  generalize zS a.fShape = s2
  generalize okLabel a.fLabel = l1
  generalize zL a.fLabel = l2
  generalize okInst a.fInstance 8 = i1
  generalize zI a.fInstance = i2
  generalize isName a.fName = n1
  generalize std.seq a.fName _ = n2
  generalize wB a.fCell 0 8 = c1
  generalize wB a.fIndex 0 24 = c2
  generalize std.eq a.fIndex 0 = c3
  generalize a.fKind = k
  by_cases hk : 1 ≤ k ∧ k ≤ 9
  · have : k = 1 ∨ k = 2 ∨ k = 3 ∨ k = 4 ∨ k = 5 ∨ k = 6 ∨ k = 7 ∨ k = 8 ∨ k = 9 := by omega
    rcases this with rfl | rfl | rfl | rfl | rfl | rfl | rfl | rfl | rfl <;> cases c1 <;> cases c2 <;> try rfl
    all_goals (cases c3 <;> try rfl)
    all_goals (cases n2 <;> try rfl)
    all_goals (cases n1 <;> try rfl)
    all_goals (cases s2 <;> try rfl)
    all_goals (cases s1 <;> try rfl)
    all_goals (cases l2 <;> try rfl)
    all_goals (cases l1 <;> try rfl)
    all_goals (cases i2 <;> try rfl)
    all_goals (cases i1 <;> rfl)
  · have e1 : ¬ k = 1 := by omega
    have e2 : ¬ k = 2 := by omega
    have e3 : ¬ k = 3 := by omega
    have e4 : ¬ k = 4 := by omega
    have e5 : ¬ k = 5 := by omega
    have e6 : ¬ k = 6 := by omega
    have e7 : ¬ k = 7 := by omega
    have e8 : ¬ k = 8 := by omega
    have e9 : ¬ k = 9 := by omega
    simp only [eq_dec, e1, e2, e3, e4, e5, e6, e7, e8, e9, or_self, if_false, Bool.and_false, decide_false]
    cases c1 <;> cases c2 <;> rfl
/- the code of an edit: both sides -/
/-- a loop that says yes at the first element that is met -/
theorem scan_any {step : Int → Option (Int ⊕ (Bool ⊕ Unit))} {p : Nat → Bool} {n : Nat} (h : ∀ i : Nat, i < n → step i = some (cond (p i) (.inr (.inl true)) (.inl ((i + 1 : Nat) : Int)))) (hn : step n = some (.inr (.inr ()))) :
    whileP step 0 = some (cond ((List.range n).any p) (.inl true) (.inr ())) := by
  have key : ∀ m i : Nat, i + m = n → whileP step i = some (cond ((List.range' i m).any p) (.inl true) (.inr ())) := by
    intro m
    induction m with
    | zero =>
      intro i hi
      have : i = n := by omega
      subst this
      rw [whileP_unfold, hn]; rfl
    | succ m ih =>
      intro i hi
      rw [whileP_unfold, h i (by omega)]
      cases hb : p i with
      | true => simp [List.range', hb]
      | false =>
        show whileP step ((i + 1 : Nat) : Int) = _
        rw [ih (i + 1) (by omega)]
        simp [List.range', hb]
  have := key n 0 (by omega)
  rw [List.range_eq_range']
  exact this
theorem any_res {b : Bool} : ((some (cond b (.inl true) (.inr ())) : Option (Bool ⊕ Unit)).bind fun y3 => (match y3 with
    | .inl y3k0 => (letO y3k0 fun w25 => some w25)
    | .inr y3m0 => some false)) = some b := by cases b <;> rfl
noncomputable def othN (l : List TCell) (k : Int) (s : ByteArray) : Bool := (List.range l.length).any fun i => std.not (std.eq (i : Int) k) && std.seq (gd l i).fName s
theorem spec_l13Named_ok (a : TLibrary) (k : Int) (s : ByteArray) (h : a.fCells.length ≤ 10000000) : F_spec_l13Named a k s = some (othN a.fCells k s) := by
  unfold F_spec_l13Named
  rw [scan_any (p := fun i => std.not (std.eq (i : Int) k) && std.seq (gd a.fCells i).fName s) (n := a.fCells.length) (fun i hi => ?_) ?_]
  · exact any_res
  · simp only [L_spec_l13Named_x2, letO_eq]
    rw [ltl_f, br_f]
  · simp only [L_spec_l13Named_x2, letO_eq, s_toNn]
    rw [ltl_t hi, br_t, req_of (inRl hi), inc_nat (by omega)]
    cases std.not (std.eq (i : Int) k) <;> cases std.seq (gd a.fCells i).fName s <;> rfl
noncomputable def usesB (c : TCell) (k : Int) : Bool := (List.range c.fInstances.length).any fun i => std.eq (gd c.fInstances i).fCell k
theorem spec_l09Uses_ok (c : TCell) (k : Int) (h : c.fInstances.length ≤ 10000000) : F_spec_l09Uses c k = some (usesB c k) := by
  unfold F_spec_l09Uses
  rw [scan_any (p := fun i => std.eq (gd c.fInstances i).fCell k) (n := c.fInstances.length) (fun i hi => ?_) ?_]
  · exact any_res
  · simp only [L_spec_l09Uses_x2, letO_eq]
    rw [ltl_f, br_f]
  · simp only [L_spec_l09Uses_x2, letO_eq, s_toNn]
    rw [ltl_t hi, br_t, req_of (inRl hi), inc_nat (by omega)]
    cases std.eq (gd c.fInstances i).fCell k <;> rfl
noncomputable def placedB (a : TLibrary) (k : Int) : Bool := (List.range a.fCells.length).any fun j => usesB (gd a.fCells j) k
theorem spec_l13Placed_ok (a : TLibrary) (k : Int) (h : SmallL a) : F_spec_l13Placed a k = some (placedB a k) := by
  have hc := h.cells
  unfold F_spec_l13Placed
  rw [scan_any (p := fun j => usesB (gd a.fCells j) k) (n := a.fCells.length) (fun i hi => ?_) ?_]
  · exact any_res
  · simp only [L_spec_l13Placed_x2, letO_eq]
    rw [ltl_f, br_f]
  · have hi2 := (h.cell _ (gd_mem hi)).insts
    simp only [L_spec_l13Placed_x2, letO_eq, s_toNn]
    rw [ltl_t hi, br_t, req_of (inRl hi), inc_nat (by omega), spec_l09Uses_ok _ _ (by omega), Option.bind_some]
    cases usesB (gd a.fCells i) k <;> rfl
theorem impl_uses_ok (c : TCell) (k : Int) (h : c.fInstances.length ≤ 10000000) : F_slices_ContainsFunc_Limpl_Instance_impl_Instance_mbFimpl_UsersOf_1p c.fInstances k = some (usesB c k) := by
  unfold F_slices_ContainsFunc_Limpl_Instance_impl_Instance_mbFimpl_UsersOf_1p F_slices_IndexFunc_Limpl_Instance_impl_Instance_mbFimpl_UsersOf_1p
  rw [bind_of (scan_first (p := fun i => std.eq (gd c.fInstances i).fCell k) (n := c.fInstances.length) (fun i hi => ?_) ?_)]
  · unfold usesB
    rw [← firstI_any]
    unfold firstI
    cases (List.range c.fInstances.length).find? (fun i => std.eq (gd c.fInstances i).fCell k) <;> rfl
  · simp only [L_slices_IndexFunc_Limpl_Instance_impl_Instance_mbFimpl_UsersOf_1p_x2, letO_eq]
    rw [ltl_f, br_f]
  · simp only [L_slices_IndexFunc_Limpl_Instance_impl_Instance_mbFimpl_UsersOf_1p_x2, letO_eq, s_toNn, F_impl_UsersOf_1_mbp]
    rw [ltl_t hi, br_t, req_of (inRl hi), Option.bind_some, inc_nat (by omega)]
    cases std.eq (gd c.fInstances i).fCell k <;> rfl
/-- the cells that place the cell k -/
noncomputable def usersL (a : TLibrary) (k : Int) (n : Nat) : List Int := ((List.range n).filter fun j => usesB (gd a.fCells j) k).map fun j : Nat => (j : Int)
theorem usersL_len (a : TLibrary) (k : Int) (n : Nat) : (usersL a k n).length ≤ n := by
  unfold usersL
  rw [List.length_map]
  exact Nat.le_trans (List.length_filter_le _ _) (by simp)
theorem usersL_succ (a : TLibrary) (k : Int) (n : Nat) : usersL a k (n + 1) = usersL a k n ++ (if usesB (gd a.fCells n) k = true then [(n : Int)] else []) := by
  unfold usersL
  rw [List.range_succ, List.filter_append, List.map_append]
  cases h : usesB (gd a.fCells n) k <;> simp [h]
theorem usersL_any (a : TLibrary) (k : Int) : decide (0 < (usersL a k a.fCells.length).length) = placedB a k := by
  unfold usersL placedB
  rw [Bool.eq_iff_iff, decide_eq_true_eq, List.length_map, List.length_pos_iff_exists_mem, List.any_eq_true]
  simp [List.mem_filter]
theorem hasCell_ok (a : TLibrary) (k : Int) (h : SmallL a) : F_impl_hasCell a k = some (okLib a && wB k 0 ((a.fCells.length : Int) - 1)) := by
  have hl := h.cells
  unfold F_impl_hasCell
  rw [impl_IsValidLibrary_ok _ h]
  simp only [Option.bind_some, letO_eq, s_ofN, len_eq]
  rw [sub_id (by omega) (by omega), impl_within_ok]
  cases okLib a <;> rfl
theorem impl_UsersOf_ok (a : TLibrary) (k : Int) (h : SmallL a) : F_impl_UsersOf a k = some (if okLib a && wB k 0 ((a.fCells.length : Int) - 1) then usersL a k a.fCells.length else []) := by
  have hc := h.cells
  unfold F_impl_UsersOf
  rw [show TLibrary.mk a.fCells = a from rfl, hasCell_ok a k h, Option.bind_some]
  cases okLib a && wB k 0 ((a.fCells.length : Int) - 1) with
  | false => rfl
  | true =>
    simp only [letO_eq, Bool.not_true, br_f, if_true]
    refine Eq.trans (bind_of (while_from (r := usersL a k a.fCells.length) (fun i => ((i : Int), usersL a k i)) a.fCells.length rfl (fun i hi => ?_) ?_)) rfl
    · have hi2 := (h.cell _ (gd_mem hi)).insts
      have hu := usersL_len a k i
      simp only [L_impl_UsersOf_x7, letO_eq, s_toNn]
      rw [ltl_t hi, br_t, req_of (inRl hi), impl_uses_ok _ _ (by omega), Option.bind_some, inc_nat (by omega), usersL_succ]
      cases usesB (gd a.fCells i) k with
      | false => simp [br]
      | true =>
        rw [br_t, req_of (show std.room (std.nadd (len (usersL a k i)) (len [(i : Int)])) 8 from ?_)]
        · rfl
        · rw [s_nadd, len_eq, len_eq, List.length_singleton]
          show _ * 8 ≤ 35184372088832
          omega
    · simp only [L_impl_UsersOf_x7, letO_eq]
      rw [ltl_f, br_f]
/-- names -/
theorem seq_eq {x y s : ByteArray} (h : std.seq x s = true) (g : std.seq y s = true) : std.seq x y = true := by
  have h1 : (x.toList == s.toList) = true := h
  have h2 : (y.toList == s.toList) = true := g
  show (x.toList == y.toList) = true
  rw [eq_of_beq h1, eq_of_beq h2]
  exact beq_self_eq_true _
theorem okLib_fresh {a : TLibrary} (hv : okLib a = true) {j k : Nat} (hk : k < a.fCells.length) (hj : j < k) : std.seq (gd a.fCells j).fName (gd a.fCells k).fName = false := by
  unfold okLib at hv
  simp only [Bool.and_eq_true, List.all_eq_true] at hv
  have := (hv.2.2 k (List.mem_range.2 hk)).2
  unfold fresh at this
  rw [List.all_eq_true] at this
  simpa using this j (List.mem_range.2 hj)
theorem seq_comm {x y : ByteArray} (h : std.seq x y = true) : std.seq y x = true := seq_eq (seq_self y) h
theorem name_once {a : TLibrary} (hv : okLib a = true) {s : ByteArray} {j k : Nat} (hj : j < a.fCells.length) (hk : k < a.fCells.length) (h : std.seq (gd a.fCells j).fName s = true) (g : std.seq (gd a.fCells k).fName s = true) : j = k := by
  rcases Nat.lt_trichotomy j k with h1 | h1 | h1
  · have := okLib_fresh hv hk h1
    rw [seq_eq h g] at this; cases this
  · exact h1
  · have := okLib_fresh hv hj h1
    rw [seq_eq g h] at this; cases this
theorem named_other {a : TLibrary} (hv : okLib a = true) (k : Nat) (hk : k < a.fCells.length) (s : ByteArray) : (std.le 0 (namedI a.fCells s) && std.not (std.eq (namedI a.fCells s) (k : Int))) = othN a.fCells (k : Int) s := by
  unfold namedI firstI
  cases h : (List.range a.fCells.length).find? (fun i => std.seq (gd a.fCells i).fName s) with
  | none =>
    rw [List.find?_eq_none] at h
    have : othN a.fCells (k : Int) s = false := by
      unfold othN
      rw [List.any_eq_false]
      intro i hi
      have := h i hi
      simp [this]
    rw [this]; rfl
  | some i =>
    have h1 := List.find?_some h
    have h2 := List.mem_range.1 (List.mem_of_find?_eq_some h)
    simp only at h1 ⊢
    rw [show std.le 0 (i : Int) = true from le_true (by omega), Bool.true_and]
    unfold othN
    by_cases hik : i = k
    · subst hik
      rw [eq_true' rfl]
      symm
      show _ = false
      rw [List.any_eq_false]
      intro j hj
      by_cases hji : j = i
      · subst hji; rw [eq_true' rfl]; simp [s_not]
      · intro hc
        rw [Bool.and_eq_true] at hc
        exact hji (name_once hv (List.mem_range.1 hj) h2 hc.2 h1)
    · rw [eq_false' (by omega)]
      symm
      show _ = true
      rw [List.any_eq_true]
      exact ⟨i, List.mem_range.2 h2, by rw [eq_false' (by omega), h1]; rfl⟩
theorem named_any (a : TLibrary) (s : ByteArray) : std.le 0 (namedI a.fCells s) = othN a.fCells (-1) s := by
  unfold namedI othN
  rw [firstI_any]
  refine congrArg (fun f => (List.range a.fCells.length).any f) ?_
  funext i
  rw [eq_false' (by omega)]
  rfl
/- the code of an edit, and its inverse -/
noncomputable def insC (i n m : Int) : Int := if n < i then 2 else if n = m then 3 else 0
noncomputable def delC (i n : Int) : Int := if n ≤ i then 5 else 0
noncomputable def eCode (a : TLibrary) (e : TEdit) : Int :=
  if (okLib a && okEdit e) = false then 1
  else if e.fKind = 8 then (if (a.fCells.length : Int) < e.fCell then 5 else if (a.fCells.length : Int) = 8 then 3 else if othN a.fCells (-1) e.fName = true then 6 else 0)
  else if (a.fCells.length : Int) ≤ e.fCell then 5
  else if e.fKind = 1 then insC e.fIndex (gd a.fCells e.fCell.toNat).fShapes.length 24
  else if e.fKind = 2 then delC e.fIndex (gd a.fCells e.fCell.toNat).fShapes.length
  else if e.fKind = 3 then insC e.fIndex (gd a.fCells e.fCell.toNat).fLabels.length 8
  else if e.fKind = 4 then delC e.fIndex (gd a.fCells e.fCell.toNat).fLabels.length
  else if e.fKind = 5 then (if insC e.fIndex (gd a.fCells e.fCell.toNat).fInstances.length 8 = 0 ∧ e.fCell ≤ e.fInstance.fCell then 6 else insC e.fIndex (gd a.fCells e.fCell.toNat).fInstances.length 8)
  else if e.fKind = 6 then delC e.fIndex (gd a.fCells e.fCell.toNat).fInstances.length
  else if e.fKind = 7 then (if othN a.fCells e.fCell e.fName = true then 6 else 0)
  else (if (a.fCells.length : Int) = 1 ∨ 0 < (gd a.fCells e.fCell.toNat).fShapes.length + (gd a.fCells e.fCell.toNat).fLabels.length + (gd a.fCells e.fCell.toNat).fInstances.length ∨ placedB a e.fCell = true then 6 else 0)
theorem okEdit_kind {e : TEdit} (h : okEdit e = true) : (e.fKind = 1 ∨ e.fKind = 2 ∨ e.fKind = 3 ∨ e.fKind = 4 ∨ e.fKind = 5 ∨ e.fKind = 6 ∨ e.fKind = 7 ∨ e.fKind = 8 ∨ e.fKind = 9) ∧ 0 ≤ e.fCell ∧ 0 ≤ e.fIndex := by
  unfold okEdit at h
  rw [Bool.and_eq_true, Bool.and_eq_true] at h
  obtain ⟨⟨h1, h2⟩, h3⟩ := h
  have e1 : 0 ≤ e.fCell := by unfold wB at h1; simp [std] at h1; exact h1.1
  have e2 : 0 ≤ e.fIndex := by unfold wB at h2; simp [std] at h2; exact h2.1
  refine ⟨?_, e1, e2⟩
  by_cases hk : 1 ≤ e.fKind ∧ e.fKind ≤ 9
  · omega
  · exfalso
    have n1 : ¬ e.fKind = 1 := by omega
    have n2 : ¬ e.fKind = 2 := by omega
    have n3 : ¬ e.fKind = 3 := by omega
    have n4 : ¬ e.fKind = 4 := by omega
    have n5 : ¬ e.fKind = 5 := by omega
    have n6 : ¬ e.fKind = 6 := by omega
    have n7 : ¬ e.fKind = 7 := by omega
    have n8 : ¬ e.fKind = 8 := by omega
    have n9 : ¬ e.fKind = 9 := by omega
    simp only [n1, n2, n3, n4, n5, n6, n7, n8, n9, or_self, if_false] at h3
    cases h3
theorem br_dec {β : Type} {p : Prop} [Decidable p] (x y : Option β) : br (decide p) x y = if p then x else y := by
  by_cases h : p
  · rw [decide_eq_true h, if_pos h]; rfl
  · rw [decide_eq_false h, if_neg h]; rfl
theorem okLib_len {a : TLibrary} (hv : okLib a = true) : 1 ≤ a.fCells.length ∧ a.fCells.length ≤ 8 := by
  unfold okLib at hv
  simp only [Bool.and_eq_true, decide_eq_true_eq] at hv
  exact ⟨hv.1, hv.2.1⟩
theorem okLib_cell {a : TLibrary} (hv : okLib a = true) {k : Nat} (hk : k < a.fCells.length) : (gd a.fCells k).fShapes.length ≤ 24 ∧ (gd a.fCells k).fLabels.length ≤ 8 ∧ (gd a.fCells k).fInstances.length ≤ 8 := by
  unfold okLib at hv
  simp only [Bool.and_eq_true, List.all_eq_true] at hv
  have := (hv.2.2 k (List.mem_range.2 hk)).1
  unfold okCell at this
  simp only [Bool.and_eq_true, decide_eq_true_eq] at this
  exact ⟨this.2.1, this.2.2.1, this.2.2.2.1⟩
theorem add3 {x y z : Nat} (h : x ≤ 1000 ∧ y ≤ 1000 ∧ z ≤ 1000) : std.add .i64 (std.add .i64 (x : Int) (y : Int)) (z : Int) = ((x + y + z : Nat) : Int) := by
  rw [add_id (x := (x : Int)) (y := (y : Int)) (by omega) (by omega), add_id (by omega) (by omega)]
  omega
set_option maxHeartbeats 4000000 in
theorem spec_l13Code_ok (a : TLibrary) (e : TEdit) (h : SmallL a) (g : SmallE e) : F_spec_l13Code a e = some (eCode a e) := by
  have hm := maxLen_eq
  unfold F_spec_l13Code
  rw [show TLibrary.mk a.fCells = a from rfl, spec_IsValidLibrary_ok a h, spec_IsValidEdit_ok e (by have := g.name; omega) (by have := g.lname; omega), Option.bind_some, Option.bind_some]
  cases hv : okLib a with
  | false => unfold eCode; rw [hv]; rfl
  | true =>
    cases he : okEdit e with
    | false => unfold eCode; rw [hv, he]; rfl
    | true =>
      obtain ⟨hk, hc, hi⟩ := okEdit_kind he
      have hl := okLib_len hv
      unfold eCode
      rw [hv, he]
      obtain ⟨kind, cell, index, name, shape, label, inst⟩ := e
      simp only at hk hc hi ⊢
      simp only [Bool.not_true, br_f, Option.bind_some, letO_eq, Bool.and_self, s_le, s_eq, s_lt, br_dec, s_ofN, len_eq, s_not]
      by_cases hn : (a.fCells.length : Int) ≤ cell
      · unfold F_spec_l13CellCode
        rw [spec_l13Named_ok a _ _ (by have := h.cells; omega)]
        simp only [Bool.not_true, br_f, Option.bind_some, letO_eq, s_le, s_eq, s_lt, br_dec, s_ofN, len_eq, s_not]
        rcases hk with rfl | rfl | rfl | rfl | rfl | rfl | rfl | rfl | rfl <;> simp [hn, br_bool]
        all_goals (repeat' split) <;> simp_all
      · obtain ⟨m, rfl⟩ := Int.eq_ofNat_of_zero_le hc
        have hm2 : m < a.fCells.length := by omega
        have hcl := okLib_cell hv hm2
        have hin : std.inR (m : Int) a.fCells.length := ⟨by omega, by omega⟩
        unfold F_spec_l13CellCode F_spec_l13Counts
        rw [spec_l13Named_ok a _ _ (by have := h.cells; omega), spec_l13Placed_ok a _ h, spec_l13Named_ok a _ _ (by have := h.cells; omega)]
        simp only [Bool.not_true, br_f, Option.bind_some, letO_eq, s_le, s_eq, s_lt, br_dec, s_ofN, len_eq, s_not, s_toNn, req_of (inRl hm2), add3 (show (gd a.fCells m).fShapes.length ≤ 1000 ∧ (gd a.fCells m).fLabels.length ≤ 1000 ∧ (gd a.fCells m).fInstances.length ≤ 1000 by omega)]
        cases hpb : placedB a (m : Int) <;> rcases hk with rfl | rfl | rfl | rfl | rfl | rfl | rfl | rfl | rfl <;> simp [hn, br_bool, insC, delC, Int.toNat_natCast]
        all_goals (try simp only [req_of hin])
        all_goals (repeat' split)
        all_goals (first | rfl | (simp_all; done) | omega | (simp_all; omega))
set_option maxHeartbeats 4000000 in
theorem impl_editCode_ok (a : TLibrary) (e : TEdit) (h : SmallL a) (g : SmallE e) : F_impl_editCode a e = some (eCode a e) := by
  have hm := maxLen_eq
  unfold F_impl_editCode
  rw [show TLibrary.mk a.fCells = a from rfl, impl_IsValidLibrary_ok a h, impl_IsValidEdit_ok e (by have := g.name; omega) (by have := g.lname; omega), Option.bind_some, Option.bind_some]
  cases hv : okLib a with
  | false => unfold eCode; rw [hv]; rfl
  | true =>
    cases he : okEdit e with
    | false => unfold eCode; rw [hv, he]; rfl
    | true =>
      obtain ⟨hk, hc, hi⟩ := okEdit_kind he
      have hl := okLib_len hv
      unfold eCode
      rw [hv, he]
      obtain ⟨kind, cell, index, name, shape, label, inst⟩ := e
      simp only at hk hc hi ⊢
      rw [impl_named_ok a name (by have := h.cells; omega)]
      simp only [Bool.not_true, br_f, Option.bind_some, letO_eq, Bool.and_self]
      by_cases hn : (a.fCells.length : Int) ≤ cell
      · simp only [named_any]
        simp only [s_le, s_eq, s_lt, br_dec, s_ofN, len_eq, s_not]
        rcases hk with rfl | rfl | rfl | rfl | rfl | rfl | rfl | rfl | rfl <;> simp [hn, br_bool]
        all_goals (repeat' split) <;> simp_all
      · obtain ⟨m, rfl⟩ := Int.eq_ofNat_of_zero_le hc
        have hm2 : m < a.fCells.length := by omega
        have hcl := okLib_cell hv hm2
        have hin : std.inR (m : Int) a.fCells.length := ⟨by omega, by omega⟩
        have hno := named_other hv m hm2 name
        have hw : wB (m : Int) 0 ((a.fCells.length : Int) - 1) = true := by
          unfold wB
          rw [le_true (show (0 : Int) ≤ (m : Int) by omega), le_true (show (m : Int) ≤ (a.fCells.length : Int) - 1 by omega)]
          rfl
        have hpl : decide ((0 : Int) < ((usersL a (m : Int) a.fCells.length).length : Int)) = placedB a (m : Int) := by
          rw [← usersL_any a (m : Int)]
          exact decide_eq_decide.2 (by omega)
        unfold F_impl_insertCode F_impl_deleteCode
        rw [impl_UsersOf_ok a _ h, hv, hw, Bool.and_self, if_pos rfl, Option.bind_some]
        rw [show (((br (std.le 0 (namedI a.fCells name)) (some (std.not (std.eq (namedI a.fCells name) (m : Int)))) (some false)) : Option Bool)) = some (othN a.fCells (m : Int) name) from by rw [← hno]; cases std.le 0 (namedI a.fCells name) <;> rfl]
        simp only [named_any]
        simp only [Bool.not_true, br_f, Option.bind_some, letO_eq, s_le, s_eq, s_lt, br_dec, s_ofN, len_eq, s_not, s_toNn, req_of (inRl hm2), add3 (show (gd a.fCells m).fShapes.length ≤ 1000 ∧ (gd a.fCells m).fLabels.length ≤ 1000 ∧ (gd a.fCells m).fInstances.length ≤ 1000 by omega)]
        rw [hpl]
        cases hpb : placedB a (m : Int) <;> rcases hk with rfl | rfl | rfl | rfl | rfl | rfl | rfl | rfl | rfl <;> simp [hn, br_bool, insC, delC, Int.toNat_natCast]
        all_goals (try simp only [req_of hin])
        all_goals (repeat' split)
        all_goals (first | rfl | (simp_all; done) | omega | (simp_all; omega))
/- the inverse: both sides -/
theorem eCode_zero {a : TLibrary} {e : TEdit} (hc : eCode a e = 0) : okLib a = true ∧ okEdit e = true ∧ (e.fKind ≠ 8 → ∃ m : Nat, e.fCell = (m : Int) ∧ m < a.fCells.length) := by
  have hb : (okLib a && okEdit e) = true := by
    cases h : (okLib a && okEdit e) with
    | true => rfl
    | false => exfalso; unfold eCode at hc; rw [if_pos h] at hc; exact absurd hc (by decide)
  rw [Bool.and_eq_true] at hb
  obtain ⟨hv, he⟩ := hb
  refine ⟨hv, he, fun h8 => ?_⟩
  obtain ⟨_, h1, _⟩ := okEdit_kind he
  obtain ⟨m, hm⟩ := Int.eq_ofNat_of_zero_le h1
  refine ⟨m, hm, ?_⟩
  unfold eCode at hc
  rw [if_neg (by rw [hv, he]; decide), if_neg h8] at hc
  by_cases hn : (a.fCells.length : Int) ≤ e.fCell
  · rw [if_pos hn] at hc; exact absurd hc (by decide)
  · omega
theorem eCode_index {a : TLibrary} {e : TEdit} {m : Nat} (hc : eCode a e = 0) (hm : e.fCell = (m : Int)) (hlt : m < a.fCells.length) : (e.fKind = 2 → ∃ q : Nat, e.fIndex = (q : Int) ∧ q < (gd a.fCells m).fShapes.length) ∧ (e.fKind = 4 → ∃ q : Nat, e.fIndex = (q : Int) ∧ q < (gd a.fCells m).fLabels.length) ∧ (e.fKind = 6 → ∃ q : Nat, e.fIndex = (q : Int) ∧ q < (gd a.fCells m).fInstances.length) := by
  obtain ⟨hv, he, _⟩ := eCode_zero hc
  obtain ⟨_, _, h2⟩ := okEdit_kind he
  obtain ⟨q, hq⟩ := Int.eq_ofNat_of_zero_le h2
  unfold eCode at hc
  rw [if_neg (by rw [hv, he]; decide)] at hc
  have key : ∀ n : Nat, delC e.fIndex n = 0 → q < n := fun n h => by
    unfold delC at h
    by_cases hh : (n : Int) ≤ e.fIndex
    · rw [if_pos hh] at h; exact absurd h (by decide)
    · omega
  have hn : ¬ (a.fCells.length : Int) ≤ e.fCell := by omega
  have ht : e.fCell.toNat = m := by omega
  rw [ht] at hc
  refine ⟨fun hk => ⟨q, hq, ?_⟩, fun hk => ⟨q, hq, ?_⟩, fun hk => ⟨q, hq, ?_⟩⟩
  · rw [if_neg (by omega), if_neg hn, if_neg (by omega), if_pos hk] at hc; exact key _ hc
  · rw [if_neg (by omega), if_neg hn, if_neg (by omega), if_neg (by omega), if_neg (by omega), if_pos hk] at hc; exact key _ hc
  · rw [if_neg (by omega), if_neg hn, if_neg (by omega), if_neg (by omega), if_neg (by omega), if_neg (by omega), if_neg (by omega), if_pos hk] at hc; exact key _ hc
def zSh : TShape := ⟨0, ⟨0, 0, 0, 0⟩⟩
def zLa : TLabel := ⟨0, ⟨0, 0⟩, ByteArray.mk #[]⟩
def zIn : TInstance := ⟨0, ⟨0, 0, 0⟩, 0, 0, 0, 0⟩
theorem eqd (x y : Int) : std.eq x y = decide (x = y) := s_eq x y
set_option maxHeartbeats 4000000 in
theorem inverse_same (a : TLibrary) (e : TEdit) (hc : eCode a e = 0) : ∃ x, F_spec_l13Inverse a e = some x ∧ F_impl_inverse a e = some x := by
  obtain ⟨hv, he, hcell⟩ := eCode_zero hc
  obtain ⟨hk, h1, hi⟩ := okEdit_kind he
  by_cases h8 : e.fKind = 8
  · obtain ⟨kind, cell, index, name, shape, label, inst⟩ := e
    simp only at h8
    subst h8
    exact ⟨_, rfl, rfl⟩
  · obtain ⟨m, hm, hlt⟩ := hcell h8
    obtain ⟨i2, i4, i6⟩ := eCode_index hc hm hlt
    clear hc he
    obtain ⟨kind, cell, index, name, shape, label, inst⟩ := e
    simp only at hk h1 hi h8 hm i2 i4 i6
    subst hm
    rcases hk with rfl | rfl | rfl | rfl | rfl | rfl | rfl | rfl | rfl
    · exact ⟨_, rfl, rfl⟩
    · obtain ⟨q, rfl, hq⟩ := i2 rfl
      refine ⟨TEdit.mk 1 m q (ByteArray.mk #[]) (gd (gd a.fCells m).fShapes q) zLa zIn, ?_, ?_⟩
      · unfold F_spec_l13Inverse
        simp only [s_toNn, req_of (inRl hlt), req_of (inRl hq)]
        rfl
      · unfold F_impl_inverse
        simp only [s_toNn, req_of (inRl hlt), req_of (inRl hq)]
        rfl
    · exact ⟨_, rfl, rfl⟩
    · obtain ⟨q, rfl, hq⟩ := i4 rfl
      refine ⟨TEdit.mk 3 m q (ByteArray.mk #[]) zSh (gd (gd a.fCells m).fLabels q) zIn, ?_, ?_⟩
      · unfold F_spec_l13Inverse
        simp only [s_toNn, req_of (inRl hlt), req_of (inRl hq)]
        rfl
      · unfold F_impl_inverse
        simp only [s_toNn, req_of (inRl hlt), req_of (inRl hq)]
        rfl
    · exact ⟨_, rfl, rfl⟩
    · obtain ⟨q, rfl, hq⟩ := i6 rfl
      refine ⟨TEdit.mk 5 m q (ByteArray.mk #[]) zSh zLa (gd (gd a.fCells m).fInstances q), ?_, ?_⟩
      · unfold F_spec_l13Inverse
        simp only [s_toNn, req_of (inRl hlt), req_of (inRl hq)]
        rfl
      · unfold F_impl_inverse
        simp only [s_toNn, req_of (inRl hlt), req_of (inRl hq)]
        rfl
    · refine ⟨TEdit.mk 7 m index (gd a.fCells m).fName zSh zLa zIn, ?_, ?_⟩
      · unfold F_spec_l13Inverse
        simp only [s_toNn, req_of (inRl hlt)]
        rfl
      · unfold F_impl_inverse
        simp only [s_toNn, req_of (inRl hlt)]
        rfl
    · exact absurd rfl h8
    · refine ⟨TEdit.mk 8 m index (gd a.fCells m).fName zSh zLa zIn, ?_, ?_⟩
      · unfold F_spec_l13Inverse
        simp only [s_toNn, req_of (inRl hlt)]
        rfl
      · unfold F_impl_inverse
        simp only [s_toNn, req_of (inRl hlt)]
        rfl
/- InverseEdit -/
theorem both_Inverse (a : TLibrary) (e : TEdit) (h : SmallL a) (g : SmallE e) : ∃ r, F_spec_InverseEdit a e = some r ∧ F_impl_InverseEdit a e = some r := by
  unfold F_spec_InverseEdit F_impl_InverseEdit
  rw [spec_l13Code_ok a e h g, impl_editCode_ok a e h g, Option.bind_some, Option.bind_some]
  by_cases hc : eCode a e = 0
  · obtain ⟨x, h1, h2⟩ := inverse_same a e hc
    rw [hc, notEq (eq_true' rfl), br_f, br_f, h1, h2]
    exact ⟨_, rfl, rfl⟩
  · rw [eq_false' hc, s_not, Bool.not_false, br_t, br_t]
    exact ⟨_, rfl, rfl⟩
theorem lawW_InverseEdit (a : TLibrary) (e : TEdit) (w : wfLibrary a) (we : wfEdit e) : F_laws_FnExactInverseEdit a e = some true := by
  unfold F_laws_FnExactInverseEdit
  rw [show TLibrary.mk a.fCells = a from rfl, show TEdit.mk e.fKind e.fCell e.fIndex e.fName e.fShape e.fLabel e.fInstance = e from rfl]
  obtain ⟨y, hy, hs⟩ := laws_szLibrary_ok2 a (wfLb_of w)
  rw [hy, Option.bind_some, br_bool, s_lt]
  by_cases h0 : y < 0
  · rw [if_pos (by simpa using h0)]
  · obtain ⟨hy2, h⟩ := hs (by omega)
    rw [if_neg (by simpa using h0)]
    obtain ⟨z, hz, hs2⟩ := laws_szEdit_ok e y we.2.2.2.1 we.2.2.2.2.2.1.2.2 ⟨by omega, by omega⟩
    rw [hz, Option.bind_some, br_bool, s_lt]
    by_cases h1 : z < 0
    · rw [if_pos (by simpa using h1)]
    · obtain ⟨_, g⟩ := hs2 (by omega)
      rw [if_neg (by simpa using h1)]
      obtain ⟨r, r1, r2⟩ := both_Inverse a e h g
      simp only [laws_toLibrary_ok a h, laws_toEdit_ok, Option.bind_some, r1, r2, laws_eqEdit_ok, laws_eqLibrary_ok a h, Bool.not_true, br_f, eq_true' rfl, s_not, letO_eq]
end Go.Proofs.Ytmdlnjeppemipaa.AM
