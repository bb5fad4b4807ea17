/-
  What the functions that the law reaches compute, and that they do. No condition.
-/
import Derived.Test.YtpobpihakgegbaaGreatAmSR
import Derived.Test.YtpobpihakgegbaaGreatAmP
namespace Go.Proofs.YtpobpihakgegbaaGreat.AM
open Go Go.Proofs Go.RowKit
set_option linter.unusedVariables false
set_option linter.unusedSimpArgs false
set_option maxRecDepth 100000

noncomputable def wB (a b c : Int) : Bool := std.le b a && std.le a c
theorem spec_l09In_ok (a b c : Int) : F_spec_l09In a b c = some (wB a b c) := by
  unfold F_spec_l09In wB
  cases std.le b a <;> rfl
theorem impl_within_ok (a b c : Int) : F_impl_within a b c = some (wB a b c) := by
  unfold F_impl_within wB
  cases std.le b a <;> rfl
noncomputable def okRect (a : TRect) : Bool := std.le (-40) a.fX0 && (std.lt a.fX0 a.fX1 && (std.le a.fX1 40 && (std.le (-40) a.fY0 && (std.lt a.fY0 a.fY1 && std.le a.fY1 40))))
theorem spec_l09Rect_ok (a : TRect) : F_spec_l09Rect a = some (okRect a) := by
  unfold F_spec_l09Rect okRect
  cases std.le (-40) a.fX0 <;> cases std.lt a.fX0 a.fX1 <;> cases std.le a.fX1 40 <;> cases std.le (-40) a.fY0 <;> cases std.lt a.fY0 a.fY1 <;> rfl
theorem impl_IsValidRect_ok (a : TRect) : F_impl_IsValidRect a = some (okRect a) := by
  unfold F_impl_IsValidRect okRect
  cases std.le (-40) a.fX0 <;> cases std.lt a.fX0 a.fX1 <;> cases std.le a.fX1 40 <;> cases std.le (-40) a.fY0 <;> cases std.lt a.fY0 a.fY1 <;> rfl
theorem spec_l09Layer_ok (a : Int) : F_spec_l09Layer a = some (wB a 0 7) := by
  unfold F_spec_l09Layer
  rw [spec_l09In_ok]; rfl
noncomputable def okShape (a : TShape) : Bool := wB a.fLayer 0 7 && okRect a.fBox
theorem spec_l09Shape_ok (a : TShape) : F_spec_l09Shape a = some (okShape a) := by
  unfold F_spec_l09Shape okShape
  rw [spec_l09Layer_ok, spec_l09Rect_ok]
  cases wB a.fLayer 0 7 <;> rfl
theorem impl_validShape_ok (a : TShape) : F_impl_validShape a = some (okShape a) := by
  unfold F_impl_validShape okShape
  rw [impl_within_ok, impl_IsValidRect_ok]
  cases wB a.fLayer 0 7 <;> rfl
noncomputable def okPoint (a : TPoint) : Bool := wB a.fX (-40) 39 && wB a.fY (-40) 39
theorem spec_l09Unit_ok (a : TPoint) : F_spec_l09Unit a = some (okPoint a) := by
  unfold F_spec_l09Unit okPoint
  rw [spec_l09In_ok, spec_l09In_ok]
  cases wB a.fX (-40) 39 <;> rfl
theorem impl_isUnitCell_ok (a : TPoint) : F_impl_isUnitCell a = some (okPoint a) := by
  unfold F_impl_isUnitCell okPoint
  rw [impl_within_ok, impl_within_ok]
  cases wB a.fX (-40) 39 <;> rfl
noncomputable def okName (s : ByteArray) (i : Nat) : Bool :=
  (std.le 97 (std.sat s i) && std.le (std.sat s i) 122) || (std.le 48 (std.sat s i) && std.le (std.sat s i) 57)
noncomputable def isName (s : ByteArray) : Bool := (List.range s.size).all (okName s) && (decide (1 ≤ s.size) && decide (s.size ≤ 8))
theorem lt_le (a b : Int) : std.lt a b = !std.le b a := by
  rw [s_lt, s_le]
  by_cases h : a < b
  · have : ¬ b ≤ a := by omega
    simp [h]
  · have : b ≤ a := by omega
    simp [h, this]
theorem nameEnd (s : ByteArray) (b : Bool) : ((match (if b then .inr () else .inl () : Unit ⊕ Unit) with
    | .inl _ => some false
    | .inr _ => ((br (std.le 1 (std.ofN (std.slen s))) (some (std.le (std.ofN (std.slen s)) 8)) (some false)) : Option Bool).bind fun y33 => letO y33 fun w39 => some w39) : Option Bool) = some (b && (decide (1 ≤ s.size) && decide (s.size ≤ 8))) := by
  cases b with
  | false => rfl
  | true =>
    have e1 : std.le 1 (std.ofN (std.slen s)) = decide (1 ≤ s.size) := by rw [s_le, s_ofN, s_slen]; congr 1; simp; omega
    have e2 : std.le (std.ofN (std.slen s)) 8 = decide (s.size ≤ 8) := by rw [s_le, s_ofN, s_slen]; congr 1; simp; omega
    simp only [if_true, e1, e2, br_bool, letO_eq, Bool.true_and]
    cases decide (1 ≤ s.size) <;> rfl
theorem spec_IsName_ok (s : ByteArray) (hs : s.size ≤ maxLen) : F_spec_IsName s = some (isName s) := by
  have hb := maxLen_eq
  unfold F_spec_IsName
  refine Eq.trans (bind_of (scan (ok := okName s) (n := s.size) (yes := .inr ()) (no := .inl ()) (fun i hi => ?_) ?_)) (nameEnd s _)
  · simp only [L_spec_IsName_x2, letO_eq, s_toNn, req_of (show std.inR (i : Int) (std.slen s) from inRn hi), okName]
    rw [lt_true (by rw [s_ofN, s_slen]; omega), br_t, inc_nat (by omega)]
    generalize std.sat s i = c
    cases std.le 97 c <;> cases std.le c 122 <;> cases std.le 48 c <;> cases std.le c 57 <;> rfl
  · simp only [L_spec_IsName_x2, letO_eq]
    rw [lt_false (by rw [s_ofN, s_slen]; omega)]; rfl
theorem impl_IsName_ok (s : ByteArray) (hs : s.size ≤ maxLen) : F_impl_IsName s = some (isName s) := by
  have hb := maxLen_eq
  unfold F_impl_IsName
  refine Eq.trans (bind_of (scan (ok := okName s) (n := s.size) (yes := .inr ()) (no := .inl ()) (fun i hi => ?_) ?_)) (nameEnd s _)
  · simp only [L_impl_IsName_x2, letO_eq, s_toNn, req_of (show std.inR (i : Int) (std.slen s) from inRn hi), okName]
    rw [lt_true (by rw [s_ofN, s_slen]; omega), br_t, inc_nat (by omega)]
    generalize std.sat s i = c
    rw [lt_le c 97, lt_le c 48, lt_le 122 c, lt_le 57 c]
    cases std.le 97 c <;> cases std.le c 122 <;> cases std.le 48 c <;> cases std.le c 57 <;> rfl
  · simp only [L_impl_IsName_x2, letO_eq]
    rw [lt_false (by rw [s_ofN, s_slen]; omega)]; rfl
noncomputable def okLabel (a : TLabel) : Bool := wB a.fLayer 0 7 && (okPoint a.fAt && isName a.fName)
theorem spec_l09Label_ok (a : TLabel) (h : a.fName.size ≤ maxLen) : F_spec_l09Label a = some (okLabel a) := by
  unfold F_spec_l09Label okLabel
  rw [spec_l09Layer_ok, spec_l09Unit_ok, spec_IsName_ok _ h]
  cases wB a.fLayer 0 7 <;> cases okPoint a.fAt <;> rfl
theorem impl_validLabel_ok (a : TLabel) (h : a.fName.size ≤ maxLen) : F_impl_validLabel a = some (okLabel a) := by
  unfold F_impl_validLabel okLabel
  rw [impl_within_ok, impl_isUnitCell_ok, impl_IsName_ok _ h]
  cases wB a.fLayer 0 7 <;> cases okPoint a.fAt <;> rfl
noncomputable def okTr (a : TTransform) : Bool := wB a.fOrientation 0 7 && (wB a.fX (-80) 80 && wB a.fY (-80) 80)
theorem spec_l09Transform_ok (a : TTransform) : F_spec_l09Transform a = some (okTr a) := by
  unfold F_spec_l09Transform okTr
  simp only [spec_l09In_ok]
  cases wB a.fOrientation 0 7 <;> cases wB a.fX (-80) 80 <;> rfl
theorem impl_IsValidTransform_ok (a : TTransform) : F_impl_IsValidTransform a = some (okTr a) := by
  unfold F_impl_IsValidTransform okTr
  simp only [impl_within_ok]
  cases wB a.fOrientation 0 7 <;> cases wB a.fX (-80) 80 <;> rfl
noncomputable def okInst (a : TInstance) (m : Int) : Bool := wB a.fCell 0 (std.sub .i64 m 1) && (okTr a.fPlace && (wB a.fColumns 1 4 && (wB a.fRows 1 4 && (wB a.fStepX (-80) 80 && (wB a.fStepY (-80) 80 && ((std.lt 1 a.fColumns || std.eq a.fStepX 0) && (std.lt 1 a.fRows || std.eq a.fStepY 0)))))))
theorem spec_l09Instance_ok (a : TInstance) (m : Int) : F_spec_l09Instance a m = some (okInst a m) := by
  unfold F_spec_l09Instance okInst
  simp only [spec_l09In_ok, spec_l09Transform_ok]
  cases wB a.fCell 0 (std.sub .i64 m 1) <;> cases okTr a.fPlace <;> cases wB a.fColumns 1 4 <;> cases wB a.fRows 1 4 <;> try rfl
  cases wB a.fStepX (-80) 80 <;> cases wB a.fStepY (-80) 80 <;> try rfl
  cases std.lt 1 a.fColumns <;> cases std.eq a.fStepX 0 <;> cases std.lt 1 a.fRows <;> cases std.eq a.fStepY 0 <;> rfl
theorem impl_validInstance_ok (a : TInstance) (m : Int) : F_impl_validInstance a m = some (okInst a m) := by
  unfold F_impl_validInstance okInst
  simp only [impl_within_ok, impl_IsValidTransform_ok]
  cases wB a.fCell 0 (std.sub .i64 m 1) <;> cases okTr a.fPlace <;> cases wB a.fColumns 1 4 <;> cases wB a.fRows 1 4 <;> try rfl
  cases wB a.fStepX (-80) 80 <;> cases wB a.fStepY (-80) 80 <;> try rfl
  cases std.lt 1 a.fColumns <;> cases std.eq a.fStepX 0 <;> cases std.lt 1 a.fRows <;> cases std.eq a.fStepY 0 <;> rfl
theorem laws_toShape_ok (a : TShape) : F_laws_toShape a = some a := rfl
theorem laws_toShapeS_ok (a : List TShape) (h : a.length ≤ 10000000) : F_laws_toShapeS a = some a := by
  unfold F_laws_toShapeS
  rw [req_of (nneg_len _), req_of (room_le (by rw [len_eq]; omega) (by decide))]
  simp only [letO_eq, s_ofN, s_toNn, len_eq]
  rw [bind_of (while_copy (st := L_laws_toShapeS_x7 a _) a (List.replicate a.length _) (by simp) (fun i hi v hv => ?_) (fun v => ?_)), req_of (by simp)]
  · simp only [L_laws_toShapeS_x7, letO_eq, s_toNn, s_nadd, Nat.zero_add]
    rw [ltl_t hi, br_t, req_of (inRl hi), laws_toShape_ok, Option.bind_some, req_of (inRl (by simpa using hi)), req_of (by simp [len_eq, hv]), inc_nat (by omega)]
  · simp only [L_laws_toShapeS_x7, letO_eq]
    rw [ltl_f, br_f]
theorem laws_toLabel_ok (a : TLabel) : F_laws_toLabel a = some a := rfl
theorem laws_toLabelS_ok (a : List TLabel) (h : a.length ≤ 10000000) : F_laws_toLabelS a = some a := by
  unfold F_laws_toLabelS
  rw [req_of (nneg_len _), req_of (room_le (by rw [len_eq]; omega) (by decide))]
  simp only [letO_eq, s_ofN, s_toNn, len_eq]
  rw [bind_of (while_copy (st := L_laws_toLabelS_x7 a _) a (List.replicate a.length _) (by simp) (fun i hi v hv => ?_) (fun v => ?_)), req_of (by simp)]
  · simp only [L_laws_toLabelS_x7, letO_eq, s_toNn, s_nadd, Nat.zero_add]
    rw [ltl_t hi, br_t, req_of (inRl hi), laws_toLabel_ok, Option.bind_some, req_of (inRl (by simpa using hi)), req_of (by simp [len_eq, hv]), inc_nat (by omega)]
  · simp only [L_laws_toLabelS_x7, letO_eq]
    rw [ltl_f, br_f]
theorem laws_toInstance_ok (a : TInstance) : F_laws_toInstance a = some a := rfl
theorem laws_toInstanceS_ok (a : List TInstance) (h : a.length ≤ 10000000) : F_laws_toInstanceS a = some a := by
  unfold F_laws_toInstanceS
  rw [req_of (nneg_len _), req_of (room_le (by rw [len_eq]; omega) (by decide))]
  simp only [letO_eq, s_ofN, s_toNn, len_eq]
  rw [bind_of (while_copy (st := L_laws_toInstanceS_x7 a _) a (List.replicate a.length _) (by simp) (fun i hi v hv => ?_) (fun v => ?_)), req_of (by simp)]
  · simp only [L_laws_toInstanceS_x7, letO_eq, s_toNn, s_nadd, Nat.zero_add]
    rw [ltl_t hi, br_t, req_of (inRl hi), laws_toInstance_ok, Option.bind_some, req_of (inRl (by simpa using hi)), req_of (by simp [len_eq, hv]), inc_nat (by omega)]
  · simp only [L_laws_toInstanceS_x7, letO_eq]
    rw [ltl_f, br_f]
/-- nothing is great -/
structure SmallC (c : TCell) : Prop where
  name : c.fName.size ≤ 1048576
  shapes : c.fShapes.length ≤ 1048576
  labels : c.fLabels.length ≤ 1048576
  insts : c.fInstances.length ≤ 1048576
  lnames : ∀ l ∈ c.fLabels, l.fName.size ≤ 1048576
structure SmallL (a : TLibrary) : Prop where
  cells : a.fCells.length ≤ 1048576
  cell : ∀ c ∈ a.fCells, SmallC c
theorem laws_toCell_ok (c : TCell) (h : SmallC c) : F_laws_toCell c = some c := by
  unfold F_laws_toCell
  rw [laws_toShapeS_ok _ (by have := h.shapes; omega), laws_toLabelS_ok _ (by have := h.labels; omega), laws_toInstanceS_ok _ (by have := h.insts; omega)]
  rfl
theorem laws_toCellS_ok (a : List TCell) (h : a.length ≤ 1048576) (hc : ∀ c ∈ a, SmallC c) : F_laws_toCellS a = some a := by
  unfold F_laws_toCellS
  rw [req_of (nneg_len _), req_of (room_le (by rw [len_eq]; omega) (by decide))]
  simp only [letO_eq, s_ofN, s_toNn, len_eq, Option.bind_some]
  rw [bind_of (while_copy (st := L_laws_toCellS_x14 a _) a (List.replicate a.length _) (by simp) (fun i hi v hv => ?_) (fun v => ?_)), req_of (by simp)]
  · simp only [L_laws_toCellS_x14, letO_eq, s_toNn, s_nadd, Nat.zero_add]
    rw [ltl_t hi, br_t, req_of (inRl hi), laws_toCell_ok _ (hc _ (gd_mem hi)), Option.bind_some, req_of (inRl (by simpa using hi)), req_of (by simp [len_eq, hv]), inc_nat (by omega)]
    rfl
  · simp only [L_laws_toCellS_x14, letO_eq]
    rw [ltl_f, br_f]
theorem laws_toLibrary_ok (a : TLibrary) (h : SmallL a) : F_laws_toLibrary a = some a := by
  unfold F_laws_toLibrary
  rw [laws_toCellS_ok _ h.cells h.cell]; rfl
-- the sizes
theorem subl_ok {n : Nat} {x : Int} (h : n ≤ maxLen) (hx : 0 ≤ x ∧ x ≤ 1048576) : std.sub .i64 x (std.ofN n) = x - n := by
  have := maxLen_eq
  rw [s_ofN, sub_id (by omega) (by omega)]
theorem laws_szShapeS_ok (a : List TShape) (x : Int) (ha : a.length ≤ maxLen) (hx : 0 ≤ x ∧ x ≤ 1048576) : ∃ y, F_laws_szShapeS a x = some y ∧ (0 ≤ y → y ≤ x ∧ a.length ≤ 1048576) := by
  unfold F_laws_szShapeS
  rw [len_eq, subl_ok ha hx, br_bool, s_lt]
  by_cases h : x - (a.length : Int) < 0
  · exact ⟨-1, by simp [h], fun h => by omega⟩
  · exact ⟨x - a.length, by simp [h], fun _ => ⟨by omega, by omega⟩⟩
theorem laws_szInstanceS_ok (a : List TInstance) (x : Int) (ha : a.length ≤ maxLen) (hx : 0 ≤ x ∧ x ≤ 1048576) : ∃ y, F_laws_szInstanceS a x = some y ∧ (0 ≤ y → y ≤ x ∧ a.length ≤ 1048576) := by
  unfold F_laws_szInstanceS
  rw [len_eq, subl_ok ha hx, br_bool, s_lt]
  by_cases h : x - (a.length : Int) < 0
  · exact ⟨-1, by simp [h], fun h => by omega⟩
  · exact ⟨x - a.length, by simp [h], fun _ => ⟨by omega, by omega⟩⟩
theorem laws_szLabel_ok (a : TLabel) (x : Int) (ha : a.fName.size ≤ maxLen) (hx : 0 ≤ x ∧ x ≤ 1048576) : ∃ y, F_laws_szLabel a x = some y ∧ (0 ≤ y → y ≤ x ∧ a.fName.size ≤ 1048576) := by
  unfold F_laws_szLabel
  rw [s_slen, subl_ok ha hx, br_bool, s_lt]
  by_cases h : x - (a.fName.size : Int) < 0
  · exact ⟨-1, by simp [h], fun h => by omega⟩
  · exact ⟨x - a.fName.size, by simp [h], fun _ => ⟨by omega, by omega⟩⟩
/-- a loop that takes from what is left -/
theorem while_sz {α : Type} [Inhabited α] {st : Int × Int → Option ((Int × Int) ⊕ (Int ⊕ Int))} (l : List α) (ok : α → Prop) (x : Int) (hx : 0 ≤ x ∧ x ≤ 1048576)
    (h : ∀ i, i < l.length → ∀ y : Int, 0 ≤ y ∧ y ≤ 1048576 → ∃ z : Int, (z < 0 ∧ st (y, (i : Int)) = some (.inr (.inl (-1)))) ∨ (0 ≤ z ∧ z ≤ y ∧ ok (gd l i) ∧ st (y, (i : Int)) = some (.inl (z, ((i + 1 : Nat) : Int)))))
    (he : ∀ y, st (y, (l.length : Int)) = some (.inr (.inr y))) : ∃ r, whileP st (x, 0) = some r ∧ (r = .inl (-1) ∨ ∃ z, r = .inr z ∧ 0 ≤ z ∧ z ≤ x ∧ ∀ e ∈ l, ok e) := by
  refine while_ex (fun s => ∃ (i : Nat) (y : Int), s = (y, (i : Int)) ∧ i ≤ l.length ∧ 0 ≤ y ∧ y ≤ x ∧ ∀ j, j < i → ok (gd l j)) _ (fun s => l.length + 1 - s.2.toNat) ⟨0, x, rfl, by omega, by omega, by omega, fun j hj => by omega⟩ ?_
  rintro _ ⟨i, y, rfl, h1, h2, h3, h4⟩
  by_cases hi : i < l.length
  · obtain ⟨z, ⟨_, hz⟩ | ⟨g1, g2, g3, hz⟩⟩ := h i hi y ⟨h2, by omega⟩
    · exact .inr ⟨_, hz, .inl rfl⟩
    · exact .inl ⟨_, hz, ⟨i + 1, z, rfl, by omega, g1, by omega, fun j hj => by
        rcases Nat.lt_or_ge j i with hj' | hj'
        · exact h4 j hj'
        · rw [show j = i by omega]; exact g3⟩, by simp only [Int.toNat_natCast]; omega⟩
  · have hil : i = l.length := by omega
    subst hil
    refine .inr ⟨_, he y, .inr ⟨y, rfl, h2, h3, fun e hm => ?_⟩⟩
    obtain ⟨j, hj, rfl⟩ := List.getElem_of_mem hm
    rw [← gd_lt hj]; exact h4 j hj
theorem laws_szLabelS_ok (a : List TLabel) (x : Int) (ha : a.length ≤ maxLen) (hn : ∀ l ∈ a, l.fName.size ≤ maxLen) (hx : 0 ≤ x ∧ x ≤ 1048576) : ∃ y, F_laws_szLabelS a x = some y ∧ (0 ≤ y → y ≤ x ∧ a.length ≤ 1048576 ∧ ∀ l ∈ a, l.fName.size ≤ 1048576) := by
  have hb := maxLen_eq
  unfold F_laws_szLabelS
  rw [len_eq, subl_ok ha hx, br_bool, s_lt]
  by_cases h : x - (a.length : Int) < 0
  · exact ⟨-1, by simp [h], fun h => by omega⟩
  · rw [if_neg (by simpa using h)]
    obtain ⟨r, h1, h2⟩ := while_sz (st := L_laws_szLabelS_x3 a) a (fun l => l.fName.size ≤ 1048576) (x - a.length) ⟨by omega, by omega⟩ (fun i hi y hy => by
      obtain ⟨z, hz, hz2⟩ := laws_szLabel_ok (gd a i) y (hn _ (gd_mem hi)) hy
      refine ⟨z, ?_⟩
      simp only [L_laws_szLabelS_x3, letO_eq, s_toNn]
      rw [ltl_t hi, br_t, req_of (inRl hi), hz, Option.bind_some, br_bool, s_lt, inc_nat (by omega)]
      by_cases h0 : z < 0
      · exact .inl ⟨h0, by simp [h0]⟩
      · exact .inr ⟨by omega, (hz2 (by omega)).1, (hz2 (by omega)).2, by simp [h0]⟩) (fun y => by
      simp only [L_laws_szLabelS_x3, letO_eq]
      rw [ltl_f, br_f])
    rw [h1, Option.bind_some]
    rcases h2 with rfl | ⟨z, rfl, h3, h4, h5⟩
    · exact ⟨-1, rfl, fun h => by omega⟩
    · exact ⟨z, rfl, fun _ => ⟨by omega, by omega, h5⟩⟩
def wfC (c : TCell) : Prop := c.fName.size ≤ maxLen ∧ c.fShapes.length ≤ maxLen ∧ c.fLabels.length ≤ maxLen ∧ c.fInstances.length ≤ maxLen ∧ ∀ l ∈ c.fLabels, l.fName.size ≤ maxLen
theorem laws_szCell_ok (c : TCell) (x : Int) (hc : wfC c) (hx : 0 ≤ x ∧ x ≤ 1048576) : ∃ y, F_laws_szCell c x = some y ∧ (0 ≤ y → y ≤ x ∧ SmallC c) := by
  obtain ⟨h1, h2, h3, h4, h5⟩ := hc
  unfold F_laws_szCell
  rw [s_slen, subl_ok h1 hx, br_bool, s_lt]
  by_cases h : x - (c.fName.size : Int) < 0
  · exact ⟨-1, by simp [h], fun h => by omega⟩
  · rw [if_neg (by simpa using h)]
    obtain ⟨y1, e1, f1⟩ := laws_szShapeS_ok c.fShapes (x - c.fName.size) h2 ⟨by omega, by omega⟩
    rw [e1, Option.bind_some, br_bool, s_lt]
    by_cases g1 : y1 < 0
    · exact ⟨-1, by simp [g1], fun h => by omega⟩
    · have f1 := f1 (by omega)
      rw [if_neg (by simpa using g1)]
      obtain ⟨y2, e2, f2⟩ := laws_szLabelS_ok c.fLabels y1 h3 h5 ⟨by omega, by omega⟩
      rw [e2, Option.bind_some, br_bool, s_lt]
      by_cases g2 : y2 < 0
      · exact ⟨-1, by simp [g2], fun h => by omega⟩
      · have f2 := f2 (by omega)
        rw [if_neg (by simpa using g2)]
        obtain ⟨y3, e3, f3⟩ := laws_szInstanceS_ok c.fInstances y2 h4 ⟨by omega, by omega⟩
        rw [e3, Option.bind_some, br_bool, s_lt]
        by_cases g3 : y3 < 0
        · exact ⟨-1, by simp [g3], fun h => by omega⟩
        · have f3 := f3 (by omega)
          exact ⟨y3, by simp [g3], fun _ => ⟨by omega, ⟨by omega, f1.2, f2.2.1, f3.2, f2.2.2⟩⟩⟩
def wfLb (a : TLibrary) : Prop := a.fCells.length ≤ maxLen ∧ ∀ c ∈ a.fCells, wfC c
/-- the size of a library: it fits, or the law says nothing -/
theorem laws_szLibrary_ok2 (a : TLibrary) (ha : wfLb a) : ∃ y, F_laws_szLibrary a 1048576 = some y ∧ (0 ≤ y → y ≤ 1048576 ∧ SmallL a) := by
  have hb := maxLen_eq
  unfold F_laws_szLibrary F_laws_szCellS
  rw [len_eq, subl_ok ha.1 ⟨by decide, by decide⟩, br_bool, s_lt]
  by_cases h : (1048576 : Int) - (a.fCells.length : Int) < 0
  · exact ⟨-1, by simp [h, br_bool, s_lt], fun h => by omega⟩
  · rw [if_neg (by simpa using h)]
    obtain ⟨r, h1, h2⟩ := while_sz (st := L_laws_szCellS_x3 a.fCells) a.fCells SmallC (1048576 - a.fCells.length) ⟨by omega, by omega⟩ (fun i hi y hy => by
      obtain ⟨z, hz, hz2⟩ := laws_szCell_ok (gd a.fCells i) y (ha.2 _ (gd_mem hi)) hy
      refine ⟨z, ?_⟩
      simp only [L_laws_szCellS_x3, letO_eq, s_toNn]
      have := ha.1
      rw [ltl_t hi, br_t, req_of (inRl hi), hz, Option.bind_some, br_bool, s_lt, inc_nat (by omega)]
      by_cases h0 : z < 0
      · exact .inl ⟨h0, by simp [h0]⟩
      · exact .inr ⟨by omega, (hz2 (by omega)).1, (hz2 (by omega)).2, by simp [h0]⟩) (fun y => by
      simp only [L_laws_szCellS_x3, letO_eq]
      rw [ltl_f, br_f])
    rw [h1, Option.bind_some]
    rcases h2 with rfl | ⟨z, rfl, h3, h4, h5⟩
    · exact ⟨-1, rfl, fun h => by omega⟩
    · refine ⟨z, ?_, fun _ => ⟨by omega, ⟨by omega, h5⟩⟩⟩
      simp only [letO_eq, Option.bind_some]
      rw [lt_false (by omega), br_f]
theorem laws_szLibrary_ok (a : TLibrary) (ha : wfLb a) : ∃ y, F_laws_szLibrary a 1048576 = some y ∧ (0 ≤ y → SmallL a) := by
  obtain ⟨y, h1, h2⟩ := laws_szLibrary_ok2 a ha
  exact ⟨y, h1, fun h => (h2 h).2⟩
-- nothing differs
theorem laws_eqRect_ok (a : TRect) : F_laws_eqRect a a = some true := by unfold F_laws_eqRect; simp [eq_true', s_not, br]
theorem laws_eqShape_ok (a : TShape) : F_laws_eqShape a a = some true := by unfold F_laws_eqShape; simp [eq_true', s_not, br, laws_eqRect_ok]
theorem laws_eqPoint_ok (a : TPoint) : F_laws_eqPoint a a = some true := by unfold F_laws_eqPoint; simp [eq_true', s_not, br]
theorem laws_eqLabel_ok (a : TLabel) : F_laws_eqLabel a a = some true := by unfold F_laws_eqLabel; simp [eq_true', s_not, br, laws_eqPoint_ok, seq_self]
theorem laws_eqTransform_ok (a : TTransform) : F_laws_eqTransform a a = some true := by unfold F_laws_eqTransform; simp [eq_true', s_not, br]
theorem laws_eqInstance_ok (a : TInstance) : F_laws_eqInstance a a = some true := by unfold F_laws_eqInstance; simp [eq_true', s_not, br, laws_eqTransform_ok]
theorem laws_eqShapeS_ok (l : List TShape) (h : l.length ≤ 10000000) : F_laws_eqShapeS l l = some true := by
  unfold F_laws_eqShapeS
  rw [notEq (eq_true' rfl), br_f]
  refine Eq.trans (bind_of (while_eq (r := .inr ()) l.length (fun i hi => ?_) ?_)) rfl
  · simp only [L_laws_eqShapeS_x2, letO_eq, s_toNn, laws_eqShape_ok, Option.bind_some]
    rw [ltl_t hi, br_t, req_of (inRl hi), req_of (inRl hi), inc_nat (by omega)]; rfl
  · simp only [L_laws_eqShapeS_x2, letO_eq]
    rw [ltl_f]; rfl
theorem laws_eqLabelS_ok (l : List TLabel) (h : l.length ≤ 10000000) : F_laws_eqLabelS l l = some true := by
  unfold F_laws_eqLabelS
  rw [notEq (eq_true' rfl), br_f]
  refine Eq.trans (bind_of (while_eq (r := .inr ()) l.length (fun i hi => ?_) ?_)) rfl
  · simp only [L_laws_eqLabelS_x2, letO_eq, s_toNn, laws_eqLabel_ok, Option.bind_some]
    rw [ltl_t hi, br_t, req_of (inRl hi), req_of (inRl hi), inc_nat (by omega)]; rfl
  · simp only [L_laws_eqLabelS_x2, letO_eq]
    rw [ltl_f]; rfl
theorem laws_eqInstanceS_ok (l : List TInstance) (h : l.length ≤ 10000000) : F_laws_eqInstanceS l l = some true := by
  unfold F_laws_eqInstanceS
  rw [notEq (eq_true' rfl), br_f]
  refine Eq.trans (bind_of (while_eq (r := .inr ()) l.length (fun i hi => ?_) ?_)) rfl
  · simp only [L_laws_eqInstanceS_x2, letO_eq, s_toNn, laws_eqInstance_ok, Option.bind_some]
    rw [ltl_t hi, br_t, req_of (inRl hi), req_of (inRl hi), inc_nat (by omega)]; rfl
  · simp only [L_laws_eqInstanceS_x2, letO_eq]
    rw [ltl_f]; rfl
theorem laws_eqCell_ok (c : TCell) (h : SmallC c) : F_laws_eqCell c c = some true := by
  unfold F_laws_eqCell
  rw [laws_eqShapeS_ok _ (by have := h.shapes; omega), laws_eqLabelS_ok _ (by have := h.labels; omega), laws_eqInstanceS_ok _ (by have := h.insts; omega)]
  simp [seq_self, s_not, br]
theorem laws_eqLibrary_ok (a : TLibrary) (h : SmallL a) : F_laws_eqLibrary a a = some true := by
  have hl := h.cells
  unfold F_laws_eqLibrary F_laws_eqCellS
  rw [notEq (eq_true' rfl), br_f]
  rw [bind_of (while_eq (st := L_laws_eqCellS_x2 a.fCells a.fCells) (r := .inr ()) a.fCells.length (fun i hi => ?_) ?_)]
  · rfl
  · simp only [L_laws_eqCellS_x2, letO_eq]
    rw [ltl_f]; rfl
  · simp only [L_laws_eqCellS_x2, letO_eq, s_toNn]
    rw [ltl_t hi, br_t, req_of (inRl hi), req_of (inRl hi), laws_eqCell_ok _ (h.cell _ (gd_mem hi)), inc_nat (by omega)]; rfl
noncomputable def okCell (c : TCell) (k : Int) : Bool := isName c.fName && (decide (c.fShapes.length ≤ 24) && (decide (c.fLabels.length ≤ 8) && (decide (c.fInstances.length ≤ 8) && (c.fShapes.all okShape && (c.fLabels.all okLabel && c.fInstances.all fun x => okInst x k)))))
theorem lt_lit (n : Nat) (k : Nat) : std.lt (k : Int) (std.ofN n) = !decide (n ≤ k) := by
  rw [s_lt, s_ofN]
  by_cases h : n ≤ k
  · have : ¬ ((k : Int) < (n : Int)) := by omega
    simp [h, this]
  · have : ((k : Int) < (n : Int)) := by omega
    simp [h, this]
theorem spec_l09Cell_ok (c : TCell) (k : Int) (h : SmallC c) : F_spec_l09Cell c k = some (okCell c k) := by
  have hb := maxLen_eq
  have e24 := lt_lit c.fShapes.length 24
  have e8 := lt_lit c.fLabels.length 8
  have e8' := lt_lit c.fInstances.length 8
  have s1 := h.shapes; have s2 := h.labels; have s3 := h.insts
  unfold F_spec_l09Cell okCell
  rw [spec_IsName_ok _ (by have := h.name; omega)]
  simp only [Option.bind_some, letO_eq, len_eq, show (24 : Int) = ((24 : Nat) : Int) from rfl, show (8 : Int) = ((8 : Nat) : Int) from rfl, e24, e8, e8']
  cases isName c.fName with
  | false => rfl
  | true =>
    cases decide (c.fShapes.length ≤ 24) with
    | false => rfl
    | true =>
      cases decide (c.fLabels.length ≤ 8) with
      | false => rfl
      | true =>
        cases decide (c.fInstances.length ≤ 8) with
        | false => rfl
        | true =>
          simp only [Bool.not_true, br_f, Option.bind_some, Bool.true_and]
          rw [bind_of (scan (ok := fun i => okShape (gd c.fShapes i)) (n := c.fShapes.length) (yes := .inr ()) (no := .inl false) (fun i hi => ?_) ?_), range_all]
          · cases c.fShapes.all okShape with
            | false => rfl
            | true =>
              simp only [if_true, Bool.true_and]
              rw [bind_of (scan (ok := fun i => okLabel (gd c.fLabels i)) (n := c.fLabels.length) (yes := .inr ()) (no := .inl false) (fun i hi => ?_) ?_), range_all]
              · cases c.fLabels.all okLabel with
                | false => rfl
                | true =>
                  simp only [if_true, Bool.true_and]
                  rw [bind_of (scan (ok := fun i => okInst (gd c.fInstances i) k) (n := c.fInstances.length) (yes := .inr ()) (no := .inl false) (fun i hi => ?_) ?_), range_all (fun x => okInst x k)]
                  · cases c.fInstances.all fun x => okInst x k <;> rfl
                  · simp only [L_spec_l09Cell_x52, letO_eq]
                    rw [ltl_f, br_f]
                  · simp only [L_spec_l09Cell_x52, letO_eq, s_toNn]
                    rw [ltl_t hi, br_t, req_of (inRl hi), spec_l09Instance_ok, Option.bind_some, inc_nat (by omega)]
                    cases okInst (gd c.fInstances i) k <;> rfl
              · simp only [L_spec_l09Cell_x33, letO_eq]
                rw [ltl_f, br_f]
              · simp only [L_spec_l09Cell_x33, letO_eq, s_toNn]
                rw [ltl_t hi, br_t, req_of (inRl hi), spec_l09Label_ok _ (by have := h.lnames _ (gd_mem hi); omega), Option.bind_some, inc_nat (by omega)]
                cases okLabel (gd c.fLabels i) <;> rfl
          · simp only [L_spec_l09Cell_x14, letO_eq]
            rw [ltl_f, br_f]
          · simp only [L_spec_l09Cell_x14, letO_eq, s_toNn]
            rw [ltl_t hi, br_t, req_of (inRl hi), spec_l09Shape_ok, Option.bind_some, inc_nat (by omega)]
            cases okShape (gd c.fShapes i) <;> rfl
/-- a loop that stops at the first element that is met -/
theorem scan_first {step : Int → Option (Int ⊕ (Int ⊕ Unit))} {p : Nat → Bool} {n : Nat} (h : ∀ i : Nat, i < n → step i = some (cond (p i) (.inr (.inl (i : Int))) (.inl ((i + 1 : Nat) : Int)))) (hn : step n = some (.inr (.inr ()))) :
    whileP step 0 = some (match (List.range n).find? p with | some i => .inl (i : Int) | none => .inr ()) := by
  have key : ∀ m i : Nat, i + m = n → whileP step i = some (match (List.range' i m).find? p with | some i => .inl (i : Int) | none => .inr ()) := by
    intro m
    induction m with
    | zero =>
      intro i hi
      have : i = n := by omega
      subst this
      rw [whileP_unfold, hn]; rfl
    | succ m ih =>
      intro i hi
      rw [whileP_unfold, h i (by omega)]
      cases hb : p i with
      | true => simp [List.range', hb]
      | false =>
        simp only [cond]
        rw [ih (i + 1) (by omega)]
        simp [List.range', hb]
  have := key n 0 (by omega)
  rw [List.range_eq_range']
  exact this
noncomputable def firstI (p : Nat → Bool) (n : Nat) : Int := match (List.range n).find? p with | some i => (i : Int) | none => -1
theorem firstI_any (p : Nat → Bool) (n : Nat) : std.le 0 (firstI p n) = (List.range n).any p := by
  unfold firstI
  cases h : (List.range n).find? p with
  | none =>
    rw [List.find?_eq_none] at h
    have : (List.range n).any p = false := by rw [List.any_eq_false]; exact h
    rw [this]; show std.le 0 (-1) = false; exact le_false (by omega)
  | some i =>
    have h1 := List.find?_some h
    have h2 := List.mem_of_find?_eq_some h
    have : (List.range n).any p = true := by rw [List.any_eq_true]; exact ⟨i, h2, h1⟩
    rw [this]; show std.le 0 (i : Int) = true; exact le_true (by omega)
theorem range_any {α : Type} [Inhabited α] (p : α → Bool) (l : List α) : (List.range l.length).any (fun i => !p (gd l i)) = !l.all p := by
  rw [← range_all p l, List.all_eq_not_any_not, Bool.not_not]
theorem containsShape (l : List TShape) (h : l.length ≤ 10000000) : F_slices_ContainsFunc_Limpl_Shape_impl_Shape_mbFimpl_validCell_1 l = some (!l.all okShape) := by
  unfold F_slices_ContainsFunc_Limpl_Shape_impl_Shape_mbFimpl_validCell_1 F_slices_IndexFunc_Limpl_Shape_impl_Shape_mbFimpl_validCell_1
  rw [bind_of (scan_first (p := fun i => !okShape (gd l i)) (n := l.length) (fun i hi => ?_) ?_)]
  · rw [← range_any okShape l, ← firstI_any]
    unfold firstI
    cases (List.range l.length).find? (fun i => !okShape (gd l i)) <;> rfl
  · simp only [L_slices_IndexFunc_Limpl_Shape_impl_Shape_mbFimpl_validCell_1_x2, letO_eq]
    rw [ltl_f, br_f]
  · simp only [L_slices_IndexFunc_Limpl_Shape_impl_Shape_mbFimpl_validCell_1_x2, letO_eq, s_toNn, F_impl_validCell_1]
    rw [ltl_t hi, br_t, req_of (inRl hi), impl_validShape_ok, Option.bind_some, Option.bind_some, inc_nat (by omega)]
    cases okShape (gd l i) <;> rfl
theorem containsLabel (l : List TLabel) (h : l.length ≤ 10000000) (hn : ∀ x ∈ l, x.fName.size ≤ maxLen) : F_slices_ContainsFunc_Limpl_Label_impl_Label_mbFimpl_validCell_2 l = some (!l.all okLabel) := by
  unfold F_slices_ContainsFunc_Limpl_Label_impl_Label_mbFimpl_validCell_2 F_slices_IndexFunc_Limpl_Label_impl_Label_mbFimpl_validCell_2
  rw [bind_of (scan_first (p := fun i => !okLabel (gd l i)) (n := l.length) (fun i hi => ?_) ?_)]
  · rw [← range_any okLabel l, ← firstI_any]
    unfold firstI
    cases (List.range l.length).find? (fun i => !okLabel (gd l i)) <;> rfl
  · simp only [L_slices_IndexFunc_Limpl_Label_impl_Label_mbFimpl_validCell_2_x2, letO_eq]
    rw [ltl_f, br_f]
  · simp only [L_slices_IndexFunc_Limpl_Label_impl_Label_mbFimpl_validCell_2_x2, letO_eq, s_toNn, F_impl_validCell_2]
    rw [ltl_t hi, br_t, req_of (inRl hi), impl_validLabel_ok _ (hn _ (gd_mem hi)), Option.bind_some, Option.bind_some, inc_nat (by omega)]
    cases okLabel (gd l i) <;> rfl
theorem containsInst (l : List TInstance) (k : Int) (h : l.length ≤ 10000000) : F_slices_ContainsFunc_Limpl_Instance_impl_Instance_mbFimpl_validCell_3p l k = some (!l.all fun x => okInst x k) := by
  unfold F_slices_ContainsFunc_Limpl_Instance_impl_Instance_mbFimpl_validCell_3p F_slices_IndexFunc_Limpl_Instance_impl_Instance_mbFimpl_validCell_3p
  rw [bind_of (scan_first (p := fun i => !okInst (gd l i) k) (n := l.length) (fun i hi => ?_) ?_)]
  · rw [← range_any (fun x => okInst x k) l, ← firstI_any]
    unfold firstI
    cases (List.range l.length).find? (fun i => !okInst (gd l i) k) <;> rfl
  · simp only [L_slices_IndexFunc_Limpl_Instance_impl_Instance_mbFimpl_validCell_3p_x2, letO_eq]
    rw [ltl_f, br_f]
  · simp only [L_slices_IndexFunc_Limpl_Instance_impl_Instance_mbFimpl_validCell_3p_x2, letO_eq, s_toNn, F_impl_validCell_3_mbp]
    rw [ltl_t hi, br_t, req_of (inRl hi), impl_validInstance_ok, Option.bind_some, Option.bind_some, inc_nat (by omega)]
    cases okInst (gd l i) k <;> rfl
theorem impl_validCell_ok (c : TCell) (k : Int) (h : SmallC c) : F_impl_validCell c k = some (okCell c k) := by
  have hb := maxLen_eq
  have e24 := lt_lit c.fShapes.length 24
  have e8 := lt_lit c.fLabels.length 8
  have e8' := lt_lit c.fInstances.length 8
  unfold F_impl_validCell okCell
  rw [impl_IsName_ok _ (by have := h.name; omega), containsShape _ (by have := h.shapes; omega), containsLabel _ (by have := h.labels; omega) (fun x hx => by have := h.lnames x hx; omega), containsInst _ _ (by have := h.insts; omega)]
  simp only [Option.bind_some, letO_eq, len_eq, show (24 : Int) = ((24 : Nat) : Int) from rfl, show (8 : Int) = ((8 : Nat) : Int) from rfl, e24, e8, e8']
  cases isName c.fName <;> cases decide (c.fShapes.length ≤ 24) <;> cases decide (c.fLabels.length ≤ 8) <;> cases decide (c.fInstances.length ≤ 8) <;> cases c.fShapes.all okShape <;> cases c.fLabels.all okLabel <;> cases (c.fInstances.all fun x => okInst x k) <;> rfl
/-- the first cell with this name -/
noncomputable def namedI (l : List TCell) (s : ByteArray) : Int := firstI (fun i => std.seq (gd l i).fName s) l.length
theorem impl_named_ok (a : TLibrary) (s : ByteArray) (h : a.fCells.length ≤ 10000000) : F_impl_named a s = some (namedI a.fCells s) := by
  unfold F_impl_named F_slices_IndexFunc_Limpl_Cell_impl_Cell_mbFimpl_named_1p
  rw [bind_of (scan_first (p := fun i => std.seq (gd a.fCells i).fName s) (n := a.fCells.length) (fun i hi => ?_) ?_)]
  · unfold namedI firstI
    cases (List.range a.fCells.length).find? (fun i => std.seq (gd a.fCells i).fName s) <;> rfl
  · simp only [L_slices_IndexFunc_Limpl_Cell_impl_Cell_mbFimpl_named_1p_x2, letO_eq]
    rw [ltl_f, br_f]
  · simp only [L_slices_IndexFunc_Limpl_Cell_impl_Cell_mbFimpl_named_1p_x2, letO_eq, s_toNn, F_impl_named_1_mbp]
    rw [ltl_t hi, br_t, req_of (inRl hi), Option.bind_some, inc_nat (by omega)]
    cases std.seq (gd a.fCells i).fName s <;> rfl
/-- no cell ahead of k has its name -/
noncomputable def fresh (l : List TCell) (k : Nat) : Bool := (List.range k).all fun j => !std.seq (gd l j).fName (gd l k).fName
theorem find_first (p : Nat → Bool) (n k : Nat) (hk : k < n) (hp : p k = true) : (List.range n).find? p = some k ↔ (List.range k).all (fun j => !p j) = true := by
  rw [List.all_eq_true, List.find?_eq_some_iff_append]
  constructor
  · rintro ⟨h1, l1, l2, h2, h3⟩ j hj
    apply h3
    have hlen : l1.length = k := by
      have h4 : (List.range n)[l1.length]? = some k := by rw [h2]; simp
      have hlt : l1.length < n := by
        have := (List.getElem?_eq_some_iff.1 h4).1
        simpa using this
      rw [List.getElem?_range hlt] at h4
      injection h4
    have h5 : l1 = List.range k := by
      have := congrArg (List.take l1.length) h2
      rw [List.take_left', List.take_range] at this
      · rw [← this, hlen]; congr 1; omega
      · rfl
    rw [h5]; exact hj
  · intro h
    refine ⟨hp, List.range k, List.range' (k + 1) (n - (k + 1)), ?_, fun j hj => h j hj⟩
    rw [List.range_eq_range', List.range_eq_range', show n = k + (1 + (n - (k + 1))) by omega, ← List.range'_append_1, Nat.add_comm 1, List.range'_succ]
    simp
    omega
theorem named_first (l : List TCell) (k : Nat) (hk : k < l.length) : std.eq (namedI l (gd l k).fName) (k : Int) = fresh l k := by
  rw [s_eq, Bool.eq_iff_iff]
  unfold fresh
  rw [← find_first (fun i => std.seq (gd l i).fName (gd l k).fName) l.length k hk (seq_self _)]
  unfold namedI firstI
  cases h : (List.range l.length).find? (fun i => std.seq (gd l i).fName (gd l k).fName) with
  | none => simp
  | some i => simp; omega
noncomputable def okLib (a : TLibrary) : Bool := decide (1 ≤ a.fCells.length) && (decide (a.fCells.length ≤ 8) && (List.range a.fCells.length).all fun k => okCell (gd a.fCells k) k && fresh a.fCells k)
theorem lt_one (n : Nat) : std.lt (std.ofN n) 1 = !decide (1 ≤ n) := by
  rw [s_lt, s_ofN]
  by_cases h : 1 ≤ n
  · have : ¬ ((n : Int) < 1) := by omega
    simp [h, this]
  · have : ((n : Int) < 1) := by omega
    simp [h, this]
theorem spec_IsValidLibrary_ok (a : TLibrary) (h : SmallL a) : F_spec_IsValidLibrary a = some (okLib a) := by
  have hl := h.cells
  have e8 := lt_lit a.fCells.length 8
  unfold F_spec_IsValidLibrary okLib
  simp only [letO_eq, len_eq, show (8 : Int) = ((8 : Nat) : Int) from rfl, e8, lt_one]
  cases decide (1 ≤ a.fCells.length) with
  | false => rfl
  | true =>
    cases decide (a.fCells.length ≤ 8) with
    | false => rfl
    | true =>
      simp only [Bool.not_true, br_f, Option.bind_some, Bool.true_and]
      rw [bind_of (scan (ok := fun k => okCell (gd a.fCells k) k && fresh a.fCells k) (n := a.fCells.length) (yes := .inr ()) (no := .inl false) (fun i hi => ?_) ?_)]
      · cases (List.range a.fCells.length).all fun k => okCell (gd a.fCells k) k && fresh a.fCells k <;> rfl
      · simp only [L_spec_IsValidLibrary_x10, letO_eq]
        rw [ltl_f, br_f]
      · simp only [L_spec_IsValidLibrary_x10, letO_eq, s_toNn]
        rw [ltl_t hi, br_t, req_of (inRl hi), spec_l09Cell_ok _ _ (h.cell _ (gd_mem hi)), Option.bind_some, inc_nat (by omega)]
        cases okCell (gd a.fCells i) (i : Int) with
        | false => rfl
        | true =>
          simp only [Bool.not_true, br_f, Bool.true_and]
          rw [bind_of (scan (ok := fun j => !std.seq (gd a.fCells j).fName (gd a.fCells i).fName) (n := i) (yes := .inr ()) (no := .inl false) (fun j hj => ?_) ?_)]
          · unfold fresh
            cases (List.range i).all fun j => !std.seq (gd a.fCells j).fName (gd a.fCells i).fName <;> rfl
          · simp only [L_spec_IsValidLibrary_x26, letO_eq]
            rw [lt_false (by omega), br_f]
          · simp only [L_spec_IsValidLibrary_x26, letO_eq, s_toNn]
            rw [lt_true (by omega), br_t, req_of (inRl (by omega)), req_of (inRl hi), inc_nat (by omega)]
            cases std.seq (gd a.fCells j).fName (gd a.fCells i).fName <;> rfl
theorem impl_IsValidLibrary_ok (a : TLibrary) (h : SmallL a) : F_impl_IsValidLibrary a = some (okLib a) := by
  have hl := h.cells
  have e8 := lt_lit a.fCells.length 8
  unfold F_impl_IsValidLibrary okLib
  simp only [letO_eq, len_eq, show (8 : Int) = ((8 : Nat) : Int) from rfl, e8, lt_one]
  cases decide (1 ≤ a.fCells.length) with
  | false => rfl
  | true =>
    cases decide (a.fCells.length ≤ 8) with
    | false => rfl
    | true =>
      simp only [Bool.not_true, br_f, Option.bind_some, Bool.true_and]
      rw [bind_of (scan (ok := fun k => okCell (gd a.fCells k) k && fresh a.fCells k) (n := a.fCells.length) (yes := .inr ()) (no := .inl false) (fun i hi => ?_) ?_)]
      · cases (List.range a.fCells.length).all fun k => okCell (gd a.fCells k) k && fresh a.fCells k <;> rfl
      · simp only [L_impl_IsValidLibrary_x10, letO_eq]
        rw [ltl_f, br_f]
      · simp only [L_impl_IsValidLibrary_x10, letO_eq, s_toNn]
        rw [ltl_t hi, br_t, req_of (inRl hi), impl_validCell_ok _ _ (h.cell _ (gd_mem hi)), Option.bind_some, inc_nat (by omega)]
        cases okCell (gd a.fCells i) (i : Int) with
        | false => rfl
        | true =>
          simp only [Bool.not_true, br_f, Bool.true_and]
          rw [impl_named_ok _ _ (show a.fCells.length ≤ 10000000 by omega), Option.bind_some, named_first _ _ hi]
          cases fresh a.fCells i <;> rfl
theorem spec_l09Has_ok (a : TLibrary) (k : Int) (h : SmallL a) : F_spec_l09Has a k = some (okLib a && wB k 0 ((a.fCells.length : Int) - 1)) := by
  have hl := h.cells
  unfold F_spec_l09Has
  rw [spec_IsValidLibrary_ok _ h]
  simp only [Option.bind_some, letO_eq, s_ofN, len_eq]
  rw [sub_id (by omega) (by omega), spec_l09In_ok]
  cases okLib a <;> rfl
theorem impl_hasCell_ok (a : TLibrary) (k : Int) (h : SmallL a) : F_impl_hasCell a k = some (okLib a && wB k 0 ((a.fCells.length : Int) - 1)) := by
  have hl := h.cells
  unfold F_impl_hasCell
  rw [impl_IsValidLibrary_ok _ h]
  simp only [Option.bind_some, letO_eq, s_ofN, len_eq]
  rw [sub_id (by omega) (by omega), impl_within_ok]
  cases okLib a <;> rfl
theorem wfC_of {c : TCell} (h : wfCell c) : wfC c := ⟨h.1, h.2.1.1, h.2.2.1.1, h.2.2.2.1, fun l hl => (h.2.2.1.2 l hl).2.2⟩
theorem wfLb_of {a : TLibrary} (h : wfLibrary a) : wfLb a := ⟨h.1, fun c hc => wfC_of (h.2 c hc)⟩
/- moving points and rectangles; the boxes around rectangles -/
theorem s_imin (x y : Int) : std.imin x y = min x y := by
  show (if y < x then y else x) = _
  rw [Int.min_def]; split <;> split <;> omega
theorem s_imax (x y : Int) : std.imax x y = max x y := by
  show (if y > x then y else x) = _
  rw [Int.max_def]; split <;> split <;> omega
noncomputable def rot : Nat → Int × Int → Int × Int
  | 0, p => p
  | k + 1, p => rot k (std.sub .i64 0 p.2, p.1)
noncomputable def mvP (t : TTransform) (p : TPoint) : TPoint :=
  let q := rot (std.rem t.fOrientation 4).toNat (p.fX, if 4 ≤ t.fOrientation then std.sub .i64 0 p.fY else p.fY)
  ⟨std.add .i64 q.1 t.fX, std.add .i64 q.2 t.fY⟩
noncomputable def mvR (t : TTransform) (r : TRect) : TRect :=
  let a := mvP t ⟨r.fX0, r.fY0⟩
  let b := mvP t ⟨r.fX1, r.fY1⟩
  ⟨std.imin a.fX b.fX, std.imin a.fY b.fY, std.imax a.fX b.fX, std.imax a.fY b.fY⟩
theorem rem_lt (x : Int) : -4 < std.rem x 4 ∧ std.rem x 4 < 4 := by
  show -4 < x.tmod 4 ∧ x.tmod 4 < 4
  have h1 := Int.tmod_lt_of_pos x (show (0 : Int) < 4 by decide)
  have h2 := Int.lt_tmod_of_pos x (show (0 : Int) < 4 by decide)
  omega
theorem spec_rot (n : Nat) : ∀ (k x y : Int), k ≤ 10 → k.toNat = n → -10 ≤ k → whileP L_spec_l10Point_x13 (x, y, k) = some (rot n (x, y)) := by
  induction n with
  | zero =>
    intro k x y h1 h2 h3
    rw [whileP_unfold]
    simp only [L_spec_l10Point_x13, letO_eq]
    rw [lt_false (by omega), br_f]; rfl
  | succ n ih =>
    intro k x y h1 h2 h3
    rw [whileP_unfold]
    simp only [L_spec_l10Point_x13, letO_eq]
    rw [lt_true (by omega), br_t, sub_id (x := k) (by omega) (by omega)]
    exact ih (k - 1) _ _ (by omega) (by omega) (by omega)
theorem impl_rot (n : Nat) : ∀ (k x y : Int), k ≤ 10 → k.toNat = n → -10 ≤ k → whileP L_impl_turn_x13 (k, x, y) = some (rot n (x, y)) := by
  induction n with
  | zero =>
    intro k x y h1 h2 h3
    rw [whileP_unfold]
    simp only [L_impl_turn_x13, letO_eq]
    rw [lt_false (by omega), br_f]; rfl
  | succ n ih =>
    intro k x y h1 h2 h3
    rw [whileP_unfold]
    simp only [L_impl_turn_x13, letO_eq]
    rw [lt_true (by omega), br_t, sub_id (x := k) (by omega) (by omega)]
    exact ih (k - 1) _ _ (by omega) (by omega) (by omega)
theorem flipY (o y : Int) : ((br (std.le 4 o) (some (std.sub .i64 0 y)) (some y)) : Option Int) = some (if 4 ≤ o then std.sub .i64 0 y else y) := by
  by_cases h : 4 ≤ o
  · rw [le_true h, br_t, if_pos h]
  · rw [le_false h, br_f, if_neg h]
theorem spec_l10Point_ok (t : TTransform) (p : TPoint) : F_spec_l10Point t p = some (mvP t p) := by
  obtain ⟨h1, h2⟩ := rem_lt t.fOrientation
  unfold F_spec_l10Point mvP
  rw [flipY, Option.bind_some]
  simp only [letO_eq]
  rw [req_of (by rw [s_nz]; decide), spec_rot _ _ _ _ (by omega) rfl (by omega)]
  rfl
theorem impl_move_ok (t : TTransform) (p : TPoint) : F_impl_move t p = some (mvP t p) := by
  obtain ⟨h1, h2⟩ := rem_lt t.fOrientation
  unfold F_impl_move F_impl_turn mvP
  rw [flipY, Option.bind_some]
  simp only [letO_eq]
  rw [req_of (by rw [s_nz]; decide), impl_rot _ _ _ _ (by omega) rfl (by omega)]
  rfl
theorem spec_l10Rect_ok (t : TTransform) (r : TRect) : F_spec_l10Rect t r = some (mvR t r) := by
  unfold F_spec_l10Rect mvR
  rw [spec_l10Point_ok, Option.bind_some, spec_l10Point_ok]; rfl
theorem impl_moveRect_ok (t : TTransform) (r : TRect) : F_impl_moveRect t r = some (mvR t r) := by
  unfold F_impl_moveRect mvR
  rw [impl_move_ok, Option.bind_some, impl_move_ok]; rfl
noncomputable def elP (x : TInstance) (c r : Int) : TTransform := ⟨x.fPlace.fOrientation, std.add .i64 x.fPlace.fX (std.mul .i64 c x.fStepX), std.add .i64 x.fPlace.fY (std.mul .i64 r x.fStepY)⟩
theorem spec_l10Element_ok (x : TInstance) (c r : Int) : F_spec_l10Element x c r = some (elP x c r) := rfl
theorem impl_elementPlace_ok (x : TInstance) (c r : Int) : F_impl_elementPlace x c r = some (elP x c r) := rfl
/-- the places of an instance's elements, row by row -/
noncomputable def elRow (x : TInstance) (r : Nat) : List TTransform := (List.range x.fColumns.toNat).map fun c : Nat => elP x c r
noncomputable def elsOf (x : TInstance) : List TTransform := (List.range x.fRows.toNat).flatMap (elRow x)
/-- a loop that appends -/
theorem while_fm {α : Type} (f : Nat → List α) (n : Nat) (acc : List α) {st : Int × List α → Option ((Int × List α) ⊕ List α)} (B : Nat) (hB : acc.length + ((List.range n).flatMap f).length ≤ B)
    (h : ∀ i, i < n → ∀ v : List α, v.length + (f i).length ≤ B → st ((i : Int), v) = some (.inl (((i + 1 : Nat) : Int), v ++ f i))) (he : ∀ v, st ((n : Int), v) = some (.inr v)) : whileP st (0, acc) = some (acc ++ (List.range n).flatMap f) := by
  have hl : ∀ i, i ≤ n → ((List.range i).flatMap f).length ≤ ((List.range n).flatMap f).length := fun i hi => by
    obtain ⟨d, rfl⟩ := Nat.exists_eq_add_of_le hi
    rw [List.range_eq_range', List.range_eq_range', ← List.range'_append_1 (s := 0) (m := i) (n := d), List.flatMap_append, List.length_append]
    omega
  refine while_from (fun i => ((i : Int), acc ++ (List.range i).flatMap f)) n (by simp) (fun i hi => ?_) (he _)
  have h1 := hl (i + 1) hi
  rw [List.range_succ, List.flatMap_append, List.length_append] at h1
  simp only [List.flatMap_cons, List.flatMap_nil, List.append_nil] at h1
  rw [h i hi _ (by rw [List.length_append]; omega), List.range_succ, List.flatMap_append, List.append_assoc]
  simp
theorem range_fm {α β : Type} [Inhabited α] (l : List α) (g : α → List β) : (List.range l.length).flatMap (fun i => g (gd l i)) = l.flatMap g := by
  have h := map_gd l
  conv => rhs; rw [← h]
  rw [List.flatMap_map]
/-- the smallest rectangle around two -/
noncomputable def hull (a b : TRect) : TRect := ⟨std.imin a.fX0 b.fX0, std.imin a.fY0 b.fY0, std.imax a.fX1 b.fX1, std.imax a.fY1 b.fY1⟩
theorem hull_assoc (a b c : TRect) : hull (hull a b) c = hull a (hull b c) := by
  unfold hull
  simp only [s_imin, s_imax]
  congr 1 <;> first | rw [Int.min_assoc] | rw [Int.max_assoc]
theorem hull_self (a : TRect) : hull a a = a := by
  unfold hull
  simp only [s_imin, s_imax, Int.min_self, Int.max_self]
theorem spec_l10Hull_ok (a b : TRect) : F_spec_l10Hull a b = some (hull a b) := rfl
theorem fold_hull (x a : TRect) (l : List TRect) : l.foldl hull (hull x a) = hull x (l.foldl hull a) := by
  induction l generalizing a with
  | nil => rfl
  | cons b r ih => rw [List.foldl_cons, List.foldl_cons, hull_assoc, ih]
noncomputable def bxs : List TRect → TRect
  | [] => ⟨0, 0, 0, 0⟩
  | a :: l => l.foldl hull a
theorem fold_bxs (x : TRect) {l : List TRect} (h : l ≠ []) : l.foldl hull x = hull x (bxs l) := by
  cases l with
  | nil => exact (h rfl).elim
  | cons a r => rw [List.foldl_cons, fold_hull]; rfl
theorem bxs_app {l m : List TRect} (hl : l ≠ []) (hm : m ≠ []) : bxs (l ++ m) = hull (bxs l) (bxs m) := by
  cases l with
  | nil => exact (hl rfl).elim
  | cons a r =>
    show (r ++ m).foldl hull a = _
    rw [List.foldl_append, fold_bxs _ hm]; rfl
theorem bxs_again {a : TRect} {r : List TRect} : (a :: r).foldl hull a = bxs (a :: r) := by
  rw [List.foldl_cons, hull_self]; rfl
theorem rect_eta (a : TRect) : TRect.mk a.fX0 a.fY0 a.fX1 a.fY1 = a := rfl
/-- a loop that takes the hull -/
theorem while_hull {st : Int × Int × Int × Int × Int → Option ((Int × Int × Int × Int × Int) ⊕ (Int × Int × Int × Int))} (f : Nat → TRect) (n i0 : Nat) (h0 : i0 ≤ n) (a : TRect)
    (h : ∀ i, i0 ≤ i → i < n → ∀ b : TRect, st ((i : Int), b.fX0, b.fY0, b.fX1, b.fY1) = some (.inl (((i + 1 : Nat) : Int), (hull b (f i)).fX0, (hull b (f i)).fY0, (hull b (f i)).fX1, (hull b (f i)).fY1)))
    (he : ∀ b : TRect, st ((n : Int), b.fX0, b.fY0, b.fX1, b.fY1) = some (.inr (b.fX0, b.fY0, b.fX1, b.fY1))) :
    ∃ b : TRect, b = ((List.range' i0 (n - i0)).map f).foldl hull a ∧ whileP st ((i0 : Int), a.fX0, a.fY0, a.fX1, a.fY1) = some (b.fX0, b.fY0, b.fX1, b.fY1) := by
  refine ⟨_, rfl, ?_⟩
  obtain ⟨S, hS⟩ : ∃ S : Nat → TRect, S = fun j => ((List.range' i0 (j - i0)).map f).foldl hull a := ⟨_, rfl⟩
  have hs : ∀ j, i0 ≤ j → S (j + 1) = hull (S j) (f j) := fun j hj => by
    rw [hS]
    show ((List.range' i0 (j + 1 - i0)).map f).foldl hull a = hull (((List.range' i0 (j - i0)).map f).foldl hull a) (f j)
    rw [show j + 1 - i0 = (j - i0) + 1 by omega, List.range'_1_concat, List.map_append, List.foldl_append, show i0 + (j - i0) = j by omega]; rfl
  have key := while_up (step := st) (fun j => (((i0 + j : Nat) : Int), (S (i0 + j)).fX0, (S (i0 + j)).fY0, (S (i0 + j)).fX1, (S (i0 + j)).fY1)) (n - i0) (r := ((S n).fX0, (S n).fY0, (S n).fX1, (S n).fY1)) (fun j hj => by
    show st (((i0 + j : Nat) : Int), _) = _
    rw [h (i0 + j) (by omega) (by omega) (S (i0 + j)), ← hs (i0 + j) (by omega)]; rfl) (by
    show st (((i0 + (n - i0) : Nat) : Int), _) = _
    rw [show i0 + (n - i0) = n by omega]
    exact he _) (n - i0) 0 (by omega)
  have e0 : S i0 = a := by rw [hS]; simp
  simp only [Nat.add_zero, e0] at key
  rw [key, hS]
theorem boxOf_ok (l : List TRect) (h : l ≠ []) (hl : l.length ≤ 10000000) : F_impl_boxOf l = some (bxs l) := by
  have h0 : 0 < l.length := List.length_pos_iff.2 h
  obtain ⟨b, hb, hw⟩ := while_hull (st := L_impl_boxOf_x7 l) (gd l) l.length 0 (by omega) (gd l 0) (fun i _ hi b => by
    simp only [L_impl_boxOf_x7, letO_eq, s_toNn]
    rw [ltl_t hi, br_t, req_of (inRl hi), inc_nat (by omega)]; rfl) (fun b => by
    simp only [L_impl_boxOf_x7, letO_eq]
    rw [ltl_f, br_f])
  unfold F_impl_boxOf
  rw [req_of (show std.inR 0 (len l) from inRl h0)]
  simp only [show std.toN 0 = 0 from rfl]
  rw [show ((0 : Nat) : Int) = 0 from rfl] at hw
  rw [hw]
  simp only [Option.bind_some, letO_eq]
  rw [rect_eta, hb, Nat.sub_zero, ← List.range_eq_range', map_gd]
  cases l with
  | nil => exact (h rfl).elim
  | cons a r =>
    rw [show gd (a :: r) 0 = a from rfl, bxs_again]
/-- the content of a cell by itself -/
noncomputable def unitR (p : TPoint) : TRect := ⟨p.fX, p.fY, std.add .i64 p.fX 1, std.add .i64 p.fY 1⟩
noncomputable def own (c : TCell) : List TRect := c.fShapes.map (fun s => s.fBox) ++ c.fLabels.map fun l => unitR l.fAt
theorem roomG {n b : Nat} (hn : n ≤ 10000000) (hb : b ≤ 1000) : std.room n b := by
  rw [s_room]
  exact Nat.le_trans (Nat.mul_le_mul hn hb) (by omega)
theorem map_fm {α β : Type} (l : List α) (g : α → β) : l.flatMap (fun x => [g x]) = l.map g := by
  induction l with
  | nil => rfl
  | cons a r ih => simp [List.flatMap_cons, ih]
theorem own_len (c : TCell) : (own c).length = c.fShapes.length + c.fLabels.length := by simp [own]
theorem spec_l12Own_ok (c : TCell) (h1 : c.fShapes.length ≤ 1000) (h2 : c.fLabels.length ≤ 1000) : F_spec_l12Own c = some (bxs (own c), decide (own c ≠ [])) := by
  unfold F_spec_l12Own
  have w1 : whileP (L_spec_l12Own_x5 c) (0, ([] : List TRect)) = some (c.fShapes.map (fun s => s.fBox)) := by
    have e : (List.range c.fShapes.length).flatMap (fun i => [(gd c.fShapes i).fBox]) = c.fShapes.map fun s => s.fBox := (range_fm c.fShapes fun s => [s.fBox]).trans (map_fm _ _)
    refine (while_fm (fun i => [(gd c.fShapes i).fBox]) c.fShapes.length [] 10000 (by rw [e]; simp; omega) (fun i hi v hv => ?_) (fun v => ?_)).trans (by rw [e]; try rfl)
    · simp only [List.length_singleton] at hv
      simp only [L_spec_l12Own_x5, letO_eq, s_toNn]
      rw [ltl_t hi, br_t, req_of (inRl hi), req_of (roomG (by rw [s_nadd, len_eq, len_eq]; simp; omega) (by omega)), inc_nat (by omega)]
    · simp only [L_spec_l12Own_x5, letO_eq]
      rw [ltl_f, br_f]
  have w2 : whileP (L_spec_l12Own_x27 c) (0, c.fShapes.map (fun s => s.fBox)) = some (own c) := by
    have e : (List.range c.fLabels.length).flatMap (fun i => [unitR (gd c.fLabels i).fAt]) = c.fLabels.map fun s => unitR s.fAt := (range_fm c.fLabels fun s => [unitR s.fAt]).trans (map_fm _ _)
    refine (while_fm (fun i => [unitR (gd c.fLabels i).fAt]) c.fLabels.length (c.fShapes.map (fun s => s.fBox)) 10000 (by rw [e]; simp; omega) (fun i hi v hv => ?_) (fun v => ?_)).trans (by rw [e]; try rfl)
    · simp only [List.length_singleton] at hv
      simp only [L_spec_l12Own_x27, letO_eq, s_toNn]
      rw [ltl_t hi, br_t, req_of (inRl hi), req_of (roomG (by rw [s_nadd, len_eq, len_eq]; simp; omega) (by omega)), inc_nat (by omega)]; rfl
    · simp only [L_spec_l12Own_x27, letO_eq]
      rw [ltl_f, br_f]
  simp only [letO_eq]
  rw [w1, Option.bind_some, w2, Option.bind_some]
  by_cases h : own c = []
  · rw [h]; rfl
  · have h0 : 0 < (own c).length := List.length_pos_iff.2 h
    have hl : (own c).length ≤ 2000 := by rw [own_len]; omega
    rw [eq_false' (by rw [s_ofN, len_eq]; omega), br_f, req_of (show std.inR 0 (len (own c)) from inRl h0)]
    obtain ⟨b, hb, hw⟩ := while_hull (st := L_spec_l12Own_x53 (own c)) (gd (own c)) (own c).length 1 (by omega) (gd (own c) 0) (fun i _ hi b => by
      simp only [L_spec_l12Own_x53, letO_eq, s_toNn, s_nadd, Nat.zero_add]
      rw [ltl_t hi, br_t, req_of (inRl hi), rect_eta, spec_l10Hull_ok, Option.bind_some, inc_nat (by omega)]) (fun b => by
      simp only [L_spec_l12Own_x53, letO_eq]
      rw [ltl_f, br_f])
    rw [show ((1 : Nat) : Int) = 1 from rfl] at hw
    simp only [show std.toN 0 = 0 from rfl, s_nadd, Nat.add_zero]
    rw [hw]
    simp only [Option.bind_some]
    rw [rect_eta, decide_eq_true h, hb]
    congr 2
    have e : (List.range' 1 ((own c).length - 1)).map (gd (own c)) = (own c).drop 1 := by
      have := map_gd (own c)
      conv => rhs; rw [← this]
      rw [← List.map_drop, List.range_eq_range']
      congr 1
      obtain ⟨n, hn⟩ : ∃ n, (own c).length = n + 1 := ⟨(own c).length - 1, by omega⟩
      rw [hn, Nat.add_sub_cancel, List.range'_succ]; rfl
    rw [e]
    cases hc : own c with
    | nil => exact (h hc).elim
    | cons a r => rfl
/- the elements of instances; the content boxes of cells, both sides -/
theorem wB_iffG (a b c : Int) : wB a b c = true ↔ b ≤ a ∧ a ≤ c := by
  unfold wB
  rw [s_le, s_le, Bool.and_eq_true, decide_eq_true_eq, decide_eq_true_eq]
structure VI (x : TInstance) (k : Nat) : Prop where
  cell : ∃ c : Nat, x.fCell = (c : Int) ∧ c < k
  cols : ∃ n : Nat, x.fColumns = (n : Int) ∧ 1 ≤ n ∧ n ≤ 4
  rows : ∃ n : Nat, x.fRows = (n : Int) ∧ 1 ≤ n ∧ n ≤ 4
  px : -80 ≤ x.fPlace.fX ∧ x.fPlace.fX ≤ 80
  py : -80 ≤ x.fPlace.fY ∧ x.fPlace.fY ≤ 80
  ori : 0 ≤ x.fPlace.fOrientation ∧ x.fPlace.fOrientation ≤ 7
  sx : -80 ≤ x.fStepX ∧ x.fStepX ≤ 80
  sy : -80 ≤ x.fStepY ∧ x.fStepY ≤ 80
theorem vi_of {x : TInstance} {k : Nat} (hk : k ≤ 1000000) (h : okInst x k = true) : VI x k := by
  unfold okInst okTr at h
  rw [sub_id (by omega) (by omega)] at h
  simp only [Bool.and_eq_true, wB_iffG] at h
  obtain ⟨h1, ⟨h2, h3, h4⟩, h5, h6, h7, h8, _⟩ := h
  exact ⟨⟨x.fCell.toNat, by omega, by omega⟩, ⟨x.fColumns.toNat, by omega, by omega, by omega⟩, ⟨x.fRows.toNat, by omega, by omega, by omega⟩, h3, h4, h2, h7, h8⟩
structure VC (c : TCell) (k : Nat) : Prop where
  shapes : c.fShapes.length ≤ 24
  labels : c.fLabels.length ≤ 8
  insts : c.fInstances.length ≤ 8
  shape : ∀ s ∈ c.fShapes, okShape s = true
  label : ∀ l ∈ c.fLabels, okLabel l = true
  inst : ∀ x ∈ c.fInstances, VI x k
theorem vc_of {a : TLibrary} (h : okLib a = true) {k : Nat} (hk : k < a.fCells.length) : VC (gd a.fCells k) k := by
  unfold okLib at h
  simp only [Bool.and_eq_true, decide_eq_true_eq, List.all_eq_true, List.mem_range] at h
  have h1 := (h.2.2 k hk).1
  have h2 := h.2.1
  unfold okCell at h1
  simp only [Bool.and_eq_true, decide_eq_true_eq, List.all_eq_true] at h1
  obtain ⟨_, g2, g3, g4, g5, g6, g7⟩ := h1
  exact ⟨g2, g3, g4, g5, g6, fun x hx => vi_of (by omega) (g7 x hx)⟩
theorem okLib_leG {a : TLibrary} (h : okLib a = true) : 1 ≤ a.fCells.length ∧ a.fCells.length ≤ 8 := by
  unfold okLib at h
  simp only [Bool.and_eq_true, decide_eq_true_eq] at h
  exact ⟨h.1, h.2.1⟩
theorem fm_len_le {α β : Type} (l : List α) (f : α → List β) (b : Nat) (h : ∀ x ∈ l, (f x).length ≤ b) : (l.flatMap f).length ≤ l.length * b := by
  induction l with
  | nil => simp
  | cons a r ih =>
    rw [List.flatMap_cons, List.length_append, List.length_cons, Nat.add_mul, Nat.one_mul]
    have h1 := h a (by simp)
    have h2 := ih (fun x hx => h x (by simp [hx]))
    omega
theorem elRow_len (x : TInstance) (r : Nat) : (elRow x r).length = x.fColumns.toNat := by simp [elRow]
theorem elsOf_le {x : TInstance} {k : Nat} (h : VI x k) : (elsOf x).length ≤ 16 := by
  obtain ⟨n, hn, _, hn4⟩ := h.cols
  obtain ⟨m, hm, _, hm4⟩ := h.rows
  have := fm_len_le (List.range x.fRows.toNat) (elRow x) 4 (fun r _ => by rw [elRow_len]; omega)
  rw [List.length_range] at this
  unfold elsOf
  omega
theorem elP_zero {x : TInstance} {k : Nat} (h : VI x k) : elP x 0 0 = x.fPlace := by
  have hx := h.px
  have hy := h.py
  unfold elP
  rw [mul_id (by omega) (by omega), mul_id (by omega) (by omega), add_id (by omega) (by omega), add_id (by omega) (by omega)]
  simp
theorem elsOf_head {x : TInstance} {k : Nat} (h : VI x k) : ∃ r, elsOf x = x.fPlace :: r := by
  obtain ⟨n, hn, hn1, hn4⟩ := h.cols
  obtain ⟨m, hm, hm1, hm4⟩ := h.rows
  have e1 : x.fRows.toNat = (m - 1) + 1 := by omega
  have e2 : x.fColumns.toNat = (n - 1) + 1 := by omega
  unfold elsOf
  rw [e1, List.range_succ_eq_map, List.flatMap_cons]
  unfold elRow
  rw [e2, List.range_succ_eq_map, List.map_cons, List.cons_append]
  exact ⟨_, by rw [show (((0 : Nat) : Nat) : Int) = 0 from rfl, elP_zero h]⟩
theorem elsOf_ne {x : TInstance} {k : Nat} (h : VI x k) : elsOf x ≠ [] := by
  obtain ⟨r, hr⟩ := elsOf_head h
  rw [hr]; simp
noncomputable def mkE (x : TInstance) : List Telement := (elsOf x).map (Telement.mk x.fCell)
theorem mkE_eq (x : TInstance) : mkE x = (List.range x.fRows.toNat).flatMap fun r => (elRow x r).map (Telement.mk x.fCell) := by
  unfold mkE elsOf
  rw [List.map_flatMap]
theorem elements_row (c : TCell) (i r : Nat) (x : TInstance) {k : Nat} (hx : gd c.fInstances i = x) (h : VI x k) (v : List Telement) (hv : v.length + (elRow x r).length ≤ 1000) :
    whileP (L_impl_elements_x34 c (r : Int) (i : Int)) (0, v) = some (v ++ (elRow x r).map (Telement.mk x.fCell)) := by
  obtain ⟨n, hn, hn1, hn4⟩ := h.cols
  have e : (List.range n).flatMap (fun c : Nat => [Telement.mk x.fCell (elP x c r)]) = (elRow x r).map (Telement.mk x.fCell) := by
    rw [map_fm]; unfold elRow; rw [List.map_map, hn, Int.toNat_natCast]; rfl
  refine (while_fm (fun c : Nat => [Telement.mk x.fCell (elP x c r)]) n v 1000 (by rw [e, List.length_map]; exact hv) (fun j hj u hu => ?_) (fun u => ?_)).trans (by rw [e])
  · simp only [List.length_singleton] at hu
    simp only [L_impl_elements_x34, letO_eq, s_toNn, hx]
    rw [hn, lt_true (by omega), br_t, impl_elementPlace_ok, Option.bind_some, req_of (roomG (by rw [s_nadd, len_eq, len_eq]; simp; omega) (by omega)), inc_nat (by omega)]
  · simp only [L_impl_elements_x34, letO_eq, s_toNn, hx]
    rw [hn, lt_false (by omega), br_f]
theorem elements_inst (c : TCell) (i : Nat) (x : TInstance) {k : Nat} (hx : gd c.fInstances i = x) (h : VI x k) (v : List Telement) (hv : v.length + (mkE x).length ≤ 1000) :
    whileP (L_impl_elements_x20 c (i : Int)) (0, v) = some (v ++ mkE x) := by
  obtain ⟨m, hm, hm1, hm4⟩ := h.rows
  have e := mkE_eq x
  rw [hm, Int.toNat_natCast] at e
  refine (while_fm (fun r => (elRow x r).map (Telement.mk x.fCell)) m v 1000 (by rw [← e]; exact hv) (fun j hj u hu => ?_) (fun u => ?_)).trans (by rw [← e])
  · simp only [L_impl_elements_x20, letO_eq, s_toNn, hx]
    rw [hm, lt_true (by omega), br_t, elements_row c i j x hx h u (by rw [List.length_map] at hu; exact hu), Option.bind_some, inc_nat (by omega)]
  · simp only [L_impl_elements_x20, letO_eq, s_toNn, hx]
    rw [hm, lt_false (by omega), br_f]
noncomputable def elemsC (c : TCell) : List Telement := c.fInstances.flatMap mkE
theorem elemsC_le {c : TCell} {k : Nat} (h : VC c k) : (elemsC c).length ≤ 128 := by
  have := fm_len_le c.fInstances mkE 16 (fun x hx => by unfold mkE; rw [List.length_map]; exact elsOf_le (h.inst x hx))
  have h8 := h.insts
  unfold elemsC
  omega
theorem impl_elements_ok (c : TCell) {k : Nat} (h : VC c k) : F_impl_elements c = some (elemsC c) := by
  have h8 := h.insts
  have hl := elemsC_le h
  have e : (List.range c.fInstances.length).flatMap (fun i => mkE (gd c.fInstances i)) = elemsC c := range_fm _ _
  unfold F_impl_elements
  simp only [letO_eq]
  rw [show whileP (L_impl_elements_x5 c) (0, ([] : List Telement)) = some (elemsC c) from
    (while_fm (fun i => mkE (gd c.fInstances i)) c.fInstances.length [] 1000 (by rw [e]; simp; omega) (fun i hi v hv => by
      simp only [L_impl_elements_x5, letO_eq]
      rw [ltl_t hi, br_t, req_of (inRl hi), elements_inst c i _ rfl (h.inst _ (gd_mem hi)) v hv, Option.bind_some, inc_nat (by omega)]) (fun v => by
      simp only [L_impl_elements_x5, letO_eq]
      rw [ltl_f, br_f])).trans (by rw [e]; rfl)]
  rfl
/-- the boxes of the elements of an instance -/
noncomputable def part (prev : List (List TRect)) (x : TInstance) : List TRect := (elsOf x).flatMap fun t => (gd prev x.fCell.toNat).map (mvR t)
noncomputable def allOf (prev : List (List TRect)) (c : TCell) : List TRect := own c ++ c.fInstances.flatMap (part prev)
noncomputable def one (l : List TRect) : List TRect := if l = [] then [] else [bxs l]
noncomputable def boxesN (cs : List TCell) : Nat → List (List TRect)
  | 0 => []
  | k + 1 => boxesN cs k ++ [one (allOf (boxesN cs k) (gd cs k))]
theorem boxesN_len (cs : List TCell) : ∀ k, (boxesN cs k).length = k
  | 0 => rfl
  | k + 1 => by rw [boxesN, List.length_append, boxesN_len cs k]; rfl
theorem boxesN_gd (cs : List TCell) {i n : Nat} (h : i < n) : gd (boxesN cs n) i = one (allOf (boxesN cs i) (gd cs i)) := by
  induction n with
  | zero => omega
  | succ n ih =>
    rw [boxesN]
    have hl := boxesN_len cs n
    by_cases h1 : i = n
    · subst h1
      rw [gd_lt (by simp; omega), List.getElem_append_right (by omega)]
      simp [hl]
    · rw [gd_lt (by simp; omega), List.getElem_append_left (by omega), ← gd_lt (by omega)]
      exact ih (by omega)
theorem one_le (l : List TRect) : (one l).length ≤ 1 := by
  unfold one; split <;> simp
theorem bxs_one (l : List TRect) : bxs (one l) = bxs l := by
  unfold one
  split
  · rename_i h; rw [h]
  · rfl
theorem one_nil (l : List TRect) : one l = [] ↔ l = [] := by
  unfold one
  split
  · rename_i h; simp [h]
  · rename_i h; simp [h]
theorem boxesN_le (cs : List TCell) {i n : Nat} (h : i < n) : (gd (boxesN cs n) i).length ≤ 1 := by rw [boxesN_gd cs h]; exact one_le _
theorem part_elems (prev : List (List TRect)) (c : TCell) : (elemsC c).flatMap (fun e => (gd prev e.gcell.toNat).map (mvR e.gplace)) = c.fInstances.flatMap (part prev) := by
  unfold elemsC
  rw [List.flatMap_assoc]
  congr 1
  funext x
  unfold mkE part
  rw [List.flatMap_map]
theorem part_le {prev : List (List TRect)} {c : TCell} {k : Nat} (h : VC c k) (hp : ∀ i, i < k → (gd prev i).length ≤ 1) : (c.fInstances.flatMap (part prev)).length ≤ 128 := by
  have h8 := h.insts
  have := fm_len_le c.fInstances (part prev) 16 (fun x hx => by
    have hv := h.inst x hx
    obtain ⟨n, hn, hnk⟩ := hv.cell
    have h2 := elsOf_le hv
    have h1 := fm_len_le (elsOf x) (fun t => (gd prev x.fCell.toNat).map (mvR t)) 1 (fun t _ => by rw [List.length_map, hn, Int.toNat_natCast]; exact hp n hnk)
    unfold part
    omega)
  omega
theorem mem_elems {c : TCell} {k : Nat} (h : VC c k) {e : Telement} (he : e ∈ elemsC c) : ∃ n : Nat, e.gcell = (n : Int) ∧ n < k := by
  unfold elemsC at he
  obtain ⟨x, hx, he⟩ := List.mem_flatMap.1 he
  unfold mkE at he
  obtain ⟨t, _, rfl⟩ := List.mem_map.1 he
  exact (h.inst x hx).cell
theorem impl_contentBoxes_ok (a : TLibrary) (h : okLib a = true) : F_impl_contentBoxes a = some (boxesN a.fCells a.fCells.length) := by
  obtain ⟨hn1, hn8⟩ := okLib_leG h
  unfold F_impl_contentBoxes
  simp only [letO_eq]
  rw [show whileP (L_impl_contentBoxes_x4 a) (0, ([] : List (List TRect))) = some (boxesN a.fCells a.fCells.length) from ?_]
  · rfl
  refine while_from (fun k => ((k : Int), boxesN a.fCells k)) a.fCells.length rfl (fun k hk => ?_) ?_
  · have hc := vc_of h hk
    have s24 := hc.shapes
    have l8 := hc.labels
    obtain ⟨prev, hprev⟩ : ∃ prev, prev = boxesN a.fCells k := ⟨_, rfl⟩
    have hpl : prev.length = k := by rw [hprev]; exact boxesN_len _ _
    have hp1 : ∀ i, i < k → (gd prev i).length ≤ 1 := fun i hi => by rw [hprev]; exact boxesN_le _ hi
    have hpart := part_le hc hp1
    obtain ⟨c, hcd⟩ : ∃ c, c = gd a.fCells k := ⟨_, rfl⟩
    rw [← hcd] at hc s24 l8 hpart
    have w1 : whileP (L_impl_contentBoxes_x21 a (k : Int)) (0, ([] : List TRect)) = some (c.fShapes.map (fun s => s.fBox)) := by
      have e : (List.range c.fShapes.length).flatMap (fun i => [(gd c.fShapes i).fBox]) = c.fShapes.map fun s => s.fBox := (range_fm c.fShapes fun s => [s.fBox]).trans (map_fm _ _)
      refine (while_fm (fun i => [(gd c.fShapes i).fBox]) c.fShapes.length [] 10000 (by rw [e]; simp; omega) (fun i hi v hv => ?_) (fun v => ?_)).trans (by rw [e]; try rfl)
      · simp only [List.length_singleton] at hv
        simp only [L_impl_contentBoxes_x21, letO_eq, s_toNn, ← hcd]
        rw [ltl_t hi, br_t, req_of (inRl hi), req_of (roomG (by rw [s_nadd, len_eq, len_eq]; simp; omega) (by omega)), inc_nat (by omega)]
      · simp only [L_impl_contentBoxes_x21, letO_eq, s_toNn, ← hcd]
        rw [ltl_f, br_f]
    have w2 : whileP (L_impl_contentBoxes_x43 a (k : Int)) (0, c.fShapes.map (fun s => s.fBox)) = some (own c) := by
      have e : (List.range c.fLabels.length).flatMap (fun i => [unitR (gd c.fLabels i).fAt]) = c.fLabels.map fun s => unitR s.fAt := (range_fm c.fLabels fun s => [unitR s.fAt]).trans (map_fm _ _)
      refine (while_fm (fun i => [unitR (gd c.fLabels i).fAt]) c.fLabels.length (c.fShapes.map (fun s => s.fBox)) 10000 (by rw [e]; simp; omega) (fun i hi v hv => ?_) (fun v => ?_)).trans (by rw [e]; try rfl)
      · simp only [List.length_singleton] at hv
        simp only [L_impl_contentBoxes_x43, letO_eq, s_toNn, ← hcd]
        rw [ltl_t hi, br_t, req_of (inRl hi), show F_impl_unitRect (gd c.fLabels i).fAt = some (unitR (gd c.fLabels i).fAt) from rfl, Option.bind_some, req_of (roomG (by rw [s_nadd, len_eq, len_eq]; simp; omega) (by omega)), inc_nat (by omega)]
      · simp only [L_impl_contentBoxes_x43, letO_eq, s_toNn, ← hcd]
        rw [ltl_f, br_f]
    have w3 : whileP (L_impl_contentBoxes_x69 (elemsC c) prev) (0, own c) = some (allOf prev c) := by
      have he128 := elemsC_le hc
      have e : (List.range (elemsC c).length).flatMap (fun i => (gd prev (gd (elemsC c) i).gcell.toNat).map (mvR (gd (elemsC c) i).gplace)) = c.fInstances.flatMap (part prev) := (range_fm (elemsC c) fun e => (gd prev e.gcell.toNat).map (mvR e.gplace)).trans (part_elems prev c)
      refine (while_fm (fun i => (gd prev (gd (elemsC c) i).gcell.toNat).map (mvR (gd (elemsC c) i).gplace)) (elemsC c).length (own c) 10000 (by rw [e, own_len]; omega) (fun i hi v hv => ?_) (fun v => ?_)).trans (by rw [e]; try rfl)
      · obtain ⟨m, hm, hmk⟩ := mem_elems hc (gd_mem hi)
        rw [List.length_map, hm, Int.toNat_natCast] at hv
        simp only [L_impl_contentBoxes_x69, letO_eq, s_toNn, s_nadd, Nat.zero_add, hm]
        rw [ltl_t hi, br_t, req_of (inRl hi), req_of (inRl (by omega)), Option.bind_some]
        have e2 : (List.range (gd prev m).length).flatMap (fun j => [mvR (gd (elemsC c) i).gplace (gd (gd prev m) j)]) = (gd prev m).map (mvR (gd (elemsC c) i).gplace) := (range_fm (gd prev m) fun b => [mvR (gd (elemsC c) i).gplace b]).trans (map_fm _ _)
        have w4 : whileP (L_impl_contentBoxes_x94 (elemsC c) (std.ofN (len (gd prev m))) prev (i : Int)) (0, v) = some (v ++ (gd prev m).map (mvR (gd (elemsC c) i).gplace)) := by
          refine (while_fm (fun j => [mvR (gd (elemsC c) i).gplace (gd (gd prev m) j)]) (gd prev m).length v 10000 (by rw [e2, List.length_map]; omega) (fun j hj u hu => ?_) (fun u => ?_)).trans (by rw [e2])
          · simp only [List.length_singleton] at hu
            have := hp1 m hmk
            simp only [L_impl_contentBoxes_x94, letO_eq, s_toNn, s_nadd, Nat.zero_add, hm]
            rw [ltl_t hj, br_t, req_of (inRl hj), Option.bind_some]
            simp only
            rw [rect_eta, impl_moveRect_ok, Option.bind_some, req_of (roomG (by rw [len_eq, len_eq]; simp; omega) (by omega)), Option.bind_some, inc_nat (by omega)]
          · simp only [L_impl_contentBoxes_x94, letO_eq, s_toNn, s_nadd, Nat.zero_add, hm]
            rw [ltl_f, br_f]
        rw [req_of (inRl (by omega)), w4, Option.bind_some, inc_nat (by omega), Int.toNat_natCast]
      · simp only [L_impl_contentBoxes_x69, letO_eq]
        rw [ltl_f, br_f]
    have hal : (allOf prev c).length ≤ 200 := by unfold allOf; rw [List.length_append, own_len]; omega
    simp only [L_impl_contentBoxes_x4, letO_eq, ← hprev]
    rw [ltl_t hk, br_t, req_of (inRl hk), w1, Option.bind_some, w2, Option.bind_some, s_toNn, ← hcd, impl_elements_ok c hc, Option.bind_some, w3, Option.bind_some]
    have e5 : (br (std.lt 0 (std.ofN (len (allOf prev c)))) ((F_impl_boxOf (allOf prev c)).bind fun y143 => some [y143]) (some (allOf prev c)) : Option (List TRect)) = some (one (allOf prev c)) := by
      by_cases h0 : allOf prev c = []
      · rw [h0]; rfl
      · have := List.length_pos_iff.2 h0
        rw [lt_true (by rw [s_ofN, len_eq]; omega), br_t, boxOf_ok _ h0 (by omega), Option.bind_some]
        unfold one
        rw [if_neg h0]
    rw [e5, Option.bind_some, req_of (roomG (by rw [s_nadd, len_eq, len_eq, hpl]; simp; omega) (by omega)), Option.bind_some, inc_nat (by omega), boxesN, ← hprev, ← hcd]
  · simp only [L_impl_contentBoxes_x4, letO_eq]
    rw [ltl_f, br_f]
theorem fold_rows (a : TRect) : ∀ (L : List (List TRect)), (∀ l ∈ L, l ≠ []) → (L.map bxs).foldl hull a = L.flatten.foldl hull a
  | [], _ => rfl
  | l :: r, h => by
    rw [List.map_cons, List.foldl_cons, List.flatten_cons, List.foldl_append, fold_bxs a (h l (by simp))]
    exact fold_rows _ r (fun x hx => h x (by simp [hx]))
theorem spec_l12Array_ok (x : TInstance) (b : TRect) {k : Nat} (h : VI x k) : F_spec_l12Array x b = some (bxs ((elsOf x).map fun t => mvR t b)) := by
  obtain ⟨n, hn, hn1, hn4⟩ := h.cols
  obtain ⟨m, hm, hm1, hm4⟩ := h.rows
  unfold F_spec_l12Array
  rw [rect_eta, spec_l10Rect_ok, Option.bind_some]
  obtain ⟨q, hq, hw⟩ := while_hull (st := L_spec_l12Array_x8 x b) (fun r => bxs ((elRow x r).map fun t => mvR t b)) m 0 (by omega) (mvR x.fPlace b) (fun r _ hr s => by
    simp only [L_spec_l12Array_x8, letO_eq]
    rw [hm, lt_true (by omega), br_t]
    obtain ⟨z, hz, hw2⟩ := while_hull (st := L_spec_l12Array_x25 x b (r : Int)) (fun c => mvR (elP x c r) b) n 0 (by omega) s (fun c _ hc s => by
      simp only [L_spec_l12Array_x25, letO_eq]
      rw [hn, lt_true (by omega), br_t, spec_l10Element_ok, Option.bind_some, rect_eta, spec_l10Rect_ok, Option.bind_some, rect_eta, spec_l10Hull_ok, Option.bind_some, inc_nat (by omega)]) (fun s => by
      simp only [L_spec_l12Array_x25, letO_eq]
      rw [hn, lt_false (by omega), br_f])
    rw [show ((0 : Nat) : Int) = 0 from rfl] at hw2
    have e : (List.range' 0 (n - 0)).map (fun c : Nat => mvR (elP x c r) b) = (elRow x r).map fun t => mvR t b := by
      unfold elRow
      rw [List.map_map, hn, Int.toNat_natCast, Nat.sub_zero, ← List.range_eq_range']; rfl
    have hne : ((elRow x r).map fun t => mvR t b) ≠ [] := by
      intro h0
      have := congrArg List.length h0
      rw [List.length_map, elRow_len, hn] at this
      simp at this; omega
    rw [hw2, Option.bind_some, inc_nat (by omega), hz, e, fold_bxs _ hne]) (fun s => by
    simp only [L_spec_l12Array_x8, letO_eq]
    rw [hm, lt_false (by omega), br_f])
  rw [show ((0 : Nat) : Int) = 0 from rfl] at hw
  rw [hw]
  simp only [Option.bind_some, letO_eq]
  rw [rect_eta, hq, Nat.sub_zero, ← List.range_eq_range', show ((List.range m).map fun r => bxs ((elRow x r).map fun t => mvR t b)) = ((List.range m).map fun r => (elRow x r).map fun t => mvR t b).map bxs from by rw [List.map_map]; rfl, fold_rows _ _ (fun l hl => by
    obtain ⟨r, _, rfl⟩ := List.mem_map.1 hl
    intro h0
    have := congrArg List.length h0
    rw [List.length_map, elRow_len, hn] at this
    simp at this; omega)]
  have e2 : ((List.range m).map fun r => (elRow x r).map fun t => mvR t b).flatten = (elsOf x).map fun t => mvR t b := by
    unfold elsOf
    rw [List.map_flatMap, hm, Int.toNat_natCast, List.flatMap_def]
  rw [e2]
  obtain ⟨r, hr⟩ := elsOf_head h
  rw [hr, List.map_cons, bxs_again]
theorem spec_l12Box_ok (a : TLibrary) (h : okLib a = true) (k : Nat) (hk : k < a.fCells.length) : F_spec_l12Box a (k : Int) = some (bxs (gd (boxesN a.fCells a.fCells.length) k), decide (gd (boxesN a.fCells a.fCells.length) k ≠ [])) := by
  obtain ⟨hn1, hn8⟩ := okLib_leG h
  unfold F_spec_l12Box
  simp only [letO_eq]
  rw [show whileP (L_spec_l12Box_x8 a (k : Int)) (0, ([] : List TRect), ([] : List Bool)) = some ((boxesN a.fCells (k + 1)).map bxs, (boxesN a.fCells (k + 1)).map fun l => decide (l ≠ [])) from ?_]
  · have hl := boxesN_len a.fCells (k + 1)
    simp only [Option.bind_some, s_nadd, Nat.zero_add, s_toNn]
    rw [req_of (inRl (by simp; omega)), req_of (inRl (by simp; omega))]
    have hg : ∀ {β : Type} [Inhabited β] (f : List TRect → β), gd ((boxesN a.fCells (k + 1)).map f) k = f (gd (boxesN a.fCells (k + 1)) k) := fun f => by
      rw [gd_lt (by simp; omega), gd_lt (by omega), List.getElem_map]
    rw [hg, hg, boxesN_gd a.fCells (show k < k + 1 by omega), boxesN_gd a.fCells hk]
  refine while_from (fun i => ((i : Int), (boxesN a.fCells i).map bxs, (boxesN a.fCells i).map fun l => decide (l ≠ []))) (k + 1) rfl (fun i hi => ?_) ?_
  · have hi' : i < a.fCells.length := by omega
    have hc := vc_of h hi'
    obtain ⟨prev, hprev⟩ : ∃ prev, prev = boxesN a.fCells i := ⟨_, rfl⟩
    have hpl : prev.length = i := by rw [hprev]; exact boxesN_len _ _
    have hp1 : ∀ j, j < i → (gd prev j).length ≤ 1 := fun j hj => by rw [hprev]; exact boxesN_le _ hj
    obtain ⟨c, hcd⟩ : ∃ c, c = gd a.fCells i := ⟨_, rfl⟩
    rw [← hcd] at hc
    have s24 := hc.shapes
    have l8 := hc.labels
    have i8 := hc.insts
    have hg : ∀ {β : Type} [Inhabited β] (f : List TRect → β) (j : Nat), j < i → gd (prev.map f) j = f (gd prev j) := fun f j hj => by
      rw [gd_lt (by simp; omega), gd_lt (by omega), List.getElem_map]
    obtain ⟨cur, hcur⟩ : ∃ cur : Nat → List TRect, cur = fun j => own c ++ (c.fInstances.take j).flatMap (part prev) := ⟨_, rfl⟩
    have w2 : whileP (L_spec_l12Box_x30 a (i : Int) (prev.map bxs) (prev.map fun l => decide (l ≠ []))) (decide (own c ≠ []), 0, (bxs (own c)).fX0, (bxs (own c)).fY0, (bxs (own c)).fX1, (bxs (own c)).fY1) = some (decide (allOf prev c ≠ []), (bxs (allOf prev c)).fX0, (bxs (allOf prev c)).fY0, (bxs (allOf prev c)).fX1, (bxs (allOf prev c)).fY1) := by
      have hfin : cur c.fInstances.length = allOf prev c := by rw [hcur]; show own c ++ _ = _; rw [List.take_length]; rfl
      rw [← hfin]
      refine while_from (fun j => (decide (cur j ≠ []), (j : Int), (bxs (cur j)).fX0, (bxs (cur j)).fY0, (bxs (cur j)).fX1, (bxs (cur j)).fY1)) c.fInstances.length (by rw [hcur]; simp) (fun j hj => ?_) ?_
      · obtain ⟨x, hx⟩ : ∃ x, x = gd c.fInstances j := ⟨_, rfl⟩
        have hv := hc.inst _ (gd_mem hj)
        rw [← hx] at hv
        obtain ⟨m, hm, hmi⟩ := hv.cell
        have hstep : cur (j + 1) = cur j ++ part prev x := by
          rw [hcur]
          show own c ++ (c.fInstances.take (j + 1)).flatMap (part prev) = own c ++ (c.fInstances.take j).flatMap (part prev) ++ part prev x
          rw [List.take_succ_eq_append_getElem hj, List.flatMap_append, ← gd_lt hj, ← hx, List.append_assoc]; simp
        have hpart : part prev x = (elsOf x).flatMap fun t => (gd prev m).map (mvR t) := by unfold part; rw [hm, Int.toNat_natCast]
        simp only [L_spec_l12Box_x30, letO_eq, s_toNn, s_nadd, Nat.zero_add, ← hcd, ← hx, hm]
        rw [ltl_t hj, br_t, req_of (inRl hj), req_of (inRl (by simp; omega)), hg _ m hmi, inc_nat (by omega)]
        by_cases hb : gd prev m = []
        · have hp0 : part prev x = [] := by rw [hpart, hb]; simp
          rw [hp0, List.append_nil] at hstep
          rw [decide_eq_false (fun h => h hb), br_f, Option.bind_some, hstep]
        · have h1 := hp1 m hmi
          obtain ⟨b, hbb⟩ : ∃ b, gd prev m = [b] := by
            cases hd : gd prev m with
            | nil => exact (hb hd).elim
            | cons b r =>
              rw [hd] at h1
              cases r with
              | nil => exact ⟨b, rfl⟩
              | cons _ _ => simp at h1
          have hp2 : part prev x = (elsOf x).map fun t => mvR t b := by rw [hpart, hbb]; exact map_fm _ _
          have hpne : part prev x ≠ [] := by rw [hp2]; simpa using elsOf_ne hv
          rw [decide_eq_true hb, br_t, req_of (inRl hj), req_of (inRl hj), req_of (inRl (by simp; omega)), hg _ m hmi, hbb, show bxs [b] = b from rfl, spec_l12Array_ok x b hv, Option.bind_some, ← hp2]
          have hne2 : cur (j + 1) ≠ [] := by rw [hstep]; simp [hpne]
          by_cases hc0 : cur j = []
          · rw [decide_eq_false (fun h => h hc0), br_f, Option.bind_some]
            simp only [Option.bind_some]
            rw [decide_eq_true hne2, hstep, hc0, List.nil_append]
          · rw [decide_eq_true hc0, br_t, rect_eta, spec_l10Hull_ok]
            simp only [Option.bind_some]
            rw [decide_eq_true hne2, hstep, bxs_app hc0 hpne]
      · simp only [L_spec_l12Box_x30, letO_eq, s_toNn, ← hcd]
        rw [ltl_f, br_f]
    simp only [L_spec_l12Box_x8, letO_eq, ← hprev]
    rw [le_true (by omega), br_t, req_of (inRl hi'), s_toNn, ← hcd, spec_l12Own_ok c (by omega) (by omega), Option.bind_some, req_of (inRl hi'), w2]
    simp only [Option.bind_some]
    rw [req_of (roomG (by rw [s_nadd, len_eq, len_eq]; simp; omega) (by omega)), req_of (roomG (by rw [s_nadd, len_eq, len_eq]; simp; omega) (by omega)), inc_nat (by omega), boxesN, ← hprev, ← hcd, List.map_append, List.map_append, rect_eta]
    simp only [List.map_cons, List.map_nil, bxs_one, one_nil, ne_eq]
  · simp only [L_spec_l12Box_x8, letO_eq]
    rw [le_false (by omega), br_f]
/- CellBox and InstanceBox -/
noncomputable def boxV (a : TLibrary) (k : Nat) : List TRect := gd (boxesN a.fCells a.fCells.length) k
theorem boxV_le (a : TLibrary) {k : Nat} (h : k < a.fCells.length) : (boxV a k).length ≤ 1 := boxesN_le _ h
theorem boxV_cases (a : TLibrary) {k : Nat} (h : k < a.fCells.length) : boxV a k = [] ∨ ∃ b, boxV a k = [b] := by
  have h1 := boxV_le a h
  cases hd : boxV a k with
  | nil => exact .inl rfl
  | cons b r =>
    rw [hd] at h1
    cases r with
    | nil => exact .inr ⟨b, rfl⟩
    | cons _ _ => simp at h1
noncomputable def hasC (a : TLibrary) (k : Int) : Bool := okLib a && wB k 0 ((a.fCells.length : Int) - 1)
noncomputable def zR : TRect := ⟨0, 0, 0, 0⟩
/- how far boxes reach; overlaps -/
structure NB (r : TRect) (B : Int) : Prop where
  x0 : -B ≤ r.fX0
  x : r.fX0 < r.fX1
  x1 : r.fX1 ≤ B
  y0 : -B ≤ r.fY0
  y : r.fY0 < r.fY1
  y1 : r.fY1 ≤ B
theorem NB.mono {r : TRect} {B C : Int} (h : NB r B) (hc : B ≤ C) : NB r C := ⟨by have := h.x0; omega, h.x, by have := h.x1; omega, by have := h.y0; omega, h.y, by have := h.y1; omega⟩
theorem rem4 (o : Int) : (std.rem o 4).toNat = 0 ∨ (std.rem o 4).toNat = 1 ∨ (std.rem o 4).toNat = 2 ∨ (std.rem o 4).toNat = 3 := by
  have := rem_lt o
  omega
theorem mvP_bd {t : TTransform} {p : TPoint} {B S : Int} (hp : -B ≤ p.fX ∧ p.fX ≤ B ∧ -B ≤ p.fY ∧ p.fY ≤ B) (ht : -S ≤ t.fX ∧ t.fX ≤ S ∧ -S ≤ t.fY ∧ t.fY ≤ S) (hb : B + S ≤ 1000000) (hB : 0 ≤ B) (hS : 0 ≤ S) :
    -(B + S) ≤ (mvP t p).fX ∧ (mvP t p).fX ≤ B + S ∧ -(B + S) ≤ (mvP t p).fY ∧ (mvP t p).fY ≤ B + S := by
  unfold mvP
  rcases rem4 t.fOrientation with h | h | h | h <;> rw [h] <;> (by_cases h4 : 4 ≤ t.fOrientation) <;> simp only [h4, if_true, if_false] <;> simp (disch := omega) only [rot, sub_id, add_id] <;> omega
theorem mvR_NB {t : TTransform} {r : TRect} {B S : Int} (hr : NB r B) (ht : -S ≤ t.fX ∧ t.fX ≤ S ∧ -S ≤ t.fY ∧ t.fY ≤ S) (hb : B + S ≤ 1000000) (hS : 0 ≤ S) : NB (mvR t r) (B + S) := by
  obtain ⟨a1, a2, a3, a4, a5, a6⟩ := hr
  unfold mvR mvP
  rcases rem4 t.fOrientation with h | h | h | h <;> rw [h] <;> (by_cases h4 : 4 ≤ t.fOrientation) <;> simp only [h4, if_true, if_false] <;> simp (disch := omega) only [rot, sub_id, add_id, s_imin, s_imax] <;> constructor <;> simp only <;> omega
theorem hull_NB {a b : TRect} {B : Int} (ha : NB a B) (hb : NB b B) : NB (hull a b) B := by
  obtain ⟨a1, a2, a3, a4, a5, a6⟩ := ha
  obtain ⟨b1, b2, b3, b4, b5, b6⟩ := hb
  unfold hull
  constructor <;> simp only [s_imin, s_imax] <;> omega
theorem bxs_NB {l : List TRect} {B : Int} (h : l ≠ []) (hl : ∀ r ∈ l, NB r B) : NB (bxs l) B := by
  cases l with
  | nil => exact (h rfl).elim
  | cons a r =>
    have key : ∀ (r : List TRect) (a : TRect), NB a B → (∀ x ∈ r, NB x B) → NB (r.foldl hull a) B := by
      intro r
      induction r with
      | nil => intro a ha _; exact ha
      | cons b r ih => intro a ha hr; exact ih _ (hull_NB ha (hr b (by simp))) (fun x hx => hr x (by simp [hx]))
    exact key r a (hl a (by simp)) (fun x hx => hl x (by simp [hx]))
theorem okRect_iff {a : TRect} : okRect a = true ↔ (-40 ≤ a.fX0 ∧ a.fX0 < a.fX1 ∧ a.fX1 ≤ 40 ∧ -40 ≤ a.fY0 ∧ a.fY0 < a.fY1 ∧ a.fY1 ≤ 40) := by
  unfold okRect
  simp only [s_le, s_lt, Bool.and_eq_true, decide_eq_true_eq]
theorem okRect_NB {a : TRect} (h : okRect a = true) : NB a 40 := by
  obtain ⟨h1, h2, h3, h4, h5, h6⟩ := okRect_iff.1 h
  exact ⟨h1, h2, h3, h4, h5, h6⟩
theorem own_NB {c : TCell} {k : Nat} (h : VC c k) : ∀ r ∈ own c, NB r 40 := by
  intro r hr
  unfold own at hr
  rcases List.mem_append.1 hr with h1 | h1
  · obtain ⟨s, hs, rfl⟩ := List.mem_map.1 h1
    have := h.shape s hs
    unfold okShape at this
    rw [Bool.and_eq_true] at this
    exact okRect_NB this.2
  · obtain ⟨l, hl, rfl⟩ := List.mem_map.1 h1
    have := h.label l hl
    unfold okLabel okPoint at this
    simp only [Bool.and_eq_true, wB_iffG] at this
    obtain ⟨_, ⟨h2, h3⟩, _⟩ := this
    unfold unitR
    constructor <;> simp only <;> (try rw [add_id (by omega) (by omega)]) <;> omega
theorem elP_bd {x : TInstance} {k : Nat} (h : VI x k) {t : TTransform} (ht : t ∈ elsOf x) : (-320 ≤ t.fX ∧ t.fX ≤ 320 ∧ -320 ≤ t.fY ∧ t.fY ≤ 320) ∧ 0 ≤ t.fOrientation ∧ t.fOrientation ≤ 7 := by
  unfold elsOf at ht
  obtain ⟨r, hr, ht⟩ := List.mem_flatMap.1 ht
  unfold elRow at ht
  obtain ⟨c, hc, rfl⟩ := List.mem_map.1 ht
  rw [List.mem_range] at hr hc
  obtain ⟨n, hn, _, hn4⟩ := h.cols
  obtain ⟨m, hm, _, hm4⟩ := h.rows
  have hpx := h.px
  have hpy := h.py
  have hsx := h.sx
  have hsy := h.sy
  have hc3 : (c : Int) ≤ 3 := by omega
  have hr3 : (r : Int) ≤ 3 := by omega
  have e1 : -240 ≤ (c : Int) * x.fStepX ∧ (c : Int) * x.fStepX ≤ 240 := by
    have : c = 0 ∨ c = 1 ∨ c = 2 ∨ c = 3 := by omega
    rcases this with rfl | rfl | rfl | rfl <;> omega
  have e2 : -240 ≤ (r : Int) * x.fStepY ∧ (r : Int) * x.fStepY ≤ 240 := by
    have : r = 0 ∨ r = 1 ∨ r = 2 ∨ r = 3 := by omega
    rcases this with rfl | rfl | rfl | rfl <;> omega
  unfold elP
  simp only
  rw [mul_id (by omega) (by omega), mul_id (by omega) (by omega), add_id (by omega) (by omega), add_id (by omega) (by omega)]
  exact ⟨by omega, h.ori.1, h.ori.2⟩
theorem box_NB (a : TLibrary) (h : okLib a = true) (k : Nat) (hk : k < a.fCells.length) {b : TRect} (hb : boxV a k = [b]) : NB b (40 + 320 * k) := by
  have h8 := (okLib_leG h).2
  have key : ∀ m, ∀ k, k < m → k < a.fCells.length → ∀ b, gd (boxesN a.fCells a.fCells.length) k = [b] → NB b (40 + 320 * k) := by
    intro m
    induction m with
    | zero => intro k hk; omega
    | succ m ih =>
      intro k hkm hk b hb
      have hc := vc_of h hk
      rw [boxesN_gd a.fCells hk] at hb
      unfold one at hb
      split at hb
      · cases hb
      · rename_i hne
        injection hb with hb _
        subst hb
        refine bxs_NB hne (fun r hr => ?_)
        unfold allOf at hr
        rcases List.mem_append.1 hr with h1 | h1
        · exact (own_NB hc r h1).mono (by omega)
        · obtain ⟨x, hx, h1⟩ := List.mem_flatMap.1 h1
          have hv := hc.inst x hx
          obtain ⟨j, hj, hjk⟩ := hv.cell
          unfold part at h1
          obtain ⟨t, ht, h1⟩ := List.mem_flatMap.1 h1
          obtain ⟨q, hq, rfl⟩ := List.mem_map.1 h1
          rw [hj, Int.toNat_natCast, boxesN_gd a.fCells hjk] at hq
          have hq2 : gd (boxesN a.fCells a.fCells.length) j = [q] := by
            rw [boxesN_gd a.fCells (show j < a.fCells.length by omega)]
            have h1 := one_le (allOf (boxesN a.fCells j) (gd a.fCells j))
            cases hd : one (allOf (boxesN a.fCells j) (gd a.fCells j)) with
            | nil => rw [hd] at hq; cases hq
            | cons z r =>
              rw [hd] at hq h1
              cases r with
              | nil => rw [List.mem_singleton] at hq; rw [hq]
              | cons _ _ => simp at h1
          have hN := ih j (by omega) (by omega) q hq2
          have hbd := elP_bd hv ht
          exact (mvR_NB (S := 320) hN hbd.1 (by omega) (by omega)).mono (by omega)
  exact key (k + 1) k (by omega) hk b hb
noncomputable def ovlG (a b : TRect) : Bool := std.lt a.fX0 b.fX1 && (std.lt b.fX0 a.fX1 && (std.lt a.fY0 b.fY1 && std.lt b.fY0 a.fY1))
theorem ovlG_iff {a b : TRect} : ovlG a b = true ↔ (a.fX0 < b.fX1 ∧ b.fX0 < a.fX1 ∧ a.fY0 < b.fY1 ∧ b.fY0 < a.fY1) := by
  unfold ovlG
  simp only [s_lt, Bool.and_eq_true, decide_eq_true_eq]
theorem spec_l11Overlap_okG (a b : TRect) : F_spec_l11Overlap a b = some (ovlG a b) := by
  unfold F_spec_l11Overlap ovlG
  cases std.lt a.fX0 b.fX1 <;> cases std.lt b.fX0 a.fX1 <;> cases std.lt a.fY0 b.fY1 <;> rfl
theorem anywhere_ok {a b : TRect} {B C : Int} (ha : NB a B) (hb : NB b C) : F_impl_anywhere a b = some (ovlG a b) := by
  have e : F_impl_anywhere a b = some (decide (max a.fX0 b.fX0 < min a.fX1 b.fX1) && decide (max a.fY0 b.fY0 < min a.fY1 b.fY1)) := by
    unfold F_impl_anywhere F_impl_common
    simp only [Option.bind_some, letO_eq, s_imin, s_imax, s_lt]
    cases decide (max a.fX0 b.fX0 < min a.fX1 b.fX1) <;> rfl
  rw [e, Option.some.injEq, Bool.eq_iff_iff, ovlG_iff, Bool.and_eq_true, decide_eq_true_eq, decide_eq_true_eq]
  obtain ⟨a1, a2, a3, a4, a5, a6⟩ := ha
  obtain ⟨b1, b2, b3, b4, b5, b6⟩ := hb
  omega
/- composing; counting; the occurrences that a query visits, both sides -/
noncomputable def cmpO (a b : Int) : Int :=
  cond (std.not (std.beq (std.le 4 a) (std.le 4 b)))
    (std.add .i64 (std.rem (cond (std.le 4 b) (std.sub .i64 (std.add .i64 (std.rem b 4) 4) (std.rem a 4)) (std.add .i64 (std.rem b 4) (std.rem a 4))) 4) 4)
    (std.rem (cond (std.le 4 b) (std.sub .i64 (std.add .i64 (std.rem b 4) 4) (std.rem a 4)) (std.add .i64 (std.rem b 4) (std.rem a 4))) 4)
/-- an element's place t in an occurrence at u -/
noncomputable def cmpT (u t : TTransform) : TTransform := ⟨cmpO t.fOrientation u.fOrientation, (mvP u ⟨t.fX, t.fY⟩).fX, (mvP u ⟨t.fX, t.fY⟩).fY⟩
theorem impl_compose_ok (t u : TTransform) : F_impl_compose t u = some (cmpT u t) := by
  have nz : std.nz 4 := by rw [s_nz]; decide
  unfold F_impl_compose F_impl_composed cmpT cmpO
  rw [impl_move_ok, Option.bind_some]
  simp only [req_of nz, letO_eq]
  cases std.le 4 u.fOrientation <;> cases std.le 4 t.fOrientation <;> rfl
theorem ori8 {o : Int} (h : 0 ≤ o ∧ o ≤ 7) : o = 0 ∨ o = 1 ∨ o = 2 ∨ o = 3 ∨ o = 4 ∨ o = 5 ∨ o = 6 ∨ o = 7 := by omega
theorem spec_After_ok (t u : TTransform) (ht : 0 ≤ t.fOrientation ∧ t.fOrientation ≤ 7) (hu : 0 ≤ u.fOrientation ∧ u.fOrientation ≤ 7) : F_spec_l10After u t = some (cmpT u t) := by
  have nz : std.nz 4 := by rw [s_nz]; decide
  unfold F_spec_l10After cmpT
  rw [spec_l10Point_ok]
  simp only [req_of nz, Option.bind_some, letO_eq]
  generalize (mvP u ⟨t.fX, t.fY⟩).fX = X
  generalize (mvP u ⟨t.fX, t.fY⟩).fY = Y
  rcases ori8 ht with h | h | h | h | h | h | h | h <;> rcases ori8 hu with h' | h' | h' | h' | h' | h' | h' | h' <;> rw [h, h'] <;> rfl
theorem cmpO_ori {a b : Int} (ha : 0 ≤ a ∧ a ≤ 7) (hb : 0 ≤ b ∧ b ≤ 7) : 0 ≤ cmpO a b ∧ cmpO a b ≤ 7 := by
  rcases ori8 ha with rfl | rfl | rfl | rfl | rfl | rfl | rfl | rfl <;> rcases ori8 hb with rfl | rfl | rfl | rfl | rfl | rfl | rfl | rfl <;> decide
/-- the numbers of occurrences below the cells -/
def sumI (prev : List Nat) (l : List TInstance) : Nat := (l.map fun x => x.fColumns.toNat * x.fRows.toNat * gd prev x.fCell.toNat).sum
def cntN (cs : List TCell) : Nat → List Nat
  | 0 => []
  | k + 1 => cntN cs k ++ [1 + sumI (cntN cs k) (gd cs k).fInstances]
theorem cntN_len (cs : List TCell) : ∀ k, (cntN cs k).length = k
  | 0 => rfl
  | k + 1 => by rw [cntN, List.length_append, cntN_len cs k]; rfl
theorem cntN_gd (cs : List TCell) {i n : Nat} (h : i < n) : gd (cntN cs n) i = 1 + sumI (cntN cs i) (gd cs i).fInstances := by
  induction n with
  | zero => omega
  | succ n ih =>
    rw [cntN]
    have hl := cntN_len cs n
    by_cases h1 : i = n
    · subst h1
      rw [gd_lt (by simp; omega), List.getElem_append_right (by omega)]
      simp [hl]
    · rw [gd_lt (by simp; omega), List.getElem_append_left (by omega), ← gd_lt (by omega)]
      exact ih (by omega)
def cnt (cs : List TCell) (k : Nat) : Nat := 1 + sumI (cntN cs k) (gd cs k).fInstances
theorem cntN_cnt (cs : List TCell) {i n : Nat} (h : i < n) : gd (cntN cs n) i = cnt cs i := cntN_gd cs h
theorem sumI_le {prev : List Nat} {l : List TInstance} {k b : Nat} (hv : ∀ x ∈ l, VI x k) (hb : ∀ i, i < k → gd prev i ≤ b) : sumI prev l ≤ l.length * (16 * b) := by
  induction l with
  | nil => simp [sumI]
  | cons x r ih =>
    have hx := hv x (by simp)
    obtain ⟨c, hc, hck⟩ := hx.cell
    obtain ⟨n, hn, _, hn4⟩ := hx.cols
    obtain ⟨m, hm, _, hm4⟩ := hx.rows
    have h1 := ih (fun x h => hv x (by simp [h]))
    have h2 : x.fColumns.toNat * x.fRows.toNat ≤ 16 := by
      rw [hn, hm, Int.toNat_natCast, Int.toNat_natCast]
      exact Nat.mul_le_mul hn4 hm4
    have h3 : x.fColumns.toNat * x.fRows.toNat * gd prev x.fCell.toNat ≤ 16 * b := by
      rw [hc, Int.toNat_natCast]
      exact Nat.mul_le_mul h2 (hb c hck)
    show x.fColumns.toNat * x.fRows.toNat * gd prev x.fCell.toNat + sumI prev r ≤ _
    rw [List.length_cons, Nat.add_mul, Nat.one_mul]
    omega
theorem cnt_pow {a : TLibrary} (h : okLib a = true) : ∀ m k, k < m → k < a.fCells.length → cnt a.fCells k ≤ 129 ^ k := by
  intro m
  induction m with
  | zero => intro k hk; omega
  | succ m ih =>
    intro k hkm hk
    have hc := vc_of h hk
    have h8 := hc.insts
    cases k with
    | zero =>
      have h0 : (gd a.fCells 0).fInstances = [] := by
        cases hd : (gd a.fCells 0).fInstances with
        | nil => rfl
        | cons x r =>
          obtain ⟨c, _, hc0⟩ := (hc.inst x (by rw [hd]; simp)).cell
          omega
      show 1 + sumI _ (gd a.fCells 0).fInstances ≤ _
      rw [h0]; simp [sumI]
    | succ k =>
      have h1 := sumI_le (prev := cntN a.fCells (k + 1)) (b := 129 ^ k) hc.inst (fun i hi => by
        rw [cntN_cnt _ hi]
        exact Nat.le_trans (ih i (by omega) (by omega)) (Nat.pow_le_pow_right (by omega) (by omega)))
      show 1 + sumI (cntN a.fCells (k + 1)) (gd a.fCells (k + 1)).fInstances ≤ _
      have h2 : (gd a.fCells (k + 1)).fInstances.length * (16 * 129 ^ k) ≤ 8 * (16 * 129 ^ k) := Nat.mul_le_mul_right _ h8
      have h3 : 1 ≤ 129 ^ k := Nat.pos_of_ne_zero (by simp)
      rw [Nat.pow_succ]
      omega
theorem cnt_le {a : TLibrary} (h : okLib a = true) {k : Nat} (hk : k < a.fCells.length) : cnt a.fCells k ≤ 1000000000000000 := by
  have h8 := (okLib_leG h).2
  have h1 := cnt_pow h (k + 1) k (by omega) hk
  have h2 : 129 ^ k ≤ 129 ^ 7 := Nat.pow_le_pow_right (by omega) (by omega)
  have h3 : 129 ^ 7 = 594467302491009 := by decide
  omega
theorem take_gd1 {α : Type} [Inhabited α] {l : List α} {i : Nat} (h : i < l.length) : l.take (i + 1) = l.take i ++ [gd l i] := by
  rw [List.take_succ_eq_append_getElem h, gd_lt h]
theorem sumI_app (prev : List Nat) (l m : List TInstance) : sumI prev (l ++ m) = sumI prev l + sumI prev m := by simp [sumI]
theorem sumI_take_le (prev : List Nat) (l : List TInstance) (i : Nat) : sumI prev (l.take i) ≤ sumI prev l := by
  conv => rhs; rw [← List.take_append_drop i l]
  rw [sumI_app]; omega
theorem map_cast_gd (l : List Nat) {m : Nat} (h : m < l.length) : gd (l.map fun x : Nat => (x : Int)) m = ((gd l m : Nat) : Int) := by
  rw [gd_lt (by simp; omega), gd_lt h, List.getElem_map]
theorem spec_ElementCount_ok (a : TLibrary) (k : Nat) (hs : SmallL a) (h : okLib a = true) (hk : k < a.fCells.length) : F_spec_ElementCount a (k : Int) = some ((cnt a.fCells k : Nat) : Int) := by
  have h8 := (okLib_leG h).2
  unfold F_spec_ElementCount
  rw [spec_l09Has_ok a _ hs, h, (wB_iffG _ _ _).2 (show (0 : Int) ≤ (k : Int) ∧ (k : Int) ≤ (a.fCells.length : Int) - 1 by omega), Option.bind_some]
  simp only [Bool.and_self, Bool.not_true, br_f, letO_eq]
  rw [show whileP (L_spec_ElementCount_x7 a) (0, ([] : List Int)) = some ((cntN a.fCells a.fCells.length).map fun x : Nat => (x : Int)) from ?_]
  · simp only [Option.bind_some, s_nadd, Nat.zero_add, s_toNn]
    rw [req_of (inRl (by rw [List.length_map, cntN_len]; exact hk)), map_cast_gd _ (by rw [cntN_len]; exact hk), cntN_cnt _ hk]
  refine while_from (fun i => ((i : Int), (cntN a.fCells i).map fun x : Nat => (x : Int))) a.fCells.length rfl (fun i hi => ?_) ?_
  · have hc := vc_of h hi
    have i8 := hc.insts
    obtain ⟨c, hcd⟩ : ∃ c, c = gd a.fCells i := ⟨_, rfl⟩
    obtain ⟨prev, hprev⟩ : ∃ prev, prev = cntN a.fCells i := ⟨_, rfl⟩
    have hpl : prev.length = i := by rw [hprev]; exact cntN_len _ _
    have hcl := cnt_le h hi
    unfold cnt at hcl
    rw [← hcd] at hc i8 hcl
    rw [← hprev] at hcl
    have w : whileP (L_spec_ElementCount_x22 a (prev.map fun x : Nat => (x : Int)) (i : Int)) (1, 0) = some (((1 + sumI prev c.fInstances : Nat) : Int)) := by
      refine while_from (fun j => (((1 + sumI prev (c.fInstances.take j) : Nat) : Int), (j : Int))) c.fInstances.length rfl (fun j hj => ?_) ?_
      · obtain ⟨x, hx⟩ : ∃ x, x = gd c.fInstances j := ⟨_, rfl⟩
        have hv := hc.inst _ (gd_mem hj)
        rw [← hx] at hv
        obtain ⟨m, hm, hmi⟩ := hv.cell
        obtain ⟨p, hp, _, hp4⟩ := hv.cols
        obtain ⟨q, hq, _, hq4⟩ := hv.rows
        have hst := sumI_take_le prev c.fInstances (j + 1)
        rw [take_gd1 hj, ← hx, sumI_app] at hst
        have hone : sumI prev [x] = p * q * gd prev m := by simp [sumI, hp, hq, hm]
        have hpq : p * q ≤ 16 := Nat.mul_le_mul hp4 hq4
        simp only [L_spec_ElementCount_x22, letO_eq, s_toNn, s_nadd, Nat.zero_add, ← hcd, ← hx, hm, hp, hq]
        rw [ltl_t hj, br_t, req_of (inRl hj), req_of (inRl hj), req_of (inRl hj), req_of (inRl (by simp; omega)), map_cast_gd _ (by omega), inc_nat (by omega), take_gd1 hj, ← hx, sumI_app, hone]
        rw [hone] at hst
        have e1 : std.mul .i64 (p : Int) (q : Int) = ((p * q : Nat) : Int) := by rw [mul_id (by rw [← Int.natCast_mul]; omega) (by rw [← Int.natCast_mul]; omega), Int.natCast_mul]
        have e2 : std.mul .i64 ((p * q : Nat) : Int) ((gd prev m : Nat) : Int) = ((p * q * gd prev m : Nat) : Int) := by rw [mul_id (by rw [← Int.natCast_mul]; omega) (by rw [← Int.natCast_mul]; omega), ← Int.natCast_mul]
        rw [e1, e2, add_id (by omega) (by omega), ← Int.natCast_add, Nat.add_assoc]
      · simp only [L_spec_ElementCount_x22, letO_eq, s_toNn, ← hcd]
        rw [ltl_f, br_f, List.take_length]
    simp only [L_spec_ElementCount_x7, letO_eq, ← hprev]
    rw [ltl_t hi, br_t, req_of (inRl hi), w, Option.bind_some, req_of (roomG (by rw [s_nadd, len_eq, len_eq]; simp; omega) (by omega)), inc_nat (by omega), cntN, ← hprev, ← hcd, List.map_append]
    rfl
  · simp only [L_spec_ElementCount_x7, letO_eq]
    rw [ltl_f, br_f]
theorem subL_take {α : Type} (l : List α) (n : Nat) : subL l 0 n = l.take n := by simp [subL]
theorem impl_elementCount_ok (a : TLibrary) (k : Nat) (h : okLib a = true) (hk : k < a.fCells.length) : F_impl_elementCount a (k : Int) = some ((cnt a.fCells k : Nat) : Int) := by
  have h8 := (okLib_leG h).2
  unfold F_impl_elementCount
  simp only [letO_eq]
  rw [inc_nat (by omega), req_of (show std.upTo ((k + 1 : Nat) : Int) (len a.fCells) from ⟨by omega, by rw [len_eq]; omega⟩), req_of (show std.upTo 0 (std.toN ((k + 1 : Nat) : Int)) from ⟨by omega, by omega⟩), s_toNn, show std.toN 0 = 0 from rfl, subL_take]
  have hgl : (a.fCells.take (k + 1)).length = k + 1 := by rw [List.length_take]; omega
  have hgd : ∀ i, i < k + 1 → gd (a.fCells.take (k + 1)) i = gd a.fCells i := fun i hi => by
    rw [gd_lt (by omega), gd_lt (by omega), List.getElem_take]
  rw [show whileP (L_impl_elementCount_x8 (a.fCells.take (k + 1))) (0, ([] : List Int)) = some ((cntN a.fCells (k + 1)).map fun x : Nat => (x : Int)) from ?_]
  · simp only [Option.bind_some, s_nadd, Nat.zero_add]
    rw [s_toNn, req_of (inRl (by rw [List.length_map, cntN_len]; omega)), map_cast_gd _ (by rw [cntN_len]; omega), cntN_cnt _ (by omega)]
  refine while_from (fun i => ((i : Int), (cntN a.fCells i).map fun x : Nat => (x : Int))) (k + 1) rfl (fun i hi => ?_) ?_
  · have hi' : i < a.fCells.length := by omega
    have hc := vc_of h hi'
    have i8 := hc.insts
    obtain ⟨c, hcd⟩ : ∃ c, c = gd a.fCells i := ⟨_, rfl⟩
    obtain ⟨prev, hprev⟩ : ∃ prev, prev = cntN a.fCells i := ⟨_, rfl⟩
    have hpl : prev.length = i := by rw [hprev]; exact cntN_len _ _
    have hcl := cnt_le h hi'
    unfold cnt at hcl
    rw [← hcd] at hc i8 hcl
    rw [← hprev] at hcl
    have hcd2 : gd (a.fCells.take (k + 1)) i = c := by rw [hgd i hi, hcd]
    have w : whileP (L_impl_elementCount_x23 (a.fCells.take (k + 1)) (prev.map fun x : Nat => (x : Int)) (i : Int)) (1, 0) = some (((1 + sumI prev c.fInstances : Nat) : Int)) := by
      refine while_from (fun j => (((1 + sumI prev (c.fInstances.take j) : Nat) : Int), (j : Int))) c.fInstances.length rfl (fun j hj => ?_) ?_
      · obtain ⟨x, hx⟩ : ∃ x, x = gd c.fInstances j := ⟨_, rfl⟩
        have hv := hc.inst _ (gd_mem hj)
        rw [← hx] at hv
        obtain ⟨m, hm, hmi⟩ := hv.cell
        obtain ⟨p, hp, _, hp4⟩ := hv.cols
        obtain ⟨q, hq, _, hq4⟩ := hv.rows
        have hst := sumI_take_le prev c.fInstances (j + 1)
        rw [take_gd1 hj, ← hx, sumI_app] at hst
        have hone : sumI prev [x] = p * q * gd prev m := by simp [sumI, hp, hq, hm]
        have hpq : p * q ≤ 16 := Nat.mul_le_mul hp4 hq4
        simp only [L_impl_elementCount_x23, letO_eq, s_toNn, s_nadd, Nat.zero_add, hcd2, ← hx, hm, hp, hq]
        rw [ltl_t hj, br_t, req_of (inRl hj), req_of (inRl (by simp; omega)), map_cast_gd _ (by omega), inc_nat (by omega), take_gd1 hj, ← hx, sumI_app, hone]
        rw [hone] at hst
        have e1 : std.mul .i64 (p : Int) (q : Int) = ((p * q : Nat) : Int) := by rw [mul_id (by rw [← Int.natCast_mul]; omega) (by rw [← Int.natCast_mul]; omega), Int.natCast_mul]
        have e2 : std.mul .i64 ((p * q : Nat) : Int) ((gd prev m : Nat) : Int) = ((p * q * gd prev m : Nat) : Int) := by rw [mul_id (by rw [← Int.natCast_mul]; omega) (by rw [← Int.natCast_mul]; omega), ← Int.natCast_mul]
        rw [e1, e2, add_id (by omega) (by omega), ← Int.natCast_add, Nat.add_assoc]
      · simp only [L_impl_elementCount_x23, letO_eq, s_toNn, hcd2]
        rw [ltl_f, br_f, List.take_length]
    simp only [L_impl_elementCount_x8, letO_eq, ← hprev]
    rw [ltl_t (by omega), br_t, req_of (inRl (by omega)), w, Option.bind_some, req_of (roomG (by rw [s_nadd, len_eq, len_eq]; simp; omega) (by omega)), inc_nat (by omega), cntN, ← hprev, ← hcd, List.map_append]
    rfl
  · simp only [L_impl_elementCount_x8, letO_eq]
    rw [lt_false (by rw [s_ofN, len_eq, hgl]; omega), br_f]
/- the occurrences below one, those that a query visits: both sides -/
def ctr (G : Nat → Telement → List TOccurrence) : Nat → List Telement → List TOccurrence
  | _, [] => []
  | s, e :: r => G s e ++ ctr G (s + 1) r
theorem ctr_app (G : Nat → Telement → List TOccurrence) : ∀ (l m : List Telement) (s : Nat), ctr G s (l ++ m) = ctr G s l ++ ctr G (s + l.length) m
  | [], m, s => by simp [ctr]
  | e :: r, m, s => by
    rw [List.cons_append, ctr, ctr, ctr_app G r m (s + 1), List.append_assoc, List.length_cons, show s + 1 + r.length = s + (r.length + 1) by omega]
theorem ctr_range (G : Nat → Telement → List TOccurrence) : ∀ (l : List Telement) (s : Nat), ctr G s l = (List.range l.length).flatMap fun i => G (s + i) (gd l i)
  | [], s => rfl
  | e :: r, s => by
    rw [ctr, ctr_range G r (s + 1), List.length_cons, List.range_succ_eq_map, List.flatMap_cons, List.flatMap_map]
    congr 2
    funext i
    rw [show s + 1 + i = s + (i + 1) by omega]
    rfl
theorem ctr_len_le (G : Nat → Telement → List TOccurrence) (b : Telement → Nat) : ∀ (l : List Telement) (s : Nat), (∀ e ∈ l, ∀ s, (G s e).length ≤ b e) → (ctr G s l).length ≤ (l.map b).sum
  | [], s, h => by simp [ctr]
  | e :: r, s, h => by
    rw [ctr, List.length_append, List.map_cons, List.sum_cons]
    have h1 := h e (by simp) s
    have h2 := ctr_len_le G b r (s + 1) (fun x hx => h x (by simp [hx]))
    omega
theorem while_blk {ρ : Type} (G : Nat → Telement → List TOccurrence) (f : Nat → List Telement) (n s : Nat) (v : List TOccurrence) (B S : Nat) {st : Int × Int × List TOccurrence → Option ((Int × Int × List TOccurrence) ⊕ ρ)} {fin : Int → List TOccurrence → ρ}
    (hS : s + ((List.range n).flatMap f).length ≤ S) (hB : v.length + (ctr G s ((List.range n).flatMap f)).length ≤ B)
    (h : ∀ i, i < n → ∀ (s' : Nat) (u : List TOccurrence), s' + (f i).length ≤ S → u.length + (ctr G s' (f i)).length ≤ B → st ((s' : Int), (i : Int), u) = some (.inl (((s' + (f i).length : Nat) : Int), ((i + 1 : Nat) : Int), u ++ ctr G s' (f i))))
    (he : ∀ (s' : Nat) u, st ((s' : Int), (n : Int), u) = some (.inr (fin s' u))) :
    whileP st ((s : Int), 0, v) = some (fin ((s + ((List.range n).flatMap f).length : Nat) : Int) (v ++ ctr G s ((List.range n).flatMap f))) := by
  have hsp : ∀ i, i ≤ n → ∃ q, (List.range n).flatMap f = (List.range i).flatMap f ++ q := fun i hi => by
    obtain ⟨d, rfl⟩ := Nat.exists_eq_add_of_le hi
    exact ⟨_, by rw [List.range_eq_range', List.range_eq_range', ← List.range'_append_1 (s := 0) (m := i) (n := d), List.flatMap_append]⟩
  refine while_from (fun i => (((s + ((List.range i).flatMap f).length : Nat) : Int), (i : Int), v ++ ctr G s ((List.range i).flatMap f))) n (by simp [ctr]) (fun i hi => ?_) (he _ _)
  have e1 : (List.range (i + 1)).flatMap f = (List.range i).flatMap f ++ f i := by rw [List.range_succ, List.flatMap_append]; simp
  obtain ⟨q, hq⟩ := hsp (i + 1) hi
  have hl := congrArg List.length hq
  have hc := congrArg (fun l => (ctr G s l).length) hq
  simp only [ctr_app, List.length_append] at hc
  rw [e1, List.length_append, List.length_append] at hl
  rw [e1, ctr_app, List.length_append] at hc
  rw [h i hi _ _ (by omega) (by rw [List.length_append]; omega), e1, ctr_app, List.length_append, List.append_assoc, Nat.add_assoc]
/-- the occurrences below o, itself first, of those that p lets by -/
noncomputable def occG (a : TLibrary) (p : Nat → TTransform → Bool) : Nat → TOccurrence → List TOccurrence
  | 0, _ => []
  | n + 1, o => o :: ctr (fun s e => if p e.gcell.toNat (cmpT o.fPlace e.gplace) then occG a p n ⟨e.gcell, cmpT o.fPlace e.gplace, o.fPath ++ [(s : Int)]⟩ else []) 0 (elemsC (gd a.fCells o.fCell.toNat))
noncomputable def visP (a : TLibrary) (wd : TRect) (k : Nat) (t : TTransform) : Bool := decide (boxV a k ≠ []) && ovlG (mvR t (bxs (boxV a k))) wd
structure GO (a : TLibrary) (o : TOccurrence) : Prop where
  cell : ∃ c : Nat, o.fCell = (c : Int) ∧ c < a.fCells.length ∧ o.fPath.length + c ≤ 8
  place : -(320 * (o.fPath.length : Int)) ≤ o.fPlace.fX ∧ o.fPlace.fX ≤ 320 * (o.fPath.length : Int) ∧ -(320 * (o.fPath.length : Int)) ≤ o.fPlace.fY ∧ o.fPlace.fY ≤ 320 * (o.fPath.length : Int)
  ori : 0 ≤ o.fPlace.fOrientation ∧ o.fPlace.fOrientation ≤ 7
theorem mem_elemsC {c : TCell} {k : Nat} (h : VC c k) {e : Telement} (he : e ∈ elemsC c) : (∃ n : Nat, e.gcell = (n : Int) ∧ n < k) ∧ (-320 ≤ e.gplace.fX ∧ e.gplace.fX ≤ 320 ∧ -320 ≤ e.gplace.fY ∧ e.gplace.fY ≤ 320) ∧ 0 ≤ e.gplace.fOrientation ∧ e.gplace.fOrientation ≤ 7 := by
  unfold elemsC at he
  obtain ⟨x, hx, he⟩ := List.mem_flatMap.1 he
  unfold mkE at he
  obtain ⟨t, ht, rfl⟩ := List.mem_map.1 he
  exact ⟨(h.inst x hx).cell, elP_bd (h.inst x hx) ht⟩
theorem GO.child {a : TLibrary} {o : TOccurrence} (hv : okLib a = true) (h : GO a o) {e : Telement} (he : e ∈ elemsC (gd a.fCells o.fCell.toNat)) (s : Int) : GO a ⟨e.gcell, cmpT o.fPlace e.gplace, o.fPath ++ [s]⟩ ∧ (∃ m c : Nat, e.gcell = (m : Int) ∧ o.fCell = (c : Int) ∧ m < c ∧ c < a.fCells.length) := by
  obtain ⟨c, hc, hcn, hp⟩ := h.cell
  rw [hc, Int.toNat_natCast] at he
  obtain ⟨⟨m, hm, hmc⟩, hb, ho⟩ := mem_elemsC (vc_of hv hcn) he
  have hpl := h.place
  have hbd := mvP_bd (t := o.fPlace) (p := ⟨e.gplace.fX, e.gplace.fY⟩) (B := 320) (S := 320 * (o.fPath.length : Int)) hb hpl (by omega) (by omega) (by omega)
  refine ⟨⟨⟨m, hm, by omega, by rw [List.length_append, List.length_singleton]; omega⟩, ?_, cmpO_ori ho h.ori⟩, m, c, hm, hc, hmc, hcn⟩
  have e1 : ((o.fPath ++ [s]).length : Int) = (o.fPath.length : Int) + 1 := by rw [List.length_append, List.length_singleton]; omega
  show -(320 * ((o.fPath ++ [s]).length : Int)) ≤ (cmpT o.fPlace e.gplace).fX ∧ _
  rw [e1]
  unfold cmpT
  simp only
  omega
theorem elsOf_len (x : TInstance) : (elsOf x).length = x.fColumns.toNat * x.fRows.toNat := by
  unfold elsOf
  rw [List.length_flatMap]
  simp only [elRow_len]
  rw [List.map_const', List.sum_replicate_nat, List.length_range, Nat.mul_comm]
theorem sumE (b : Nat → Nat) (l : List TInstance) : ((l.flatMap mkE).map fun e => b e.gcell.toNat).sum = (l.map fun x => x.fColumns.toNat * x.fRows.toNat * b x.fCell.toNat).sum := by
  induction l with
  | nil => rfl
  | cons x r ih =>
    rw [List.flatMap_cons, List.map_append, List.sum_append_nat, ih, List.map_cons, List.sum_cons]
    congr 1
    unfold mkE
    rw [List.map_map, show ((fun e : Telement => b e.gcell.toNat) ∘ Telement.mk x.fCell) = fun _ => b x.fCell.toNat from rfl, List.map_const', List.sum_replicate_nat, elsOf_len]
theorem occG_le (a : TLibrary) (hv : okLib a = true) (p : Nat → TTransform → Bool) : ∀ n o, (∃ c : Nat, o.fCell = (c : Int) ∧ c < a.fCells.length) → (occG a p n o).length ≤ cnt a.fCells o.fCell.toNat := by
  intro n
  induction n with
  | zero => intro o _; simp [occG]
  | succ n ih =>
    intro o ⟨c, hc, hcn⟩
    have hvc := vc_of hv hcn
    rw [occG, List.length_cons, hc, Int.toNat_natCast]
    have h1 := ctr_len_le (fun s e => if p e.gcell.toNat (cmpT o.fPlace e.gplace) then occG a p n ⟨e.gcell, cmpT o.fPlace e.gplace, o.fPath ++ [(s : Int)]⟩ else []) (fun e => gd (cntN a.fCells c) e.gcell.toNat) (elemsC (gd a.fCells c)) 0 (fun e he s => by
      obtain ⟨⟨m, hm, hmc⟩, _⟩ := mem_elemsC hvc he
      split
      · have := ih ⟨e.gcell, cmpT o.fPlace e.gplace, o.fPath ++ [(s : Int)]⟩ ⟨m, hm, by omega⟩
        rw [hm, Int.toNat_natCast, cntN_cnt _ hmc]
        rw [show (TOccurrence.mk e.gcell (cmpT o.fPlace e.gplace) (o.fPath ++ [(s : Int)])).fCell = (m : Int) from hm, Int.toNat_natCast, hm] at this
        exact this
      · exact Nat.zero_le _)
    unfold elemsC at h1
    rw [sumE] at h1
    unfold cnt sumI
    unfold elemsC
    omega
theorem le_sum {l : List Nat} {x : Nat} (h : x ∈ l) : x ≤ l.sum := by
  induction l with
  | nil => cases h
  | cons a r ih =>
    rw [List.sum_cons]
    rcases List.mem_cons.1 h with rfl | h
    · omega
    · have := ih h; omega
theorem cnt_child {a : TLibrary} (hv : okLib a = true) {c : Nat} (hc : c < a.fCells.length) {e : Telement} (he : e ∈ elemsC (gd a.fCells c)) : cnt a.fCells e.gcell.toNat ≤ cnt a.fCells c := by
  obtain ⟨⟨m, hm, hmc⟩, _⟩ := mem_elemsC (vc_of hv hc) he
  have h1 : gd (cntN a.fCells c) e.gcell.toNat ≤ ((elemsC (gd a.fCells c)).map fun e => gd (cntN a.fCells c) e.gcell.toNat).sum := le_sum (List.mem_map.2 ⟨e, he, rfl⟩)
  unfold elemsC at h1
  rw [sumE, hm, Int.toNat_natCast, cntN_cnt _ hmc] at h1
  rw [hm, Int.toNat_natCast]
  show cnt a.fCells m ≤ 1 + sumI (cntN a.fCells c) (gd a.fCells c).fInstances
  unfold sumI
  omega
theorem cloneI_ok (l : List Int) (h : l.length ≤ 1000000) : F_slices_Clone_Lint64_int64 l = some l := by
  unfold F_slices_Clone_Lint64_int64 nilB
  have e : (letO ([] : List Int) fun l1 => req (std.room (std.nadd (len l1) (len l)) 8) <| letO (l1 ++ l) fun l3 => some l3) = some l := by
    simp only [letO_eq]
    rw [req_of (roomG (by rw [s_nadd, len_eq, len_eq]; simp; omega) (by omega)), List.nil_append]
  rw [e]
  by_cases h0 : l.length = 0
  · rw [List.length_eq_zero_iff.1 h0]; simp
  · rw [if_neg (by rw [len_eq]; omega)]
theorem place_small {a : TLibrary} {o : TOccurrence} (h : GO a o) : -2560 ≤ o.fPlace.fX ∧ o.fPlace.fX ≤ 2560 ∧ -2560 ≤ o.fPlace.fY ∧ o.fPlace.fY ≤ 2560 := by
  obtain ⟨c, _, _, hp⟩ := h.cell
  have := h.place
  omega
/-- the test of an element's box, as the program makes it -/
theorem test_impl {a : TLibrary} (hv : okLib a = true) {wd : TRect} (hw : okRect wd = true) {m : Nat} (hm : m < a.fCells.length) {o : TOccurrence} (ho : GO a o) :
    ((br (std.lt 0 (std.ofN (len (boxV a m)))) (req (std.inR 0 (len (boxV a m))) <| (F_impl_moveRect o.fPlace (gd (boxV a m) (std.toN 0))).bind fun y32 => (F_impl_anywhere y32 wd).bind fun y34 => some y34) (some false)) : Option Bool) = some (visP a wd m o.fPlace) := by
  unfold visP
  rcases boxV_cases a hm with h0 | ⟨b, h0⟩
  · rw [h0]; rfl
  · have hN := box_NB a hv m hm h0
    have h8 := (okLib_leG hv).2
    rw [h0, lt_true (by rw [s_ofN]; simp [len_eq]), br_t, req_of (show std.inR 0 (len [b]) from inRl (by simp)), show gd [b] (std.toN 0) = b from rfl, impl_moveRect_ok, Option.bind_some,
      anywhere_ok (mvR_NB (S := 2560) hN (place_small ho) (by omega) (by omega)) (okRect_NB hw), Option.bind_some]
    simp [bxs]
theorem impl_visits_ok (a : TLibrary) (hv : okLib a = true) (wd : TRect) (hw : okRect wd = true) : ∀ n o, GO a o → o.fCell.toNat < n → cnt a.fCells o.fCell.toNat ≤ 200 →
    FR_impl_visits n a (boxesN a.fCells a.fCells.length) wd o = some (occG a (visP a wd) n o) := by
  intro n
  induction n with
  | zero => intro o _ h; omega
  | succ n ih =>
    intro o ho hn hcnt
    obtain ⟨c, hc, hcn, hpl⟩ := ho.cell
    have hvc := vc_of hv hcn
    have hlen := occG_le a hv (visP a wd) (n + 1) o ⟨c, hc, hcn⟩
    have h8 := (okLib_leG hv).2
    show FS_impl_visits (FR_impl_visits n) a _ wd o = _
    unfold FS_impl_visits
    simp only [letO_eq]
    rw [occG] at hlen ⊢
    rw [hc, Int.toNat_natCast] at hlen hn hcnt ⊢
    rw [req_of (inRl hcn), s_toNn, impl_elements_ok _ hvc, Option.bind_some]
    have hL128 := elemsC_le hvc
    obtain ⟨L, hL⟩ : ∃ L, L = elemsC (gd a.fCells c) := ⟨_, rfl⟩
    rw [← hL] at hL128
    obtain ⟨G, hG⟩ : ∃ G : Nat → Telement → List TOccurrence, G = fun (s : Nat) (e : Telement) => if visP a wd e.gcell.toNat (cmpT o.fPlace e.gplace) then occG a (visP a wd) n ⟨e.gcell, cmpT o.fPlace e.gplace, o.fPath ++ [(s : Int)]⟩ else [] := ⟨_, rfl⟩
    rw [← hG, ← hL, List.length_cons] at hlen
    rw [← hG, ← hL]
    have eC := ctr_range G L 0
    simp only [Nat.zero_add] at eC
    have w : whileP (L_impl_visits_x8 a (boxesN a.fCells a.fCells.length) wd o (FR_impl_visits n) L) (0, [o]) = some ([o] ++ ctr G 0 L) := by
      rw [eC]
      refine while_fm (fun i => G i (gd L i)) L.length [o] 1000 (by rw [← eC]; simp; omega) (fun i hi v hvl => ?_) (fun v => ?_)
      · have hmem : gd L i ∈ elemsC (gd a.fCells o.fCell.toNat) := by rw [hc, Int.toNat_natCast, ← hL]; exact gd_mem hi
        obtain ⟨hch, m, c', hm, hc', hmc, _⟩ := ho.child hv hmem (i : Int)
        have hcc : c' = c := by omega
        subst hcc
        have hmem2 := hmem
        rw [hc, Int.toNat_natCast] at hmem2
        have hcn2 := cnt_child hv hcn hmem2
        rw [hm, Int.toNat_natCast] at hcn2
        simp only [L_impl_visits_x8, letO_eq, s_nadd, Nat.zero_add, s_toNn]
        have hcp : F_impl_compose (gd L i).gplace o.fPlace = some (cmpT o.fPlace (gd L i).gplace) := impl_compose_ok _ _
        rw [ltl_t hi, br_t, req_of (inRl hi), hcp, Option.bind_some, hm, req_of (inRl (by rw [boxesN_len]; omega)), s_toNn, show gd (boxesN a.fCells a.fCells.length) m = boxV a m from rfl]
        have ht := test_impl hv hw (show m < a.fCells.length by omega) hch
        simp only at ht
        rw [ht, Option.bind_some, inc_nat (by omega)]
        have hGi : G i (gd L i) = if visP a wd m (cmpT o.fPlace (gd L i).gplace) then occG a (visP a wd) n ⟨(m : Int), cmpT o.fPlace (gd L i).gplace, o.fPath ++ [(i : Int)]⟩ else [] := by rw [hG]; simp only [hm, Int.toNat_natCast]
        rw [hGi] at hvl ⊢
        rw [hm] at hch
        cases hp : visP a wd m (cmpT o.fPlace (gd L i).gplace) with
        | false => rw [br_f, Option.bind_some]; simp
        | true =>
          rw [hp, if_pos rfl] at hvl
          have hr := ih ⟨(m : Int), cmpT o.fPlace (gd L i).gplace, o.fPath ++ [(i : Int)]⟩ hch (by rw [Int.toNat_natCast]; omega) (by rw [Int.toNat_natCast]; omega)
          rw [br_t, cloneI_ok _ (by omega), Option.bind_some, req_of (roomG (by rw [len_eq, len_eq]; simp; omega) (by omega)), hr, Option.bind_some, req_of (roomG (by rw [len_eq, len_eq]; omega) (by omega)), Option.bind_some, if_pos rfl]
      · simp only [L_impl_visits_x8, letO_eq]
        rw [ltl_f, br_f]
    rw [w]
    rfl
theorem test_spec {a : TLibrary} {wd : TRect} {m : Nat} (t : TTransform) : ((br (decide (boxV a m ≠ [])) ((F_spec_l10Rect t (bxs (boxV a m))).bind fun y69 => (F_spec_l11Overlap y69 wd).bind fun y71 => some y71) (some false)) : Option Bool) = some (visP a wd m t) := by
  unfold visP
  rw [spec_l10Rect_ok]
  simp only [Option.bind_some, spec_l11Overlap_okG]
  cases decide (boxV a m ≠ []) <;> rfl
theorem spec_Visit_ok (a : TLibrary) (hv : okLib a = true) (wd : TRect) : ∀ n o out, GO a o → o.fCell.toNat < n → cnt a.fCells o.fCell.toNat ≤ 200 → out.length + (occG a (visP a wd) n o).length ≤ 1000 →
    FR_spec_l12Visit_mbxbb n a out o wd = some (out ++ occG a (visP a wd) n o) := by
  intro n
  induction n with
  | zero => intro o out _ h; omega
  | succ n ih =>
    intro o out ho hn hcnt hout
    obtain ⟨c, hc, hcn, hpl⟩ := ho.cell
    have hvc := vc_of hv hcn
    have h8 := (okLib_leG hv).2
    show FS_spec_l12Visit_mbxbb (FR_spec_l12Visit_mbxbb n) a out o wd = _
    unfold FS_spec_l12Visit_mbxbb
    simp only [letO_eq]
    rw [occG] at hout ⊢
    rw [hc, Int.toNat_natCast] at hn hcnt hout ⊢
    rw [List.length_cons] at hout
    rw [req_of (roomG (by rw [s_nadd, len_eq, len_eq]; simp; omega) (by omega)), req_of (inRl hcn)]
    obtain ⟨G, hG⟩ : ∃ G : Nat → Telement → List TOccurrence, G = fun (s : Nat) (e : Telement) => if visP a wd e.gcell.toNat (cmpT o.fPlace e.gplace) then occG a (visP a wd) n ⟨e.gcell, cmpT o.fPlace e.gplace, o.fPath ++ [(s : Int)]⟩ else [] := ⟨_, rfl⟩
    rw [← hG] at hout ⊢
    obtain ⟨C, hC⟩ : ∃ C, C = gd a.fCells c := ⟨_, rfl⟩
    rw [← hC] at hvc hout ⊢
    have i8 := hvc.insts
    have he128 := elemsC_le hvc
    have eE : (List.range C.fInstances.length).flatMap (fun i => mkE (gd C.fInstances i)) = elemsC C := range_fm _ _
    have w : whileP (L_spec_l12Visit_mbxbb_x10 a o wd (FR_spec_l12Visit_mbxbb n)) (0, 0, out ++ [o]) = some (out ++ [o] ++ ctr G 0 (elemsC C)) := by
      have key := while_blk (ρ := List TOccurrence) G (fun i => mkE (gd C.fInstances i)) C.fInstances.length 0 (out ++ [o]) 1000 1000 (st := L_spec_l12Visit_mbxbb_x10 a o wd (FR_spec_l12Visit_mbxbb n)) (fin := fun _ u => u) (by rw [eE]; omega) (by rw [eE]; simp; omega) (fun i hi s' u hs hu => ?_) (fun s' u => ?_)
      · rw [eE] at key; exact key
      · obtain ⟨x, hx⟩ : ∃ x, x = gd C.fInstances i := ⟨_, rfl⟩
        have hxm := gd_mem hi
        rw [← hx] at hxm hs hu ⊢
        have hv1 := hvc.inst _ hxm
        obtain ⟨m, hm, hmc⟩ := hv1.cell
        obtain ⟨p, hp, _, hp4⟩ := hv1.cols
        obtain ⟨q, hq, _, hq4⟩ := hv1.rows
        have hmcnt : ∀ t ∈ elsOf x, cnt a.fCells m ≤ 200 := fun t ht => by
          have := cnt_child hv hcn (e := Telement.mk x.fCell t) (by rw [← hC]; unfold elemsC; exact List.mem_flatMap.2 ⟨x, hxm, List.mem_map.2 ⟨t, ht, rfl⟩⟩)
          rw [show (Telement.mk x.fCell t).gcell = (m : Int) from hm, Int.toNat_natCast] at this
          omega
        simp only [L_spec_l12Visit_mbxbb_x10, letO_eq, s_toNn, hc, ← hC, ← hx]
        rw [ltl_t hi, br_t, req_of (inRl hi), hm, show TLibrary.mk a.fCells = a from rfl, spec_l12Box_ok a hv m (by omega), Option.bind_some, show gd (boxesN a.fCells a.fCells.length) m = boxV a m from rfl]
        have e2 : (List.range q).flatMap (fun r => (elRow x r).map (Telement.mk x.fCell)) = mkE x := by rw [mkE_eq, hq, Int.toNat_natCast]
        have w2 := while_blk (ρ := Int × List TOccurrence) G (fun r => (elRow x r).map (Telement.mk x.fCell)) q s' u 1000 1000 (st := L_spec_l12Visit_mbxbb_x28 a o wd (FR_spec_l12Visit_mbxbb n) (i : Int) (bxs (boxV a m), decide (boxV a m ≠ []))) (fin := fun s u => (s, u)) (by rw [e2]; exact hs) (by rw [e2]; exact hu) (fun r hr s2 u2 hs2 hu2 => by
          rw [List.length_map, elRow_len, hp, Int.toNat_natCast] at hs2
          have e3 : (List.range p).flatMap (fun k : Nat => [Telement.mk x.fCell (elP x k r)]) = (elRow x r).map (Telement.mk x.fCell) := by
            rw [map_fm]; unfold elRow; rw [List.map_map, hp, Int.toNat_natCast]; rfl
          have w3 := while_blk (ρ := Int × List TOccurrence) G (fun k : Nat => [Telement.mk x.fCell (elP x k r)]) p s2 u2 1000 1000 (st := L_spec_l12Visit_mbxbb_x44 a o wd (FR_spec_l12Visit_mbxbb n) (r : Int) (i : Int) (bxs (boxV a m), decide (boxV a m ≠ []))) (fin := fun s u => (s, u)) (by rw [e3, List.length_map, elRow_len, hp, Int.toNat_natCast]; exact hs2) (by rw [e3]; exact hu2) (fun k hk s3 u3 hs3 hu3 => by
            have hmem : elP x k r ∈ elsOf x := by
              unfold elsOf
              refine List.mem_flatMap.2 ⟨r, by rw [List.mem_range, hq]; omega, ?_⟩
              unfold elRow
              exact List.mem_map.2 ⟨k, by rw [List.mem_range, hp]; omega, rfl⟩
            have hmem2 : Telement.mk x.fCell (elP x k r) ∈ elemsC (gd a.fCells o.fCell.toNat) := by
              rw [hc, Int.toNat_natCast, ← hC]; unfold elemsC
              exact List.mem_flatMap.2 ⟨x, hxm, List.mem_map.2 ⟨_, hmem, rfl⟩⟩
            obtain ⟨hch, _⟩ := ho.child hv hmem2 (s3 : Int)
            simp only at hch
            rw [hm] at hch
            have hbd := elP_bd hv1 hmem
            simp only [List.length_singleton] at hs3
            simp only [ctr, List.append_nil] at hu3 ⊢
            simp only [List.length_singleton]
            have hGi : G s3 (Telement.mk x.fCell (elP x k r)) = if visP a wd m (cmpT o.fPlace (elP x k r)) then occG a (visP a wd) n ⟨(m : Int), cmpT o.fPlace (elP x k r), o.fPath ++ [(s3 : Int)]⟩ else [] := by rw [hG]; simp only [hm, Int.toNat_natCast]
            rw [hGi] at hu3 ⊢
            simp only [L_spec_l12Visit_mbxbb_x44, letO_eq, s_toNn, hc, ← hC, ← hx]
            rw [req_of (inRl hi), hp, lt_true (by omega), br_t, req_of (inRl hi), spec_l10Element_ok, Option.bind_some, spec_After_ok _ _ hbd.2 ho.ori, Option.bind_some, test_spec, Option.bind_some, inc_nat (by omega), inc_nat (by omega)]
            cases hpp : visP a wd m (cmpT o.fPlace (elP x k r)) with
            | false => rw [br_f, Option.bind_some]; simp
            | true =>
              rw [hpp, if_pos rfl] at hu3
              have hr2 := ih ⟨(m : Int), cmpT o.fPlace (elP x k r), o.fPath ++ [(s3 : Int)]⟩ u3 hch (by rw [Int.toNat_natCast]; omega) (by rw [Int.toNat_natCast]; exact hmcnt _ hmem) hu3
              rw [br_t, req_of (roomG (by rw [s_nadd, len_eq, len_eq]; simp; omega) (by omega)), req_of (roomG (by rw [s_nadd, len_eq, len_eq]; simp; omega) (by omega)), req_of (inRl hi), List.nil_append, hm, show TLibrary.mk a.fCells = a from rfl, hr2, Option.bind_some, Option.bind_some, if_pos rfl]) (fun s3 u3 => by
            simp only [L_spec_l12Visit_mbxbb_x44, letO_eq, s_toNn, hc, ← hC, ← hx]
            rw [req_of (inRl hi), hp, lt_false (by omega), br_f])
          rw [e3] at w3
          simp only [L_spec_l12Visit_mbxbb_x28, letO_eq, s_toNn, hc, ← hC, ← hx]
          rw [req_of (inRl hi), hq, lt_true (by omega), br_t, w3, Option.bind_some, inc_nat (by omega)]) (fun s2 u2 => by
          simp only [L_spec_l12Visit_mbxbb_x28, letO_eq, s_toNn, hc, ← hC, ← hx]
          rw [req_of (inRl hi), hq, lt_false (by omega), br_f])
        rw [e2] at w2
        rw [w2, Option.bind_some, inc_nat (by omega)]
      · simp only [L_spec_l12Visit_mbxbb_x10, letO_eq, s_toNn, hc, ← hC]
        rw [ltl_f, br_f]
    rw [w]
    simp
/- VisitedCount -/
noncomputable def rootO (k : Nat) : TOccurrence := ⟨(k : Int), ⟨0, 0, 0⟩, []⟩
theorem rootO_good (a : TLibrary) (hv : okLib a = true) {k : Nat} (hk : k < a.fCells.length) : GO a (rootO k) :=
  ⟨⟨k, rfl, hk, by have := (okLib_leG hv).2; simp [rootO]; omega⟩, by simp [rootO], by simp [rootO]⟩
noncomputable def visL (a : TLibrary) (k : Nat) (wd : TRect) : List TOccurrence := occG a (visP a wd) 64 (rootO k)
theorem impl_visited_ok (a : TLibrary) (hv : okLib a = true) (wd : TRect) (hw : okRect wd = true) (k : Nat) (hk : k < a.fCells.length) (hc : cnt a.fCells k ≤ 200) : F_impl_visited a (k : Int) wd = some (visL a k wd) := by
  have h8 := (okLib_leG hv).2
  unfold F_impl_visited
  rw [show TLibrary.mk a.fCells = a from rfl, impl_contentBoxes_ok a hv, Option.bind_some]
  have := impl_visits_ok a hv wd hw 64 (rootO k) (rootO_good a hv hk) (by show ((k : Int)).toNat < 64; omega) hc
  unfold F_impl_visits
  rw [show (TOccurrence.mk (k : Int) (TTransform.mk 0 0 0) ([] : List Int)) = rootO k from rfl, this]
  rfl
theorem visL_le (a : TLibrary) (hv : okLib a = true) (wd : TRect) (k : Nat) (hk : k < a.fCells.length) : (visL a k wd).length ≤ cnt a.fCells k := occG_le a hv _ 64 (rootO k) ⟨k, rfl, hk⟩
theorem spec_visited_ok (a : TLibrary) (hv : okLib a = true) (wd : TRect) (k : Nat) (hk : k < a.fCells.length) (hc : cnt a.fCells k ≤ 200) : F_spec_l12Visited a (k : Int) wd = some (visL a k wd) := by
  have h8 := (okLib_leG hv).2
  have hl := visL_le a hv wd k hk
  unfold F_spec_l12Visited
  try simp only [letO_eq]
  have := spec_Visit_ok a hv wd 64 (rootO k) [] (rootO_good a hv hk) (by show ((k : Int)).toNat < 64; omega) hc (by
    show 0 + (visL a k wd).length ≤ 1000
    omega)
  unfold F_spec_l12Visit_mbxbb
  rw [show (TOccurrence.mk (k : Int) (TTransform.mk 0 0 0) ([] : List Int)) = rootO k from rfl, rect_eta, show TLibrary.mk a.fCells = a from rfl, this]
  rfl
end Go.Proofs.YtpobpihakgegbaaGreat.AM
