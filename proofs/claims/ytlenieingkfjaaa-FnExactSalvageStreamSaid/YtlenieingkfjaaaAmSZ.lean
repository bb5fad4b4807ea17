/-
  What the functions that the law reaches compute, and that they do. No condition.
-/
import Derived.Test.YtlenieingkfjaaaAmSY
import Derived.Test.YtlenieingkfjaaaAmP
namespace Go.Proofs.Ytlenieingkfjaaa.AM
open Go Go.Proofs Go.RowKit
set_option linter.unusedVariables false
set_option linter.unusedSimpArgs false
set_option maxRecDepth 100000

noncomputable def wB (a b c : Int) : Bool := std.le b a && std.le a c
theorem spec_l09In_ok (a b c : Int) : F_spec_l09In a b c = some (wB a b c) := by
  unfold F_spec_l09In wB
  cases std.le b a <;> rfl
theorem impl_within_ok (a b c : Int) : F_impl_within a b c = some (wB a b c) := by
  unfold F_impl_within wB
  cases std.le b a <;> rfl
noncomputable def okRect (a : TRect) : Bool := std.le (-40) a.fX0 && (std.lt a.fX0 a.fX1 && (std.le a.fX1 40 && (std.le (-40) a.fY0 && (std.lt a.fY0 a.fY1 && std.le a.fY1 40))))
theorem spec_l09Rect_ok (a : TRect) : F_spec_l09Rect a = some (okRect a) := by
  unfold F_spec_l09Rect okRect
  cases std.le (-40) a.fX0 <;> cases std.lt a.fX0 a.fX1 <;> cases std.le a.fX1 40 <;> cases std.le (-40) a.fY0 <;> cases std.lt a.fY0 a.fY1 <;> rfl
theorem impl_IsValidRect_ok (a : TRect) : F_impl_IsValidRect a = some (okRect a) := by
  unfold F_impl_IsValidRect okRect
  cases std.le (-40) a.fX0 <;> cases std.lt a.fX0 a.fX1 <;> cases std.le a.fX1 40 <;> cases std.le (-40) a.fY0 <;> cases std.lt a.fY0 a.fY1 <;> rfl
theorem spec_l09Layer_ok (a : Int) : F_spec_l09Layer a = some (wB a 0 7) := by
  unfold F_spec_l09Layer
  rw [spec_l09In_ok]; rfl
noncomputable def okShape (a : TShape) : Bool := wB a.fLayer 0 7 && okRect a.fBox
theorem spec_l09Shape_ok (a : TShape) : F_spec_l09Shape a = some (okShape a) := by
  unfold F_spec_l09Shape okShape
  rw [spec_l09Layer_ok, spec_l09Rect_ok]
  cases wB a.fLayer 0 7 <;> rfl
theorem impl_validShape_ok (a : TShape) : F_impl_validShape a = some (okShape a) := by
  unfold F_impl_validShape okShape
  rw [impl_within_ok, impl_IsValidRect_ok]
  cases wB a.fLayer 0 7 <;> rfl
noncomputable def okPoint (a : TPoint) : Bool := wB a.fX (-40) 39 && wB a.fY (-40) 39
theorem spec_l09Unit_ok (a : TPoint) : F_spec_l09Unit a = some (okPoint a) := by
  unfold F_spec_l09Unit okPoint
  rw [spec_l09In_ok, spec_l09In_ok]
  cases wB a.fX (-40) 39 <;> rfl
theorem impl_isUnitCell_ok (a : TPoint) : F_impl_isUnitCell a = some (okPoint a) := by
  unfold F_impl_isUnitCell okPoint
  rw [impl_within_ok, impl_within_ok]
  cases wB a.fX (-40) 39 <;> rfl
noncomputable def okName (s : ByteArray) (i : Nat) : Bool :=
  (std.le 97 (std.sat s i) && std.le (std.sat s i) 122) || (std.le 48 (std.sat s i) && std.le (std.sat s i) 57)
noncomputable def isName (s : ByteArray) : Bool := (List.range s.size).all (okName s) && (decide (1 ≤ s.size) && decide (s.size ≤ 8))
theorem lt_le (a b : Int) : std.lt a b = !std.le b a := by
  rw [s_lt, s_le]
  by_cases h : a < b
  · have : ¬ b ≤ a := by omega
    simp [h]
  · have : b ≤ a := by omega
    simp [h, this]
theorem nameEnd (s : ByteArray) (b : Bool) : ((match (if b then .inr () else .inl () : Unit ⊕ Unit) with
    | .inl _ => some false
    | .inr _ => ((br (std.le 1 (std.ofN (std.slen s))) (some (std.le (std.ofN (std.slen s)) 8)) (some false)) : Option Bool).bind fun y33 => letO y33 fun w39 => some w39) : Option Bool) = some (b && (decide (1 ≤ s.size) && decide (s.size ≤ 8))) := by
  cases b with
  | false => rfl
  | true =>
    have e1 : std.le 1 (std.ofN (std.slen s)) = decide (1 ≤ s.size) := by rw [s_le, s_ofN, s_slen]; congr 1; simp; omega
    have e2 : std.le (std.ofN (std.slen s)) 8 = decide (s.size ≤ 8) := by rw [s_le, s_ofN, s_slen]; congr 1; simp; omega
    simp only [if_true, e1, e2, br_bool, letO_eq, Bool.true_and]
    cases decide (1 ≤ s.size) <;> rfl
theorem spec_IsName_ok (s : ByteArray) (hs : s.size ≤ maxLen) : F_spec_IsName s = some (isName s) := by
  have hb := maxLen_eq
  unfold F_spec_IsName
  refine Eq.trans (bind_of (scan (ok := okName s) (n := s.size) (yes := .inr ()) (no := .inl ()) (fun i hi => ?_) ?_)) (nameEnd s _)
  · simp only [L_spec_IsName_x2, letO_eq, s_toNn, req_of (show std.inR (i : Int) (std.slen s) from inRn hi), okName]
    rw [lt_true (by rw [s_ofN, s_slen]; omega), br_t, inc_nat (by omega)]
    generalize std.sat s i = c
    cases std.le 97 c <;> cases std.le c 122 <;> cases std.le 48 c <;> cases std.le c 57 <;> rfl
  · simp only [L_spec_IsName_x2, letO_eq]
    rw [lt_false (by rw [s_ofN, s_slen]; omega)]; rfl
theorem impl_IsName_ok (s : ByteArray) (hs : s.size ≤ maxLen) : F_impl_IsName s = some (isName s) := by
  have hb := maxLen_eq
  unfold F_impl_IsName
  refine Eq.trans (bind_of (scan (ok := okName s) (n := s.size) (yes := .inr ()) (no := .inl ()) (fun i hi => ?_) ?_)) (nameEnd s _)
  · simp only [L_impl_IsName_x2, letO_eq, s_toNn, req_of (show std.inR (i : Int) (std.slen s) from inRn hi), okName]
    rw [lt_true (by rw [s_ofN, s_slen]; omega), br_t, inc_nat (by omega)]
    generalize std.sat s i = c
    rw [lt_le c 97, lt_le c 48, lt_le 122 c, lt_le 57 c]
    cases std.le 97 c <;> cases std.le c 122 <;> cases std.le 48 c <;> cases std.le c 57 <;> rfl
  · simp only [L_impl_IsName_x2, letO_eq]
    rw [lt_false (by rw [s_ofN, s_slen]; omega)]; rfl
noncomputable def okLabel (a : TLabel) : Bool := wB a.fLayer 0 7 && (okPoint a.fAt && isName a.fName)
theorem spec_l09Label_ok (a : TLabel) (h : a.fName.size ≤ maxLen) : F_spec_l09Label a = some (okLabel a) := by
  unfold F_spec_l09Label okLabel
  rw [spec_l09Layer_ok, spec_l09Unit_ok, spec_IsName_ok _ h]
  cases wB a.fLayer 0 7 <;> cases okPoint a.fAt <;> rfl
theorem impl_validLabel_ok (a : TLabel) (h : a.fName.size ≤ maxLen) : F_impl_validLabel a = some (okLabel a) := by
  unfold F_impl_validLabel okLabel
  rw [impl_within_ok, impl_isUnitCell_ok, impl_IsName_ok _ h]
  cases wB a.fLayer 0 7 <;> cases okPoint a.fAt <;> rfl
noncomputable def okTr (a : TTransform) : Bool := wB a.fOrientation 0 7 && (wB a.fX (-80) 80 && wB a.fY (-80) 80)
theorem spec_l09Transform_ok (a : TTransform) : F_spec_l09Transform a = some (okTr a) := by
  unfold F_spec_l09Transform okTr
  simp only [spec_l09In_ok]
  cases wB a.fOrientation 0 7 <;> cases wB a.fX (-80) 80 <;> rfl
theorem impl_IsValidTransform_ok (a : TTransform) : F_impl_IsValidTransform a = some (okTr a) := by
  unfold F_impl_IsValidTransform okTr
  simp only [impl_within_ok]
  cases wB a.fOrientation 0 7 <;> cases wB a.fX (-80) 80 <;> rfl
noncomputable def okInst (a : TInstance) (m : Int) : Bool := wB a.fCell 0 (std.sub .i64 m 1) && (okTr a.fPlace && (wB a.fColumns 1 4 && (wB a.fRows 1 4 && (wB a.fStepX (-80) 80 && (wB a.fStepY (-80) 80 && ((std.lt 1 a.fColumns || std.eq a.fStepX 0) && (std.lt 1 a.fRows || std.eq a.fStepY 0)))))))
theorem spec_l09Instance_ok (a : TInstance) (m : Int) : F_spec_l09Instance a m = some (okInst a m) := by
  unfold F_spec_l09Instance okInst
  simp only [spec_l09In_ok, spec_l09Transform_ok]
  cases wB a.fCell 0 (std.sub .i64 m 1) <;> cases okTr a.fPlace <;> cases wB a.fColumns 1 4 <;> cases wB a.fRows 1 4 <;> try rfl
  cases wB a.fStepX (-80) 80 <;> cases wB a.fStepY (-80) 80 <;> try rfl
  cases std.lt 1 a.fColumns <;> cases std.eq a.fStepX 0 <;> cases std.lt 1 a.fRows <;> cases std.eq a.fStepY 0 <;> rfl
theorem impl_validInstance_ok (a : TInstance) (m : Int) : F_impl_validInstance a m = some (okInst a m) := by
  unfold F_impl_validInstance okInst
  simp only [impl_within_ok, impl_IsValidTransform_ok]
  cases wB a.fCell 0 (std.sub .i64 m 1) <;> cases okTr a.fPlace <;> cases wB a.fColumns 1 4 <;> cases wB a.fRows 1 4 <;> try rfl
  cases wB a.fStepX (-80) 80 <;> cases wB a.fStepY (-80) 80 <;> try rfl
  cases std.lt 1 a.fColumns <;> cases std.eq a.fStepX 0 <;> cases std.lt 1 a.fRows <;> cases std.eq a.fStepY 0 <;> rfl
/-- nothing is great -/
structure SmallC (c : TCell) : Prop where
  name : c.fName.size ≤ 1048576
  shapes : c.fShapes.length ≤ 1048576
  labels : c.fLabels.length ≤ 1048576
  insts : c.fInstances.length ≤ 1048576
  lnames : ∀ l ∈ c.fLabels, l.fName.size ≤ 1048576
structure SmallL (a : TLibrary) : Prop where
  cells : a.fCells.length ≤ 1048576
  cell : ∀ c ∈ a.fCells, SmallC c
theorem subl_ok {n : Nat} {x : Int} (h : n ≤ maxLen) (hx : 0 ≤ x ∧ x ≤ 1048576) : std.sub .i64 x (std.ofN n) = x - n := by
  have := maxLen_eq
  rw [s_ofN, sub_id (by omega) (by omega)]
/-- a loop that takes from what is left -/
theorem while_sz {α : Type} [Inhabited α] {st : Int × Int → Option ((Int × Int) ⊕ (Int ⊕ Int))} (l : List α) (ok : α → Prop) (x : Int) (hx : 0 ≤ x ∧ x ≤ 1048576)
    (h : ∀ i, i < l.length → ∀ y : Int, 0 ≤ y ∧ y ≤ 1048576 → ∃ z : Int, (z < 0 ∧ st (y, (i : Int)) = some (.inr (.inl (-1)))) ∨ (0 ≤ z ∧ z ≤ y ∧ ok (gd l i) ∧ st (y, (i : Int)) = some (.inl (z, ((i + 1 : Nat) : Int)))))
    (he : ∀ y, st (y, (l.length : Int)) = some (.inr (.inr y))) : ∃ r, whileP st (x, 0) = some r ∧ (r = .inl (-1) ∨ ∃ z, r = .inr z ∧ 0 ≤ z ∧ z ≤ x ∧ ∀ e ∈ l, ok e) := by
  refine while_ex (fun s => ∃ (i : Nat) (y : Int), s = (y, (i : Int)) ∧ i ≤ l.length ∧ 0 ≤ y ∧ y ≤ x ∧ ∀ j, j < i → ok (gd l j)) _ (fun s => l.length + 1 - s.2.toNat) ⟨0, x, rfl, by omega, by omega, by omega, fun j hj => by omega⟩ ?_
  rintro _ ⟨i, y, rfl, h1, h2, h3, h4⟩
  by_cases hi : i < l.length
  · obtain ⟨z, ⟨_, hz⟩ | ⟨g1, g2, g3, hz⟩⟩ := h i hi y ⟨h2, by omega⟩
    · exact .inr ⟨_, hz, .inl rfl⟩
    · exact .inl ⟨_, hz, ⟨i + 1, z, rfl, by omega, g1, by omega, fun j hj => by
        rcases Nat.lt_or_ge j i with hj' | hj'
        · exact h4 j hj'
        · rw [show j = i by omega]; exact g3⟩, by simp only [Int.toNat_natCast]; omega⟩
  · have hil : i = l.length := by omega
    subst hil
    refine .inr ⟨_, he y, .inr ⟨y, rfl, h2, h3, fun e hm => ?_⟩⟩
    obtain ⟨j, hj, rfl⟩ := List.getElem_of_mem hm
    rw [← gd_lt hj]; exact h4 j hj
def wfC (c : TCell) : Prop := c.fName.size ≤ maxLen ∧ c.fShapes.length ≤ maxLen ∧ c.fLabels.length ≤ maxLen ∧ c.fInstances.length ≤ maxLen ∧ ∀ l ∈ c.fLabels, l.fName.size ≤ maxLen
def wfLb (a : TLibrary) : Prop := a.fCells.length ≤ maxLen ∧ ∀ c ∈ a.fCells, wfC c
theorem laws_eqRect_ok (a : TRect) : F_laws_eqRect a a = some true := by unfold F_laws_eqRect; simp [eq_true', s_not, br]
theorem laws_eqShape_ok (a : TShape) : F_laws_eqShape a a = some true := by unfold F_laws_eqShape; simp [eq_true', s_not, br, laws_eqRect_ok]
theorem laws_eqPoint_ok (a : TPoint) : F_laws_eqPoint a a = some true := by unfold F_laws_eqPoint; simp [eq_true', s_not, br]
theorem laws_eqLabel_ok (a : TLabel) : F_laws_eqLabel a a = some true := by unfold F_laws_eqLabel; simp [eq_true', s_not, br, laws_eqPoint_ok, seq_self]
theorem laws_eqTransform_ok (a : TTransform) : F_laws_eqTransform a a = some true := by unfold F_laws_eqTransform; simp [eq_true', s_not, br]
theorem laws_eqInstance_ok (a : TInstance) : F_laws_eqInstance a a = some true := by unfold F_laws_eqInstance; simp [eq_true', s_not, br, laws_eqTransform_ok]
theorem laws_eqShapeS_ok (l : List TShape) (h : l.length ≤ 10000000) : F_laws_eqShapeS l l = some true := by
  unfold F_laws_eqShapeS
  rw [notEq (eq_true' rfl), br_f]
  refine Eq.trans (bind_of (while_eq (r := .inr ()) l.length (fun i hi => ?_) ?_)) rfl
  · simp only [L_laws_eqShapeS_x2, letO_eq, s_toNn, laws_eqShape_ok, Option.bind_some]
    rw [ltl_t hi, br_t, req_of (inRl hi), req_of (inRl hi), inc_nat (by omega)]; rfl
  · simp only [L_laws_eqShapeS_x2, letO_eq]
    rw [ltl_f]; rfl
theorem laws_eqLabelS_ok (l : List TLabel) (h : l.length ≤ 10000000) : F_laws_eqLabelS l l = some true := by
  unfold F_laws_eqLabelS
  rw [notEq (eq_true' rfl), br_f]
  refine Eq.trans (bind_of (while_eq (r := .inr ()) l.length (fun i hi => ?_) ?_)) rfl
  · simp only [L_laws_eqLabelS_x2, letO_eq, s_toNn, laws_eqLabel_ok, Option.bind_some]
    rw [ltl_t hi, br_t, req_of (inRl hi), req_of (inRl hi), inc_nat (by omega)]; rfl
  · simp only [L_laws_eqLabelS_x2, letO_eq]
    rw [ltl_f]; rfl
theorem laws_eqInstanceS_ok (l : List TInstance) (h : l.length ≤ 10000000) : F_laws_eqInstanceS l l = some true := by
  unfold F_laws_eqInstanceS
  rw [notEq (eq_true' rfl), br_f]
  refine Eq.trans (bind_of (while_eq (r := .inr ()) l.length (fun i hi => ?_) ?_)) rfl
  · simp only [L_laws_eqInstanceS_x2, letO_eq, s_toNn, laws_eqInstance_ok, Option.bind_some]
    rw [ltl_t hi, br_t, req_of (inRl hi), req_of (inRl hi), inc_nat (by omega)]; rfl
  · simp only [L_laws_eqInstanceS_x2, letO_eq]
    rw [ltl_f]; rfl
theorem laws_eqCell_ok (c : TCell) (h : SmallC c) : F_laws_eqCell c c = some true := by
  unfold F_laws_eqCell
  rw [laws_eqShapeS_ok _ (by have := h.shapes; omega), laws_eqLabelS_ok _ (by have := h.labels; omega), laws_eqInstanceS_ok _ (by have := h.insts; omega)]
  simp [seq_self, s_not, br]
theorem laws_eqLibrary_ok (a : TLibrary) (h : SmallL a) : F_laws_eqLibrary a a = some true := by
  have hl := h.cells
  unfold F_laws_eqLibrary F_laws_eqCellS
  rw [notEq (eq_true' rfl), br_f]
  rw [bind_of (while_eq (st := L_laws_eqCellS_x2 a.fCells a.fCells) (r := .inr ()) a.fCells.length (fun i hi => ?_) ?_)]
  · rfl
  · simp only [L_laws_eqCellS_x2, letO_eq]
    rw [ltl_f]; rfl
  · simp only [L_laws_eqCellS_x2, letO_eq, s_toNn]
    rw [ltl_t hi, br_t, req_of (inRl hi), req_of (inRl hi), laws_eqCell_ok _ (h.cell _ (gd_mem hi)), inc_nat (by omega)]; rfl
noncomputable def okCell (c : TCell) (k : Int) : Bool := isName c.fName && (decide (c.fShapes.length ≤ 24) && (decide (c.fLabels.length ≤ 8) && (decide (c.fInstances.length ≤ 8) && (c.fShapes.all okShape && (c.fLabels.all okLabel && c.fInstances.all fun x => okInst x k)))))
theorem lt_lit (n : Nat) (k : Nat) : std.lt (k : Int) (std.ofN n) = !decide (n ≤ k) := by
  rw [s_lt, s_ofN]
  by_cases h : n ≤ k
  · have : ¬ ((k : Int) < (n : Int)) := by omega
    simp [h, this]
  · have : ((k : Int) < (n : Int)) := by omega
    simp [h, this]
/-- a loop that stops at the first element that is met -/
theorem scan_first {step : Int → Option (Int ⊕ (Int ⊕ Unit))} {p : Nat → Bool} {n : Nat} (h : ∀ i : Nat, i < n → step i = some (cond (p i) (.inr (.inl (i : Int))) (.inl ((i + 1 : Nat) : Int)))) (hn : step n = some (.inr (.inr ()))) :
    whileP step 0 = some (match (List.range n).find? p with | some i => .inl (i : Int) | none => .inr ()) := by
  have key : ∀ m i : Nat, i + m = n → whileP step i = some (match (List.range' i m).find? p with | some i => .inl (i : Int) | none => .inr ()) := by
    intro m
    induction m with
    | zero =>
      intro i hi
      have : i = n := by omega
      subst this
      rw [whileP_unfold, hn]; rfl
    | succ m ih =>
      intro i hi
      rw [whileP_unfold, h i (by omega)]
      cases hb : p i with
      | true => simp [List.range', hb]
      | false =>
        simp only [cond]
        rw [ih (i + 1) (by omega)]
        simp [List.range', hb]
  have := key n 0 (by omega)
  rw [List.range_eq_range']
  exact this
noncomputable def firstI (p : Nat → Bool) (n : Nat) : Int := match (List.range n).find? p with | some i => (i : Int) | none => -1
theorem firstI_any (p : Nat → Bool) (n : Nat) : std.le 0 (firstI p n) = (List.range n).any p := by
  unfold firstI
  cases h : (List.range n).find? p with
  | none =>
    rw [List.find?_eq_none] at h
    have : (List.range n).any p = false := by rw [List.any_eq_false]; exact h
    rw [this]; show std.le 0 (-1) = false; exact le_false (by omega)
  | some i =>
    have h1 := List.find?_some h
    have h2 := List.mem_of_find?_eq_some h
    have : (List.range n).any p = true := by rw [List.any_eq_true]; exact ⟨i, h2, h1⟩
    rw [this]; show std.le 0 (i : Int) = true; exact le_true (by omega)
theorem range_any {α : Type} [Inhabited α] (p : α → Bool) (l : List α) : (List.range l.length).any (fun i => !p (gd l i)) = !l.all p := by
  rw [← range_all p l, List.all_eq_not_any_not, Bool.not_not]
/-- the first cell with this name -/
noncomputable def namedI (l : List TCell) (s : ByteArray) : Int := firstI (fun i => std.seq (gd l i).fName s) l.length
theorem impl_named_ok (a : TLibrary) (s : ByteArray) (h : a.fCells.length ≤ 10000000) : F_impl_named a s = some (namedI a.fCells s) := by
  unfold F_impl_named F_slices_IndexFunc_Limpl_Cell_impl_Cell_mbFimpl_named_1p
  rw [bind_of (scan_first (p := fun i => std.seq (gd a.fCells i).fName s) (n := a.fCells.length) (fun i hi => ?_) ?_)]
  · unfold namedI firstI
    cases (List.range a.fCells.length).find? (fun i => std.seq (gd a.fCells i).fName s) <;> rfl
  · simp only [L_slices_IndexFunc_Limpl_Cell_impl_Cell_mbFimpl_named_1p_x2, letO_eq]
    rw [ltl_f, br_f]
  · simp only [L_slices_IndexFunc_Limpl_Cell_impl_Cell_mbFimpl_named_1p_x2, letO_eq, s_toNn, F_impl_named_1_mbp]
    rw [ltl_t hi, br_t, req_of (inRl hi), Option.bind_some, inc_nat (by omega)]
    cases std.seq (gd a.fCells i).fName s <;> rfl
/-- no cell ahead of k has its name -/
noncomputable def fresh (l : List TCell) (k : Nat) : Bool := (List.range k).all fun j => !std.seq (gd l j).fName (gd l k).fName
theorem find_first (p : Nat → Bool) (n k : Nat) (hk : k < n) (hp : p k = true) : (List.range n).find? p = some k ↔ (List.range k).all (fun j => !p j) = true := by
  rw [List.all_eq_true, List.find?_eq_some_iff_append]
  constructor
  · rintro ⟨h1, l1, l2, h2, h3⟩ j hj
    apply h3
    have hlen : l1.length = k := by
      have h4 : (List.range n)[l1.length]? = some k := by rw [h2]; simp
      have hlt : l1.length < n := by
        have := (List.getElem?_eq_some_iff.1 h4).1
        simpa using this
      rw [List.getElem?_range hlt] at h4
      injection h4
    have h5 : l1 = List.range k := by
      have := congrArg (List.take l1.length) h2
      rw [List.take_left', List.take_range] at this
      · rw [← this, hlen]; congr 1; omega
      · rfl
    rw [h5]; exact hj
  · intro h
    refine ⟨hp, List.range k, List.range' (k + 1) (n - (k + 1)), ?_, fun j hj => h j hj⟩
    rw [List.range_eq_range', List.range_eq_range', show n = k + (1 + (n - (k + 1))) by omega, ← List.range'_append_1, Nat.add_comm 1, List.range'_succ]
    simp
    omega
theorem named_first (l : List TCell) (k : Nat) (hk : k < l.length) : std.eq (namedI l (gd l k).fName) (k : Int) = fresh l k := by
  rw [s_eq, Bool.eq_iff_iff]
  unfold fresh
  rw [← find_first (fun i => std.seq (gd l i).fName (gd l k).fName) l.length k hk (seq_self _)]
  unfold namedI firstI
  cases h : (List.range l.length).find? (fun i => std.seq (gd l i).fName (gd l k).fName) with
  | none => simp
  | some i => simp; omega
noncomputable def okLib (a : TLibrary) : Bool := decide (1 ≤ a.fCells.length) && (decide (a.fCells.length ≤ 8) && (List.range a.fCells.length).all fun k => okCell (gd a.fCells k) k && fresh a.fCells k)
theorem lt_one (n : Nat) : std.lt (std.ofN n) 1 = !decide (1 ≤ n) := by
  rw [s_lt, s_ofN]
  by_cases h : 1 ≤ n
  · have : ¬ ((n : Int) < 1) := by omega
    simp [h, this]
  · have : ((n : Int) < 1) := by omega
    simp [h, this]

theorem spec_l13Byte_ok (x : Int) : F_spec_l13Byte x = some (ofL (oneB x)) := rfl
theorem spec_l13Two_ok (x : Int) : F_spec_l13Two x = some (ofL (twoR x)) := by
  unfold F_spec_l13Two
  rw [req_of (by rw [s_nneg]; omega)]; rfl
noncomputable def shapeB (a : TShape) : List Int := oneB a.fLayer ++ [a.fBox.fX0, a.fBox.fY0, a.fBox.fX1, a.fBox.fY1].flatMap twoB
noncomputable def nameB (s : ByteArray) : List Int := oneB (std.ofN (std.slen s)) ++ strL s
noncomputable def labelB (a : TLabel) : List Int := (oneB a.fLayer ++ [a.fAt.fX, a.fAt.fY].flatMap twoB) ++ nameB a.fName
noncomputable def placeB (a : TInstance) : List Int := (oneB a.fPlace.fOrientation ++ [a.fPlace.fX, a.fPlace.fY].flatMap twoB) ++ (oneB a.fColumns ++ oneB a.fRows) ++ [a.fStepX, a.fStepY].flatMap twoB
noncomputable def instB (a : TInstance) : List Int := oneB a.fCell ++ placeB a
theorem nameB_len (s : ByteArray) : (nameB s).length = s.size + 1 := by unfold nameB; rw [List.length_append, one_len, strL_length]; omega
theorem shapeB_len (a : TShape) : (shapeB a).length = 9 := by unfold shapeB; rw [List.length_append, one_len, flat_two]; rfl
theorem labelB_len (a : TLabel) : (labelB a).length = a.fName.size + 6 := by unfold labelB; rw [List.length_append, List.length_append, one_len, flat_two, nameB_len]; simp only [List.length_cons, List.length_nil]; omega
theorem placeB_len (a : TInstance) : (placeB a).length = 11 := by
  unfold placeB
  simp only [List.length_append, one_len, flat_two, List.length_cons, List.length_nil]
theorem instB_len (a : TInstance) : (instB a).length = 12 := by unfold instB; rw [List.length_append, one_len, placeB_len]
-- the sum of a string
theorem spec_Checksum16_ex (s : ByteArray) (h : s.size ≤ 1000000000) : ∃ c, F_spec_Checksum16 s = some c ∧ 0 ≤ c ∧ c < 65521 := by
  obtain ⟨r, h1, h2⟩ := while_ex (step := L_spec_Checksum16_x3 s) (x0 := (1, 0)) (fun x => ∃ i : Nat, x.2 = (i : Int) ∧ i ≤ s.size ∧ 0 ≤ x.1 ∧ x.1 < 65521) (fun r => 0 ≤ r ∧ r < 65521) (fun x => s.size + 1 - x.2.toNat) ⟨0, rfl, by omega, by omega, by omega⟩ (by
    rintro ⟨c, _⟩ ⟨i, rfl, h1, h2, h3⟩
    simp only at h2 h3
    by_cases hi : i < s.size
    · left
      have hs : 0 ≤ std.sat s i ∧ std.sat s i ≤ 255 := by
        show 0 ≤ (((s[i]?.getD 0).toNat : Nat) : Int) ∧ (((s[i]?.getD 0).toNat : Nat) : Int) ≤ 255
        have := (s[i]?.getD 0).toNat_lt
        omega
      have e1 : std.conv .i64 (std.sat s i) = std.sat s i := wrap_id (by omega) (by omega)
      have e2 : std.mul .i64 31 c = 31 * c := mul_id (by omega) (by omega)
      simp only [L_spec_Checksum16_x3, letO_eq, s_toNn, e1, e2]
      rw [lt_true (by rw [s_ofN, s_slen]; omega), br_t, req_of (show std.inR (i : Int) (std.slen s) from inRn hi), req_of (by rw [s_nz]; decide), inc_nat (by omega), add_id (x := 31 * c) (by omega) (by omega), add_id (by omega) (by omega)]
      have e3 : std.rem (31 * c + std.sat s i + 1) 65521 = (31 * c + std.sat s i + 1) % 65521 := Int.tmod_eq_emod_of_nonneg (by omega)
      rw [e3]
      refine ⟨_, rfl, ⟨i + 1, rfl, by omega, ?_, ?_⟩, ?_⟩
      · simp only; omega
      · simp only; omega
      · simp only [Int.toNat_natCast]; omega
    · right
      refine ⟨c, ?_, h2, h3⟩
      simp only [L_spec_Checksum16_x3, letO_eq]
      rw [lt_false (by rw [s_ofN, s_slen]; omega), br_f])
  refine ⟨r, ?_, h2⟩
  unfold F_spec_Checksum16
  rw [bind_of h1]; rfl
noncomputable def ck (s : ByteArray) : Int := (F_spec_Checksum16 s).getD 0
theorem spec_Checksum16_ok (s : ByteArray) (h : s.size ≤ 1000000000) : F_spec_Checksum16 s = some (ck s) := by
  obtain ⟨c, hc, _⟩ := spec_Checksum16_ex s h
  unfold ck; rw [hc]; rfl
theorem impl_Checksum16_ok (s : ByteArray) (h : s.size ≤ 1000000000) : F_impl_Checksum16 s = some (ck s) := spec_Checksum16_ok s h
/-- a record -/
noncomputable def headR (k : Int) (s : ByteArray) : ByteArray := std.scat (std.scat (ofL (twoR (std.add .i64 (std.ofN (std.slen s)) 5))) (ofL (oneB k))) s
noncomputable def recB (k : Int) (s : ByteArray) : ByteArray := std.scat (headR k s) (ofL (twoR (ck (headR k s))))
theorem headR_size (k : Int) (s : ByteArray) : (headR k s).size = s.size + 3 := by
  unfold headR
  rw [scat_size, scat_size, ofL_size, ofL_size, twoR_len, one_len]; omega
theorem recB_size (k : Int) (s : ByteArray) : (recB k s).size = s.size + 5 := by
  unfold recB
  rw [scat_size, headR_size, ofL_size, twoR_len]
theorem isName_size {s : ByteArray} (h : isName s = true) : s.size ≤ 8 := by
  unfold isName at h
  simp only [Bool.and_eq_true, decide_eq_true_eq] at h
  exact h.2.2
theorem wB_iff' (a b c : Int) : wB a b c = true ↔ b ≤ a ∧ a ≤ c := by
  unfold wB
  rw [s_le, s_le, Bool.and_eq_true, decide_eq_true_eq, decide_eq_true_eq]
/-- what a valid cell is like -/
structure GoodC (c : TCell) (k : Int) (n : Nat) : Prop where
  name : c.fName.size ≤ 8
  shapes : c.fShapes.length ≤ 24
  labels : c.fLabels.length ≤ 8
  insts : c.fInstances.length ≤ 8
  lname : ∀ l ∈ c.fLabels, l.fName.size ≤ 8
  cell : ∀ i ∈ c.fInstances, 0 ≤ i.fCell ∧ i.fCell < k
theorem okLib_cell {a : TLibrary} (h : okLib a = true) {k : Nat} (hk : k < a.fCells.length) : okCell (gd a.fCells k) k = true := by
  unfold okLib at h
  simp only [Bool.and_eq_true, decide_eq_true_eq, List.all_eq_true, List.mem_range] at h
  exact (h.2.2 k hk).1
theorem okLib_le {a : TLibrary} (h : okLib a = true) : 1 ≤ a.fCells.length ∧ a.fCells.length ≤ 8 := by
  unfold okLib at h
  simp only [Bool.and_eq_true, decide_eq_true_eq] at h
  exact ⟨h.1, h.2.1⟩
theorem good_of {a : TLibrary} (h : okLib a = true) {k : Nat} (hk : k < a.fCells.length) : GoodC (gd a.fCells k) k a.fCells.length := by
  have h1 := okLib_cell h hk
  have h2 := (okLib_le h).2
  unfold okCell at h1
  simp only [Bool.and_eq_true, decide_eq_true_eq, List.all_eq_true] at h1
  obtain ⟨g1, g2, g3, g4, g5, g6, g7⟩ := h1
  refine ⟨isName_size g1, g2, g3, g4, fun l hl => ?_, fun i hi => ?_⟩
  · have := g6 l hl
    unfold okLabel at this
    simp only [Bool.and_eq_true] at this
    exact isName_size this.2.2
  · have := g7 i hi
    unfold okInst at this
    rw [Bool.and_eq_true, wB_iff', sub_id (by omega) (by omega)] at this
    omega
/-- the records of a cell -/
noncomputable def shapeR (c : TCell) (i : Nat) : ByteArray := recB 3 (ofL (shapeB (gd c.fShapes i)))
noncomputable def labelR (c : TCell) (i : Nat) : ByteArray := recB 4 (ofL (labelB (gd c.fLabels i)))
noncomputable def instR (a : TLibrary) (c : TCell) (i : Nat) : ByteArray := recB 5 (ofL (nameB (gd a.fCells (std.toN (gd c.fInstances i).fCell)).fName ++ placeB (gd c.fInstances i)))
noncomputable def endR (c : TCell) : ByteArray := recB 6 (ofL [std.conv .u8 (std.ofN (len c.fShapes)), std.conv .u8 (std.ofN (len c.fLabels)), std.conv .u8 (std.ofN (len c.fInstances))])
noncomputable def cellR (a : TLibrary) (c : TCell) : ByteArray :=
  std.scat (catN (catN (catN (recB 2 (ofL (nameB c.fName))) (shapeR c) c.fShapes.length) (labelR c) c.fLabels.length) (instR a c) c.fInstances.length) (endR c)
section
variable {a : TLibrary} {k : Nat} (h : okLib a = true) (hk : k < a.fCells.length)
theorem shapeR_le (c : TCell) (i : Nat) : (shapeR c i).size ≤ 14 := by unfold shapeR; rw [recB_size, ofL_size, shapeB_len]; omega
include h hk in
theorem labelR_le (i : Nat) (hi : i < (gd a.fCells k).fLabels.length) : (labelR (gd a.fCells k) i).size ≤ 19 := by
  have := (good_of h hk).lname _ (gd_mem hi)
  unfold labelR; rw [recB_size, ofL_size, labelB_len]; omega
include h hk in
theorem inst_in (i : Nat) (hi : i < (gd a.fCells k).fInstances.length) : std.inR (gd (gd a.fCells k).fInstances i).fCell (len a.fCells) ∧ (gd a.fCells (std.toN (gd (gd a.fCells k).fInstances i).fCell)).fName.size ≤ 8 := by
  have h1 := (good_of h hk).cell _ (gd_mem hi)
  refine ⟨⟨h1.1, by rw [len_eq]; omega⟩, ?_⟩
  exact (good_of h (k := std.toN (gd (gd a.fCells k).fInstances i).fCell) (by rw [s_toN]; omega)).name
include h hk in
theorem instR_le (i : Nat) (hi : i < (gd a.fCells k).fInstances.length) : (instR a (gd a.fCells k) i).size ≤ 25 := by
  have := (inst_in h hk i hi).2
  unfold instR; rw [recB_size, ofL_size, List.length_append, nameB_len, placeB_len]; omega
include h hk in
theorem cellR_le : (cellR a (gd a.fCells k)).size ≤ 1000 := by
  have hg := good_of h hk
  have n0 : (recB 2 (ofL (nameB (gd a.fCells k).fName))).size ≤ 14 := by rw [recB_size, ofL_size, nameB_len]; have := hg.name; omega
  have n1 := catN_size (recB 2 (ofL (nameB (gd a.fCells k).fName))) (shapeR (gd a.fCells k)) 14 (gd a.fCells k).fShapes.length fun i _ => shapeR_le _ i
  have m1 : (gd a.fCells k).fShapes.length * 14 ≤ 24 * 14 := Nat.mul_le_mul_right _ hg.shapes
  have n2 := catN_size (catN (recB 2 (ofL (nameB (gd a.fCells k).fName))) (shapeR (gd a.fCells k)) (gd a.fCells k).fShapes.length) (labelR (gd a.fCells k)) 19 (gd a.fCells k).fLabels.length fun i hi => labelR_le h hk i hi
  have m2 : (gd a.fCells k).fLabels.length * 19 ≤ 8 * 19 := Nat.mul_le_mul_right _ hg.labels
  have n3 := catN_size (catN (catN (recB 2 (ofL (nameB (gd a.fCells k).fName))) (shapeR (gd a.fCells k)) (gd a.fCells k).fShapes.length) (labelR (gd a.fCells k)) (gd a.fCells k).fLabels.length) (instR a (gd a.fCells k)) 25 (gd a.fCells k).fInstances.length fun i hi => instR_le h hk i hi
  have m3 : (gd a.fCells k).fInstances.length * 25 ≤ 8 * 25 := Nat.mul_le_mul_right _ hg.insts
  unfold cellR endR
  rw [scat_size, recB_size, ofL_size]
  simp only [List.length_cons, List.length_nil]
  omega
end
/- what the marks write -/
theorem gd_set_selfM {α : Type} [Inhabited α] (l : List α) (i : Nat) (x : α) (h : i < l.length) : gd (l.set i x) i = x := by
  rw [gd_lt (by simpa using h)]; simp
theorem req_reflM {α β : Type} (x : α) (k : Option β) : req (x = x) k = k := req_of rfl
theorem markText_ex (n : Nat) (h : n ≤ 1000000000000000) : ∃ s, F_laws_markText (n : Int) = some s ∧ s.size ≤ 20 := by
  unfold F_laws_markText
  by_cases h0 : n = 0
  · subst h0
    exact ⟨_, rfl, by decide⟩
  · rw [le_false (by omega), br_f]
    obtain ⟨r, h1, h2⟩ := while_ex (step := L_laws_markText_x3) (x0 := ((n : Int), ByteArray.mk #[])) (fun x => ∃ v : Nat, x.1 = (v : Int) ∧ v * 10 ^ x.2.size ≤ n ∧ x.2.size ≤ 17) (fun r => r.size ≤ 17) (fun x => x.1.toNat) ⟨n, rfl, by simp [ByteArray.size], by simp [ByteArray.size]⟩ (by
      rintro ⟨x, s⟩ ⟨v, hv, hle, hs⟩
      simp only at hv hle hs
      subst hv
      simp only [L_laws_markText_x3, letO_eq]
      by_cases hp : 0 < v
      · have hs15 : s.size ≤ 15 := by
          rcases Nat.lt_or_ge s.size 16 with h | h
          · omega
          · have h3 : 10 ^ 16 ≤ 10 ^ s.size := Nat.pow_le_pow_right (by omega) h
            have h4 : 1 * 10 ^ s.size ≤ v * 10 ^ s.size := Nat.mul_le_mul_right _ hp
            have h5 : 10 ^ 16 = 10000000000000000 := by decide
            omega
        have nz : std.nz 10 := by rw [s_nz]; decide
        have hq : std.quo .i64 (v : Int) 10 = ((v / 10 : Nat) : Int) := by
          show IntKind.i64.wrap ((v : Int).tdiv 10) = _
          have e : (v : Int).tdiv 10 = ((v / 10 : Nat) : Int) := rfl
          have hv15 : v ≤ n := by
            have h4 : v * 1 ≤ v * 10 ^ s.size := Nat.mul_le_mul_left _ (Nat.pos_of_ne_zero (by simp))
            omega
          rw [e, wrap_id (by omega) (by omega)]
        have hsz : (std.scat (std.ofBytes (len [std.conv .u8 (std.add .i64 48 (std.rem (v : Int) 10))]) fun i => gd [std.conv .u8 (std.add .i64 48 (std.rem (v : Int) 10))] (0 + i)) s).size = s.size + 1 := by
          rw [scat_size]
          have := ofL_size [std.conv .u8 (std.add .i64 48 (std.rem (v : Int) 10))]
          unfold ofL at this
          rw [this]; simp; omega
        have hl1 : std.slen (std.ofBytes (len [std.conv .u8 (std.add .i64 48 (std.rem (v : Int) 10))]) fun i => gd [std.conv .u8 (std.add .i64 48 (std.rem (v : Int) 10))] (0 + i)) = 1 := by
          have := ofL_len [std.conv .u8 (std.add .i64 48 (std.rem (v : Int) 10))]
          unfold ofL at this
          rw [this]; rfl
        rw [lt_true (by omega), br_t, req_of nz, hl1, req_of (room1 (by rw [s_slen]; omega)), req_of nz, hq]
        refine .inl ⟨_, rfl, ⟨v / 10, rfl, ?_, by simp only; rw [hsz]; omega⟩, by simp only [Int.toNat_natCast]; omega⟩
        simp only
        rw [hsz, Nat.pow_succ]
        have h6 : v / 10 * 10 ≤ v := by omega
        have h7 : v / 10 * (10 ^ s.size * 10) = (v / 10 * 10) * 10 ^ s.size := by rw [Nat.mul_comm (10 ^ s.size) 10, Nat.mul_assoc]
        rw [h7]
        exact Nat.le_trans (Nat.mul_le_mul_right _ h6) hle
      · rw [lt_false (by omega), br_f]
        exact .inr ⟨_, rfl, hs⟩)
    rw [h1]
    simp only [Option.bind_some, letO_eq]
    have h1' : (ByteArray.mk #[109]).size = 1 := rfl
    rw [req_of (room1 (by rw [s_slen, s_slen, h1']; omega))]
    exact ⟨_, rfl, by rw [scat_size, h1']; omega⟩
noncomputable def mkT (n : Nat) : ByteArray := (F_laws_markText (n : Int)).getD (ByteArray.mk #[])
theorem markText_ok (n : Nat) (h : n ≤ 1000000000000000) : F_laws_markText (n : Int) = some (mkT n) := by
  obtain ⟨s, hs, _⟩ := markText_ex n h
  unfold mkT
  rw [hs]; rfl
def mShape (k i : Nat) : TShape := ⟨((k + 5 * i : Nat) : Int), ⟨((k + 5 * i + 1 : Nat) : Int), ((k + 5 * i + 1 + 1 : Nat) : Int), ((k + 5 * i + 1 + 1 + 1 : Nat) : Int), ((k + 5 * i + 1 + 1 + 1 + 1 : Nat) : Int)⟩⟩
set_option maxHeartbeats 4000000 in
theorem markShapeS_ok (l : List TShape) (k : Nat) (h : k + 5 * l.length ≤ 1000000000000000) : F_laws_markShapeS_mob l k = some (((k + 5 * l.length : Nat) : Int), (List.range l.length).map (mShape k)) := by
  unfold F_laws_markShapeS_mob
  refine Eq.trans (bind_of (while_from (r := (((k + 5 * l.length : Nat) : Int), (List.range l.length).map (mShape k))) (fun i => (((k + 5 * i : Nat) : Int), (i : Int), markd (mShape k) l i)) l.length (by simp [markd_zero]) (fun i hi => ?_) ?_)) ?_
  · have hml : (markd (mShape k) l i).length = l.length := markd_len _ _ _ (by omega)
    have hmi : i < (markd (mShape k) l i).length := by rw [hml]; exact hi
    have hin : std.inR (i : Int) l.length := inRl hi
    have hlt : std.lt (i : Int) (std.ofN l.length) = true := ltl_t hi
    have a1 : std.add .i64 ((k + 5 * i : Nat) : Int) 1 = ((k + 5 * i + 1 : Nat) : Int) := inc_nat (by omega)
    have a2 : std.add .i64 ((k + 5 * i + 1 : Nat) : Int) 1 = ((k + 5 * i + 1 + 1 : Nat) : Int) := inc_nat (by omega)
    have a3 : std.add .i64 ((k + 5 * i + 1 + 1 : Nat) : Int) 1 = ((k + 5 * i + 1 + 1 + 1 : Nat) : Int) := inc_nat (by omega)
    have a4 : std.add .i64 ((k + 5 * i + 1 + 1 + 1 : Nat) : Int) 1 = ((k + 5 * i + 1 + 1 + 1 + 1 : Nat) : Int) := inc_nat (by omega)
    have a5 : std.add .i64 ((k + 5 * i + 1 + 1 + 1 + 1 : Nat) : Int) 1 = ((k + 5 * i + 1 + 1 + 1 + 1 + 1 : Nat) : Int) := inc_nat (by omega)
    have b1 : std.add .i64 (i : Int) 1 = ((i + 1 : Nat) : Int) := inc_nat (by omega)
    simp only [L_laws_markShapeS_mob_x4, letO_eq, s_toNn, s_nadd, Nat.zero_add, len_eq, List.length_set, hml, hlt, br_t, req_of hin, req_reflM, List.set_set, gd_set_selfM _ _ _ hmi, a1, a2, a3, a4, a5, b1]
    try simp only [req_true]
    rw [← markd_set (mShape k) l i hi]
    rfl
  · simp only [L_laws_markShapeS_mob_x4, letO_eq]
    rw [ltl_f, br_f, markd_full]
  · simp only [letO_eq]
    rw [req_of (by simp [len_eq])]
noncomputable def mLabel (k i : Nat) : TLabel := ⟨((k + 4 * i : Nat) : Int), ⟨((k + 4 * i + 1 : Nat) : Int), ((k + 4 * i + 1 + 1 : Nat) : Int)⟩, mkT (k + 4 * i + 1 + 1 + 1)⟩
set_option maxHeartbeats 4000000 in
theorem markLabelS_ok (l : List TLabel) (k : Nat) (h : k + 4 * l.length ≤ 1000000000000000) : F_laws_markLabelS_mob l k = some (((k + 4 * l.length : Nat) : Int), (List.range l.length).map (mLabel k)) := by
  unfold F_laws_markLabelS_mob
  refine Eq.trans (bind_of (while_from (r := (((k + 4 * l.length : Nat) : Int), (List.range l.length).map (mLabel k))) (fun i => (((k + 4 * i : Nat) : Int), (i : Int), markd (mLabel k) l i)) l.length (by simp [markd_zero]) (fun i hi => ?_) ?_)) ?_
  · have hml : (markd (mLabel k) l i).length = l.length := markd_len _ _ _ (by omega)
    have hmi : i < (markd (mLabel k) l i).length := by rw [hml]; exact hi
    have hin : std.inR (i : Int) l.length := inRl hi
    have hlt : std.lt (i : Int) (std.ofN l.length) = true := ltl_t hi
    have a1 : std.add .i64 ((k + 4 * i : Nat) : Int) 1 = ((k + 4 * i + 1 : Nat) : Int) := inc_nat (by omega)
    have a2 : std.add .i64 ((k + 4 * i + 1 : Nat) : Int) 1 = ((k + 4 * i + 1 + 1 : Nat) : Int) := inc_nat (by omega)
    have a3 : std.add .i64 ((k + 4 * i + 1 + 1 : Nat) : Int) 1 = ((k + 4 * i + 1 + 1 + 1 : Nat) : Int) := inc_nat (by omega)
    have a4 : std.add .i64 ((k + 4 * i + 1 + 1 + 1 : Nat) : Int) 1 = ((k + 4 * i + 1 + 1 + 1 + 1 : Nat) : Int) := inc_nat (by omega)
    have b1 : std.add .i64 (i : Int) 1 = ((i + 1 : Nat) : Int) := inc_nat (by omega)
    have hT : F_laws_markText ((k + 4 * i + 1 + 1 + 1 : Nat) : Int) = some (mkT (k + 4 * i + 1 + 1 + 1)) := markText_ok _ (by omega)
    simp only [L_laws_markLabelS_mob_x4, letO_eq, s_toNn, s_nadd, Nat.zero_add, len_eq, List.length_set, hml, hlt, br_t, req_of hin, req_reflM, List.set_set, gd_set_selfM _ _ _ hmi, a1, a2, a3, a4, b1, hT, Option.bind_some]
    try simp only [req_true]
    rw [← markd_set (mLabel k) l i hi]
    rfl
  · simp only [L_laws_markLabelS_mob_x4, letO_eq]
    rw [ltl_f, br_f, markd_full]
  · simp only [letO_eq]
    rw [req_of (by simp [len_eq])]
def mInstance (k i : Nat) : TInstance := ⟨((k + 8 * i : Nat) : Int), ⟨((k + 8 * i + 1 : Nat) : Int), ((k + 8 * i + 1 + 1 : Nat) : Int), ((k + 8 * i + 1 + 1 + 1 : Nat) : Int)⟩, ((k + 8 * i + 1 + 1 + 1 + 1 : Nat) : Int), ((k + 8 * i + 1 + 1 + 1 + 1 + 1 : Nat) : Int), ((k + 8 * i + 1 + 1 + 1 + 1 + 1 + 1 : Nat) : Int), ((k + 8 * i + 1 + 1 + 1 + 1 + 1 + 1 + 1 : Nat) : Int)⟩
set_option maxHeartbeats 4000000 in
theorem markInstanceS_ok (l : List TInstance) (k : Nat) (h : k + 8 * l.length ≤ 1000000000000000) : F_laws_markInstanceS_mob l k = some (((k + 8 * l.length : Nat) : Int), (List.range l.length).map (mInstance k)) := by
  unfold F_laws_markInstanceS_mob
  refine Eq.trans (bind_of (while_from (r := (((k + 8 * l.length : Nat) : Int), (List.range l.length).map (mInstance k))) (fun i => (((k + 8 * i : Nat) : Int), (i : Int), markd (mInstance k) l i)) l.length (by simp [markd_zero]) (fun i hi => ?_) ?_)) ?_
  · have hml : (markd (mInstance k) l i).length = l.length := markd_len _ _ _ (by omega)
    have hmi : i < (markd (mInstance k) l i).length := by rw [hml]; exact hi
    have hin : std.inR (i : Int) l.length := inRl hi
    have hlt : std.lt (i : Int) (std.ofN l.length) = true := ltl_t hi
    have a1 : std.add .i64 ((k + 8 * i : Nat) : Int) 1 = ((k + 8 * i + 1 : Nat) : Int) := inc_nat (by omega)
    have a2 : std.add .i64 ((k + 8 * i + 1 : Nat) : Int) 1 = ((k + 8 * i + 1 + 1 : Nat) : Int) := inc_nat (by omega)
    have a3 : std.add .i64 ((k + 8 * i + 1 + 1 : Nat) : Int) 1 = ((k + 8 * i + 1 + 1 + 1 : Nat) : Int) := inc_nat (by omega)
    have a4 : std.add .i64 ((k + 8 * i + 1 + 1 + 1 : Nat) : Int) 1 = ((k + 8 * i + 1 + 1 + 1 + 1 : Nat) : Int) := inc_nat (by omega)
    have a5 : std.add .i64 ((k + 8 * i + 1 + 1 + 1 + 1 : Nat) : Int) 1 = ((k + 8 * i + 1 + 1 + 1 + 1 + 1 : Nat) : Int) := inc_nat (by omega)
    have a6 : std.add .i64 ((k + 8 * i + 1 + 1 + 1 + 1 + 1 : Nat) : Int) 1 = ((k + 8 * i + 1 + 1 + 1 + 1 + 1 + 1 : Nat) : Int) := inc_nat (by omega)
    have a7 : std.add .i64 ((k + 8 * i + 1 + 1 + 1 + 1 + 1 + 1 : Nat) : Int) 1 = ((k + 8 * i + 1 + 1 + 1 + 1 + 1 + 1 + 1 : Nat) : Int) := inc_nat (by omega)
    have a8 : std.add .i64 ((k + 8 * i + 1 + 1 + 1 + 1 + 1 + 1 + 1 : Nat) : Int) 1 = ((k + 8 * i + 1 + 1 + 1 + 1 + 1 + 1 + 1 + 1 : Nat) : Int) := inc_nat (by omega)
    have b1 : std.add .i64 (i : Int) 1 = ((i + 1 : Nat) : Int) := inc_nat (by omega)
    simp only [L_laws_markInstanceS_mob_x4, letO_eq, s_toNn, s_nadd, Nat.zero_add, len_eq, List.length_set, hml, hlt, br_t, req_of hin, req_reflM, List.set_set, gd_set_selfM _ _ _ hmi, a1, a2, a3, a4, a5, a6, a7, a8, b1]
    try simp only [req_true]
    rw [← markd_set (mInstance k) l i hi]
    rfl
  · simp only [L_laws_markInstanceS_mob_x4, letO_eq]
    rw [ltl_f, br_f, markd_full]
  · simp only [letO_eq]
    rw [req_of (by simp [len_eq])]
/-- how many numbers the marks of a cell take -/
def wtC (c : TCell) : Nat := 1 + 5 * c.fShapes.length + 4 * c.fLabels.length + 8 * c.fInstances.length
noncomputable def mCell (c : TCell) (K : Nat) : TCell := ⟨mkT K, (List.range c.fShapes.length).map (mShape (K + 1)), (List.range c.fLabels.length).map (mLabel (K + 1 + 5 * c.fShapes.length)), (List.range c.fInstances.length).map (mInstance (K + 1 + 5 * c.fShapes.length + 4 * c.fLabels.length))⟩
def offC (l : List TCell) : Nat → Nat
  | 0 => 0
  | i + 1 => offC l i + wtC (gd l i)
theorem wtC_le {c : TCell} (h : SmallC c) : wtC c ≤ 20000000 := by
  have h1 := h.shapes
  have h2 := h.labels
  have h3 := h.insts
  unfold wtC; omega
theorem offC_le {l : List TCell} (hc : ∀ c ∈ l, SmallC c) : ∀ i, i ≤ l.length → offC l i ≤ i * 20000000
  | 0, _ => by simp [offC]
  | i + 1, h => by
    have h1 := offC_le hc i (by omega)
    have h2 := wtC_le (hc _ (gd_mem (show i < l.length by omega)))
    show offC l i + wtC (gd l i) ≤ _
    omega
noncomputable def mC (l : List TCell) (k i : Nat) : TCell := mCell (gd l i) (k + offC l i)
theorem markd_gdM {α : Type} [Inhabited α] (f : Nat → α) (a : List α) (i : Nat) (h : i < a.length) : gd (markd f a i) i = gd a i := by
  unfold gd markd
  rw [List.getD_eq_getElem?_getD, List.getD_eq_getElem?_getD, List.getElem?_append_right (by simp)]
  simp
theorem markCellS_ok (l : List TCell) (k : Nat) (hl : l.length ≤ 1048576) (hc : ∀ c ∈ l, SmallC c) (hk : k ≤ 100000000000000) : F_laws_markCellS_mob l k = some (((k + offC l l.length : Nat) : Int), (List.range l.length).map (mC l k)) := by
  unfold F_laws_markCellS_mob
  refine Eq.trans (bind_of (while_from (r := (((k + offC l l.length : Nat) : Int), (List.range l.length).map (mC l k))) (fun i => (((k + offC l i : Nat) : Int), (i : Int), markd (mC l k) l i)) l.length (by simp [markd_zero, offC]) (fun i hi => ?_) ?_)) ?_
  · have ho := offC_le hc i (by omega)
    have h2 := wtC_le (hc _ (gd_mem hi))
    obtain ⟨c, hcd⟩ : ∃ c, c = gd l i := ⟨_, rfl⟩
    obtain ⟨K, hK⟩ : ∃ K, K = k + offC l i := ⟨_, rfl⟩
    rw [← hcd] at h2
    unfold wtC at h2
    have hml : (markd (mC l k) l i).length = l.length := markd_len _ _ _ (by omega)
    have hmi : i < (markd (mC l k) l i).length := by rw [hml]; exact hi
    have hin : std.inR (i : Int) l.length := inRl hi
    have hlt : std.lt (i : Int) (std.ofN l.length) = true := ltl_t hi
    have hg : gd (markd (mC l k) l i) i = c := by rw [markd_gdM _ _ _ hi, hcd]
    have e1 : offC l (i + 1) = offC l i + wtC c := by rw [hcd]; rfl
    have hS := markShapeS_ok c.fShapes (K + 1) (by omega)
    have hL := markLabelS_ok c.fLabels (K + 1 + 5 * c.fShapes.length) (by omega)
    have hI := markInstanceS_ok c.fInstances (K + 1 + 5 * c.fShapes.length + 4 * c.fLabels.length) (by omega)
    have a1 : std.add .i64 ((K : Nat) : Int) 1 = ((K + 1 : Nat) : Int) := inc_nat (by omega)
    have b1 : std.add .i64 (i : Int) 1 = ((i + 1 : Nat) : Int) := inc_nat (by omega)
    have hT := markText_ok K (by omega)
    rw [← hK]
    simp only [L_laws_markCellS_mob_x4, letO_eq, s_toNn, s_nadd, Nat.zero_add, len_eq, List.length_set, hml, hlt, br_t, hT, Option.bind_some, req_of hin, req_reflM, req_true, List.set_set, gd_set_selfM _ _ _ hmi, hg, a1, hS, hL, hI, List.length_map, List.length_range, b1]
    rw [e1, ← markd_set (mC l k) l i hi]
    have e2 : mC l k i = mCell c K := by unfold mC; rw [← hcd, ← hK]
    have e3 : K + 1 + 5 * c.fShapes.length + 4 * c.fLabels.length + 8 * c.fInstances.length = k + (offC l i + wtC c) := by unfold wtC; omega
    rw [e2, e3]
    rfl
  · simp only [L_laws_markCellS_mob_x4, letO_eq]
    rw [ltl_f, br_f, markd_full]
  · simp only [letO_eq]
    rw [req_of (by simp [len_eq])]
theorem markLibrary_ok (a : TLibrary) (k : Nat) (h : SmallL a) (hk : k ≤ 100000000000000) : F_laws_markLibrary_mob a k = some (((k + offC a.fCells a.fCells.length : Nat) : Int), (List.range a.fCells.length).map (mC a.fCells k)) := by
  unfold F_laws_markLibrary_mob
  rw [markCellS_ok _ _ h.cells h.cell hk, Option.bind_some, req_of (by simp [len_eq]), req_of (by simp [len_eq])]
/- what was marked is held -/
theorem heldLabelS_ok (n k : Nat) (h : k + 4 * n ≤ 1000000000000000) : F_laws_heldLabelS ((List.range n).map (mLabel k)) k = some ((k + 4 * n : Nat) : Int) := by
  unfold F_laws_heldLabelS
  have hL : ((List.range n).map (mLabel k)).length = n := by simp
  refine Eq.trans (bind_of (while_from (r := .inr ((k + 4 * n : Nat) : Int)) (fun i => (((k + 4 * i : Nat) : Int), (i : Int))) n rfl (fun i hi => ?_) ?_)) rfl
  · have hin : std.inR (i : Int) n := inRn hi
    have hlt : std.lt (i : Int) (std.ofN n) = true := lt_true (by rw [s_ofN]; omega)
    have a1 : std.add .i64 ((k + 4 * i : Nat) : Int) 1 = ((k + 4 * i + 1 : Nat) : Int) := inc_nat (by omega)
    have a2 : std.add .i64 ((k + 4 * i + 1 : Nat) : Int) 1 = ((k + 4 * i + 1 + 1 : Nat) : Int) := inc_nat (by omega)
    have a3 : std.add .i64 ((k + 4 * i + 1 + 1 : Nat) : Int) 1 = ((k + 4 * i + 1 + 1 + 1 : Nat) : Int) := inc_nat (by omega)
    have a4 : std.add .i64 ((k + 4 * i + 1 + 1 + 1 : Nat) : Int) 1 = ((k + 4 * i + 1 + 1 + 1 + 1 : Nat) : Int) := inc_nat (by omega)
    have b1 : std.add .i64 (i : Int) 1 = ((i + 1 : Nat) : Int) := inc_nat (by omega)
    have hT : F_laws_markText ((k + 4 * i + 1 + 1 + 1 : Nat) : Int) = some (mkT (k + 4 * i + 1 + 1 + 1)) := markText_ok _ (by omega)
    simp only [L_laws_heldLabelS_x3, letO_eq, s_toNn, len_eq, hL, hlt, br_t, req_of hin, range_gd (mLabel k) n i hi, a1, a2, a3, a4, b1]
    simp only [mLabel, notEq (eq_true' rfl), br_f, hT, Option.bind_some, seq_self, s_not, Bool.not_true]
    rfl
  · simp only [L_laws_heldLabelS_x3, letO_eq, len_eq, hL]
    rw [lt_false (by rw [s_ofN]; omega), br_f]
/- what was marked is held -/
theorem heldShapeS_ok (n k : Nat) (h : k + 5 * n ≤ 1000000000000000) : F_laws_heldShapeS ((List.range n).map (mShape k)) k = some ((k + 5 * n : Nat) : Int) := by
  unfold F_laws_heldShapeS
  have hL : ((List.range n).map (mShape k)).length = n := by simp
  refine Eq.trans (bind_of (while_from (r := .inr ((k + 5 * n : Nat) : Int)) (fun i => (((k + 5 * i : Nat) : Int), (i : Int))) n rfl (fun i hi => ?_) ?_)) rfl
  · have hin : std.inR (i : Int) n := inRn hi
    have hlt : std.lt (i : Int) (std.ofN n) = true := lt_true (by rw [s_ofN]; omega)
    have a1 : std.add .i64 ((k + 5 * i : Nat) : Int) 1 = ((k + 5 * i + 1 : Nat) : Int) := inc_nat (by omega)
    have a2 : std.add .i64 ((k + 5 * i + 1 : Nat) : Int) 1 = ((k + 5 * i + 1 + 1 : Nat) : Int) := inc_nat (by omega)
    have a3 : std.add .i64 ((k + 5 * i + 1 + 1 : Nat) : Int) 1 = ((k + 5 * i + 1 + 1 + 1 : Nat) : Int) := inc_nat (by omega)
    have a4 : std.add .i64 ((k + 5 * i + 1 + 1 + 1 : Nat) : Int) 1 = ((k + 5 * i + 1 + 1 + 1 + 1 : Nat) : Int) := inc_nat (by omega)
    have a5 : std.add .i64 ((k + 5 * i + 1 + 1 + 1 + 1 : Nat) : Int) 1 = ((k + 5 * i + 1 + 1 + 1 + 1 + 1 : Nat) : Int) := inc_nat (by omega)
    have b1 : std.add .i64 (i : Int) 1 = ((i + 1 : Nat) : Int) := inc_nat (by omega)
    simp only [L_laws_heldShapeS_x3, letO_eq, s_toNn, len_eq, hL, hlt, br_t, req_of hin, range_gd (mShape k) n i hi, a1, a2, a3, a4, a5, b1]
    simp only [mShape, notEq (eq_true' rfl), br_f]
    rfl
  · simp only [L_laws_heldShapeS_x3, letO_eq, len_eq, hL]
    rw [lt_false (by rw [s_ofN]; omega), br_f]
theorem heldInstanceS_ok (n k : Nat) (h : k + 8 * n ≤ 1000000000000000) : F_laws_heldInstanceS ((List.range n).map (mInstance k)) k = some ((k + 8 * n : Nat) : Int) := by
  unfold F_laws_heldInstanceS
  have hL : ((List.range n).map (mInstance k)).length = n := by simp
  refine Eq.trans (bind_of (while_from (r := .inr ((k + 8 * n : Nat) : Int)) (fun i => (((k + 8 * i : Nat) : Int), (i : Int))) n rfl (fun i hi => ?_) ?_)) rfl
  · have hin : std.inR (i : Int) n := inRn hi
    have hlt : std.lt (i : Int) (std.ofN n) = true := lt_true (by rw [s_ofN]; omega)
    have a1 : std.add .i64 ((k + 8 * i : Nat) : Int) 1 = ((k + 8 * i + 1 : Nat) : Int) := inc_nat (by omega)
    have a2 : std.add .i64 ((k + 8 * i + 1 : Nat) : Int) 1 = ((k + 8 * i + 1 + 1 : Nat) : Int) := inc_nat (by omega)
    have a3 : std.add .i64 ((k + 8 * i + 1 + 1 : Nat) : Int) 1 = ((k + 8 * i + 1 + 1 + 1 : Nat) : Int) := inc_nat (by omega)
    have a4 : std.add .i64 ((k + 8 * i + 1 + 1 + 1 : Nat) : Int) 1 = ((k + 8 * i + 1 + 1 + 1 + 1 : Nat) : Int) := inc_nat (by omega)
    have a5 : std.add .i64 ((k + 8 * i + 1 + 1 + 1 + 1 : Nat) : Int) 1 = ((k + 8 * i + 1 + 1 + 1 + 1 + 1 : Nat) : Int) := inc_nat (by omega)
    have a6 : std.add .i64 ((k + 8 * i + 1 + 1 + 1 + 1 + 1 : Nat) : Int) 1 = ((k + 8 * i + 1 + 1 + 1 + 1 + 1 + 1 : Nat) : Int) := inc_nat (by omega)
    have a7 : std.add .i64 ((k + 8 * i + 1 + 1 + 1 + 1 + 1 + 1 : Nat) : Int) 1 = ((k + 8 * i + 1 + 1 + 1 + 1 + 1 + 1 + 1 : Nat) : Int) := inc_nat (by omega)
    have a8 : std.add .i64 ((k + 8 * i + 1 + 1 + 1 + 1 + 1 + 1 + 1 : Nat) : Int) 1 = ((k + 8 * i + 1 + 1 + 1 + 1 + 1 + 1 + 1 + 1 : Nat) : Int) := inc_nat (by omega)
    have b1 : std.add .i64 (i : Int) 1 = ((i + 1 : Nat) : Int) := inc_nat (by omega)
    simp only [L_laws_heldInstanceS_x3, letO_eq, s_toNn, len_eq, hL, hlt, br_t, req_of hin, range_gd (mInstance k) n i hi, a1, a2, a3, a4, a5, a6, a7, a8, b1]
    simp only [mInstance, notEq (eq_true' rfl), br_f]
    rfl
  · simp only [L_laws_heldInstanceS_x3, letO_eq, len_eq, hL]
    rw [lt_false (by rw [s_ofN]; omega), br_f]
theorem heldCellS_ok (l : List TCell) (k : Nat) (hl : l.length ≤ 1048576) (hc : ∀ c ∈ l, SmallC c) (hk : k ≤ 100000000000000) : F_laws_heldCellS ((List.range l.length).map (mC l k)) k = some ((k + offC l l.length : Nat) : Int) := by
  unfold F_laws_heldCellS
  have hL : ((List.range l.length).map (mC l k)).length = l.length := by simp
  refine Eq.trans (bind_of (while_from (r := .inr ((k + offC l l.length : Nat) : Int)) (fun i => (((k + offC l i : Nat) : Int), (i : Int))) l.length rfl (fun i hi => ?_) ?_)) rfl
  · have ho := offC_le hc i (by omega)
    have h2 := wtC_le (hc _ (gd_mem hi))
    obtain ⟨c, hcd⟩ : ∃ c, c = gd l i := ⟨_, rfl⟩
    obtain ⟨K, hK⟩ : ∃ K, K = k + offC l i := ⟨_, rfl⟩
    rw [← hcd] at h2
    unfold wtC at h2
    have hin : std.inR (i : Int) l.length := inRl hi
    have hlt : std.lt (i : Int) (std.ofN l.length) = true := ltl_t hi
    have e1 : offC l (i + 1) = offC l i + wtC c := by rw [hcd]; rfl
    have e2 : mC l k i = mCell c K := by unfold mC; rw [← hcd, ← hK]
    have e3 : K + 1 + 5 * c.fShapes.length + 4 * c.fLabels.length + 8 * c.fInstances.length = k + (offC l i + wtC c) := by unfold wtC; omega
    have hS := heldShapeS_ok c.fShapes.length (K + 1) (by omega)
    have hLb := heldLabelS_ok c.fLabels.length (K + 1 + 5 * c.fShapes.length) (by omega)
    have hI := heldInstanceS_ok c.fInstances.length (K + 1 + 5 * c.fShapes.length + 4 * c.fLabels.length) (by omega)
    have a1 : std.add .i64 ((K : Nat) : Int) 1 = ((K + 1 : Nat) : Int) := inc_nat (by omega)
    have b1 : std.add .i64 (i : Int) 1 = ((i + 1 : Nat) : Int) := inc_nat (by omega)
    have hT := markText_ok K (by omega)
    rw [← hK]
    simp only [L_laws_heldCellS_x3, letO_eq, s_toNn, len_eq, hL, hlt, br_t, req_of hin, range_gd (mC l k) l.length i hi, a1, b1, e2, hT, Option.bind_some]
    simp only [mCell, seq_self, s_not, Bool.not_true, br_f, hS, hLb, hI, Option.bind_some]
    rw [lt_false (by omega), br_f]
    try simp only [hLb, hI, Option.bind_some]
    rw [lt_false (by omega), br_f]
    try simp only [hI, Option.bind_some]
    rw [lt_false (by omega), br_f, e1, e3]
  · simp only [L_laws_heldCellS_x3, letO_eq, len_eq, hL]
    rw [lt_false (by rw [s_ofN]; omega), br_f]
theorem heldLibrary_ok (a : TLibrary) (k : Nat) (h : SmallL a) (hk : k ≤ 100000000000000) : F_laws_heldLibrary ⟨(List.range a.fCells.length).map (mC a.fCells k)⟩ k = some ((k + offC a.fCells a.fCells.length : Nat) : Int) := by
  unfold F_laws_heldLibrary
  rw [heldCellS_ok _ _ h.cells h.cell hk, Option.bind_some, lt_false (by omega), br_f]
/- bytes of joined strings -/
theorem sat_get {a : ByteArray} {i : Nat} (h : i < a.size) : std.sat a i = ((a[i].toNat : Nat) : Int) := by
  show ((((a[i]?.getD 0).toNat : Nat)) : Int) = _
  rw [getElem?_pos a i h]; rfl
theorem sat_left {a b : ByteArray} {i : Nat} (h : i < a.size) : std.sat (std.scat a b) i = std.sat a i := by
  have h2 : i < (a ++ b).size := by rw [ByteArray.size_append]; omega
  rw [sat_get h]
  show std.sat (a ++ b) i = _
  rw [sat_get h2, ByteArray.getElem_append_left h]
theorem sat_right {a b : ByteArray} {i : Nat} (h : a.size ≤ i) (h1 : i < a.size + b.size) : std.sat (std.scat a b) i = std.sat b (i - a.size) := by
  have h2 : i < (a ++ b).size := by rw [ByteArray.size_append]; omega
  have h3 : i - a.size < b.size := by omega
  rw [sat_get h3]
  show std.sat (a ++ b) i = _
  rw [sat_get h2, ByteArray.getElem_append_right h]
theorem conv8 (x : Int) : 0 ≤ std.conv .u8 x ∧ std.conv .u8 x ≤ 255 := by
  show 0 ≤ IntKind.u8.wrap x ∧ IntKind.u8.wrap x ≤ 255
  simp only [IntKind.wrap, IntKind.signed, IntKind.bits]
  simp
  omega
theorem conv8_eq (x : Int) : std.conv .u8 x = x % 256 := by
  show IntKind.u8.wrap x = x % 256
  simp only [IntKind.wrap, IntKind.signed, IntKind.bits]
  simp
theorem shr8 (x : Int) : std.shr .i64 x 8 = x / 256 := by
  show Int.fdiv x (2 ^ min (8 : Int).toNat 64) = x / 256
  rw [Int.fdiv_eq_ediv_of_nonneg]
  · rfl
  · decide
theorem shl8 {x : Int} (h : 0 ≤ x ∧ x ≤ 1000000) : std.shl .i64 x 8 = x * 256 := by
  show IntKind.i64.wrap (x * 2 ^ min (8 : Int).toNat 64) = x * 256
  rw [show (2 : Int) ^ min (8 : Int).toNat 64 = 256 from rfl]
  exact wrap_id (by omega) (by omega)
theorem ssub_tail {a b : ByteArray} : std.ssub (std.scat a b) a.size (std.slen (std.scat a b)) = b := ssub_app a b
theorem ssub_head {a b : ByteArray} : std.ssub (std.scat a b) 0 a.size = a := by
  show (a ++ b).extract 0 a.size = a
  exact ByteArray.extract_append_eq_left rfl
theorem ssub_mid {a b c : ByteArray} {i j : Nat} (hi : i = a.size) (hj : j = a.size + b.size) : std.ssub (std.scat (std.scat a b) c) i j = b := by
  show ((a ++ b) ++ c).extract i j = b
  subst hi; subst hj
  rw [ByteArray.append_assoc]
  exact (ByteArray.extract_append_size_add (a := a) (b := b ++ c) (i := 0) (j := b.size)).trans (ByteArray.extract_append_eq_left rfl)
/- a record is split off -/
theorem ofL_sat {l : List Int} {i : Nat} (h : i < l.length) (hb : 0 ≤ gd l i ∧ gd l i ≤ 255) : std.sat (ofL l) i = gd l i := by
  have hs : i < (ofL l).size := by rw [ofL_size]; exact h
  rw [sat_get hs]
  have e : (ofL l)[i] = UInt8.ofNat (gd l i).toNat := by
    show ((((List.range (len l)).map fun i => UInt8.ofNat (gd l (0 + i)).toNat).toArray))[i]'_ = _
    simp
  rw [e]
  simp
  omega
theorem twoR_sat {x : Int} (h : 0 ≤ x ∧ x < 65536) : std.sat (ofL (twoR x)) 0 = x / 256 ∧ std.sat (ofL (twoR x)) 1 = x % 256 := by
  have g0 : gd (twoR x) 0 = std.conv .u8 (std.shr .i64 x 8) := rfl
  have g1 : gd (twoR x) 1 = std.conv .u8 x := rfl
  have c0 := conv8 (std.shr .i64 x 8)
  have c1 := conv8 x
  constructor
  · rw [ofL_sat (by rw [twoR_len]; omega) (by rw [g0]; exact c0), g0, conv8_eq, shr8]; omega
  · rw [ofL_sat (by rw [twoR_len]; omega) (by rw [g1]; exact c1), g1, conv8_eq]
theorem recB_sat0 (k : Int) (p post : ByteArray) {i : Nat} (hi : i < 2) : std.sat (std.scat (recB k p) post) i = std.sat (ofL (twoR (std.add .i64 (std.ofN (std.slen p)) 5))) i := by
  have h1 := recB_size k p
  have h2 := headR_size k p
  rw [sat_left (by omega)]
  unfold recB
  rw [sat_left (by omega)]
  unfold headR
  rw [sat_left (by rw [scat_size, ofL_size, ofL_size, twoR_len, one_len]; omega), sat_left (by rw [ofL_size, twoR_len]; omega)]
theorem recB_sat2 (k : Int) (p post : ByteArray) (hk : 1 ≤ k ∧ k ≤ 7) : std.sat (std.scat (recB k p) post) 2 = k := by
  have h1 := recB_size k p
  have h2 := headR_size k p
  rw [sat_left (by omega)]
  unfold recB
  rw [sat_left (by omega)]
  unfold headR
  rw [sat_left (by rw [scat_size, ofL_size, ofL_size, twoR_len, one_len]; omega), sat_right (by rw [ofL_size, twoR_len]; omega) (by rw [ofL_size, ofL_size, twoR_len, one_len]; omega), ofL_size, twoR_len]
  have g : gd (oneB k) 0 = k := by
    show std.conv .u8 k = k
    rw [conv8_eq]; omega
  rw [ofL_sat (by rw [one_len]; omega) (by rw [show (2 - 2) = 0 from rfl, g]; omega)]
  exact g
theorem recB_satc (k : Int) (p post : ByteArray) {i : Nat} (hi : i < 2) : std.sat (std.scat (recB k p) post) (p.size + 3 + i) = std.sat (ofL (twoR (ck (headR k p)))) i := by
  have h1 := recB_size k p
  have h2 := headR_size k p
  rw [sat_left (by omega)]
  unfold recB
  rw [sat_right (by omega) (by rw [ofL_size, twoR_len]; omega), h2]
  congr 1; omega
theorem recB_head (k : Int) (p post : ByteArray) : std.ssub (std.scat (recB k p) post) 0 (p.size + 3) = headR k p := by
  rw [← headR_size k p]
  show ((headR k p ++ _) ++ post).extract 0 (headR k p).size = headR k p
  rw [ByteArray.append_assoc]
  exact ByteArray.extract_append_eq_left rfl
theorem recB_body (k : Int) (p post : ByteArray) : std.ssub (std.scat (recB k p) post) 3 (p.size + 3) = p := by
  show ((((ofL (twoR (std.add .i64 (std.ofN (std.slen p)) 5)) ++ ofL (oneB k)) ++ p) ++ _) ++ post).extract 3 (p.size + 3) = p
  have hs : (ofL (twoR (std.add .i64 (std.ofN (std.slen p)) 5)) ++ ofL (oneB k)).size = 3 := by rw [ByteArray.size_append, ofL_size, ofL_size, twoR_len, one_len]
  rw [ByteArray.append_assoc]
  exact ssub_mid (a := ofL (twoR (std.add .i64 (std.ofN (std.slen p)) 5)) ++ ofL (oneB k)) (b := p) hs.symm (by rw [hs]; omega)
theorem ck_rng (s : ByteArray) (h : s.size ≤ 1000000000) : 0 ≤ ck s ∧ ck s < 65536 := by
  obtain ⟨c, h1, h2, h3⟩ := spec_Checksum16_ex s h
  unfold ck
  rw [h1]
  exact ⟨h2, by show c < 65536; omega⟩
theorem conv64 {x : Int} (h : -1000000000 ≤ x ∧ x ≤ 1000000000) : std.conv .i64 x = x := wrap_id (by omega) (by omega)
theorem num2 {a b : Int} (ha : 0 ≤ a ∧ a ≤ 1000) (hb : 0 ≤ b ∧ b ≤ 1000) : std.add .i64 (std.shl .i64 (std.conv .i64 a) 8) (std.conv .i64 b) = a * 256 + b := by
  rw [conv64 (by omega), conv64 (by omega), shl8 (by omega), add_id (by omega) (by omega)]
set_option maxHeartbeats 1000000 in
theorem split_ok (pre p post : ByteArray) (k : Int) (hk : 1 ≤ k ∧ k ≤ 7) (hp : p.size ≤ 200) (hs : pre.size + post.size ≤ 1000000) :
    F_impl_SplitRecord (std.scat pre (std.scat (recB k p) post)) (pre.size : Int) = some (k, p, ((pre.size + (p.size + 5) : Nat) : Int), 0) := by
  obtain ⟨X, hX⟩ : ∃ X, X = std.scat (recB k p) post := ⟨_, rfl⟩
  have hXs : X.size = p.size + 5 + post.size := by rw [hX, scat_size, recB_size]
  have er : std.ssub (std.scat pre (std.scat (recB k p) post)) (std.toN (pre.size : Int)) (std.slen (std.scat pre (std.scat (recB k p) post))) = X := by rw [s_toNn, hX]; exact ssub_tail
  have hsz : std.slen (std.scat pre (std.scat (recB k p) post)) = pre.size + X.size := by rw [s_slen, scat_size, hX]
  have hL : std.add .i64 (std.ofN (std.slen p)) 5 = ((p.size + 5 : Nat) : Int) := by rw [s_ofN, s_slen, add_id (by omega) (by omega)]; omega
  have t1 := twoR_sat (x := ((p.size + 5 : Nat) : Int)) (by omega)
  have b0 : std.sat X (std.toN 0) = ((p.size + 5 : Nat) : Int) / 256 := by rw [hX, show std.toN 0 = 0 from rfl, recB_sat0 k p post (by omega), hL]; exact t1.1
  have b1 : std.sat X (std.toN 1) = ((p.size + 5 : Nat) : Int) % 256 := by rw [hX, show std.toN 1 = 1 from rfl, recB_sat0 k p post (by omega), hL]; exact t1.2
  have eN : std.add .i64 (std.shl .i64 (std.conv .i64 (std.sat X (std.toN 0))) 8) (std.conv .i64 (std.sat X (std.toN 1))) = ((p.size + 5 : Nat) : Int) := by
    rw [b0, b1, num2 (by omega) (by omega)]; omega
  have m2 : std.sub .i64 ((p.size + 5 : Nat) : Int) 2 = ((p.size + 3 : Nat) : Int) := by rw [sub_id (by omega) (by omega)]; omega
  have m1 : std.sub .i64 ((p.size + 5 : Nat) : Int) 1 = ((p.size + 4 : Nat) : Int) := by rw [sub_id (by omega) (by omega)]; omega
  have hh : (headR k p).size ≤ 1000000000 := by rw [headR_size]; omega
  have hck := ck_rng (headR k p) hh
  have t2 := twoR_sat hck
  have c0 : std.sat X (p.size + 3) = ck (headR k p) / 256 := by rw [hX]; exact (recB_satc k p post (i := 0) (by omega)).trans t2.1
  have c1 : std.sat X (p.size + 4) = ck (headR k p) % 256 := by rw [hX]; exact (recB_satc k p post (i := 1) (by omega)).trans t2.2
  have hb2 : std.sat X (std.toN 2) = k := by rw [hX]; exact recB_sat2 k p post hk
  have hbody : std.ssub X (std.toN 3) (p.size + 3) = p := by rw [hX]; exact recB_body k p post
  have hhead : std.ssub X 0 (p.size + 3) = headR k p := by rw [hX]; exact recB_head k p post
  have w1 : wB (pre.size : Int) 0 (std.ofN (std.slen (std.scat pre (std.scat (recB k p) post)))) = true := by
    unfold wB; rw [hsz, le_true (by omega), le_true (by rw [s_ofN]; omega)]; rfl
  have w2 : wB k 1 7 = true := by unfold wB; rw [le_true hk.1, le_true hk.2]; rfl
  unfold F_impl_SplitRecord
  rw [impl_within_ok, w1, Option.bind_some, Bool.not_true, br_f, req_of ⟨by omega, by rw [hsz]; omega⟩]
  simp only [er, eN]
  simp only [m2, m1, s_toNn, c0, c1, hb2, hbody, hhead, impl_within_ok, w2, letO_eq, Option.bind_some, Bool.not_true, br_f, conv64 (show -1000000000 ≤ k ∧ k ≤ 1000000000 by omega)]
  rw [lt_false (by rw [s_ofN, s_slen]; omega), br_f, req_of ⟨by omega, by rw [s_slen]; omega⟩, req_of (by show (0 : Int) ≤ 8; omega), req_of ⟨by omega, by rw [s_slen]; omega⟩, lt_false (by omega), br_f, lt_false (by rw [s_ofN, s_slen]; omega), br_f,
    req_of ⟨by omega, by rw [s_slen]; omega⟩, req_of (by show (0 : Int) ≤ 8; omega), req_of ⟨by omega, by rw [s_slen]; omega⟩, req_of ⟨by omega, by rw [s_slen]; omega⟩, req_of ⟨by omega, by rw [s_slen]; omega⟩, req_of ⟨by omega, by omega⟩, req_of ⟨by omega, by rw [s_slen]; omega⟩,
    impl_Checksum16_ok _ hh, Option.bind_some, num2 (by omega) (by omega), eq_true' (by omega)]
  rw [s_not, Bool.not_true, br_f, lt_false (by rw [s_ofN, s_slen]; omega), br_f, add_id (by omega) (by omega)]
  congr 1
end Go.Proofs.Ytlenieingkfjaaa.AM
