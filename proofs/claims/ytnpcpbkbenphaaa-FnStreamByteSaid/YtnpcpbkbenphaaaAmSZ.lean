/-
  What the functions that the law reaches compute, and that they do. No condition.
-/
import Derived.Test.YtnpcpbkbenphaaaAmSY
import Derived.Test.YtnpcpbkbenphaaaAmP
namespace Go.Proofs.Ytnpcpbkbenphaaa.AM
open Go Go.Proofs Go.RowKit
set_option linter.unusedVariables false
set_option linter.unusedSimpArgs false
set_option maxRecDepth 100000

noncomputable def wB (a b c : Int) : Bool := std.le b a && std.le a c
theorem spec_l09In_ok (a b c : Int) : F_spec_l09In a b c = some (wB a b c) := by
  unfold F_spec_l09In wB
  cases std.le b a <;> rfl
theorem impl_within_ok (a b c : Int) : F_impl_within a b c = some (wB a b c) := by
  unfold F_impl_within wB
  cases std.le b a <;> rfl
noncomputable def okRect (a : TRect) : Bool := std.le (-40) a.fX0 && (std.lt a.fX0 a.fX1 && (std.le a.fX1 40 && (std.le (-40) a.fY0 && (std.lt a.fY0 a.fY1 && std.le a.fY1 40))))
theorem spec_l09Rect_ok (a : TRect) : F_spec_l09Rect a = some (okRect a) := by
  unfold F_spec_l09Rect okRect
  cases std.le (-40) a.fX0 <;> cases std.lt a.fX0 a.fX1 <;> cases std.le a.fX1 40 <;> cases std.le (-40) a.fY0 <;> cases std.lt a.fY0 a.fY1 <;> rfl
theorem impl_IsValidRect_ok (a : TRect) : F_impl_IsValidRect a = some (okRect a) := by
  unfold F_impl_IsValidRect okRect
  cases std.le (-40) a.fX0 <;> cases std.lt a.fX0 a.fX1 <;> cases std.le a.fX1 40 <;> cases std.le (-40) a.fY0 <;> cases std.lt a.fY0 a.fY1 <;> rfl
theorem spec_l09Layer_ok (a : Int) : F_spec_l09Layer a = some (wB a 0 7) := by
  unfold F_spec_l09Layer
  rw [spec_l09In_ok]; rfl
noncomputable def okShape (a : TShape) : Bool := wB a.fLayer 0 7 && okRect a.fBox
theorem spec_l09Shape_ok (a : TShape) : F_spec_l09Shape a = some (okShape a) := by
  unfold F_spec_l09Shape okShape
  rw [spec_l09Layer_ok, spec_l09Rect_ok]
  cases wB a.fLayer 0 7 <;> rfl
theorem impl_validShape_ok (a : TShape) : F_impl_validShape a = some (okShape a) := by
  unfold F_impl_validShape okShape
  rw [impl_within_ok, impl_IsValidRect_ok]
  cases wB a.fLayer 0 7 <;> rfl
noncomputable def okPoint (a : TPoint) : Bool := wB a.fX (-40) 39 && wB a.fY (-40) 39
theorem spec_l09Unit_ok (a : TPoint) : F_spec_l09Unit a = some (okPoint a) := by
  unfold F_spec_l09Unit okPoint
  rw [spec_l09In_ok, spec_l09In_ok]
  cases wB a.fX (-40) 39 <;> rfl
theorem impl_isUnitCell_ok (a : TPoint) : F_impl_isUnitCell a = some (okPoint a) := by
  unfold F_impl_isUnitCell okPoint
  rw [impl_within_ok, impl_within_ok]
  cases wB a.fX (-40) 39 <;> rfl
noncomputable def okName (s : ByteArray) (i : Nat) : Bool :=
  (std.le 97 (std.sat s i) && std.le (std.sat s i) 122) || (std.le 48 (std.sat s i) && std.le (std.sat s i) 57)
noncomputable def isName (s : ByteArray) : Bool := (List.range s.size).all (okName s) && (decide (1 ≤ s.size) && decide (s.size ≤ 8))
theorem lt_le (a b : Int) : std.lt a b = !std.le b a := by
  rw [s_lt, s_le]
  by_cases h : a < b
  · have : ¬ b ≤ a := by omega
    simp [h]
  · have : b ≤ a := by omega
    simp [h, this]
theorem nameEnd (s : ByteArray) (b : Bool) : ((match (if b then .inr () else .inl () : Unit ⊕ Unit) with
    | .inl _ => some false
    | .inr _ => ((br (std.le 1 (std.ofN (std.slen s))) (some (std.le (std.ofN (std.slen s)) 8)) (some false)) : Option Bool).bind fun y33 => letO y33 fun w39 => some w39) : Option Bool) = some (b && (decide (1 ≤ s.size) && decide (s.size ≤ 8))) := by
  cases b with
  | false => rfl
  | true =>
    have e1 : std.le 1 (std.ofN (std.slen s)) = decide (1 ≤ s.size) := by rw [s_le, s_ofN, s_slen]; congr 1; simp; omega
    have e2 : std.le (std.ofN (std.slen s)) 8 = decide (s.size ≤ 8) := by rw [s_le, s_ofN, s_slen]; congr 1; simp; omega
    simp only [if_true, e1, e2, br_bool, letO_eq, Bool.true_and]
    cases decide (1 ≤ s.size) <;> rfl
theorem spec_IsName_ok (s : ByteArray) (hs : s.size ≤ maxLen) : F_spec_IsName s = some (isName s) := by
  have hb := maxLen_eq
  unfold F_spec_IsName
  refine Eq.trans (bind_of (scan (ok := okName s) (n := s.size) (yes := .inr ()) (no := .inl ()) (fun i hi => ?_) ?_)) (nameEnd s _)
  · simp only [L_spec_IsName_x2, letO_eq, s_toNn, req_of (show std.inR (i : Int) (std.slen s) from inRn hi), okName]
    rw [lt_true (by rw [s_ofN, s_slen]; omega), br_t, inc_nat (by omega)]
    generalize std.sat s i = c
    cases std.le 97 c <;> cases std.le c 122 <;> cases std.le 48 c <;> cases std.le c 57 <;> rfl
  · simp only [L_spec_IsName_x2, letO_eq]
    rw [lt_false (by rw [s_ofN, s_slen]; omega)]; rfl
theorem impl_IsName_ok (s : ByteArray) (hs : s.size ≤ maxLen) : F_impl_IsName s = some (isName s) := by
  have hb := maxLen_eq
  unfold F_impl_IsName
  refine Eq.trans (bind_of (scan (ok := okName s) (n := s.size) (yes := .inr ()) (no := .inl ()) (fun i hi => ?_) ?_)) (nameEnd s _)
  · simp only [L_impl_IsName_x2, letO_eq, s_toNn, req_of (show std.inR (i : Int) (std.slen s) from inRn hi), okName]
    rw [lt_true (by rw [s_ofN, s_slen]; omega), br_t, inc_nat (by omega)]
    generalize std.sat s i = c
    rw [lt_le c 97, lt_le c 48, lt_le 122 c, lt_le 57 c]
    cases std.le 97 c <;> cases std.le c 122 <;> cases std.le 48 c <;> cases std.le c 57 <;> rfl
  · simp only [L_impl_IsName_x2, letO_eq]
    rw [lt_false (by rw [s_ofN, s_slen]; omega)]; rfl
noncomputable def okLabel (a : TLabel) : Bool := wB a.fLayer 0 7 && (okPoint a.fAt && isName a.fName)
theorem spec_l09Label_ok (a : TLabel) (h : a.fName.size ≤ maxLen) : F_spec_l09Label a = some (okLabel a) := by
  unfold F_spec_l09Label okLabel
  rw [spec_l09Layer_ok, spec_l09Unit_ok, spec_IsName_ok _ h]
  cases wB a.fLayer 0 7 <;> cases okPoint a.fAt <;> rfl
theorem impl_validLabel_ok (a : TLabel) (h : a.fName.size ≤ maxLen) : F_impl_validLabel a = some (okLabel a) := by
  unfold F_impl_validLabel okLabel
  rw [impl_within_ok, impl_isUnitCell_ok, impl_IsName_ok _ h]
  cases wB a.fLayer 0 7 <;> cases okPoint a.fAt <;> rfl
noncomputable def okTr (a : TTransform) : Bool := wB a.fOrientation 0 7 && (wB a.fX (-80) 80 && wB a.fY (-80) 80)
theorem spec_l09Transform_ok (a : TTransform) : F_spec_l09Transform a = some (okTr a) := by
  unfold F_spec_l09Transform okTr
  simp only [spec_l09In_ok]
  cases wB a.fOrientation 0 7 <;> cases wB a.fX (-80) 80 <;> rfl
theorem impl_IsValidTransform_ok (a : TTransform) : F_impl_IsValidTransform a = some (okTr a) := by
  unfold F_impl_IsValidTransform okTr
  simp only [impl_within_ok]
  cases wB a.fOrientation 0 7 <;> cases wB a.fX (-80) 80 <;> rfl
noncomputable def okInst (a : TInstance) (m : Int) : Bool := wB a.fCell 0 (std.sub .i64 m 1) && (okTr a.fPlace && (wB a.fColumns 1 4 && (wB a.fRows 1 4 && (wB a.fStepX (-80) 80 && (wB a.fStepY (-80) 80 && ((std.lt 1 a.fColumns || std.eq a.fStepX 0) && (std.lt 1 a.fRows || std.eq a.fStepY 0)))))))
theorem spec_l09Instance_ok (a : TInstance) (m : Int) : F_spec_l09Instance a m = some (okInst a m) := by
  unfold F_spec_l09Instance okInst
  simp only [spec_l09In_ok, spec_l09Transform_ok]
  cases wB a.fCell 0 (std.sub .i64 m 1) <;> cases okTr a.fPlace <;> cases wB a.fColumns 1 4 <;> cases wB a.fRows 1 4 <;> try rfl
  cases wB a.fStepX (-80) 80 <;> cases wB a.fStepY (-80) 80 <;> try rfl
  cases std.lt 1 a.fColumns <;> cases std.eq a.fStepX 0 <;> cases std.lt 1 a.fRows <;> cases std.eq a.fStepY 0 <;> rfl
theorem impl_validInstance_ok (a : TInstance) (m : Int) : F_impl_validInstance a m = some (okInst a m) := by
  unfold F_impl_validInstance okInst
  simp only [impl_within_ok, impl_IsValidTransform_ok]
  cases wB a.fCell 0 (std.sub .i64 m 1) <;> cases okTr a.fPlace <;> cases wB a.fColumns 1 4 <;> cases wB a.fRows 1 4 <;> try rfl
  cases wB a.fStepX (-80) 80 <;> cases wB a.fStepY (-80) 80 <;> try rfl
  cases std.lt 1 a.fColumns <;> cases std.eq a.fStepX 0 <;> cases std.lt 1 a.fRows <;> cases std.eq a.fStepY 0 <;> rfl
/-- nothing is great -/
structure SmallC (c : TCell) : Prop where
  name : c.fName.size ≤ 1048576
  shapes : c.fShapes.length ≤ 1048576
  labels : c.fLabels.length ≤ 1048576
  insts : c.fInstances.length ≤ 1048576
  lnames : ∀ l ∈ c.fLabels, l.fName.size ≤ 1048576
structure SmallL (a : TLibrary) : Prop where
  cells : a.fCells.length ≤ 1048576
  cell : ∀ c ∈ a.fCells, SmallC c
def wfC (c : TCell) : Prop := c.fName.size ≤ maxLen ∧ c.fShapes.length ≤ maxLen ∧ c.fLabels.length ≤ maxLen ∧ c.fInstances.length ≤ maxLen ∧ ∀ l ∈ c.fLabels, l.fName.size ≤ maxLen
def wfLb (a : TLibrary) : Prop := a.fCells.length ≤ maxLen ∧ ∀ c ∈ a.fCells, wfC c
noncomputable def okCell (c : TCell) (k : Int) : Bool := isName c.fName && (decide (c.fShapes.length ≤ 24) && (decide (c.fLabels.length ≤ 8) && (decide (c.fInstances.length ≤ 8) && (c.fShapes.all okShape && (c.fLabels.all okLabel && c.fInstances.all fun x => okInst x k)))))
theorem lt_lit (n : Nat) (k : Nat) : std.lt (k : Int) (std.ofN n) = !decide (n ≤ k) := by
  rw [s_lt, s_ofN]
  by_cases h : n ≤ k
  · have : ¬ ((k : Int) < (n : Int)) := by omega
    simp [h, this]
  · have : ((k : Int) < (n : Int)) := by omega
    simp [h, this]
theorem spec_l09Cell_ok (c : TCell) (k : Int) (h : SmallC c) : F_spec_l09Cell c k = some (okCell c k) := by
  have hb := maxLen_eq
  have e24 := lt_lit c.fShapes.length 24
  have e8 := lt_lit c.fLabels.length 8
  have e8' := lt_lit c.fInstances.length 8
  have s1 := h.shapes; have s2 := h.labels; have s3 := h.insts
  unfold F_spec_l09Cell okCell
  rw [spec_IsName_ok _ (by have := h.name; omega)]
  simp only [Option.bind_some, letO_eq, len_eq, show (24 : Int) = ((24 : Nat) : Int) from rfl, show (8 : Int) = ((8 : Nat) : Int) from rfl, e24, e8, e8']
  cases isName c.fName with
  | false => rfl
  | true =>
    cases decide (c.fShapes.length ≤ 24) with
    | false => rfl
    | true =>
      cases decide (c.fLabels.length ≤ 8) with
      | false => rfl
      | true =>
        cases decide (c.fInstances.length ≤ 8) with
        | false => rfl
        | true =>
          simp only [Bool.not_true, br_f, Option.bind_some, Bool.true_and]
          rw [bind_of (scan (ok := fun i => okShape (gd c.fShapes i)) (n := c.fShapes.length) (yes := .inr ()) (no := .inl false) (fun i hi => ?_) ?_), range_all]
          · cases c.fShapes.all okShape with
            | false => rfl
            | true =>
              simp only [if_true, Bool.true_and]
              rw [bind_of (scan (ok := fun i => okLabel (gd c.fLabels i)) (n := c.fLabels.length) (yes := .inr ()) (no := .inl false) (fun i hi => ?_) ?_), range_all]
              · cases c.fLabels.all okLabel with
                | false => rfl
                | true =>
                  simp only [if_true, Bool.true_and]
                  rw [bind_of (scan (ok := fun i => okInst (gd c.fInstances i) k) (n := c.fInstances.length) (yes := .inr ()) (no := .inl false) (fun i hi => ?_) ?_), range_all (fun x => okInst x k)]
                  · cases c.fInstances.all fun x => okInst x k <;> rfl
                  · simp only [L_spec_l09Cell_x52, letO_eq]
                    rw [ltl_f, br_f]
                  · simp only [L_spec_l09Cell_x52, letO_eq, s_toNn]
                    rw [ltl_t hi, br_t, req_of (inRl hi), spec_l09Instance_ok, Option.bind_some, inc_nat (by omega)]
                    cases okInst (gd c.fInstances i) k <;> rfl
              · simp only [L_spec_l09Cell_x33, letO_eq]
                rw [ltl_f, br_f]
              · simp only [L_spec_l09Cell_x33, letO_eq, s_toNn]
                rw [ltl_t hi, br_t, req_of (inRl hi), spec_l09Label_ok _ (by have := h.lnames _ (gd_mem hi); omega), Option.bind_some, inc_nat (by omega)]
                cases okLabel (gd c.fLabels i) <;> rfl
          · simp only [L_spec_l09Cell_x14, letO_eq]
            rw [ltl_f, br_f]
          · simp only [L_spec_l09Cell_x14, letO_eq, s_toNn]
            rw [ltl_t hi, br_t, req_of (inRl hi), spec_l09Shape_ok, Option.bind_some, inc_nat (by omega)]
            cases okShape (gd c.fShapes i) <;> rfl
/-- a loop that stops at the first element that is met -/
theorem scan_first {step : Int → Option (Int ⊕ (Int ⊕ Unit))} {p : Nat → Bool} {n : Nat} (h : ∀ i : Nat, i < n → step i = some (cond (p i) (.inr (.inl (i : Int))) (.inl ((i + 1 : Nat) : Int)))) (hn : step n = some (.inr (.inr ()))) :
    whileP step 0 = some (match (List.range n).find? p with | some i => .inl (i : Int) | none => .inr ()) := by
  have key : ∀ m i : Nat, i + m = n → whileP step i = some (match (List.range' i m).find? p with | some i => .inl (i : Int) | none => .inr ()) := by
    intro m
    induction m with
    | zero =>
      intro i hi
      have : i = n := by omega
      subst this
      rw [whileP_unfold, hn]; rfl
    | succ m ih =>
      intro i hi
      rw [whileP_unfold, h i (by omega)]
      cases hb : p i with
      | true => simp [List.range', hb]
      | false =>
        simp only [cond]
        rw [ih (i + 1) (by omega)]
        simp [List.range', hb]
  have := key n 0 (by omega)
  rw [List.range_eq_range']
  exact this
noncomputable def firstI (p : Nat → Bool) (n : Nat) : Int := match (List.range n).find? p with | some i => (i : Int) | none => -1
theorem firstI_any (p : Nat → Bool) (n : Nat) : std.le 0 (firstI p n) = (List.range n).any p := by
  unfold firstI
  cases h : (List.range n).find? p with
  | none =>
    rw [List.find?_eq_none] at h
    have : (List.range n).any p = false := by rw [List.any_eq_false]; exact h
    rw [this]; show std.le 0 (-1) = false; exact le_false (by omega)
  | some i =>
    have h1 := List.find?_some h
    have h2 := List.mem_of_find?_eq_some h
    have : (List.range n).any p = true := by rw [List.any_eq_true]; exact ⟨i, h2, h1⟩
    rw [this]; show std.le 0 (i : Int) = true; exact le_true (by omega)
theorem range_any {α : Type} [Inhabited α] (p : α → Bool) (l : List α) : (List.range l.length).any (fun i => !p (gd l i)) = !l.all p := by
  rw [← range_all p l, List.all_eq_not_any_not, Bool.not_not]
theorem containsShape (l : List TShape) (h : l.length ≤ 10000000) : F_slices_ContainsFunc_Limpl_Shape_impl_Shape_mbFimpl_validCell_1 l = some (!l.all okShape) := by
  unfold F_slices_ContainsFunc_Limpl_Shape_impl_Shape_mbFimpl_validCell_1 F_slices_IndexFunc_Limpl_Shape_impl_Shape_mbFimpl_validCell_1
  rw [bind_of (scan_first (p := fun i => !okShape (gd l i)) (n := l.length) (fun i hi => ?_) ?_)]
  · rw [← range_any okShape l, ← firstI_any]
    unfold firstI
    cases (List.range l.length).find? (fun i => !okShape (gd l i)) <;> rfl
  · simp only [L_slices_IndexFunc_Limpl_Shape_impl_Shape_mbFimpl_validCell_1_x2, letO_eq]
    rw [ltl_f, br_f]
  · simp only [L_slices_IndexFunc_Limpl_Shape_impl_Shape_mbFimpl_validCell_1_x2, letO_eq, s_toNn, F_impl_validCell_1]
    rw [ltl_t hi, br_t, req_of (inRl hi), impl_validShape_ok, Option.bind_some, Option.bind_some, inc_nat (by omega)]
    cases okShape (gd l i) <;> rfl
theorem containsLabel (l : List TLabel) (h : l.length ≤ 10000000) (hn : ∀ x ∈ l, x.fName.size ≤ maxLen) : F_slices_ContainsFunc_Limpl_Label_impl_Label_mbFimpl_validCell_2 l = some (!l.all okLabel) := by
  unfold F_slices_ContainsFunc_Limpl_Label_impl_Label_mbFimpl_validCell_2 F_slices_IndexFunc_Limpl_Label_impl_Label_mbFimpl_validCell_2
  rw [bind_of (scan_first (p := fun i => !okLabel (gd l i)) (n := l.length) (fun i hi => ?_) ?_)]
  · rw [← range_any okLabel l, ← firstI_any]
    unfold firstI
    cases (List.range l.length).find? (fun i => !okLabel (gd l i)) <;> rfl
  · simp only [L_slices_IndexFunc_Limpl_Label_impl_Label_mbFimpl_validCell_2_x2, letO_eq]
    rw [ltl_f, br_f]
  · simp only [L_slices_IndexFunc_Limpl_Label_impl_Label_mbFimpl_validCell_2_x2, letO_eq, s_toNn, F_impl_validCell_2]
    rw [ltl_t hi, br_t, req_of (inRl hi), impl_validLabel_ok _ (hn _ (gd_mem hi)), Option.bind_some, Option.bind_some, inc_nat (by omega)]
    cases okLabel (gd l i) <;> rfl
theorem containsInst (l : List TInstance) (k : Int) (h : l.length ≤ 10000000) : F_slices_ContainsFunc_Limpl_Instance_impl_Instance_mbFimpl_validCell_3p l k = some (!l.all fun x => okInst x k) := by
  unfold F_slices_ContainsFunc_Limpl_Instance_impl_Instance_mbFimpl_validCell_3p F_slices_IndexFunc_Limpl_Instance_impl_Instance_mbFimpl_validCell_3p
  rw [bind_of (scan_first (p := fun i => !okInst (gd l i) k) (n := l.length) (fun i hi => ?_) ?_)]
  · rw [← range_any (fun x => okInst x k) l, ← firstI_any]
    unfold firstI
    cases (List.range l.length).find? (fun i => !okInst (gd l i) k) <;> rfl
  · simp only [L_slices_IndexFunc_Limpl_Instance_impl_Instance_mbFimpl_validCell_3p_x2, letO_eq]
    rw [ltl_f, br_f]
  · simp only [L_slices_IndexFunc_Limpl_Instance_impl_Instance_mbFimpl_validCell_3p_x2, letO_eq, s_toNn, F_impl_validCell_3_mbp]
    rw [ltl_t hi, br_t, req_of (inRl hi), impl_validInstance_ok, Option.bind_some, Option.bind_some, inc_nat (by omega)]
    cases okInst (gd l i) k <;> rfl
theorem impl_validCell_ok (c : TCell) (k : Int) (h : SmallC c) : F_impl_validCell c k = some (okCell c k) := by
  have hb := maxLen_eq
  have e24 := lt_lit c.fShapes.length 24
  have e8 := lt_lit c.fLabels.length 8
  have e8' := lt_lit c.fInstances.length 8
  unfold F_impl_validCell okCell
  rw [impl_IsName_ok _ (by have := h.name; omega), containsShape _ (by have := h.shapes; omega), containsLabel _ (by have := h.labels; omega) (fun x hx => by have := h.lnames x hx; omega), containsInst _ _ (by have := h.insts; omega)]
  simp only [Option.bind_some, letO_eq, len_eq, show (24 : Int) = ((24 : Nat) : Int) from rfl, show (8 : Int) = ((8 : Nat) : Int) from rfl, e24, e8, e8']
  cases isName c.fName <;> cases decide (c.fShapes.length ≤ 24) <;> cases decide (c.fLabels.length ≤ 8) <;> cases decide (c.fInstances.length ≤ 8) <;> cases c.fShapes.all okShape <;> cases c.fLabels.all okLabel <;> cases (c.fInstances.all fun x => okInst x k) <;> rfl
/-- the first cell with this name -/
noncomputable def namedI (l : List TCell) (s : ByteArray) : Int := firstI (fun i => std.seq (gd l i).fName s) l.length
theorem impl_named_ok (a : TLibrary) (s : ByteArray) (h : a.fCells.length ≤ 10000000) : F_impl_named a s = some (namedI a.fCells s) := by
  unfold F_impl_named F_slices_IndexFunc_Limpl_Cell_impl_Cell_mbFimpl_named_1p
  rw [bind_of (scan_first (p := fun i => std.seq (gd a.fCells i).fName s) (n := a.fCells.length) (fun i hi => ?_) ?_)]
  · unfold namedI firstI
    cases (List.range a.fCells.length).find? (fun i => std.seq (gd a.fCells i).fName s) <;> rfl
  · simp only [L_slices_IndexFunc_Limpl_Cell_impl_Cell_mbFimpl_named_1p_x2, letO_eq]
    rw [ltl_f, br_f]
  · simp only [L_slices_IndexFunc_Limpl_Cell_impl_Cell_mbFimpl_named_1p_x2, letO_eq, s_toNn, F_impl_named_1_mbp]
    rw [ltl_t hi, br_t, req_of (inRl hi), Option.bind_some, inc_nat (by omega)]
    cases std.seq (gd a.fCells i).fName s <;> rfl
/-- no cell ahead of k has its name -/
noncomputable def fresh (l : List TCell) (k : Nat) : Bool := (List.range k).all fun j => !std.seq (gd l j).fName (gd l k).fName
theorem find_first (p : Nat → Bool) (n k : Nat) (hk : k < n) (hp : p k = true) : (List.range n).find? p = some k ↔ (List.range k).all (fun j => !p j) = true := by
  rw [List.all_eq_true, List.find?_eq_some_iff_append]
  constructor
  · rintro ⟨h1, l1, l2, h2, h3⟩ j hj
    apply h3
    have hlen : l1.length = k := by
      have h4 : (List.range n)[l1.length]? = some k := by rw [h2]; simp
      have hlt : l1.length < n := by
        have := (List.getElem?_eq_some_iff.1 h4).1
        simpa using this
      rw [List.getElem?_range hlt] at h4
      injection h4
    have h5 : l1 = List.range k := by
      have := congrArg (List.take l1.length) h2
      rw [List.take_left', List.take_range] at this
      · rw [← this, hlen]; congr 1; omega
      · rfl
    rw [h5]; exact hj
  · intro h
    refine ⟨hp, List.range k, List.range' (k + 1) (n - (k + 1)), ?_, fun j hj => h j hj⟩
    rw [List.range_eq_range', List.range_eq_range', show n = k + (1 + (n - (k + 1))) by omega, ← List.range'_append_1, Nat.add_comm 1, List.range'_succ]
    simp
    omega
theorem named_first (l : List TCell) (k : Nat) (hk : k < l.length) : std.eq (namedI l (gd l k).fName) (k : Int) = fresh l k := by
  rw [s_eq, Bool.eq_iff_iff]
  unfold fresh
  rw [← find_first (fun i => std.seq (gd l i).fName (gd l k).fName) l.length k hk (seq_self _)]
  unfold namedI firstI
  cases h : (List.range l.length).find? (fun i => std.seq (gd l i).fName (gd l k).fName) with
  | none => simp
  | some i => simp; omega
noncomputable def okLib (a : TLibrary) : Bool := decide (1 ≤ a.fCells.length) && (decide (a.fCells.length ≤ 8) && (List.range a.fCells.length).all fun k => okCell (gd a.fCells k) k && fresh a.fCells k)
theorem lt_one (n : Nat) : std.lt (std.ofN n) 1 = !decide (1 ≤ n) := by
  rw [s_lt, s_ofN]
  by_cases h : 1 ≤ n
  · have : ¬ ((n : Int) < 1) := by omega
    simp [h, this]
  · have : ((n : Int) < 1) := by omega
    simp [h, this]
theorem spec_IsValidLibrary_ok (a : TLibrary) (h : SmallL a) : F_spec_IsValidLibrary a = some (okLib a) := by
  have hl := h.cells
  have e8 := lt_lit a.fCells.length 8
  unfold F_spec_IsValidLibrary okLib
  simp only [letO_eq, len_eq, show (8 : Int) = ((8 : Nat) : Int) from rfl, e8, lt_one]
  cases decide (1 ≤ a.fCells.length) with
  | false => rfl
  | true =>
    cases decide (a.fCells.length ≤ 8) with
    | false => rfl
    | true =>
      simp only [Bool.not_true, br_f, Option.bind_some, Bool.true_and]
      rw [bind_of (scan (ok := fun k => okCell (gd a.fCells k) k && fresh a.fCells k) (n := a.fCells.length) (yes := .inr ()) (no := .inl false) (fun i hi => ?_) ?_)]
      · cases (List.range a.fCells.length).all fun k => okCell (gd a.fCells k) k && fresh a.fCells k <;> rfl
      · simp only [L_spec_IsValidLibrary_x10, letO_eq]
        rw [ltl_f, br_f]
      · simp only [L_spec_IsValidLibrary_x10, letO_eq, s_toNn]
        rw [ltl_t hi, br_t, req_of (inRl hi), spec_l09Cell_ok _ _ (h.cell _ (gd_mem hi)), Option.bind_some, inc_nat (by omega)]
        cases okCell (gd a.fCells i) (i : Int) with
        | false => rfl
        | true =>
          simp only [Bool.not_true, br_f, Bool.true_and]
          rw [bind_of (scan (ok := fun j => !std.seq (gd a.fCells j).fName (gd a.fCells i).fName) (n := i) (yes := .inr ()) (no := .inl false) (fun j hj => ?_) ?_)]
          · unfold fresh
            cases (List.range i).all fun j => !std.seq (gd a.fCells j).fName (gd a.fCells i).fName <;> rfl
          · simp only [L_spec_IsValidLibrary_x26, letO_eq]
            rw [lt_false (by omega), br_f]
          · simp only [L_spec_IsValidLibrary_x26, letO_eq, s_toNn]
            rw [lt_true (by omega), br_t, req_of (inRl (by omega)), req_of (inRl hi), inc_nat (by omega)]
            cases std.seq (gd a.fCells j).fName (gd a.fCells i).fName <;> rfl
theorem impl_IsValidLibrary_ok (a : TLibrary) (h : SmallL a) : F_impl_IsValidLibrary a = some (okLib a) := by
  have hl := h.cells
  have e8 := lt_lit a.fCells.length 8
  unfold F_impl_IsValidLibrary okLib
  simp only [letO_eq, len_eq, show (8 : Int) = ((8 : Nat) : Int) from rfl, e8, lt_one]
  cases decide (1 ≤ a.fCells.length) with
  | false => rfl
  | true =>
    cases decide (a.fCells.length ≤ 8) with
    | false => rfl
    | true =>
      simp only [Bool.not_true, br_f, Option.bind_some, Bool.true_and]
      rw [bind_of (scan (ok := fun k => okCell (gd a.fCells k) k && fresh a.fCells k) (n := a.fCells.length) (yes := .inr ()) (no := .inl false) (fun i hi => ?_) ?_)]
      · cases (List.range a.fCells.length).all fun k => okCell (gd a.fCells k) k && fresh a.fCells k <;> rfl
      · simp only [L_impl_IsValidLibrary_x10, letO_eq]
        rw [ltl_f, br_f]
      · simp only [L_impl_IsValidLibrary_x10, letO_eq, s_toNn]
        rw [ltl_t hi, br_t, req_of (inRl hi), impl_validCell_ok _ _ (h.cell _ (gd_mem hi)), Option.bind_some, inc_nat (by omega)]
        cases okCell (gd a.fCells i) (i : Int) with
        | false => rfl
        | true =>
          simp only [Bool.not_true, br_f, Bool.true_and]
          rw [impl_named_ok _ _ (show a.fCells.length ≤ 10000000 by omega), Option.bind_some, named_first _ _ hi]
          cases fresh a.fCells i <;> rfl

theorem spec_l13Byte_ok (x : Int) : F_spec_l13Byte x = some (ofL (oneB x)) := rfl
theorem spec_l13Two_ok (x : Int) : F_spec_l13Two x = some (ofL (twoR x)) := by
  unfold F_spec_l13Two
  rw [req_of (by rw [s_nneg]; omega)]; rfl
theorem spec_l13Coordinate_ok (x : Int) : F_spec_l13Coordinate x = some (ofL (twoB x)) := by
  unfold F_spec_l13Coordinate
  rw [spec_l13Two_ok]; rfl
noncomputable def shapeB (a : TShape) : List Int := oneB a.fLayer ++ [a.fBox.fX0, a.fBox.fY0, a.fBox.fX1, a.fBox.fY1].flatMap twoB
noncomputable def nameB (s : ByteArray) : List Int := oneB (std.ofN (std.slen s)) ++ strL s
noncomputable def labelB (a : TLabel) : List Int := (oneB a.fLayer ++ [a.fAt.fX, a.fAt.fY].flatMap twoB) ++ nameB a.fName
noncomputable def placeB (a : TInstance) : List Int := (oneB a.fPlace.fOrientation ++ [a.fPlace.fX, a.fPlace.fY].flatMap twoB) ++ (oneB a.fColumns ++ oneB a.fRows) ++ [a.fStepX, a.fStepY].flatMap twoB
noncomputable def instB (a : TInstance) : List Int := oneB a.fCell ++ placeB a
theorem spec_l13ShapeBytes_ok (a : TShape) : F_spec_l13ShapeBytes a = some (ofL (shapeB a)) := by
  unfold F_spec_l13ShapeBytes shapeB
  simp only [spec_l13Byte_ok, spec_l13Coordinate_ok, Option.bind_some, ofL_app, ofL_len]
  repeat rw [req_of (room1 (by simp only [List.length_append, two_len, one_len]; omega))]
  simp
theorem spec_l13Name_ok (s : ByteArray) (h : s.size ≤ 1000) : F_spec_l13Name s = some (ofL (nameB s)) := by
  unfold F_spec_l13Name nameB
  simp only [spec_l13Byte_ok, Option.bind_some, scat_str, ofL_len]
  rw [req_of (room1 (by simp only [one_len]; show 1 + s.size ≤ _; omega))]
theorem spec_l13LabelBytes_ok (a : TLabel) (h : a.fName.size ≤ 1000) : F_spec_l13LabelBytes a = some (ofL (labelB a)) := by
  unfold F_spec_l13LabelBytes labelB
  have hn : (nameB a.fName).length ≤ 1001 := by unfold nameB; rw [List.length_append, one_len, strL_length]; omega
  simp only [spec_l13Byte_ok, spec_l13Coordinate_ok, spec_l13Name_ok _ h, Option.bind_some, ofL_app, ofL_len]
  repeat rw [req_of (room1 (by simp only [List.length_append, two_len, one_len]; omega))]
  simp
theorem spec_l13InstanceBytes_ok (a : TInstance) : F_spec_l13InstanceBytes a = some (ofL (instB a)) := by
  unfold F_spec_l13InstanceBytes instB placeB
  simp only [spec_l13Byte_ok, spec_l13Coordinate_ok, Option.bind_some, ofL_app, ofL_len]
  repeat rw [req_of (room1 (by simp only [List.length_append, two_len, one_len]; omega))]
  simp
theorem impl_two_ok (l : List Int) (x : Int) (h : l.length ≤ 10000000) : F_impl_two_mob l x = some (l ++ twoR x) := by
  unfold F_impl_two_mob
  rw [req_of (by rw [s_nneg]; omega)]
  simp only [letO_eq]
  rw [req_of (room1 (by simp [len_eq]; omega))]; rfl
theorem impl_coordinates_ok (l vs : List Int) (hv : vs.length ≤ 1000) (hl : l.length ≤ 10000) : F_impl_coordinates_mob l vs = some (l ++ vs.flatMap twoB) := by
  unfold F_impl_coordinates_mob
  refine Eq.trans (bind_of (while_from (r := l ++ vs.flatMap twoB) (fun i : Nat => ((i : Int), l ++ (vs.take i).flatMap twoB)) vs.length (by simp) (fun i hi => ?_) ?_)) rfl
  · have h1 := flat_two (vs.take i)
    rw [List.length_take] at h1
    simp only [L_impl_coordinates_mob_x3, letO_eq, s_toNn]
    rw [ltl_t hi, br_t, req_of (inRl hi), impl_two_ok _ _ (by rw [List.length_append]; omega), Option.bind_some, inc_nat (by omega), gd_lt hi, List.take_succ_eq_append_getElem hi, List.flatMap_append, ← List.append_assoc]
    simp [twoB]
  · simp only [L_impl_coordinates_mob_x3, letO_eq]
    rw [ltl_f, br_f, List.take_length]
theorem impl_nameBytes_ok (l : List Int) (s : ByteArray) (h : l.length ≤ 100000) (hs : s.size ≤ 1000) : F_impl_nameBytes_mob l s = some (l ++ nameB s) := by
  unfold F_impl_nameBytes_mob nameB
  simp only [letO_eq]
  rw [req_of (room1 (by simp [len_eq]; omega)), req_of (room1 (by simp [len_eq]; show l.length + 1 + s.size ≤ _; omega))]
  simp [oneB]
theorem impl_placeBytes_ok (l : List Int) (a : TInstance) (h : l.length ≤ 1000) : F_impl_placeBytes_mob l a = some (l ++ placeB a) := by
  unfold F_impl_placeBytes_mob placeB
  simp only [letO_eq]
  rw [req_of (room1 (by simp [len_eq]; omega)), impl_coordinates_ok _ _ (by simp) (by simp; omega)]
  simp only [Option.bind_some]
  rw [req_of (room1 (by simp [len_eq, two_len]; omega)), impl_coordinates_ok _ _ (by simp) (by simp [two_len]; omega)]
  simp [oneB]
theorem nameB_len (s : ByteArray) : (nameB s).length = s.size + 1 := by unfold nameB; rw [List.length_append, one_len, strL_length]; omega
theorem shapeB_len (a : TShape) : (shapeB a).length = 9 := by unfold shapeB; rw [List.length_append, one_len, flat_two]; rfl
theorem labelB_len (a : TLabel) : (labelB a).length = a.fName.size + 6 := by unfold labelB; rw [List.length_append, List.length_append, one_len, flat_two, nameB_len]; simp only [List.length_cons, List.length_nil]; omega
theorem placeB_len (a : TInstance) : (placeB a).length = 11 := by
  unfold placeB
  simp only [List.length_append, one_len, flat_two, List.length_cons, List.length_nil]
theorem spec_Checksum16_ex (s : ByteArray) (h : s.size ≤ 1000000000) : ∃ c, F_spec_Checksum16 s = some c ∧ 0 ≤ c ∧ c < 65521 := by
  obtain ⟨r, h1, h2⟩ := while_ex (step := L_spec_Checksum16_x3 s) (x0 := (1, 0)) (fun x => ∃ i : Nat, x.2 = (i : Int) ∧ i ≤ s.size ∧ 0 ≤ x.1 ∧ x.1 < 65521) (fun r => 0 ≤ r ∧ r < 65521) (fun x => s.size + 1 - x.2.toNat) ⟨0, rfl, by omega, by omega, by omega⟩ (by
    rintro ⟨c, _⟩ ⟨i, rfl, h1, h2, h3⟩
    simp only at h2 h3
    by_cases hi : i < s.size
    · left
      have hs : 0 ≤ std.sat s i ∧ std.sat s i ≤ 255 := by
        show 0 ≤ (((s[i]?.getD 0).toNat : Nat) : Int) ∧ (((s[i]?.getD 0).toNat : Nat) : Int) ≤ 255
        have := (s[i]?.getD 0).toNat_lt
        omega
      have e1 : std.conv .i64 (std.sat s i) = std.sat s i := wrap_id (by omega) (by omega)
      have e2 : std.mul .i64 31 c = 31 * c := mul_id (by omega) (by omega)
      simp only [L_spec_Checksum16_x3, letO_eq, s_toNn, e1, e2]
      rw [lt_true (by rw [s_ofN, s_slen]; omega), br_t, req_of (show std.inR (i : Int) (std.slen s) from inRn hi), req_of (by rw [s_nz]; decide), inc_nat (by omega), add_id (x := 31 * c) (by omega) (by omega), add_id (by omega) (by omega)]
      have e3 : std.rem (31 * c + std.sat s i + 1) 65521 = (31 * c + std.sat s i + 1) % 65521 := Int.tmod_eq_emod_of_nonneg (by omega)
      rw [e3]
      refine ⟨_, rfl, ⟨i + 1, rfl, by omega, ?_, ?_⟩, ?_⟩
      · simp only; omega
      · simp only; omega
      · simp only [Int.toNat_natCast]; omega
    · right
      refine ⟨c, ?_, h2, h3⟩
      simp only [L_spec_Checksum16_x3, letO_eq]
      rw [lt_false (by rw [s_ofN, s_slen]; omega), br_f])
  refine ⟨r, ?_, h2⟩
  unfold F_spec_Checksum16
  rw [bind_of h1]; rfl
noncomputable def ck (s : ByteArray) : Int := (F_spec_Checksum16 s).getD 0
theorem spec_Checksum16_ok (s : ByteArray) (h : s.size ≤ 1000000000) : F_spec_Checksum16 s = some (ck s) := by
  obtain ⟨c, hc, _⟩ := spec_Checksum16_ex s h
  unfold ck; rw [hc]; rfl
theorem impl_Checksum16_ok (s : ByteArray) (h : s.size ≤ 1000000000) : F_impl_Checksum16 s = some (ck s) := spec_Checksum16_ok s h
theorem impl_two_nil (l : List Int) (x : Int) : F_impl_two_mnb l x = some (twoR x) := by
  unfold F_impl_two_mnb
  rw [req_of (by rw [s_nneg]; omega)]
  simp only [letO_eq]
  rw [req_of (room1 (by simp [len_eq]))]; rfl
theorem impl_nameBytes_nil (l : List Int) (s : ByteArray) (hs : s.size ≤ 1000) : F_impl_nameBytes_mnb l s = some (nameB s) := by
  unfold F_impl_nameBytes_mnb nameB
  simp only [letO_eq]
  rw [req_of (room1 (by simp [len_eq])), req_of (room1 (by simp [len_eq]; show 1 + s.size ≤ _; omega))]
  simp [oneB]
theorem impl_shapeBytes_nil (l : List Int) (a : TShape) : F_impl_shapeBytes_mnb l a = some (shapeB a) := by
  unfold F_impl_shapeBytes_mnb shapeB
  simp only [letO_eq]
  rw [req_of (room1 (by simp [len_eq])), impl_coordinates_ok _ _ (by simp) (by simp)]
  simp [oneB]
theorem impl_labelBytes_nil (l : List Int) (a : TLabel) (hs : a.fName.size ≤ 1000) : F_impl_labelBytes_mnb l a = some (labelB a) := by
  unfold F_impl_labelBytes_mnb labelB
  simp only [letO_eq]
  rw [req_of (room1 (by simp [len_eq])), impl_coordinates_ok _ _ (by simp) (by simp)]
  simp only [Option.bind_some]
  rw [impl_nameBytes_ok _ _ (by simp [two_len]) hs]
  simp [oneB]
/-- a record -/
noncomputable def headR (k : Int) (s : ByteArray) : ByteArray := std.scat (std.scat (ofL (twoR (std.add .i64 (std.ofN (std.slen s)) 5))) (ofL (oneB k))) s
noncomputable def recB (k : Int) (s : ByteArray) : ByteArray := std.scat (headR k s) (ofL (twoR (ck (headR k s))))
theorem headR_size (k : Int) (s : ByteArray) : (headR k s).size = s.size + 3 := by
  unfold headR
  rw [scat_size, scat_size, ofL_size, ofL_size, twoR_len, one_len]; omega
theorem recB_size (k : Int) (s : ByteArray) : (recB k s).size = s.size + 5 := by
  unfold recB
  rw [scat_size, headR_size, ofL_size, twoR_len]
theorem spec_l14Record_ok (k : Int) (s : ByteArray) (h : s.size ≤ 100000000) : F_spec_l14Record k s = some (recB k s) := by
  have h1 : (headR k s).size ≤ 1000000000 := by rw [headR_size]; omega
  unfold F_spec_l14Record
  simp only [spec_l13Two_ok, spec_l13Byte_ok, Option.bind_some]
  rw [req_of (room1 (by simp only [s_slen, ofL_size, twoR_len, one_len]; omega)), req_of (room1 (by simp only [s_slen, scat_size, ofL_size, twoR_len, one_len]; omega))]
  have e : std.scat (std.scat (ofL (twoR (std.add .i64 (std.ofN (std.slen s)) 5))) (ofL (oneB k))) s = headR k s := rfl
  rw [e, spec_Checksum16_ok _ h1]
  simp only [Option.bind_some]
  rw [req_of (room1 (by simp only [s_slen, ofL_size, twoR_len, headR_size]; omega))]
  rfl
theorem impl_StreamRecord_ok (k : Int) (s : ByteArray) (hk : 1 ≤ k ∧ k ≤ 7) (h : s.size ≤ 200) : F_impl_StreamRecord k s = some (recB k s) := by
  have h1 : (headR k s).size ≤ 1000000000 := by rw [headR_size]; omega
  have e0 : wB k 1 7 = true := by unfold wB; rw [le_true hk.1, le_true hk.2]; rfl
  unfold F_impl_StreamRecord
  simp only [impl_within_ok, e0, Option.bind_some, Bool.not_true, br_f, letO_eq]
  rw [lt_false (by rw [s_ofN, s_slen]; omega), br_f, impl_two_nil, Option.bind_some]
  have hl : ∀ x, (twoR x ++ [std.conv .u8 k]).length = 3 := fun x => rfl
  rw [req_of (room1 (by rw [len_eq, len_eq, twoR_len]; simp)), req_of (room1 (by rw [len_eq, hl, s_slen]; omega))]
  have e : std.ofBytes (len ((twoR (std.add .i64 (std.ofN (std.slen s)) 5) ++ [std.conv .u8 k]) ++ strL s)) (fun i => gd ((twoR (std.add .i64 (std.ofN (std.slen s)) 5) ++ [std.conv .u8 k]) ++ strL s) (0 + i)) = headR k s := by
    show ofL _ = _
    rw [ofL_cat, ← ofL_app]; rfl
  rw [e, impl_Checksum16_ok _ h1, Option.bind_some, impl_two_ok _ _ (by rw [List.length_append, hl, strL_length]; omega), Option.bind_some]
  congr 1
  show ofL _ = _
  rw [← ofL_app, ofL_cat, ← ofL_app]; rfl
theorem isName_size {s : ByteArray} (h : isName s = true) : s.size ≤ 8 := by
  unfold isName at h
  simp only [Bool.and_eq_true, decide_eq_true_eq] at h
  exact h.2.2
theorem wB_iff' (a b c : Int) : wB a b c = true ↔ b ≤ a ∧ a ≤ c := by
  unfold wB
  rw [s_le, s_le, Bool.and_eq_true, decide_eq_true_eq, decide_eq_true_eq]
/-- what a valid cell is like -/
structure GoodC (c : TCell) (k : Int) (n : Nat) : Prop where
  name : c.fName.size ≤ 8
  shapes : c.fShapes.length ≤ 24
  labels : c.fLabels.length ≤ 8
  insts : c.fInstances.length ≤ 8
  lname : ∀ l ∈ c.fLabels, l.fName.size ≤ 8
  cell : ∀ i ∈ c.fInstances, 0 ≤ i.fCell ∧ i.fCell < k
theorem okLib_cell {a : TLibrary} (h : okLib a = true) {k : Nat} (hk : k < a.fCells.length) : okCell (gd a.fCells k) k = true := by
  unfold okLib at h
  simp only [Bool.and_eq_true, decide_eq_true_eq, List.all_eq_true, List.mem_range] at h
  exact (h.2.2 k hk).1
theorem okLib_le {a : TLibrary} (h : okLib a = true) : 1 ≤ a.fCells.length ∧ a.fCells.length ≤ 8 := by
  unfold okLib at h
  simp only [Bool.and_eq_true, decide_eq_true_eq] at h
  exact ⟨h.1, h.2.1⟩
theorem good_of {a : TLibrary} (h : okLib a = true) {k : Nat} (hk : k < a.fCells.length) : GoodC (gd a.fCells k) k a.fCells.length := by
  have h1 := okLib_cell h hk
  have h2 := (okLib_le h).2
  unfold okCell at h1
  simp only [Bool.and_eq_true, decide_eq_true_eq, List.all_eq_true] at h1
  obtain ⟨g1, g2, g3, g4, g5, g6, g7⟩ := h1
  refine ⟨isName_size g1, g2, g3, g4, fun l hl => ?_, fun i hi => ?_⟩
  · have := g6 l hl
    unfold okLabel at this
    simp only [Bool.and_eq_true] at this
    exact isName_size this.2.2
  · have := g7 i hi
    unfold okInst at this
    rw [Bool.and_eq_true, wB_iff', sub_id (by omega) (by omega)] at this
    omega
/-- the records of a cell -/
noncomputable def shapeR (c : TCell) (i : Nat) : ByteArray := recB 3 (ofL (shapeB (gd c.fShapes i)))
noncomputable def labelR (c : TCell) (i : Nat) : ByteArray := recB 4 (ofL (labelB (gd c.fLabels i)))
noncomputable def instR (a : TLibrary) (c : TCell) (i : Nat) : ByteArray := recB 5 (ofL (nameB (gd a.fCells (std.toN (gd c.fInstances i).fCell)).fName ++ placeB (gd c.fInstances i)))
noncomputable def endR (c : TCell) : ByteArray := recB 6 (ofL [std.conv .u8 (std.ofN (len c.fShapes)), std.conv .u8 (std.ofN (len c.fLabels)), std.conv .u8 (std.ofN (len c.fInstances))])
noncomputable def cellR (a : TLibrary) (c : TCell) : ByteArray :=
  std.scat (catN (catN (catN (recB 2 (ofL (nameB c.fName))) (shapeR c) c.fShapes.length) (labelR c) c.fLabels.length) (instR a c) c.fInstances.length) (endR c)
section
variable {a : TLibrary} {k : Nat} (h : okLib a = true) (hk : k < a.fCells.length)
theorem shapeR_le (c : TCell) (i : Nat) : (shapeR c i).size ≤ 14 := by unfold shapeR; rw [recB_size, ofL_size, shapeB_len]; omega
include h hk in
theorem labelR_le (i : Nat) (hi : i < (gd a.fCells k).fLabels.length) : (labelR (gd a.fCells k) i).size ≤ 19 := by
  have := (good_of h hk).lname _ (gd_mem hi)
  unfold labelR; rw [recB_size, ofL_size, labelB_len]; omega
include h hk in
theorem inst_in (i : Nat) (hi : i < (gd a.fCells k).fInstances.length) : std.inR (gd (gd a.fCells k).fInstances i).fCell (len a.fCells) ∧ (gd a.fCells (std.toN (gd (gd a.fCells k).fInstances i).fCell)).fName.size ≤ 8 := by
  have h1 := (good_of h hk).cell _ (gd_mem hi)
  refine ⟨⟨h1.1, by rw [len_eq]; omega⟩, ?_⟩
  exact (good_of h (k := std.toN (gd (gd a.fCells k).fInstances i).fCell) (by rw [s_toN]; omega)).name
include h hk in
theorem instR_le (i : Nat) (hi : i < (gd a.fCells k).fInstances.length) : (instR a (gd a.fCells k) i).size ≤ 25 := by
  have := (inst_in h hk i hi).2
  unfold instR; rw [recB_size, ofL_size, List.length_append, nameB_len, placeB_len]; omega
include h hk in
theorem spec_l14Cell_ok : F_spec_l14Cell a (k : Int) = some (cellR a (gd a.fCells k)) := by
  have hg := good_of h hk
  have n0 : (recB 2 (ofL (nameB (gd a.fCells k).fName))).size ≤ 14 := by rw [recB_size, ofL_size, nameB_len]; have := hg.name; omega
  have g1 := hg.shapes; have g2 := hg.labels; have g3 := hg.insts
  have n1 := catN_size (recB 2 (ofL (nameB (gd a.fCells k).fName))) (shapeR (gd a.fCells k)) 14 (gd a.fCells k).fShapes.length fun i _ => shapeR_le _ i
  have m1 : (gd a.fCells k).fShapes.length * 14 ≤ 24 * 14 := Nat.mul_le_mul_right _ g1
  have n2 := catN_size (catN (recB 2 (ofL (nameB (gd a.fCells k).fName))) (shapeR (gd a.fCells k)) (gd a.fCells k).fShapes.length) (labelR (gd a.fCells k)) 19 (gd a.fCells k).fLabels.length fun i hi => labelR_le h hk i hi
  have m2 : (gd a.fCells k).fLabels.length * 19 ≤ 8 * 19 := Nat.mul_le_mul_right _ g2
  have n3 := catN_size (catN (catN (recB 2 (ofL (nameB (gd a.fCells k).fName))) (shapeR (gd a.fCells k)) (gd a.fCells k).fShapes.length) (labelR (gd a.fCells k)) (gd a.fCells k).fLabels.length) (instR a (gd a.fCells k)) 25 (gd a.fCells k).fInstances.length fun i hi => instR_le h hk i hi
  have m3 : (gd a.fCells k).fInstances.length * 25 ≤ 8 * 25 := Nat.mul_le_mul_right _ g3
  unfold F_spec_l14Cell
  rw [req_of (inRl hk), s_toNn, spec_l13Name_ok _ (by have := hg.name; omega), Option.bind_some, spec_l14Record_ok _ _ (by rw [ofL_size, nameB_len]; have := hg.name; omega), Option.bind_some]
  rw [bind_of (while_cat (st := L_spec_l14Cell_x8 a k) (recB 2 (ofL (nameB (gd a.fCells k).fName))) (shapeR (gd a.fCells k)) 14 (gd a.fCells k).fShapes.length (fun i _ => shapeR_le _ i) (fun i hi v hv => by
    simp only [L_spec_l14Cell_x8, letO_eq, s_toNn]
    rw [ltl_t hi, br_t, req_of (inRl hi), spec_l13ShapeBytes_ok, Option.bind_some, spec_l14Record_ok _ _ (by rw [ofL_size, shapeB_len]; omega), Option.bind_some, req_of (room1 (by have := shapeR_le (gd a.fCells k) i; unfold shapeR at this; rw [s_slen, s_slen]; omega)), inc_nat (by omega)]
    rfl) (fun v => by
    simp only [L_spec_l14Cell_x8, letO_eq, s_toNn]
    rw [ltl_f, br_f]))]
  try simp only [letO_eq]
  rw [bind_of (while_cat (st := L_spec_l14Cell_x30 a k) _ (labelR (gd a.fCells k)) 19 (gd a.fCells k).fLabels.length (fun i hi => labelR_le h hk i hi) (fun i hi v hv => by
    have hn := hg.lname _ (gd_mem hi)
    simp only [L_spec_l14Cell_x30, letO_eq, s_toNn]
    rw [ltl_t hi, br_t, req_of (inRl hi), spec_l13LabelBytes_ok _ (by omega), Option.bind_some, spec_l14Record_ok _ _ (by rw [ofL_size, labelB_len]; omega), Option.bind_some, req_of (room1 (by have := labelR_le h hk i hi; unfold labelR at this; rw [s_slen, s_slen]; omega)), inc_nat (by omega)]
    rfl) (fun v => by
    simp only [L_spec_l14Cell_x30, letO_eq, s_toNn]
    rw [ltl_f, br_f]))]
  try simp only [letO_eq]
  rw [bind_of (while_cat (st := L_spec_l14Cell_x52 a k) _ (instR a (gd a.fCells k)) 25 (gd a.fCells k).fInstances.length (fun i hi => instR_le h hk i hi) (fun i hi v hv => by
    obtain ⟨hi1, hi2⟩ := inst_in h hk i hi
    simp only [L_spec_l14Cell_x52, letO_eq, s_toNn, F_spec_l14Instance]
    rw [ltl_t hi, br_t, req_of (inRl hi), req_of hi1, spec_l13Name_ok _ (by omega), Option.bind_some, spec_l13InstanceBytes_ok, Option.bind_some]
    have e1 : std.ssub (ofL (instB (gd (gd a.fCells k).fInstances i))) (std.toN 1) (std.slen (ofL (instB (gd (gd a.fCells k).fInstances i)))) = ofL (placeB (gd (gd a.fCells k).fInstances i)) := by
      unfold instB
      rw [← ofL_app]
      exact ssub_app (ofL (oneB _)) (ofL (placeB _))
    have e0 : std.upTo 1 (std.slen (ofL (instB (gd (gd a.fCells k).fInstances i)))) := ⟨by omega, by rw [ofL_len]; unfold instB; rw [List.length_append, one_len, placeB_len]; omega⟩
    rw [req_of e0, e1, req_of (room1 (by simp only [s_slen, ofL_size, nameB_len, placeB_len]; omega)), Option.bind_some, ofL_app, spec_l14Record_ok _ _ (by rw [ofL_size, List.length_append, nameB_len, placeB_len]; omega), Option.bind_some, req_of (room1 (by have := instR_le h hk i hi; unfold instR at this; rw [s_slen, s_slen]; omega)), inc_nat (by omega)]
    rfl) (fun v => by
    simp only [L_spec_l14Cell_x52, letO_eq, s_toNn]
    rw [ltl_f, br_f]))]
  simp only [letO_eq, spec_l13Byte_ok, Option.bind_some, ofL_app]
  rw [req_of (room1 (by simp only [s_slen, ofL_size, one_len]; omega)), req_of (room1 (by simp only [s_slen, ofL_size, List.length_append, one_len]; omega)), spec_l14Record_ok _ _ (by simp only [ofL_size, List.length_append, one_len]; omega), Option.bind_some, req_of (room1 (by simp only [s_slen, recB_size, ofL_size, List.length_append, one_len]; omega))]
  rfl
include h hk in
theorem impl_cellRecords_ok : F_impl_cellRecords a (gd a.fCells k) = some (cellR a (gd a.fCells k)) := by
  have hg := good_of h hk
  have n0 : (recB 2 (ofL (nameB (gd a.fCells k).fName))).size ≤ 14 := by rw [recB_size, ofL_size, nameB_len]; have := hg.name; omega
  have g1 := hg.shapes; have g2 := hg.labels; have g3 := hg.insts
  have n1 := catN_size (recB 2 (ofL (nameB (gd a.fCells k).fName))) (shapeR (gd a.fCells k)) 14 (gd a.fCells k).fShapes.length fun i _ => shapeR_le _ i
  have m1 : (gd a.fCells k).fShapes.length * 14 ≤ 24 * 14 := Nat.mul_le_mul_right _ g1
  have n2 := catN_size (catN (recB 2 (ofL (nameB (gd a.fCells k).fName))) (shapeR (gd a.fCells k)) (gd a.fCells k).fShapes.length) (labelR (gd a.fCells k)) 19 (gd a.fCells k).fLabels.length fun i hi => labelR_le h hk i hi
  have m2 : (gd a.fCells k).fLabels.length * 19 ≤ 8 * 19 := Nat.mul_le_mul_right _ g2
  have n3 := catN_size (catN (catN (recB 2 (ofL (nameB (gd a.fCells k).fName))) (shapeR (gd a.fCells k)) (gd a.fCells k).fShapes.length) (labelR (gd a.fCells k)) (gd a.fCells k).fLabels.length) (instR a (gd a.fCells k)) 25 (gd a.fCells k).fInstances.length fun i hi => instR_le h hk i hi
  have m3 : (gd a.fCells k).fInstances.length * 25 ≤ 8 * 25 := Nat.mul_le_mul_right _ g3
  have eL : ∀ l : List Int, std.ofBytes (len l) (fun i => gd l (0 + i)) = ofL l := fun _ => rfl
  unfold F_impl_cellRecords
  simp only [eL]
  rw [impl_nameBytes_nil _ _ (by have := hg.name; omega), Option.bind_some, impl_StreamRecord_ok _ _ (by omega) (by rw [ofL_size, nameB_len]; have := hg.name; omega), Option.bind_some]
  rw [bind_of (while_cat (st := L_impl_cellRecords_x7 (gd a.fCells k)) (recB 2 (ofL (nameB (gd a.fCells k).fName))) (shapeR (gd a.fCells k)) 14 (gd a.fCells k).fShapes.length (fun i _ => shapeR_le _ i) (fun i hi v hv => by
    simp only [L_impl_cellRecords_x7, letO_eq, s_toNn, eL]
    rw [ltl_t hi, br_t, req_of (inRl hi), impl_shapeBytes_nil, Option.bind_some, impl_StreamRecord_ok _ _ (by omega) (by rw [ofL_size, shapeB_len]; omega), Option.bind_some, req_of (room1 (by have := shapeR_le (gd a.fCells k) i; unfold shapeR at this; rw [s_slen, s_slen]; omega)), inc_nat (by omega)]
    rfl) (fun v => by
    simp only [L_impl_cellRecords_x7, letO_eq]
    rw [ltl_f, br_f]))]
  try simp only [letO_eq]
  rw [bind_of (while_cat (st := L_impl_cellRecords_x29 (gd a.fCells k)) _ (labelR (gd a.fCells k)) 19 (gd a.fCells k).fLabels.length (fun i hi => labelR_le h hk i hi) (fun i hi v hv => by
    have hn := hg.lname _ (gd_mem hi)
    simp only [L_impl_cellRecords_x29, letO_eq, s_toNn, eL]
    rw [ltl_t hi, br_t, req_of (inRl hi), impl_labelBytes_nil _ _ (by omega), Option.bind_some, impl_StreamRecord_ok _ _ (by omega) (by rw [ofL_size, labelB_len]; omega), Option.bind_some, req_of (room1 (by have := labelR_le h hk i hi; unfold labelR at this; rw [s_slen, s_slen]; omega)), inc_nat (by omega)]
    rfl) (fun v => by
    simp only [L_impl_cellRecords_x29, letO_eq]
    rw [ltl_f, br_f]))]
  try simp only [letO_eq]
  rw [bind_of (while_cat (st := L_impl_cellRecords_x51 a (gd a.fCells k)) _ (instR a (gd a.fCells k)) 25 (gd a.fCells k).fInstances.length (fun i hi => instR_le h hk i hi) (fun i hi v hv => by
    obtain ⟨hi1, hi2⟩ := inst_in h hk i hi
    simp only [L_impl_cellRecords_x51, letO_eq, s_toNn, eL]
    rw [ltl_t hi, br_t, req_of (inRl hi), req_of hi1, impl_nameBytes_nil _ _ (by omega), Option.bind_some, impl_placeBytes_ok _ _ (by rw [nameB_len]; omega), Option.bind_some, impl_StreamRecord_ok _ _ (by omega) (by rw [ofL_size, List.length_append, nameB_len, placeB_len]; omega), Option.bind_some, req_of (room1 (by have := instR_le h hk i hi; unfold instR at this; rw [s_slen, s_slen]; omega)), inc_nat (by omega)]
    rfl) (fun v => by
    simp only [L_impl_cellRecords_x51, letO_eq]
    rw [ltl_f, br_f]))]
  try simp only [letO_eq]
  rw [impl_StreamRecord_ok _ _ (by omega) (by rw [ofL_size]; simp), Option.bind_some, req_of (room1 (by simp only [s_slen, recB_size, ofL_size, List.length_cons, List.length_nil]; omega))]
  rfl
include h hk in
theorem cellR_le : (cellR a (gd a.fCells k)).size ≤ 1000 := by
  have hg := good_of h hk
  have n0 : (recB 2 (ofL (nameB (gd a.fCells k).fName))).size ≤ 14 := by rw [recB_size, ofL_size, nameB_len]; have := hg.name; omega
  have n1 := catN_size (recB 2 (ofL (nameB (gd a.fCells k).fName))) (shapeR (gd a.fCells k)) 14 (gd a.fCells k).fShapes.length fun i _ => shapeR_le _ i
  have m1 : (gd a.fCells k).fShapes.length * 14 ≤ 24 * 14 := Nat.mul_le_mul_right _ hg.shapes
  have n2 := catN_size (catN (recB 2 (ofL (nameB (gd a.fCells k).fName))) (shapeR (gd a.fCells k)) (gd a.fCells k).fShapes.length) (labelR (gd a.fCells k)) 19 (gd a.fCells k).fLabels.length fun i hi => labelR_le h hk i hi
  have m2 : (gd a.fCells k).fLabels.length * 19 ≤ 8 * 19 := Nat.mul_le_mul_right _ hg.labels
  have n3 := catN_size (catN (catN (recB 2 (ofL (nameB (gd a.fCells k).fName))) (shapeR (gd a.fCells k)) (gd a.fCells k).fShapes.length) (labelR (gd a.fCells k)) (gd a.fCells k).fLabels.length) (instR a (gd a.fCells k)) 25 (gd a.fCells k).fInstances.length fun i hi => instR_le h hk i hi
  have m3 : (gd a.fCells k).fInstances.length * 25 ≤ 8 * 25 := Nat.mul_le_mul_right _ hg.insts
  unfold cellR endR
  rw [scat_size, recB_size, ofL_size]
  simp only [List.length_cons, List.length_nil]
  omega
end
/-- a library's stream -/
noncomputable def libR (a : TLibrary) : ByteArray :=
  let s := catN (recB 1 (ofL [1, std.conv .u8 (std.ofN (len a.fCells))])) (fun k => cellR a (gd a.fCells k)) a.fCells.length
  std.scat s (recB 7 (ofL (twoR (ck s))))
theorem spec_LibraryStream_ok (a : TLibrary) (h : SmallL a) : F_spec_LibraryStream a = some (if okLib a then libR a else ByteArray.mk #[]) := by
  unfold F_spec_LibraryStream
  rw [spec_IsValidLibrary_ok _ h, Option.bind_some]
  cases hb : okLib a with
  | false => rfl
  | true =>
    have hl := okLib_le hb
    have e1 : oneB 1 = [1] := rfl
    have n1 := catN_size (recB 1 (ofL [1, std.conv .u8 (std.ofN (len a.fCells))])) (fun k => cellR a (gd a.fCells k)) 1000 a.fCells.length fun k hk => cellR_le hb hk
    have m1 : a.fCells.length * 1000 ≤ 8 * 1000 := Nat.mul_le_mul_right _ hl.2
    have n0 : (recB 1 (ofL [1, std.conv .u8 (std.ofN (len a.fCells))])).size = 7 := by rw [recB_size, ofL_size]; rfl
    simp only [Bool.not_true, br_f, if_true, spec_l13Byte_ok, Option.bind_some]
    rw [req_of (room1 (by simp only [s_slen, ofL_size, one_len]; omega)), ofL_app, e1]
    rw [show [1] ++ oneB (std.ofN (len a.fCells)) = [1, std.conv .u8 (std.ofN (len a.fCells))] from rfl, spec_l14Record_ok _ _ (by rw [ofL_size]; simp), Option.bind_some]
    rw [bind_of (while_cat (st := L_spec_LibraryStream_x12 a) _ (fun k => cellR a (gd a.fCells k)) 1000 a.fCells.length (fun k hk => cellR_le hb hk) (fun i hi v hv => by
      have := cellR_le hb hi
      simp only [L_spec_LibraryStream_x12, letO_eq]
      rw [ltl_t hi, br_t, spec_l14Cell_ok hb hi, Option.bind_some, req_of (room1 (by rw [s_slen, s_slen]; omega)), inc_nat (by omega)]) (fun v => by
      simp only [L_spec_LibraryStream_x12, letO_eq]
      rw [ltl_f, br_f]))]
    simp only [letO_eq]
    rw [spec_Checksum16_ok _ (by omega), Option.bind_some, spec_l13Two_ok, Option.bind_some, spec_l14Record_ok _ _ (by rw [ofL_size, twoR_len]; omega), Option.bind_some, req_of (room1 (by simp only [s_slen, recB_size, ofL_size, twoR_len]; omega))]
    rfl
theorem impl_LibraryStream_ok (a : TLibrary) (h : SmallL a) : F_impl_LibraryStream a = some (if okLib a then libR a else ByteArray.mk #[]) := by
  unfold F_impl_LibraryStream
  rw [impl_IsValidLibrary_ok _ h, Option.bind_some]
  cases hb : okLib a with
  | false => rfl
  | true =>
    have hl := okLib_le hb
    have eL : ∀ l : List Int, std.ofBytes (len l) (fun i => gd l (0 + i)) = ofL l := fun _ => rfl
    have n1 := catN_size (recB 1 (ofL [1, std.conv .u8 (std.ofN (len a.fCells))])) (fun k => cellR a (gd a.fCells k)) 1000 a.fCells.length fun k hk => cellR_le hb hk
    have m1 : a.fCells.length * 1000 ≤ 8 * 1000 := Nat.mul_le_mul_right _ hl.2
    have n0 : (recB 1 (ofL [1, std.conv .u8 (std.ofN (len a.fCells))])).size = 7 := by rw [recB_size, ofL_size]; rfl
    simp only [Bool.not_true, br_f, if_true, letO_eq, eL]
    rw [impl_StreamRecord_ok _ _ (by omega) (by rw [ofL_size]; simp), Option.bind_some]
    rw [bind_of (while_cat (st := L_impl_LibraryStream_x9 a) _ (fun k => cellR a (gd a.fCells k)) 1000 a.fCells.length (fun k hk => cellR_le hb hk) (fun i hi v hv => by
      have := cellR_le hb hi
      simp only [L_impl_LibraryStream_x9, letO_eq, s_toNn]
      rw [ltl_t hi, br_t, req_of (inRl hi), impl_cellRecords_ok hb hi, Option.bind_some, req_of (room1 (by rw [s_slen, s_slen]; omega)), inc_nat (by omega)]) (fun v => by
      simp only [L_impl_LibraryStream_x9, letO_eq]
      rw [ltl_f, br_f]))]
    rw [impl_Checksum16_ok _ (by omega), Option.bind_some, impl_two_nil, Option.bind_some, impl_StreamRecord_ok _ _ (by omega) (by rw [ofL_size, twoR_len]; omega), Option.bind_some, req_of (room1 (by simp only [s_slen, recB_size, ofL_size, twoR_len]; omega))]
    rfl
/- bytes of joined strings -/
theorem sat_get {a : ByteArray} {i : Nat} (h : i < a.size) : std.sat a i = ((a[i].toNat : Nat) : Int) := by
  show ((((a[i]?.getD 0).toNat : Nat)) : Int) = _
  rw [getElem?_pos a i h]; rfl
theorem sat_left {a b : ByteArray} {i : Nat} (h : i < a.size) : std.sat (std.scat a b) i = std.sat a i := by
  have h2 : i < (a ++ b).size := by rw [ByteArray.size_append]; omega
  rw [sat_get h]
  show std.sat (a ++ b) i = _
  rw [sat_get h2, ByteArray.getElem_append_left h]
theorem sat_right {a b : ByteArray} {i : Nat} (h : a.size ≤ i) (h1 : i < a.size + b.size) : std.sat (std.scat a b) i = std.sat b (i - a.size) := by
  have h2 : i < (a ++ b).size := by rw [ByteArray.size_append]; omega
  have h3 : i - a.size < b.size := by omega
  rw [sat_get h3]
  show std.sat (a ++ b) i = _
  rw [sat_get h2, ByteArray.getElem_append_right h]
theorem conv8 (x : Int) : 0 ≤ std.conv .u8 x ∧ std.conv .u8 x ≤ 255 := by
  show 0 ≤ IntKind.u8.wrap x ∧ IntKind.u8.wrap x ≤ 255
  simp only [IntKind.wrap, IntKind.signed, IntKind.bits]
  simp
  omega
theorem conv8_eq (x : Int) : std.conv .u8 x = x % 256 := by
  show IntKind.u8.wrap x = x % 256
  simp only [IntKind.wrap, IntKind.signed, IntKind.bits]
  simp
theorem shr8 (x : Int) : std.shr .i64 x 8 = x / 256 := by
  show Int.fdiv x (2 ^ min (8 : Int).toNat 64) = x / 256
  rw [Int.fdiv_eq_ediv_of_nonneg]
  · rfl
  · decide
theorem shl8 {x : Int} (h : 0 ≤ x ∧ x ≤ 1000000) : std.shl .i64 x 8 = x * 256 := by
  show IntKind.i64.wrap (x * 2 ^ min (8 : Int).toNat 64) = x * 256
  rw [show (2 : Int) ^ min (8 : Int).toNat 64 = 256 from rfl]
  exact wrap_id (by omega) (by omega)
theorem ssub_tail {a b : ByteArray} : std.ssub (std.scat a b) a.size (std.slen (std.scat a b)) = b := ssub_app a b
theorem ssub_head {a b : ByteArray} : std.ssub (std.scat a b) 0 a.size = a := by
  show (a ++ b).extract 0 a.size = a
  exact ByteArray.extract_append_eq_left rfl
theorem ssub_mid {a b c : ByteArray} {i j : Nat} (hi : i = a.size) (hj : j = a.size + b.size) : std.ssub (std.scat (std.scat a b) c) i j = b := by
  show ((a ++ b) ++ c).extract i j = b
  subst hi; subst hj
  rw [ByteArray.append_assoc]
  exact (ByteArray.extract_append_size_add (a := a) (b := b ++ c) (i := 0) (j := b.size)).trans (ByteArray.extract_append_eq_left rfl)
/- a record is split off -/
theorem ofL_sat {l : List Int} {i : Nat} (h : i < l.length) (hb : 0 ≤ gd l i ∧ gd l i ≤ 255) : std.sat (ofL l) i = gd l i := by
  have hs : i < (ofL l).size := by rw [ofL_size]; exact h
  rw [sat_get hs]
  have e : (ofL l)[i] = UInt8.ofNat (gd l i).toNat := by
    show ((((List.range (len l)).map fun i => UInt8.ofNat (gd l (0 + i)).toNat).toArray))[i]'_ = _
    simp
  rw [e]
  simp
  omega
theorem twoR_sat {x : Int} (h : 0 ≤ x ∧ x < 65536) : std.sat (ofL (twoR x)) 0 = x / 256 ∧ std.sat (ofL (twoR x)) 1 = x % 256 := by
  have g0 : gd (twoR x) 0 = std.conv .u8 (std.shr .i64 x 8) := rfl
  have g1 : gd (twoR x) 1 = std.conv .u8 x := rfl
  have c0 := conv8 (std.shr .i64 x 8)
  have c1 := conv8 x
  constructor
  · rw [ofL_sat (by rw [twoR_len]; omega) (by rw [g0]; exact c0), g0, conv8_eq, shr8]; omega
  · rw [ofL_sat (by rw [twoR_len]; omega) (by rw [g1]; exact c1), g1, conv8_eq]
theorem recB_sat0 (k : Int) (p post : ByteArray) {i : Nat} (hi : i < 2) : std.sat (std.scat (recB k p) post) i = std.sat (ofL (twoR (std.add .i64 (std.ofN (std.slen p)) 5))) i := by
  have h1 := recB_size k p
  have h2 := headR_size k p
  rw [sat_left (by omega)]
  unfold recB
  rw [sat_left (by omega)]
  unfold headR
  rw [sat_left (by rw [scat_size, ofL_size, ofL_size, twoR_len, one_len]; omega), sat_left (by rw [ofL_size, twoR_len]; omega)]
theorem recB_sat2 (k : Int) (p post : ByteArray) (hk : 1 ≤ k ∧ k ≤ 7) : std.sat (std.scat (recB k p) post) 2 = k := by
  have h1 := recB_size k p
  have h2 := headR_size k p
  rw [sat_left (by omega)]
  unfold recB
  rw [sat_left (by omega)]
  unfold headR
  rw [sat_left (by rw [scat_size, ofL_size, ofL_size, twoR_len, one_len]; omega), sat_right (by rw [ofL_size, twoR_len]; omega) (by rw [ofL_size, ofL_size, twoR_len, one_len]; omega), ofL_size, twoR_len]
  have g : gd (oneB k) 0 = k := by
    show std.conv .u8 k = k
    rw [conv8_eq]; omega
  rw [ofL_sat (by rw [one_len]; omega) (by rw [show (2 - 2) = 0 from rfl, g]; omega)]
  exact g
theorem recB_satc (k : Int) (p post : ByteArray) {i : Nat} (hi : i < 2) : std.sat (std.scat (recB k p) post) (p.size + 3 + i) = std.sat (ofL (twoR (ck (headR k p)))) i := by
  have h1 := recB_size k p
  have h2 := headR_size k p
  rw [sat_left (by omega)]
  unfold recB
  rw [sat_right (by omega) (by rw [ofL_size, twoR_len]; omega), h2]
  congr 1; omega
theorem recB_head (k : Int) (p post : ByteArray) : std.ssub (std.scat (recB k p) post) 0 (p.size + 3) = headR k p := by
  rw [← headR_size k p]
  show ((headR k p ++ _) ++ post).extract 0 (headR k p).size = headR k p
  rw [ByteArray.append_assoc]
  exact ByteArray.extract_append_eq_left rfl
theorem recB_body (k : Int) (p post : ByteArray) : std.ssub (std.scat (recB k p) post) 3 (p.size + 3) = p := by
  show ((((ofL (twoR (std.add .i64 (std.ofN (std.slen p)) 5)) ++ ofL (oneB k)) ++ p) ++ _) ++ post).extract 3 (p.size + 3) = p
  have hs : (ofL (twoR (std.add .i64 (std.ofN (std.slen p)) 5)) ++ ofL (oneB k)).size = 3 := by rw [ByteArray.size_append, ofL_size, ofL_size, twoR_len, one_len]
  rw [ByteArray.append_assoc]
  exact ssub_mid (a := ofL (twoR (std.add .i64 (std.ofN (std.slen p)) 5)) ++ ofL (oneB k)) (b := p) hs.symm (by rw [hs]; omega)
theorem ck_rng (s : ByteArray) (h : s.size ≤ 1000000000) : 0 ≤ ck s ∧ ck s < 65536 := by
  obtain ⟨c, h1, h2, h3⟩ := spec_Checksum16_ex s h
  unfold ck
  rw [h1]
  exact ⟨h2, by show c < 65536; omega⟩
theorem conv64 {x : Int} (h : -1000000000 ≤ x ∧ x ≤ 1000000000) : std.conv .i64 x = x := wrap_id (by omega) (by omega)
theorem num2 {a b : Int} (ha : 0 ≤ a ∧ a ≤ 1000) (hb : 0 ≤ b ∧ b ≤ 1000) : std.add .i64 (std.shl .i64 (std.conv .i64 a) 8) (std.conv .i64 b) = a * 256 + b := by
  rw [conv64 (by omega), conv64 (by omega), shl8 (by omega), add_id (by omega) (by omega)]
set_option maxHeartbeats 1000000 in
theorem split_ok (pre p post : ByteArray) (k : Int) (hk : 1 ≤ k ∧ k ≤ 7) (hp : p.size ≤ 200) (hs : pre.size + post.size ≤ 1000000) :
    F_impl_SplitRecord (std.scat pre (std.scat (recB k p) post)) (pre.size : Int) = some (k, p, ((pre.size + (p.size + 5) : Nat) : Int), 0) := by
  obtain ⟨X, hX⟩ : ∃ X, X = std.scat (recB k p) post := ⟨_, rfl⟩
  have hXs : X.size = p.size + 5 + post.size := by rw [hX, scat_size, recB_size]
  have er : std.ssub (std.scat pre (std.scat (recB k p) post)) (std.toN (pre.size : Int)) (std.slen (std.scat pre (std.scat (recB k p) post))) = X := by rw [s_toNn, hX]; exact ssub_tail
  have hsz : std.slen (std.scat pre (std.scat (recB k p) post)) = pre.size + X.size := by rw [s_slen, scat_size, hX]
  have hL : std.add .i64 (std.ofN (std.slen p)) 5 = ((p.size + 5 : Nat) : Int) := by rw [s_ofN, s_slen, add_id (by omega) (by omega)]; omega
  have t1 := twoR_sat (x := ((p.size + 5 : Nat) : Int)) (by omega)
  have b0 : std.sat X (std.toN 0) = ((p.size + 5 : Nat) : Int) / 256 := by rw [hX, show std.toN 0 = 0 from rfl, recB_sat0 k p post (by omega), hL]; exact t1.1
  have b1 : std.sat X (std.toN 1) = ((p.size + 5 : Nat) : Int) % 256 := by rw [hX, show std.toN 1 = 1 from rfl, recB_sat0 k p post (by omega), hL]; exact t1.2
  have eN : std.add .i64 (std.shl .i64 (std.conv .i64 (std.sat X (std.toN 0))) 8) (std.conv .i64 (std.sat X (std.toN 1))) = ((p.size + 5 : Nat) : Int) := by
    rw [b0, b1, num2 (by omega) (by omega)]; omega
  have m2 : std.sub .i64 ((p.size + 5 : Nat) : Int) 2 = ((p.size + 3 : Nat) : Int) := by rw [sub_id (by omega) (by omega)]; omega
  have m1 : std.sub .i64 ((p.size + 5 : Nat) : Int) 1 = ((p.size + 4 : Nat) : Int) := by rw [sub_id (by omega) (by omega)]; omega
  have hh : (headR k p).size ≤ 1000000000 := by rw [headR_size]; omega
  have hck := ck_rng (headR k p) hh
  have t2 := twoR_sat hck
  have c0 : std.sat X (p.size + 3) = ck (headR k p) / 256 := by rw [hX]; exact (recB_satc k p post (i := 0) (by omega)).trans t2.1
  have c1 : std.sat X (p.size + 4) = ck (headR k p) % 256 := by rw [hX]; exact (recB_satc k p post (i := 1) (by omega)).trans t2.2
  have hb2 : std.sat X (std.toN 2) = k := by rw [hX]; exact recB_sat2 k p post hk
  have hbody : std.ssub X (std.toN 3) (p.size + 3) = p := by rw [hX]; exact recB_body k p post
  have hhead : std.ssub X 0 (p.size + 3) = headR k p := by rw [hX]; exact recB_head k p post
  have w1 : wB (pre.size : Int) 0 (std.ofN (std.slen (std.scat pre (std.scat (recB k p) post)))) = true := by
    unfold wB; rw [hsz, le_true (by omega), le_true (by rw [s_ofN]; omega)]; rfl
  have w2 : wB k 1 7 = true := by unfold wB; rw [le_true hk.1, le_true hk.2]; rfl
  unfold F_impl_SplitRecord
  rw [impl_within_ok, w1, Option.bind_some, Bool.not_true, br_f, req_of ⟨by omega, by rw [hsz]; omega⟩]
  simp only [er, eN]
  simp only [m2, m1, s_toNn, c0, c1, hb2, hbody, hhead, impl_within_ok, w2, letO_eq, Option.bind_some, Bool.not_true, br_f, conv64 (show -1000000000 ≤ k ∧ k ≤ 1000000000 by omega)]
  rw [lt_false (by rw [s_ofN, s_slen]; omega), br_f, req_of ⟨by omega, by rw [s_slen]; omega⟩, req_of (by show (0 : Int) ≤ 8; omega), req_of ⟨by omega, by rw [s_slen]; omega⟩, lt_false (by omega), br_f, lt_false (by rw [s_ofN, s_slen]; omega), br_f,
    req_of ⟨by omega, by rw [s_slen]; omega⟩, req_of (by show (0 : Int) ≤ 8; omega), req_of ⟨by omega, by rw [s_slen]; omega⟩, req_of ⟨by omega, by rw [s_slen]; omega⟩, req_of ⟨by omega, by rw [s_slen]; omega⟩, req_of ⟨by omega, by omega⟩, req_of ⟨by omega, by rw [s_slen]; omega⟩,
    impl_Checksum16_ok _ hh, Option.bind_some, num2 (by omega) (by omega), eq_true' (by omega)]
  rw [s_not, Bool.not_true, br_f, lt_false (by rw [s_ofN, s_slen]; omega), br_f, add_id (by omega) (by omega)]
  congr 1
/- records are counted -/
noncomputable def catR : List (Int × ByteArray) → ByteArray
  | [] => ByteArray.mk #[]
  | (k, p) :: r => std.scat (recB k p) (catR r)
def OKr (r : List (Int × ByteArray)) : Prop := ∀ x ∈ r, (1 ≤ x.1 ∧ x.1 ≤ 7) ∧ x.2.size ≤ 200
def bump (l : List Int) (x : Int × ByteArray) : List Int := l.set (x.1 - 1).toNat (gd l (x.1 - 1).toNat + 1)
/- the records of a library's stream, and how many -/
theorem catR_app : ∀ (r s : List (Int × ByteArray)), catR (r ++ s) = std.scat (catR r) (catR s)
  | [], s => by
    show catR s = ByteArray.mk #[] ++ catR s
    exact ByteArray.empty_append.symm
  | (k, p) :: r, s => by
    rw [List.cons_append, catR, catR, catR_app r s, scat_assoc]
theorem catR_one (k : Int) (p : ByteArray) : catR [(k, p)] = recB k p := by
  show recB k p ++ ByteArray.mk #[] = recB k p
  exact ByteArray.append_empty
theorem catN_catR (r : List (Int × ByteArray)) (f : Nat → ByteArray) (h : Nat → List (Int × ByteArray)) (hf : ∀ i, f i = catR (h i)) : ∀ n, catN (catR r) f n = catR (r ++ (List.range n).flatMap h)
  | 0 => by simp [catN]
  | n + 1 => by
    rw [catN, catN_catR r f h hf n, hf, ← catR_app, List.range_succ, List.flatMap_append, List.append_assoc]
    simp
noncomputable def recsC (a : TLibrary) (c : TCell) : List (Int × ByteArray) :=
  ([(2, ofL (nameB c.fName))] ++ (List.range c.fShapes.length).flatMap (fun i => [(3, ofL (shapeB (gd c.fShapes i)))]) ++ (List.range c.fLabels.length).flatMap (fun i => [(4, ofL (labelB (gd c.fLabels i)))]) ++
    (List.range c.fInstances.length).flatMap (fun i => [(5, ofL (nameB (gd a.fCells (std.toN (gd c.fInstances i).fCell)).fName ++ placeB (gd c.fInstances i)))])) ++ [(6, ofL [std.conv .u8 (std.ofN (len c.fShapes)), std.conv .u8 (std.ofN (len c.fLabels)), std.conv .u8 (std.ofN (len c.fInstances))])]
theorem cellR_catR (a : TLibrary) (c : TCell) : cellR a c = catR (recsC a c) := by
  unfold cellR recsC endR
  rw [← catR_one 2, catN_catR _ (shapeR c) (fun i => [(3, ofL (shapeB (gd c.fShapes i)))]) (fun i => (catR_one 3 _).symm), catN_catR _ (labelR c) (fun i => [(4, ofL (labelB (gd c.fLabels i)))]) (fun i => (catR_one 4 _).symm), catN_catR _ (instR a c) (fun i => [(5, ofL (nameB (gd a.fCells (std.toN (gd c.fInstances i).fCell)).fName ++ placeB (gd c.fInstances i)))]) (fun i => (catR_one 5 _).symm), ← catR_one 6, ← catR_app]
noncomputable def recs0 (a : TLibrary) : List (Int × ByteArray) := [(1, ofL [1, std.conv .u8 (std.ofN (len a.fCells))])] ++ (List.range a.fCells.length).flatMap fun k => recsC a (gd a.fCells k)
noncomputable def recs (a : TLibrary) : List (Int × ByteArray) := recs0 a ++ [(7, ofL (twoR (ck (catR (recs0 a)))))]
theorem libR_catR (a : TLibrary) : libR a = catR (recs a) := by
  unfold libR recs
  have e : catN (recB 1 (ofL [1, std.conv .u8 (std.ofN (len a.fCells))])) (fun k => cellR a (gd a.fCells k)) a.fCells.length = catR (recs0 a) := by
    unfold recs0
    rw [← catR_one 1, catN_catR _ _ _ (fun i => cellR_catR a _)]
  simp only [e]
  rw [← catR_one 7, ← catR_app]
theorem OKr_app {r s : List (Int × ByteArray)} (h : OKr r) (g : OKr s) : OKr (r ++ s) := fun x hx => by
  rcases List.mem_append.1 hx with hx | hx
  · exact h x hx
  · exact g x hx
theorem OKr_fm {n : Nat} {h : Nat → List (Int × ByteArray)} (g : ∀ i, i < n → OKr (h i)) : OKr ((List.range n).flatMap h) := fun x hx => by
  obtain ⟨i, hi, hx⟩ := List.mem_flatMap.1 hx
  exact g i (List.mem_range.1 hi) x hx
theorem OKr_one {k : Int} {p : ByteArray} (hk : 1 ≤ k ∧ k ≤ 7) (hp : p.size ≤ 200) : OKr [(k, p)] := fun x hx => by
  rw [List.mem_singleton] at hx
  rw [hx]; exact ⟨hk, hp⟩
theorem recs_ok {a : TLibrary} (h : okLib a = true) : OKr (recs a) := by
  unfold recs recs0
  refine OKr_app (OKr_app (OKr_one (by omega) (by rw [ofL_size]; simp)) (OKr_fm fun k hk => ?_)) (OKr_one (by omega) (by rw [ofL_size, twoR_len]; omega))
  have hg := good_of h hk
  unfold recsC
  refine OKr_app (OKr_app (OKr_app (OKr_app (OKr_one (by omega) ?_) (OKr_fm fun i hi => OKr_one (by omega) ?_)) (OKr_fm fun i hi => OKr_one (by omega) ?_)) (OKr_fm fun i hi => OKr_one (by omega) ?_)) (OKr_one (by omega) ?_)
  · rw [ofL_size, nameB_len]; have := hg.name; omega
  · rw [ofL_size, shapeB_len]; omega
  · rw [ofL_size, labelB_len]; have := hg.lname _ (gd_mem hi); omega
  · rw [ofL_size, List.length_append, nameB_len, placeB_len]; have := (inst_in h hk i hi).2; omega
  · rw [ofL_size]; simp
noncomputable def cntC (c : TCell) (k : Int) : Nat := (if (2 : Int) = k then 1 else 0) + (if (3 : Int) = k then c.fShapes.length else 0) + (if (4 : Int) = k then c.fLabels.length else 0) + (if (5 : Int) = k then c.fInstances.length else 0) + (if (6 : Int) = k then 1 else 0)
def sumF (f : Nat → Nat) : Nat → Nat
  | 0 => 0
  | n + 1 => sumF f n + f n
/- what is drawn: it is drawn, and it is small -/
def Tot {α : Type} (x : Option α) (Q : α → Prop) : Prop := ∃ r, x = some r ∧ Q r
theorem Tot.ret {α : Type} {r : α} {Q : α → Prop} (h : Q r) : Tot (some r) Q := ⟨r, rfl, h⟩
theorem Tot.bind {α β : Type} {x : Option α} {f : α → Option β} {P : α → Prop} {Q : β → Prop} (h : Tot x P) (g : ∀ r, P r → Tot (f r) Q) : Tot (x.bind f) Q := by
  obtain ⟨r, h1, h2⟩ := h
  rw [h1]
  exact g r h2
theorem Tot.req {α : Type} {p : Prop} {k : Option α} {Q : α → Prop} (h : p) (g : Tot k Q) : Tot (Go.Proofs.Ytnpcpbkbenphaaa.AM.req p k) Q := by rw [req_of h]; exact g
theorem Tot.br {α : Type} {b : Bool} {x y : Option α} {Q : α → Prop} (h1 : b = true → Tot x Q) (h2 : b = false → Tot y Q) : Tot (Go.Proofs.Ytnpcpbkbenphaaa.AM.br b x y) Q := by
  cases b with
  | true => exact h1 rfl
  | false => exact h2 rfl
theorem Tot.letO {α β : Type} {e : α} {f : α → Option β} {Q : β → Prop} (h : Tot (f e) Q) : Tot (Go.Proofs.Ytnpcpbkbenphaaa.AM.letO e f) Q := h
theorem Tot.mono {α : Type} {x : Option α} {P Q : α → Prop} (h : Tot x P) (g : ∀ r, P r → Q r) : Tot x Q := by
  obtain ⟨r, h1, h2⟩ := h
  exact ⟨r, h1, g r h2⟩
theorem Tot.whileP {σ ρ : Type} {step : σ → Option (σ ⊕ ρ)} {x0 : σ} {Post : ρ → Prop} (Inv : σ → Prop) (μ : σ → Nat) (h0 : Inv x0)
    (h : ∀ x, Inv x → Tot (step x) fun r => match r with | .inl x' => Inv x' ∧ μ x' < μ x | .inr r => Post r) : Tot (Go.Proofs.Ytnpcpbkbenphaaa.AM.whileP step x0) Post := by
  refine while_ex Inv Post μ h0 fun x hx => ?_
  obtain ⟨r, h1, h2⟩ := h x hx
  cases r with
  | inl x' => exact .inl ⟨x', h1, h2.1, h2.2⟩
  | inr r => exact .inr ⟨r, h1, h2⟩
def OKc (c : List Int) : Prop := c.length ≤ 5000 ∧ ∀ b ∈ c, 0 ≤ b ∧ b ≤ 255
structure OKs (s : Tl01Source) : Prop where
  code : OKc s.gcode
  at0 : 0 ≤ s.gat
  at1 : s.gat ≤ 5000
  seed0 : 0 ≤ s.gseed
  seed1 : s.gseed < 2147483647
theorem lt_dec {x y : Int} (h : std.lt x y = true) : x < y := of_decide_eq_true h
theorem lt_decf {x y : Int} (h : std.lt x y = false) : y ≤ x := by
  have := of_decide_eq_false (show decide (x < y) = false from h); omega
theorem le_decf {x y : Int} (h : std.le x y = false) : y < x := by
  have := of_decide_eq_false (show decide (x ≤ y) = false from h); omega
theorem remB {x m : Int} (hx : 0 ≤ x) (hm : 0 < m) : 0 ≤ std.rem x m ∧ std.rem x m < m := by
  show 0 ≤ Int.tmod x m ∧ Int.tmod x m < m
  rw [Int.tmod_eq_emod_of_nonneg hx]
  exact ⟨Int.emod_nonneg _ (by omega), Int.emod_lt_of_pos _ hm⟩
theorem quoB {x m : Int} (hx : 0 ≤ x) (hx2 : x < 4611686018427387904) (hm : 0 < m) : 0 ≤ std.quo .i64 x m := by
  show 0 ≤ IntKind.i64.wrap (Int.tdiv x m)
  have h1 : Int.tdiv x m = x / m := Int.tdiv_eq_ediv_of_nonneg hx
  have h2 : 0 ≤ x / m := Int.ediv_nonneg hx (by omega)
  have h3 : x / m ≤ x := Int.ediv_le_self _ hx
  rw [h1, wrap_id (by omega) (by omega)]
  exact h2
theorem conv_id {x : Int} (h : 0 ≤ x ∧ x ≤ 255) : std.conv .i64 x = x := wrap_id (by omega) (by omega)
theorem gd_byte {c : List Int} (h : OKc c) {i : Int} (h0 : 0 ≤ i) (h1 : i < (c.length : Int)) : 0 ≤ gd c (std.toN i) ∧ gd c (std.toN i) ≤ 255 := by
  obtain ⟨n, rfl⟩ := Int.eq_ofNat_of_zero_le h0
  rw [s_toNn]
  exact h.2 _ (gd_mem (by omega))
theorem mulS {x y : Int} (h : -9223372036854775808 ≤ x * y) (g : x * y < 9223372036854775808) : std.mul .i64 x y = x * y := wrap_id h g
/-- the next number -/
theorem next_ok {s : Tl01Source} (hs : OKs s) {n : Int} (hn : n ≤ 1000000) : Tot (F_spec_l01Next_mPbb s n) fun r => OKs r.2 ∧ 0 ≤ r.1 ∧ (r.1 < n ∨ r.1 = 0) := by
  obtain ⟨hc, h0, h1, s0, s1⟩ := hs
  unfold F_spec_l01Next_mPbb
  have hm : std.mul .i64 s.gseed 48271 = s.gseed * 48271 := mulS (by omega) (by omega)
  refine Tot.br (fun h => Tot.ret ⟨⟨hc, h0, h1, s0, s1⟩, Int.le_refl _, .inr rfl⟩) fun h => ?_
  have hn1 := le_decf h
  have hnz : std.nz n := by show n ≠ 0; omega
  refine Tot.br (fun h => ?_) fun h => ?_
  · have hlt := lt_dec h
    rw [s_ofN, len_eq] at hlt
    obtain ⟨b0, b1⟩ := gd_byte hc h0 hlt
    have hl := hc.1
    have ha : std.add .i64 s.gat 1 = s.gat + 1 := add_id (by omega) (by omega)
    refine Tot.req ⟨h0, by rw [len_eq]; exact hlt⟩ (Tot.br (fun _ => ?_) fun _ => ?_)
    · rw [hm, conv_id ⟨b0, b1⟩, add_id (x := s.gseed * 48271) (by omega) (by omega), add_id (by omega) (by omega), ha]
      obtain ⟨r0, r1⟩ := remB (x := s.gseed * 48271 + gd s.gcode (std.toN s.gat) + 1) (m := 2147483647) (by omega) (by omega)
      obtain ⟨q0, q1⟩ := remB (m := n) r0 (by omega)
      exact Tot.req (by show (2147483647 : Int) ≠ 0; omega) (Tot.req hnz (Tot.ret ⟨⟨hc, by show 0 ≤ s.gat + 1; omega, by show s.gat + 1 ≤ 5000; omega, r0, r1⟩, q0, .inl q1⟩))
    · rw [conv_id ⟨b0, b1⟩, ha]
      obtain ⟨q0, q1⟩ := remB (m := n) b0 (by omega)
      exact Tot.req hnz (Tot.ret ⟨⟨hc, by show 0 ≤ s.gat + 1; omega, by show s.gat + 1 ≤ 5000; omega, s0, s1⟩, q0, .inl q1⟩)
  · rw [hm, add_id (by omega) (by omega)]
    obtain ⟨r0, r1⟩ := remB (x := s.gseed * 48271 + 11) (m := 2147483647) (by omega) (by omega)
    have q := quoB (m := 7) r0 (by omega) (by omega)
    obtain ⟨q0, q1⟩ := remB (m := n) q (by omega)
    exact Tot.req (by show (2147483647 : Int) ≠ 0; omega) (Tot.req (by show (7 : Int) ≠ 0; omega) (Tot.req hnz (Tot.ret ⟨⟨hc, h0, h1, r0, r1⟩, q0, .inl q1⟩)))
theorem from_ok {c : List Int} (hc : OKc c) : Tot (F_spec_l01From c) OKs := by
  unfold F_spec_l01From
  have hl := hc.1
  refine Tot.bind (P := fun v : Int => 0 ≤ v ∧ v < 2147483647) (Tot.whileP (fun x : Int × Int => 0 ≤ x.1 ∧ x.1 ≤ 64 ∧ 0 ≤ x.2 ∧ x.2 < 2147483647) (fun x => (64 - x.1).toNat) (by simp) fun x hx => ?_) fun v hv => Tot.ret ⟨hc, Int.le_refl _, by simp, hv.1, hv.2⟩
  obtain ⟨v1, v2⟩ := x
  obtain ⟨x0, x1, y0, y1⟩ := hx
  simp only at x0 x1 y0 y1
  unfold L_spec_l01From_x3
  simp only [letO_eq]
  refine Tot.bind (P := fun b => b = true → v1 < (c.length : Int) ∧ v1 < 64) (Tot.br (fun h => Tot.ret fun g => ?_) fun h => Tot.ret fun g => by cases g) fun b hb => Tot.br (fun h => ?_) fun h => ?_
  · have h1 := lt_dec h
    rw [s_ofN, len_eq] at h1
    exact ⟨h1, lt_dec g⟩
  · obtain ⟨h1, h2⟩ := hb h
    obtain ⟨b0, b1⟩ := gd_byte hc x0 h1
    have hm : std.mul .i64 v2 31 = v2 * 31 := mulS (by omega) (by omega)
    rw [hm, conv_id ⟨b0, b1⟩, add_id (x := v2 * 31) (by omega) (by omega), add_id (x := v1) (by omega) (by omega)]
    obtain ⟨r0, r1⟩ := remB (x := v2 * 31 + gd c (std.toN v1)) (m := 2147483647) (by omega) (by omega)
    exact Tot.req ⟨x0, by rw [len_eq]; exact h1⟩ (Tot.req (by show (2147483647 : Int) ≠ 0; omega) (Tot.ret ⟨⟨by show 0 ≤ v1 + 1; omega, by show v1 + 1 ≤ 64; omega, r0, r1⟩, by show (64 - (v1 + 1)).toNat < (64 - v1).toNat; omega⟩))
  · exact Tot.ret ⟨y0, y1⟩
/- draws of libraries -/
theorem ofBytes_size (n : Nat) (g : Nat → Int) : (std.ofBytes n g).size = n := by
  show (((List.range n).map fun i => UInt8.ofNat (g i).toNat).toArray).size = n
  simp
theorem roomS {n b : Nat} (hn : n ≤ 1000) (hb : b ≤ 1000) : std.room n b := by
  show n * b ≤ 35184372088832
  exact Nat.le_trans (Nat.mul_le_mul hn hb) (by omega)
theorem nextS {s : Tl01Source} (hs : OKs s) {n : Int} (hn : n ≤ 1000000) {β : Type} {f : Int × Tl01Source → Option β} {Q : β → Prop} (g : ∀ v s', OKs s' → 0 ≤ v → (v < n ∨ v = 0) → Tot (f (v, s')) Q) : Tot ((F_spec_l01Next_mPbb s n).bind f) Q :=
  Tot.bind (next_ok hs hn) fun r hr => g r.1 r.2 hr.1 hr.2.1 hr.2.2
theorem box_ok {s : Tl01Source} (hs : OKs s) : Tot (F_spec_l09DrawBox_mPb s) fun r => OKs r.2 := by
  unfold F_spec_l09DrawBox_mPb
  exact nextS hs (by omega) fun _ _ h _ _ => nextS h (by omega) fun _ _ h _ _ => nextS h (by omega) fun _ _ h _ _ => nextS h (by omega) fun _ _ h _ _ => Tot.ret h
theorem shape_ok {s : Tl01Source} (hs : OKs s) : Tot (F_spec_l09DrawShape_mPb s) fun r => OKs r.2 := by
  unfold F_spec_l09DrawShape_mPb
  exact nextS hs (by omega) fun _ _ h _ _ => Tot.bind (box_ok h) fun r hr => Tot.ret hr
theorem inst_ok {s : Tl01Source} (hs : OKs s) {n : Int} (hn : n ≤ 1000000) : Tot (F_spec_l09DrawInstance_mPbb s n) fun r => OKs r.2 := by
  unfold F_spec_l09DrawInstance_mPbb
  simp only [letO_eq]
  refine nextS hs hn fun _ _ h _ _ => nextS h (by omega) fun _ _ h _ _ => nextS h (by omega) fun _ _ h _ _ => nextS h (by omega) fun _ _ h _ _ => nextS h (by omega) fun _ _ h _ _ => ?_
  refine Tot.bind (P := fun y : List Int × Int × Int × Int × Int => OKs ⟨y.1, y.2.1, y.2.2.1⟩) (Tot.br (fun _ => nextS h (by omega) fun _ _ h _ _ => nextS h (by omega) fun _ _ h _ _ => Tot.ret h) fun _ => Tot.ret h) fun y hy => ?_
  refine nextS hy (by omega) fun _ _ h _ _ => ?_
  refine Tot.bind (P := fun y : List Int × Int × Int × Int × Int => OKs ⟨y.1, y.2.1, y.2.2.1⟩) (Tot.br (fun _ => nextS h (by omega) fun _ _ h _ _ => Tot.ret h) fun _ => Tot.ret h) fun y hy => ?_
  refine nextS hy (by omega) fun _ _ h _ _ => ?_
  exact Tot.bind (P := fun _ : Int => True) (Tot.br (fun _ => Tot.ret trivial) fun _ => Tot.ret trivial) fun _ _ => Tot.ret h
theorem name_ok {s : Tl01Source} (hs : OKs s) : Tot (F_spec_l09DrawName_mPb s) fun r => OKs r.2 ∧ r.1.size ≤ 3 := by
  unfold F_spec_l09DrawName_mPb
  simp only [letO_eq]
  refine nextS hs (by omega) fun v s' h h0 h1 => ?_
  refine Tot.bind (P := fun y : List Int × List Int × Int × Int => OKs ⟨y.2.1, y.2.2.1, y.2.2.2⟩ ∧ y.1.length ≤ 3) (Tot.whileP (fun x : Int × List Int × Int × Int × List Int => OKs ⟨x.2.1, x.2.2.1, x.2.2.2.1⟩ ∧ 0 ≤ x.1 ∧ (x.2.2.2.2.length : Int) + x.1 ≤ 3) (fun x => x.1.toNat) ?_ fun x hx => ?_) fun y hy => Tot.ret ⟨hy.1, by
      rw [ofBytes_size, len_eq]; exact hy.2⟩
  · have : std.add .i64 1 v = 1 + v := add_id (by omega) (by omega)
    refine ⟨h, ?_, ?_⟩
    · simp only [this]; omega
    · simp only [this, List.length_nil]; omega
  · obtain ⟨k, c, at', sd, l⟩ := x
    obtain ⟨g1, g2, g3⟩ := hx
    simp only at g1 g2 g3
    simp only [L_spec_l09DrawName_mPb_x10, letO_eq]
    refine Tot.br (fun hk => ?_) fun hk => Tot.ret ⟨g1, by simp only; omega⟩
    have hk' := lt_dec hk
    refine nextS g1 (by omega) fun w s2 g4 g5 g6 => ?_
    have hsz : (ByteArray.mk #[97, 98, 99, 100, 120, 121, 122, 48, 49, 57]).size = 10 := rfl
    refine Tot.req ⟨g5, by rw [s_slen, hsz]; omega⟩ (Tot.req (roomS (by rw [s_nadd, len_eq, len_eq, List.length_singleton]; omega) (by omega)) (Tot.ret ⟨⟨g4, ?_, ?_⟩, ?_⟩))
    · simp only [sub_id (x := k) (y := 1) (by omega) (by omega)]; omega
    · simp only [sub_id (x := k) (y := 1) (by omega) (by omega), List.length_append, List.length_singleton]; omega
    · simp only [sub_id (x := k) (y := 1) (by omega) (by omega)]; omega
theorem label_ok {s : Tl01Source} (hs : OKs s) : Tot (F_spec_l09DrawLabel_mPb s) fun r => OKs r.2 ∧ r.1.fName.size ≤ 3 := by
  unfold F_spec_l09DrawLabel_mPb
  exact nextS hs (by omega) fun _ _ h _ _ => nextS h (by omega) fun _ _ h _ _ => nextS h (by omega) fun _ _ h _ _ => Tot.bind (name_ok h) fun r hr => Tot.ret hr
/-- what a drawn cell is -/
structure CB (n : Nat) (c : TCell) : Prop where
  name : c.fName.size ≤ 100
  shapes : c.fShapes.length ≤ n
  labels : c.fLabels.length ≤ n
  insts : c.fInstances.length ≤ n
  lnames : ∀ l ∈ c.fLabels, l.fName.size ≤ 100
theorem CB.le {n m : Nat} {c : TCell} (h : CB n c) (hn : n ≤ m) : CB m c := ⟨h.name, Nat.le_trans h.shapes hn, Nat.le_trans h.labels hn, Nat.le_trans h.insts hn, h.lnames⟩
theorem sub1 {k : Int} (h : -1000000 ≤ k ∧ k ≤ 1000000) : std.sub .i64 k 1 = k - 1 := sub_id (by omega) (by omega)
theorem add1 {k : Int} (h : -1000000 ≤ k ∧ k ≤ 1000000) : std.add .i64 k 1 = k + 1 := add_id (by omega) (by omega)
theorem library_ok {s : Tl01Source} (hs : OKs s) : Tot (F_spec_l09DrawLibrary_mPb s) fun r => OKs r.2 ∧ 1 ≤ r.1.fCells.length ∧ r.1.fCells.length ≤ 4 ∧ ∀ c ∈ r.1.fCells, CB 4 c := by
  unfold F_spec_l09DrawLibrary_mPb
  simp only [letO_eq]
  refine nextS hs (by omega) fun v s' h h0 h1 => ?_
  refine Tot.bind (P := fun y : List Int × Int × Int × List TCell => OKs ⟨y.1, y.2.1, y.2.2.1⟩ ∧ 1 ≤ y.2.2.2.length ∧ y.2.2.2.length ≤ 4 ∧ ∀ c ∈ y.2.2.2, CB 4 c)
    (Tot.whileP (fun x : Int × List Int × Int × Int × List TCell => OKs ⟨x.2.1, x.2.2.1, x.2.2.2.1⟩ ∧ (x.2.2.2.2.length : Int) = x.1 ∧ x.1 ≤ 1 + v ∧ ∀ c ∈ x.2.2.2.2, CB 4 c) (fun x => (5 - x.1).toNat) ?_ fun x hx => ?_) fun y hy => Tot.ret hy
  · exact ⟨h, rfl, by show (0 : Int) ≤ 1 + v; omega, fun c hc => by cases hc⟩
  · obtain ⟨i, c, at', sd, l⟩ := x
    obtain ⟨g1, g2, g3, g4⟩ := hx
    simp only at g1 g2 g3 g4
    have e1 : std.add .i64 1 v = 1 + v := add_id (by omega) (by omega)
    simp only [L_spec_l09DrawLibrary_mPb_x8, letO_eq, e1]
    refine Tot.br (fun hk => ?_) fun hk => ?_
    · have hk' := lt_dec hk
      refine Tot.bind (name_ok g1) fun r hr => ?_
      refine Tot.req (roomS (by rw [s_nadd, s_slen, s_slen, ofBytes_size, len_eq, List.length_singleton]; omega) (by omega)) ?_
      refine nextS hr.1 (by omega) fun v2 s2 k1 k2 k3 => ?_
      -- shapes
      refine Tot.bind (P := fun y : List Int × Int × Int × List TShape => OKs ⟨y.1, y.2.1, y.2.2.1⟩ ∧ y.2.2.2.length ≤ 4) (Tot.whileP (fun x : Int × List Int × Int × Int × List TShape => OKs ⟨x.2.1, x.2.2.1, x.2.2.2.1⟩ ∧ 0 ≤ x.1 ∧ (x.2.2.2.2.length : Int) + x.1 ≤ 4) (fun x => x.1.toNat) ⟨k1, k2, by simp only [List.length_nil]; omega⟩ fun x hx => ?_) fun y1 p1 => ?_
      · obtain ⟨k, c, at', sd, l⟩ := x
        obtain ⟨q1, q2, q3⟩ := hx
        simp only at q1 q2 q3
        simp only [L_spec_l09DrawLibrary_mPb_x32, letO_eq]
        refine Tot.br (fun hk => ?_) fun hk => Tot.ret ⟨q1, by simp only; omega⟩
        have hk' := lt_dec hk
        refine Tot.bind (shape_ok q1) fun r hr => Tot.req (roomS (by rw [s_nadd, len_eq, len_eq, List.length_singleton]; omega) (by omega)) (Tot.ret ?_)
        rw [sub1 (by omega)]
        exact ⟨⟨hr, by simp only; omega, by simp only [List.length_append, List.length_singleton]; omega⟩, by simp only; omega⟩
      refine nextS p1.1 (by omega) fun v3 s3 k4 k5 k6 => ?_
      -- labels
      refine Tot.bind (P := fun y : List Int × Int × Int × List TLabel => OKs ⟨y.1, y.2.1, y.2.2.1⟩ ∧ y.2.2.2.length ≤ 4 ∧ ∀ l ∈ y.2.2.2, l.fName.size ≤ 100) (Tot.whileP (fun x : Int × List Int × Int × Int × List TLabel => OKs ⟨x.2.1, x.2.2.1, x.2.2.2.1⟩ ∧ 0 ≤ x.1 ∧ (x.2.2.2.2.length : Int) + x.1 ≤ 4 ∧ ∀ l ∈ x.2.2.2.2, l.fName.size ≤ 100) (fun x => x.1.toNat) ⟨k4, k5, by simp only [List.length_nil]; omega, fun l hl => by cases hl⟩ fun x hx => ?_) fun y2 p2 => ?_
      · obtain ⟨k, c, at', sd, l⟩ := x
        obtain ⟨q1, q2, q3, q4⟩ := hx
        simp only at q1 q2 q3 q4
        simp only [L_spec_l09DrawLibrary_mPb_x63, letO_eq]
        refine Tot.br (fun hk => ?_) fun hk => Tot.ret ⟨q1, by simp only; omega, q4⟩
        have hk' := lt_dec hk
        refine Tot.bind (label_ok q1) fun r hr => Tot.req (roomS (by rw [s_nadd, len_eq, len_eq, List.length_singleton]; omega) (by omega)) (Tot.ret ?_)
        rw [sub1 (by omega)]
        refine ⟨⟨hr.1, by simp only; omega, by simp only [List.length_append, List.length_singleton]; omega, fun l hl => ?_⟩, by simp only; omega⟩
        rcases List.mem_append.1 hl with hl | hl
        · exact q4 l hl
        · rw [List.mem_singleton] at hl; rw [hl]; have := hr.2; omega
      refine nextS p2.1 (by omega) fun v4 s4 k7 k8 k9 => ?_
      -- instances
      refine Tot.bind (P := fun y : List Int × Int × Int × List TInstance => OKs ⟨y.1, y.2.1, y.2.2.1⟩ ∧ y.2.2.2.length ≤ 4) (Tot.whileP (fun x : Int × List Int × Int × Int × List TInstance => OKs ⟨x.2.1, x.2.2.1, x.2.2.2.1⟩ ∧ 0 ≤ x.1 ∧ (x.2.2.2.2.length : Int) + x.1 ≤ 4) (fun x => x.1.toNat) ⟨k7, k8, by simp only [List.length_nil]; omega⟩ fun x hx => ?_) fun y3 p3 => ?_
      · obtain ⟨k, c, at', sd, l⟩ := x
        obtain ⟨q1, q2, q3⟩ := hx
        simp only at q1 q2 q3
        simp only [L_spec_l09DrawLibrary_mPb_x94, letO_eq]
        refine Tot.bind (P := fun b => b = true → 0 < k) (Tot.br (fun hh => Tot.ret fun _ => lt_dec hh) fun _ => Tot.ret fun hh => by cases hh) fun b hb => Tot.br (fun hk => ?_) fun hk => Tot.ret ⟨q1, by simp only; omega⟩
        have hk' := hb hk
        refine Tot.bind (inst_ok q1 (by omega)) fun r hr => Tot.req (roomS (by rw [s_nadd, len_eq, len_eq, List.length_singleton]; omega) (by omega)) (Tot.ret ?_)
        rw [sub1 (by omega)]
        exact ⟨⟨hr, by simp only; omega, by simp only [List.length_append, List.length_singleton]; omega⟩, by simp only; omega⟩
      have hcb : CB 4 (TCell.mk (std.scat (std.ofBytes (len [std.conv .u8 (std.add .i64 97 i)]) (fun j => gd [std.conv .u8 (std.add .i64 97 i)] (0 + j))) r.1) y1.2.2.2 y2.2.2.2 y3.2.2.2) := by
        refine ⟨?_, p1.2, p2.2.1, p3.2, p2.2.2⟩
        show (_ ++ _ : ByteArray).size ≤ 100
        rw [ByteArray.size_append, ofBytes_size, len_eq, List.length_singleton]
        have := hr.2; omega
      refine Tot.bind (P := fun y => y = l ++ [TCell.mk (std.scat (std.ofBytes (len [std.conv .u8 (std.add .i64 97 i)]) (fun j => gd [std.conv .u8 (std.add .i64 97 i)] (0 + j))) r.1) y1.2.2.2 y2.2.2.2 y3.2.2.2]) (Tot.req (roomS (by rw [s_nadd, len_eq, len_eq, List.length_singleton]; omega) (by omega)) (Tot.ret rfl)) fun y hy => Tot.ret ?_
      subst hy
      rw [add1 (by omega)]
      refine ⟨⟨p3.1, ?_, by simp only; omega, fun c hc => ?_⟩, by simp only; omega⟩
      · simp only [List.length_append, List.length_singleton]; omega
      · rcases List.mem_append.1 hc with hc | hc
        · exact g4 c hc
        · rw [List.mem_singleton] at hc; rw [hc]; exact hcb
    · have := lt_decf hk
      exact Tot.ret ⟨g1, by simp only; omega, by simp only; omega, g4⟩
/- draws of libraries that are mostly valid -/
theorem set_CB {n : Nat} {l : List TCell} {i : Nat} {x : TCell} (h : ∀ c ∈ l, CB n c) (hx : CB n x) : ∀ c ∈ l.set i x, CB n c := by
  intro c hc
  rcases List.mem_or_eq_of_mem_set hc with h1 | h1
  · exact h c h1
  · rw [h1]; exact hx
def PB (m : Nat) (y : List Int × Int × Int × List TCell) : Prop := OKs ⟨y.1, y.2.1, y.2.2.1⟩ ∧ y.2.2.2.length = m ∧ ∀ c ∈ y.2.2.2, CB 40 c
set_option maxHeartbeats 1000000 in
theorem any_ok {s : Tl01Source} (hs : OKs s) : Tot (F_spec_l09DrawAny_mPb s) fun r => OKs r.2 ∧ r.1.fCells.length ≤ 4 ∧ (∀ c ∈ r.1.fCells, CB 40 c) ∧ 1 ≤ r.1.fCells.length := by
  unfold F_spec_l09DrawAny_mPb
  simp only [letO_eq]
  refine Tot.bind (library_ok hs) fun y1 hy1 => ?_
  obtain ⟨⟨L⟩, s1⟩ := y1
  obtain ⟨k1, k2, k3, k4⟩ := hy1
  simp only at k1 k2 k3 k4
  refine nextS k1 (by rw [s_ofN, len_eq]; simp only; omega) fun v s2 g g0 g1 => ?_
  have hv : v < (L.length : Int) := by rw [s_ofN, len_eq] at g1; simp only at g1; omega
  obtain ⟨i, rfl⟩ := Int.eq_ofNat_of_zero_le g0
  have hi : i < L.length := by omega
  refine Tot.req (inRl hi) ?_
  simp only [s_toNn, s_nadd, Nat.zero_add]
  have c0 : CB 4 (gd L i) := k4 _ (gd_mem hi)
  have all40 : ∀ c ∈ L, CB 40 c := fun c hc => (k4 c hc).le (by omega)
  refine nextS g (by omega) fun w s3 h h0 h1 => ?_
  refine Tot.bind (P := fun y : List TCell × List Int × Int × Int => OKs ⟨y.2.1, y.2.2.1, y.2.2.2⟩ ∧ y.1.length = L.length ∧ ∀ c ∈ y.1, CB 40 c) (Tot.br (fun _ => ?_) fun _ => ?_) fun y hy => Tot.req (by rw [len_eq, len_eq, hy.2.1]) (Tot.ret ⟨hy.1, by show y.1.length ≤ 4; omega, hy.2.2, by show 1 ≤ y.1.length; omega⟩)
  · refine Tot.bind (P := fun y : List TCell => y.length = L.length ∧ ∀ c ∈ y, CB 40 c) (Tot.req (inRl (i := 0) (by omega)) (Tot.ret ⟨by simp, set_CB all40 ?_⟩)) fun y hy => Tot.ret ⟨h, hy⟩
    have := (k4 _ (gd_mem (show 0 < L.length by omega))).name
    exact CB.le ⟨by show (gd L (std.toN 0)).fName.size ≤ 100; rw [show std.toN 0 = 0 from rfl]; exact this, c0.shapes, c0.labels, c0.insts, c0.lnames⟩ (by omega)
  · refine Tot.bind (P := PB L.length) (Tot.br (fun _ => ?_) fun _ => ?_) fun y hy => Tot.ret hy
    · refine Tot.bind (P := PB L.length) (nextS h (by omega) fun q s4 e e0 e1 => ?_) fun y hy => Tot.ret hy
      obtain ⟨q, rfl⟩ := Int.eq_ofNat_of_zero_le e0
      have hq : q < ([(ByteArray.mk #[]), (ByteArray.mk #[65]), (ByteArray.mk #[97, 98, 99, 100, 101, 102, 103, 104, 105]), (ByteArray.mk #[97, 32, 98])] : List ByteArray).length := by simp only [List.length_cons, List.length_nil]; omega
      refine Tot.req (inRl hq) (Tot.ret ⟨e, by simp, set_CB all40 ?_⟩)
      rw [s_toNn]
      have hm := gd_mem hq
      refine CB.le ⟨?_, c0.shapes, c0.labels, c0.insts, c0.lnames⟩ (by omega)
      have hz : ∀ x ∈ ([(ByteArray.mk #[]), (ByteArray.mk #[65]), (ByteArray.mk #[97, 98, 99, 100, 101, 102, 103, 104, 105]), (ByteArray.mk #[97, 32, 98])] : List ByteArray), x.size ≤ 100 := by decide
      exact hz _ hm
    · refine Tot.bind (P := PB L.length) (Tot.br (fun _ => ?_) fun _ => ?_) fun y hy => Tot.ret hy
      · refine Tot.bind (P := PB L.length) (nextS h (by omega) fun _ _ h _ _ => nextS h (by omega) fun _ _ h _ _ => nextS h (by omega) fun _ _ h _ _ => nextS h (by omega) fun _ _ h _ _ => nextS h (by omega) fun _ _ h _ _ => ?_) fun y hy => Tot.ret hy
        have := c0.shapes
        refine Tot.req (roomS (by simp only [s_nadd, len_eq, List.length_singleton]; omega) (by omega)) (Tot.ret ⟨h, by simp, set_CB all40 ⟨c0.name, by simp only [List.length_append, List.length_singleton]; omega, by have := c0.labels; simp only; omega, by have := c0.insts; simp only; omega, c0.lnames⟩⟩)
      · refine Tot.bind (P := PB L.length) (Tot.br (fun _ => ?_) fun _ => ?_) fun y hy => Tot.ret hy
        · have e1 : std.add .i64 (i : Int) 1 = (i : Int) + 1 := add1 (by omega)
          refine Tot.bind (inst_ok h (by rw [e1]; omega)) fun r hr => nextS hr (by omega) fun _ _ h _ _ => nextS h (by omega) fun _ _ h _ _ => ?_
          have := c0.insts
          refine Tot.bind (P := fun y : List TCell => y.length = L.length ∧ ∀ c ∈ y, CB 40 c) (Tot.req (roomS (by simp only [s_nadd, len_eq, List.length_singleton]; omega) (by omega)) (Tot.ret ⟨by simp, set_CB all40 ⟨c0.name, by have := c0.shapes; simp only; omega, by have := c0.labels; simp only; omega, by simp only [List.length_append, List.length_singleton]; omega, c0.lnames⟩⟩)) fun y hy => Tot.ret ⟨h, hy⟩
        · refine Tot.bind (P := PB L.length) (Tot.br (fun _ => ?_) fun _ => ?_) fun y hy => Tot.ret hy
          · refine Tot.bind (P := PB L.length) (nextS h (by omega) fun _ _ h _ _ => nextS h (by omega) fun _ _ h _ _ => nextS h (by omega) fun _ _ h _ _ => Tot.bind (name_ok h) fun r hr => ?_) fun y hy => Tot.ret hy
            have := c0.labels
            refine Tot.req (roomS (by simp only [s_nadd, len_eq, List.length_singleton]; omega) (by omega)) (Tot.ret ⟨hr.1, by simp, set_CB all40 ⟨c0.name, by have := c0.shapes; simp only; omega, by simp only [List.length_append, List.length_singleton]; omega, by have := c0.insts; simp only; omega, fun l hl => ?_⟩⟩)
            rcases List.mem_append.1 hl with hl | hl
            · exact c0.lnames l hl
            · rw [List.mem_singleton] at hl; rw [hl]; have := hr.2; simp only; omega
          · refine Tot.bind (P := PB L.length) (Tot.br (fun _ => ?_) fun _ => Tot.ret ⟨h, rfl, all40⟩) fun y hy => Tot.ret hy
            refine Tot.bind (P := PB L.length) (Tot.whileP (fun x : Int × List Int × Int × Int × List TCell => OKs ⟨x.2.1, x.2.2.1, x.2.2.2.1⟩ ∧ 0 ≤ x.1 ∧ x.1 ≤ 25 ∧ x.2.2.2.2.length = L.length ∧ ∀ c ∈ x.2.2.2.2, CB (4 + x.1.toNat) c) (fun x => (25 - x.1).toNat) ⟨h, Int.le_refl _, by simp, rfl, k4⟩ fun x hx => ?_) fun y hy => Tot.ret hy
            obtain ⟨j, c, at', sd, l⟩ := x
            obtain ⟨q1, q2, q3, q4, q5⟩ := hx
            simp only at q1 q2 q3 q4 q5
            simp only [L_spec_l09DrawAny_mPb_x167, letO_eq, s_toNn, s_nadd, Nat.zero_add]
            refine Tot.br (fun hk => ?_) fun hk => Tot.ret ⟨q1, q4, fun c hc => (q5 c hc).le (by omega)⟩
            have hk' := lt_dec hk
            have hil : i < l.length := by omega
            have ci := q5 _ (gd_mem hil)
            have hsh := ci.shapes
            refine Tot.bind (P := fun y : List Int × Int × Int × List TCell => OKs ⟨y.1, y.2.1, y.2.2.1⟩ ∧ y.2.2.2.length = L.length ∧ ∀ c ∈ y.2.2.2, CB (4 + (j.toNat + 1)) c) (Tot.bind (shape_ok q1) fun r hr => Tot.req (roomS (by simp only [s_nadd, len_eq, List.length_singleton]; omega) (by omega)) (Tot.req (by rw [len_eq, len_eq, q4]) (Tot.ret ⟨hr, by simp [q4], set_CB (n := 4 + (j.toNat + 1)) (fun c hc => (q5 c hc).le (by omega)) ⟨ci.name, by simp only [List.length_append, List.length_singleton]; omega, by have := ci.labels; simp only; omega, by have := ci.insts; simp only; omega, ci.lnames⟩⟩))) fun y hy => Tot.ret ?_
            rw [add1 (by omega)]
            exact ⟨⟨hy.1, by simp only; omega, by simp only; omega, hy.2.1, fun c hc => (hy.2.2 c hc).le (by simp only; omega)⟩, by simp only; omega⟩
def OKl (a : TLibrary) : Prop := a.fCells.length ≤ 4 ∧ (∀ c ∈ a.fCells, CB 40 c) ∧ 1 ≤ a.fCells.length
theorem OKl.small {a : TLibrary} (h : OKl a) : SmallL a := ⟨by have := h.1; omega, fun c hc => by
  have g := h.2.1 c hc
  exact ⟨by have := g.name; omega, by have := g.shapes; omega, by have := g.labels; omega, by have := g.insts; omega, fun l hl => by have := g.lnames l hl; omega⟩⟩
end Go.Proofs.Ytnpcpbkbenphaaa.AM
