/-
  What the functions that the law reaches compute, and that they do. No condition.
-/
import Derived.Test.YtnmfighfidaglaaAmT
import Derived.Test.YtnmfighfidaglaaAmE
namespace Go.Proofs.Ytnmfighfidaglaa.AM
open Go Go.Proofs Go.RowKit
set_option linter.unusedVariables false
set_option linter.unusedSimpArgs false
set_option maxRecDepth 100000

theorem mixed : Try.prog.follows .mixedOrders = true := by kernel_rfl
structure TRect where
  fX0 : Int
  fY0 : Int
  fX1 : Int
  fY1 : Int
instance : Inhabited TRect := ⟨⟨default, default, default, default⟩⟩
def encRect (x : TRect) : Nat → AC := fun j => match j with
  | 0 => .v (.int .i64 x.fX0)
  | 1 => .v (.int .i64 x.fY0)
  | 2 => .v (.int .i64 x.fX1)
  | _ => .v (.int .i64 x.fY1)
theorem pl_encRect : ∀ (x : TRect) (j : Nat), plainC (encRect x j) = true := by
  intro x j
  unfold encRect
  split <;> rfl
theorem vl_encRect : ∀ (x : TRect) (j : Nat), valC (encRect x j) = true := by
  intro x j
  unfold encRect
  split <;> rfl
structure TShape where
  fLayer : Int
  fBox : TRect
instance : Inhabited TShape := ⟨⟨default, default⟩⟩
def encShape (x : TShape) : Nat → AC := fun j => match j with
  | 0 => .v (.int .i64 x.fLayer)
  | 1 => .v (.int .i64 x.fBox.fX0)
  | 2 => .v (.int .i64 x.fBox.fY0)
  | 3 => .v (.int .i64 x.fBox.fX1)
  | _ => .v (.int .i64 x.fBox.fY1)
theorem pl_encShape : ∀ (x : TShape) (j : Nat), plainC (encShape x j) = true := by
  intro x j
  unfold encShape
  split <;> rfl
theorem vl_encShape : ∀ (x : TShape) (j : Nat), valC (encShape x j) = true := by
  intro x j
  unfold encShape
  split <;> rfl
structure TPoint where
  fX : Int
  fY : Int
instance : Inhabited TPoint := ⟨⟨default, default⟩⟩
def encPoint (x : TPoint) : Nat → AC := fun j => match j with
  | 0 => .v (.int .i64 x.fX)
  | _ => .v (.int .i64 x.fY)
theorem pl_encPoint : ∀ (x : TPoint) (j : Nat), plainC (encPoint x j) = true := by
  intro x j
  unfold encPoint
  split <;> rfl
theorem vl_encPoint : ∀ (x : TPoint) (j : Nat), valC (encPoint x j) = true := by
  intro x j
  unfold encPoint
  split <;> rfl
structure TLabel where
  fLayer : Int
  fAt : TPoint
  fName : ByteArray
instance : Inhabited TLabel := ⟨⟨default, default, default⟩⟩
def encLabel (x : TLabel) : Nat → AC := fun j => match j with
  | 0 => .v (.int .i64 x.fLayer)
  | 1 => .v (.int .i64 x.fAt.fX)
  | 2 => .v (.int .i64 x.fAt.fY)
  | _ => .v (.string x.fName)
theorem pl_encLabel : ∀ (x : TLabel) (j : Nat), plainC (encLabel x j) = true := by
  intro x j
  unfold encLabel
  split <;> rfl
theorem vl_encLabel : ∀ (x : TLabel) (j : Nat), valC (encLabel x j) = true := by
  intro x j
  unfold encLabel
  split <;> rfl
structure TTransform where
  fOrientation : Int
  fX : Int
  fY : Int
instance : Inhabited TTransform := ⟨⟨default, default, default⟩⟩
def encTransform (x : TTransform) : Nat → AC := fun j => match j with
  | 0 => .v (.int .i64 x.fOrientation)
  | 1 => .v (.int .i64 x.fX)
  | _ => .v (.int .i64 x.fY)
theorem pl_encTransform : ∀ (x : TTransform) (j : Nat), plainC (encTransform x j) = true := by
  intro x j
  unfold encTransform
  split <;> rfl
theorem vl_encTransform : ∀ (x : TTransform) (j : Nat), valC (encTransform x j) = true := by
  intro x j
  unfold encTransform
  split <;> rfl
structure TInstance where
  fCell : Int
  fPlace : TTransform
  fColumns : Int
  fRows : Int
  fStepX : Int
  fStepY : Int
instance : Inhabited TInstance := ⟨⟨default, default, default, default, default, default⟩⟩
def encInstance (x : TInstance) : Nat → AC := fun j => match j with
  | 0 => .v (.int .i64 x.fCell)
  | 1 => .v (.int .i64 x.fPlace.fOrientation)
  | 2 => .v (.int .i64 x.fPlace.fX)
  | 3 => .v (.int .i64 x.fPlace.fY)
  | 4 => .v (.int .i64 x.fColumns)
  | 5 => .v (.int .i64 x.fRows)
  | 6 => .v (.int .i64 x.fStepX)
  | _ => .v (.int .i64 x.fStepY)
theorem pl_encInstance : ∀ (x : TInstance) (j : Nat), plainC (encInstance x j) = true := by
  intro x j
  unfold encInstance
  split <;> rfl
theorem vl_encInstance : ∀ (x : TInstance) (j : Nat), valC (encInstance x j) = true := by
  intro x j
  unfold encInstance
  split <;> rfl
structure TCell where
  fName : ByteArray
  fShapes : List TShape
  fLabels : List TLabel
  fInstances : List TInstance
instance : Inhabited TCell := ⟨⟨default, default, default, default⟩⟩
def encCell (LEN : {α : Type} → List α → Nat) (GD : {α : Type} → [Inhabited α] → List α → Nat → α) (x : TCell) : Nat → AC := fun j => match j with
  | 0 => .v (.string x.fName)
  | 1 => .bs (LEN x.fShapes) 5 (row GD (encShape) x.fShapes)
  | 2 => .bs (LEN x.fLabels) 4 (row GD (encLabel) x.fLabels)
  | _ => .bs (LEN x.fInstances) 8 (row GD (encInstance) x.fInstances)
theorem pl_encCell {LEN : {α : Type} → List α → Nat} {GD : {α : Type} → [Inhabited α] → List α → Nat → α} : ∀ (x : TCell) (j : Nat), plainC (encCell LEN GD x j) = true := by
  intro x j
  unfold encCell
  split <;> rfl
def oncCell (LEN : {α : Type} → List α → Nat) (GD : {α : Type} → [Inhabited α] → List α → Nat → α) (x : TCell) : Nat → AC := fun j => match j with
  | 0 => .v (.string x.fName)
  | 1 => .ow (LEN x.fShapes) 5 (row GD (encShape) x.fShapes)
  | 2 => .ow (LEN x.fLabels) 4 (row GD (encLabel) x.fLabels)
  | _ => .ow (LEN x.fInstances) 8 (row GD (encInstance) x.fInstances)
theorem rf_oncCell {LEN : {α : Type} → List α → Nat} {GD : {α : Type} → [Inhabited α] → List α → Nat → α} : ∀ (x : TCell) (j : Nat), (oncCell LEN GD x j).ref = [] := by
  intro x j
  unfold oncCell
  split <;> rfl
theorem ln_oncCell {LEN : {α : Type} → List α → Nat} {GD : {α : Type} → [Inhabited α] → List α → Nat → α} : ∀ (x : TCell) (j : Nat), (oncCell LEN GD x j).lentIn = encCell LEN GD x j := by
  intro x j
  unfold oncCell encCell
  split <;> rfl
theorem fl_oncCell {LEN : {α : Type} → List α → Nat} {GD : {α : Type} → [Inhabited α] → List α → Nat → α} : ∀ (x : TCell) (j : Nat), (oncCell LEN GD x j).flat := by
  intro x j
  unfold oncCell
  split <;> first | trivial | (exact fun i _ j _ => val_v (vl_encShape _ _)) | (exact fun i _ j _ => val_v (vl_encLabel _ _)) | (exact fun i _ j _ => val_v (vl_encInstance _ _))
structure TLibrary where
  fCells : List TCell
instance : Inhabited TLibrary := ⟨⟨default⟩⟩
def encLibrary (LEN : {α : Type} → List α → Nat) (GD : {α : Type} → [Inhabited α] → List α → Nat → α) (x : TLibrary) : Nat → AC := fun j => match j with
  | _ => .bs (LEN x.fCells) 4 (row GD (encCell LEN GD) x.fCells)
theorem pl_encLibrary {LEN : {α : Type} → List α → Nat} {GD : {α : Type} → [Inhabited α] → List α → Nat → α} : ∀ (x : TLibrary) (j : Nat), plainC (encLibrary LEN GD x j) = true := by
  intro x j
  unfold encLibrary
  split <;> rfl
/-- laws.szShapeS -/
noncomputable def F_laws_szShapeS (a0 : List TShape) (a1 : Int) : Option (Int) :=
  br (std.lt (std.sub .i64 a1 (std.ofN (len a0))) 0)
  (some (-1))
  (some (std.sub .i64 a1 (std.ofN (len a0))))
theorem run_laws_szShapeS (a0 : List TShape) (a1 : Int) (r : Int) (h : F_laws_szShapeS a0 a1 = some r) : Fun Try.prog 223 [.c (.bs (len a0) 5 (row gd (encShape) a0)), .c (.v (.int .i64 a1))] [] (.c (.v (.int .i64 r))) [] true := by
  refine Fun.of_wp (oneOf []) tok mixed Try.func223 (by kernel_rfl) rfl Try.ntmps223 rfl trivial (fun _ => ⟨trivial, trivial⟩) ?_
  unfold F_laws_szShapeS at h
  generalize hLEN : @len = LEN at *
  generalize hGD : @gd = GD at *
  generalize hA : std = A at *
  generalize hP : Try.prog = P at *
  cbv
  refine fork (fun b1 => ?_) (fun b1 => ?_)
  · replace h := of_br_t b1 h
    cbv
    injection h with h
    subst h
    refine ⟨(sparse 12 [(4, .c (.v (.int .i64 (-1))))] []), ?_, ?_⟩
    · exact le_sparse rfl ⟨AV.le_refl _, trivial⟩ trivial rfl
    · exact ⟨AV.le_refl _, trivial, rfl⟩
  · replace h := of_br_f b1 h
    cbv
    injection h with h
    subst h
    refine ⟨(sparse 12 [(4, .c (.v (.int .i64 (A.sub .i64 a1 (A.ofN (LEN a0))))))] []), ?_, ?_⟩
    · exact le_sparse rfl ⟨AV.le_refl _, trivial⟩ trivial rfl
    · exact ⟨AV.le_refl _, trivial, rfl⟩

/-- laws.szLabel -/
noncomputable def F_laws_szLabel (a0 : TLabel) (a1 : Int) : Option (Int) :=
  br (std.lt (std.sub .i64 a1 (std.ofN (std.slen a0.fName))) 0)
  (some (-1))
  (some (std.sub .i64 a1 (std.ofN (std.slen a0.fName))))
theorem run_laws_szLabel (a0 : TLabel) (a1 : Int) (r : Int) (h : F_laws_szLabel a0 a1 = some r) : Fun Try.prog 67 [.agg [.v (.int .i64 a0.fLayer), .v (.int .i64 a0.fAt.fX), .v (.int .i64 a0.fAt.fY), .v (.string a0.fName)], .c (.v (.int .i64 a1))] [] (.c (.v (.int .i64 r))) [] true := by
  refine Fun.of_wp (oneOf []) tok mixed Try.func67 (by kernel_rfl) rfl Try.ntmps67 rfl trivial (fun _ => ⟨trivial, trivial⟩) ?_
  unfold F_laws_szLabel at h
  generalize hLEN : @len = LEN at *
  generalize hGD : @gd = GD at *
  generalize hA : std = A at *
  generalize hP : Try.prog = P at *
  cbv
  refine fork (fun b1 => ?_) (fun b1 => ?_)
  · replace h := of_br_t b1 h
    cbv
    injection h with h
    subst h
    refine ⟨(sparse 13 [(4, .c (.v (.int .i64 (-1))))] []), ?_, ?_⟩
    · exact le_sparse rfl ⟨AV.le_refl _, trivial⟩ trivial rfl
    · exact ⟨AV.le_refl _, trivial, rfl⟩
  · replace h := of_br_f b1 h
    cbv
    injection h with h
    subst h
    refine ⟨(sparse 13 [(4, .c (.v (.int .i64 (A.sub .i64 a1 (A.ofN (A.slen a0.fName))))))] []), ?_, ?_⟩
    · exact le_sparse rfl ⟨AV.le_refl _, trivial⟩ trivial rfl
    · exact ⟨AV.le_refl _, trivial, rfl⟩

noncomputable def L_laws_szLabelS_x3 (a0 : List TLabel) : (Int × Int) → Option ((Int × Int) ⊕ ((Int) ⊕ (Int))) := fun x3 =>
  letO x3.1 fun v1 =>
  letO x3.2 fun v2 =>
  br (std.lt v2 (std.ofN (len a0)))
  (req (std.inR v2 (len a0)) <|
  (F_laws_szLabel (gd a0 (std.toN v2)) v1).bind fun y16 =>
  br (std.lt y16 0)
  (some (.inr (.inl (-1))))
  (some (.inl (y16, std.add .i64 v2 1))))
  (some (.inr (.inr v1)))
/-- laws.szLabelS -/
noncomputable def F_laws_szLabelS (a0 : List TLabel) (a1 : Int) : Option (Int) :=
  br (std.lt (std.sub .i64 a1 (std.ofN (len a0))) 0)
  (some (-1))
  ((whileP (σ := Int × Int) (ρ := (Int) ⊕ (Int)) (L_laws_szLabelS_x3 a0) (std.sub .i64 a1 (std.ofN (len a0)), 0)).bind fun y4 =>
  (match y4 with
    | .inl y4k0 => (
        letO y4k0 fun w20 =>
        some w20)
    | .inr y4m0 =>
        letO y4m0 fun y4k1 =>
        letO y4k1 fun w21 =>
        some w21))
theorem run_laws_szLabelS (a0 : List TLabel) (a1 : Int) (r : Int) (h : F_laws_szLabelS a0 a1 = some r) : Fun Try.prog 224 [.c (.bs (len a0) 4 (row gd (encLabel) a0)), .c (.v (.int .i64 a1))] [] (.c (.v (.int .i64 r))) [] true := by
  refine Fun.of_wp (oneOf []) tok mixed Try.func224 (by kernel_rfl) rfl Try.ntmps224 rfl trivial (fun _ => ⟨trivial, trivial⟩) ?_
  unfold F_laws_szLabelS at h
  unfold L_laws_szLabelS_x3 at h
  have hf_laws_szLabel := @run_laws_szLabel
  generalize hLEN : @len = LEN at *
  generalize hGD : @gd = GD at *
  generalize hA : std = A at *
  generalize hP : Try.prog = P at *
  cbv
  refine fork (fun b22 => ?_) (fun b22 => ?_)
  · replace h := of_br_t b22 h
    cbv
    injection h with h
    subst h
    refine ⟨(sparse 27 [(4, .c (.v (.int .i64 (-1))))] []), ?_, ?_⟩
    · exact le_sparse rfl ⟨AV.le_refl _, trivial⟩ trivial rfl
    · exact ⟨AV.le_refl _, trivial, rfl⟩
  · replace h := of_br_f b22 h
    cbv
    replace h := of_bind h
    obtain ⟨y4, hr5, hN6⟩ := h
    refine loop_cut hr5 (fun x => (sparse 27 [(0, .c (.bs (LEN a0) 4 (row GD (encLabel) a0))), (1, .c (.v (.int .i64 x.1))), (5, .c (.v (.int .i64 x.2)))] [])) ?_ (fun y e s => (match y with | .inl w => e = .ret ∧ s.le (sparse 27 [(4, .c (.v (.int .i64 w)))] []) | .inr w0 => (fun (w : Int) => e = .exit 0 ∧ s.le (sparse 27 [(1, .c (.v (.int .i64 w)))] [])) w0)) ?_ ?_
    · clear hr5 hN6
      show St.le _ _
      exact le_sparse rfl ⟨AV.le_refl _, AV.le_refl _, AV.le_refl _, trivial⟩ trivial rfl
    · clear hr5 hN6
      intro x z10 h K8 hK9 hY7
      obtain ⟨x0_, x1_⟩ := x
      replace h := of_let h
      obtain ⟨v1, hv1, h⟩ := h
      have hv1 : v1 = x0_ := hv1
      subst hv1
      replace h := of_let h
      obtain ⟨v2, hv2, h⟩ := h
      have hv2 : v2 = x1_ := hv2
      subst hv2
      cbv
      refine fork (fun b19 => ?_) (fun b19 => ?_)
      · replace h := of_br_t b19 h
        cbv
        replace h := of_req h
        obtain ⟨c15, h⟩ := h
        refine ⟨⟨c15, trivial⟩, ?_⟩
        replace h := of_bind h
        obtain ⟨y16, hy17, h⟩ := h
        refine ⟨{ args := [.agg [.v (.int .i64 (GD a0 (A.toN v2)).fLayer), .v (.int .i64 (GD a0 (A.toN v2)).fAt.fX), .v (.int .i64 (GD a0 (A.toN v2)).fAt.fY), .v (.string (GD a0 (A.toN v2)).fName)], .c (.v (.int .i64 v1))], o0 := [], r := .c (.v (.int .i64 y16)), o1 := [], fl := true, σ := [], τ := [] }, hf_laws_szLabel _ _ _ hy17, ⟨les_cons (AV.le_refl _) (les_cons (AV.le_refl _) (les_nil)), trivial, rfl, rfl, rfl, rfl, trivial, rfl⟩, ?_⟩
        cbv
        refine fork (fun b18 => ?_) (fun b18 => ?_)
        · replace h := of_br_t b18 h
          cbv
          injection h with h
          refine hY7 _ h.symm _ _ (And.intro rfl ?_) (by intro hh; cases hh)
          exact le_sparse rfl ⟨AV.le_refl _, trivial⟩ trivial rfl
        · replace h := of_br_f b18 h
          cbv
          injection h with h
          refine hK9 _ h.symm _ ?_
          exact le_sparse rfl ⟨AV.le_refl _, AV.le_refl _, AV.le_refl _, trivial⟩ trivial rfl
      · replace h := of_br_f b19 h
        cbv
        injection h with h
        refine hY7 _ h.symm _ _ (And.intro rfl ?_) (by intro hh; cases hh)
        exact le_sparse rfl ⟨AV.le_refl _, trivial⟩ trivial rfl
    · clear hr5
      have h := hN6
      clear hN6
      intro e13 s14 q12 hne
      rcases y4 with y4k0 | y4m0
      · replace h := h
        obtain ⟨rfl, q12⟩ := q12
        replace h := of_let h
        obtain ⟨w20, hw20, h⟩ := h
        have hw20 : w20 = y4k0 := hw20
        subst hw20
        cbv
        injection h with h
        subst h
        refine ⟨(sparse 27 [(4, .c (.v (.int .i64 w20)))] []), ?_, ?_⟩
        · refine St.le_trans q12 ?_
          exact le_sparse rfl ⟨AV.le_refl _, trivial⟩ trivial rfl
        · exact ⟨AV.le_refl _, trivial, rfl⟩
      · replace h := of_let h
        obtain ⟨y4k1, hyk, h⟩ := h
        have hyk : y4k1 = y4m0 := hyk
        subst hyk
        obtain ⟨rfl, q12⟩ := q12
        replace h := of_let h
        obtain ⟨w21, hw21, h⟩ := h
        have hw21 : w21 = y4k1 := hw21
        subst hw21
        cbv
        refine ⟨_, q12, ?_⟩
        cbv
        injection h with h
        subst h
        refine ⟨(sparse 27 [(4, .c (.v (.int .i64 w21)))] []), ?_, ?_⟩
        · exact le_sparse rfl ⟨AV.le_refl _, trivial⟩ trivial rfl
        · exact ⟨AV.le_refl _, trivial, rfl⟩

/-- laws.szInstanceS -/
noncomputable def F_laws_szInstanceS (a0 : List TInstance) (a1 : Int) : Option (Int) :=
  br (std.lt (std.sub .i64 a1 (std.ofN (len a0))) 0)
  (some (-1))
  (some (std.sub .i64 a1 (std.ofN (len a0))))
theorem run_laws_szInstanceS (a0 : List TInstance) (a1 : Int) (r : Int) (h : F_laws_szInstanceS a0 a1 = some r) : Fun Try.prog 225 [.c (.bs (len a0) 8 (row gd (encInstance) a0)), .c (.v (.int .i64 a1))] [] (.c (.v (.int .i64 r))) [] true := by
  refine Fun.of_wp (oneOf []) tok mixed Try.func225 (by kernel_rfl) rfl Try.ntmps225 rfl trivial (fun _ => ⟨trivial, trivial⟩) ?_
  unfold F_laws_szInstanceS at h
  generalize hLEN : @len = LEN at *
  generalize hGD : @gd = GD at *
  generalize hA : std = A at *
  generalize hP : Try.prog = P at *
  cbv
  refine fork (fun b1 => ?_) (fun b1 => ?_)
  · replace h := of_br_t b1 h
    cbv
    injection h with h
    subst h
    refine ⟨(sparse 12 [(4, .c (.v (.int .i64 (-1))))] []), ?_, ?_⟩
    · exact le_sparse rfl ⟨AV.le_refl _, trivial⟩ trivial rfl
    · exact ⟨AV.le_refl _, trivial, rfl⟩
  · replace h := of_br_f b1 h
    cbv
    injection h with h
    subst h
    refine ⟨(sparse 12 [(4, .c (.v (.int .i64 (A.sub .i64 a1 (A.ofN (LEN a0))))))] []), ?_, ?_⟩
    · exact le_sparse rfl ⟨AV.le_refl _, trivial⟩ trivial rfl
    · exact ⟨AV.le_refl _, trivial, rfl⟩

/-- laws.szCell -/
noncomputable def F_laws_szCell (a0 : TCell) (a1 : Int) : Option (Int) :=
  br (std.lt (std.sub .i64 a1 (std.ofN (std.slen a0.fName))) 0)
  (some (-1))
  ((F_laws_szShapeS a0.fShapes (std.sub .i64 a1 (std.ofN (std.slen a0.fName)))).bind fun y1 =>
  br (std.lt y1 0)
  (some (-1))
  ((F_laws_szLabelS a0.fLabels y1).bind fun y3 =>
  br (std.lt y3 0)
  (some (-1))
  ((F_laws_szInstanceS a0.fInstances y3).bind fun y5 =>
  br (std.lt y5 0)
  (some (-1))
  (some y5))))
theorem run_laws_szCell (a0 : TCell) (a1 : Int) (r : Int) (h : F_laws_szCell a0 a1 = some r) : Fun Try.prog 186 [.agg [.v (.string a0.fName), .bs (len a0.fShapes) 5 (row gd (encShape) a0.fShapes), .bs (len a0.fLabels) 4 (row gd (encLabel) a0.fLabels), .bs (len a0.fInstances) 8 (row gd (encInstance) a0.fInstances)], .c (.v (.int .i64 a1))] [] (.c (.v (.int .i64 r))) [] true := by
  refine Fun.of_wp (oneOf []) tok mixed Try.func186 (by kernel_rfl) rfl Try.ntmps186 rfl trivial (fun _ => ⟨trivial, trivial⟩) ?_
  unfold F_laws_szCell at h
  have hf_laws_szInstanceS := @run_laws_szInstanceS
  have hf_laws_szLabelS := @run_laws_szLabelS
  have hf_laws_szShapeS := @run_laws_szShapeS
  generalize hLEN : @len = LEN at *
  generalize hGD : @gd = GD at *
  generalize hA : std = A at *
  generalize hP : Try.prog = P at *
  cbv
  refine fork (fun b10 => ?_) (fun b10 => ?_)
  · replace h := of_br_t b10 h
    cbv
    injection h with h
    subst h
    refine ⟨(sparse 31 [(4, .c (.v (.int .i64 (-1))))] []), ?_, ?_⟩
    · exact le_sparse rfl ⟨AV.le_refl _, trivial⟩ trivial rfl
    · exact ⟨AV.le_refl _, trivial, rfl⟩
  · replace h := of_br_f b10 h
    cbv
    replace h := of_bind h
    obtain ⟨y1, hy2, h⟩ := h
    refine ⟨{ args := [.c (.bs (LEN a0.fShapes) 5 (row GD (encShape) a0.fShapes)), .c (.v (.int .i64 (A.sub .i64 a1 (A.ofN (A.slen a0.fName)))))], o0 := [], r := .c (.v (.int .i64 y1)), o1 := [], fl := true, σ := [], τ := [] }, hf_laws_szShapeS _ _ _ hy2, ⟨les_cons (AV.le_refl _) (les_cons (AV.le_refl _) (les_nil)), trivial, rfl, rfl, rfl, rfl, trivial, rfl⟩, ?_⟩
    cbv
    refine fork (fun b9 => ?_) (fun b9 => ?_)
    · replace h := of_br_t b9 h
      cbv
      injection h with h
      subst h
      refine ⟨(sparse 31 [(4, .c (.v (.int .i64 (-1))))] []), ?_, ?_⟩
      · exact le_sparse rfl ⟨AV.le_refl _, trivial⟩ trivial rfl
      · exact ⟨AV.le_refl _, trivial, rfl⟩
    · replace h := of_br_f b9 h
      cbv
      replace h := of_bind h
      obtain ⟨y3, hy4, h⟩ := h
      refine ⟨{ args := [.c (.bs (LEN a0.fLabels) 4 (row GD (encLabel) a0.fLabels)), .c (.v (.int .i64 y1))], o0 := [], r := .c (.v (.int .i64 y3)), o1 := [], fl := true, σ := [], τ := [] }, hf_laws_szLabelS _ _ _ hy4, ⟨les_cons (AV.le_refl _) (les_cons (AV.le_refl _) (les_nil)), trivial, rfl, rfl, rfl, rfl, trivial, rfl⟩, ?_⟩
      cbv
      refine fork (fun b8 => ?_) (fun b8 => ?_)
      · replace h := of_br_t b8 h
        cbv
        injection h with h
        subst h
        refine ⟨(sparse 31 [(4, .c (.v (.int .i64 (-1))))] []), ?_, ?_⟩
        · exact le_sparse rfl ⟨AV.le_refl _, trivial⟩ trivial rfl
        · exact ⟨AV.le_refl _, trivial, rfl⟩
      · replace h := of_br_f b8 h
        cbv
        replace h := of_bind h
        obtain ⟨y5, hy6, h⟩ := h
        refine ⟨{ args := [.c (.bs (LEN a0.fInstances) 8 (row GD (encInstance) a0.fInstances)), .c (.v (.int .i64 y3))], o0 := [], r := .c (.v (.int .i64 y5)), o1 := [], fl := true, σ := [], τ := [] }, hf_laws_szInstanceS _ _ _ hy6, ⟨les_cons (AV.le_refl _) (les_cons (AV.le_refl _) (les_nil)), trivial, rfl, rfl, rfl, rfl, trivial, rfl⟩, ?_⟩
        cbv
        refine fork (fun b7 => ?_) (fun b7 => ?_)
        · replace h := of_br_t b7 h
          cbv
          injection h with h
          subst h
          refine ⟨(sparse 31 [(4, .c (.v (.int .i64 (-1))))] []), ?_, ?_⟩
          · exact le_sparse rfl ⟨AV.le_refl _, trivial⟩ trivial rfl
          · exact ⟨AV.le_refl _, trivial, rfl⟩
        · replace h := of_br_f b7 h
          cbv
          injection h with h
          subst h
          refine ⟨(sparse 31 [(4, .c (.v (.int .i64 y5)))] []), ?_, ?_⟩
          · exact le_sparse rfl ⟨AV.le_refl _, trivial⟩ trivial rfl
          · exact ⟨AV.le_refl _, trivial, rfl⟩

noncomputable def L_laws_szCellS_x3 (a0 : List TCell) : (Int × Int) → Option ((Int × Int) ⊕ ((Int) ⊕ (Int))) := fun x3 =>
  letO x3.1 fun v1 =>
  letO x3.2 fun v2 =>
  br (std.lt v2 (std.ofN (len a0)))
  (req (std.inR v2 (len a0)) <|
  (F_laws_szCell (gd a0 (std.toN v2)) v1).bind fun y16 =>
  br (std.lt y16 0)
  (some (.inr (.inl (-1))))
  (some (.inl (y16, std.add .i64 v2 1))))
  (some (.inr (.inr v1)))
/-- laws.szCellS -/
noncomputable def F_laws_szCellS (a0 : List TCell) (a1 : Int) : Option (Int) :=
  br (std.lt (std.sub .i64 a1 (std.ofN (len a0))) 0)
  (some (-1))
  ((whileP (σ := Int × Int) (ρ := (Int) ⊕ (Int)) (L_laws_szCellS_x3 a0) (std.sub .i64 a1 (std.ofN (len a0)), 0)).bind fun y4 =>
  (match y4 with
    | .inl y4k0 => (
        letO y4k0 fun w20 =>
        some w20)
    | .inr y4m0 =>
        letO y4m0 fun y4k1 =>
        letO y4k1 fun w21 =>
        some w21))
theorem run_laws_szCellS (a0 : List TCell) (a1 : Int) (r : Int) (h : F_laws_szCellS a0 a1 = some r) : Fun Try.prog 127 [.c (.bs (len a0) 4 (row gd (encCell len gd) a0)), .c (.v (.int .i64 a1))] [] (.c (.v (.int .i64 r))) [] true := by
  refine Fun.of_wp (oneOf []) tok mixed Try.func127 (by kernel_rfl) rfl Try.ntmps127 rfl trivial (fun _ => ⟨trivial, trivial⟩) ?_
  unfold F_laws_szCellS at h
  unfold L_laws_szCellS_x3 at h
  have hf_laws_szCell := @run_laws_szCell
  generalize hLEN : @len = LEN at *
  generalize hGD : @gd = GD at *
  generalize hA : std = A at *
  generalize hP : Try.prog = P at *
  cbv
  refine fork (fun b22 => ?_) (fun b22 => ?_)
  · replace h := of_br_t b22 h
    cbv
    injection h with h
    subst h
    refine ⟨(sparse 27 [(4, .c (.v (.int .i64 (-1))))] []), ?_, ?_⟩
    · exact le_sparse rfl ⟨AV.le_refl _, trivial⟩ trivial rfl
    · exact ⟨AV.le_refl _, trivial, rfl⟩
  · replace h := of_br_f b22 h
    cbv
    replace h := of_bind h
    obtain ⟨y4, hr5, hN6⟩ := h
    refine loop_cut hr5 (fun x => (sparse 27 [(0, .c (.bs (LEN a0) 4 (row GD (encCell LEN GD) a0))), (1, .c (.v (.int .i64 x.1))), (5, .c (.v (.int .i64 x.2)))] [])) ?_ (fun y e s => (match y with | .inl w => e = .ret ∧ s.le (sparse 27 [(4, .c (.v (.int .i64 w)))] []) | .inr w0 => (fun (w : Int) => e = .exit 0 ∧ s.le (sparse 27 [(1, .c (.v (.int .i64 w)))] [])) w0)) ?_ ?_
    · clear hr5 hN6
      show St.le _ _
      exact le_sparse rfl ⟨AV.le_refl _, AV.le_refl _, AV.le_refl _, trivial⟩ trivial rfl
    · clear hr5 hN6
      intro x z10 h K8 hK9 hY7
      obtain ⟨x0_, x1_⟩ := x
      replace h := of_let h
      obtain ⟨v1, hv1, h⟩ := h
      have hv1 : v1 = x0_ := hv1
      subst hv1
      replace h := of_let h
      obtain ⟨v2, hv2, h⟩ := h
      have hv2 : v2 = x1_ := hv2
      subst hv2
      cbv
      refine fork (fun b19 => ?_) (fun b19 => ?_)
      · replace h := of_br_t b19 h
        cbv
        replace h := of_req h
        obtain ⟨c15, h⟩ := h
        refine ⟨⟨c15, trivial⟩, ?_⟩
        replace h := of_bind h
        obtain ⟨y16, hy17, h⟩ := h
        refine ⟨{ args := [.agg [.v (.string (GD a0 (A.toN v2)).fName), .bs (LEN (GD a0 (A.toN v2)).fShapes) 5 (row GD (encShape) (GD a0 (A.toN v2)).fShapes), .bs (LEN (GD a0 (A.toN v2)).fLabels) 4 (row GD (encLabel) (GD a0 (A.toN v2)).fLabels), .bs (LEN (GD a0 (A.toN v2)).fInstances) 8 (row GD (encInstance) (GD a0 (A.toN v2)).fInstances)], .c (.v (.int .i64 v1))], o0 := [], r := .c (.v (.int .i64 y16)), o1 := [], fl := true, σ := [], τ := [] }, hf_laws_szCell _ _ _ hy17, ⟨les_cons (AV.le_refl _) (les_cons (AV.le_refl _) (les_nil)), trivial, rfl, rfl, rfl, rfl, trivial, rfl⟩, ?_⟩
        cbv
        refine fork (fun b18 => ?_) (fun b18 => ?_)
        · replace h := of_br_t b18 h
          cbv
          injection h with h
          refine hY7 _ h.symm _ _ (And.intro rfl ?_) (by intro hh; cases hh)
          exact le_sparse rfl ⟨AV.le_refl _, trivial⟩ trivial rfl
        · replace h := of_br_f b18 h
          cbv
          injection h with h
          refine hK9 _ h.symm _ ?_
          exact le_sparse rfl ⟨AV.le_refl _, AV.le_refl _, AV.le_refl _, trivial⟩ trivial rfl
      · replace h := of_br_f b19 h
        cbv
        injection h with h
        refine hY7 _ h.symm _ _ (And.intro rfl ?_) (by intro hh; cases hh)
        exact le_sparse rfl ⟨AV.le_refl _, trivial⟩ trivial rfl
    · clear hr5
      have h := hN6
      clear hN6
      intro e13 s14 q12 hne
      rcases y4 with y4k0 | y4m0
      · replace h := h
        obtain ⟨rfl, q12⟩ := q12
        replace h := of_let h
        obtain ⟨w20, hw20, h⟩ := h
        have hw20 : w20 = y4k0 := hw20
        subst hw20
        cbv
        injection h with h
        subst h
        refine ⟨(sparse 27 [(4, .c (.v (.int .i64 w20)))] []), ?_, ?_⟩
        · refine St.le_trans q12 ?_
          exact le_sparse rfl ⟨AV.le_refl _, trivial⟩ trivial rfl
        · exact ⟨AV.le_refl _, trivial, rfl⟩
      · replace h := of_let h
        obtain ⟨y4k1, hyk, h⟩ := h
        have hyk : y4k1 = y4m0 := hyk
        subst hyk
        obtain ⟨rfl, q12⟩ := q12
        replace h := of_let h
        obtain ⟨w21, hw21, h⟩ := h
        have hw21 : w21 = y4k1 := hw21
        subst hw21
        cbv
        refine ⟨_, q12, ?_⟩
        cbv
        injection h with h
        subst h
        refine ⟨(sparse 27 [(4, .c (.v (.int .i64 w21)))] []), ?_, ?_⟩
        · exact le_sparse rfl ⟨AV.le_refl _, trivial⟩ trivial rfl
        · exact ⟨AV.le_refl _, trivial, rfl⟩

/-- laws.szLibrary -/
noncomputable def F_laws_szLibrary (a0 : TLibrary) (a1 : Int) : Option (Int) :=
  (F_laws_szCellS a0.fCells a1).bind fun y1 =>
  br (std.lt y1 0)
  (some (-1))
  (some y1)
theorem run_laws_szLibrary (a0 : TLibrary) (a1 : Int) (r : Int) (h : F_laws_szLibrary a0 a1 = some r) : Fun Try.prog 56 [.agg [.bs (len a0.fCells) 4 (row gd (encCell len gd) a0.fCells)], .c (.v (.int .i64 a1))] [] (.c (.v (.int .i64 r))) [] true := by
  refine Fun.of_wp (oneOf []) tok mixed Try.func56 (by kernel_rfl) rfl Try.ntmps56 rfl trivial (fun _ => ⟨trivial, trivial⟩) ?_
  unfold F_laws_szLibrary at h
  have hf_laws_szCellS := @run_laws_szCellS
  generalize hLEN : @len = LEN at *
  generalize hGD : @gd = GD at *
  generalize hA : std = A at *
  generalize hP : Try.prog = P at *
  cbv
  replace h := of_bind h
  obtain ⟨y1, hy2, h⟩ := h
  refine ⟨{ args := [.c (.bs (LEN a0.fCells) 4 (row GD (encCell LEN GD) a0.fCells)), .c (.v (.int .i64 a1))], o0 := [], r := .c (.v (.int .i64 y1)), o1 := [], fl := true, σ := [], τ := [] }, hf_laws_szCellS _ _ _ hy2, ⟨les_cons (AV.le_refl _) (les_cons (AV.le_refl _) (les_nil)), trivial, rfl, rfl, rfl, rfl, trivial, rfl⟩, ?_⟩
  cbv
  refine fork (fun b3 => ?_) (fun b3 => ?_)
  · replace h := of_br_t b3 h
    cbv
    injection h with h
    subst h
    refine ⟨(sparse 12 [(4, .c (.v (.int .i64 (-1))))] []), ?_, ?_⟩
    · exact le_sparse rfl ⟨AV.le_refl _, trivial⟩ trivial rfl
    · exact ⟨AV.le_refl _, trivial, rfl⟩
  · replace h := of_br_f b3 h
    cbv
    injection h with h
    subst h
    refine ⟨(sparse 12 [(4, .c (.v (.int .i64 y1)))] []), ?_, ?_⟩
    · exact le_sparse rfl ⟨AV.le_refl _, trivial⟩ trivial rfl
    · exact ⟨AV.le_refl _, trivial, rfl⟩

/-- laws.toRect -/
noncomputable def F_laws_toRect (a0 : TRect) : Option (TRect) :=
  some a0
theorem run_laws_toRect (a0 : TRect) (r : TRect) (h : F_laws_toRect a0 = some r) : Fun Try.prog 42 [.agg [.v (.int .i64 a0.fX0), .v (.int .i64 a0.fY0), .v (.int .i64 a0.fX1), .v (.int .i64 a0.fY1)]] [] (.agg [.v (.int .i64 r.fX0), .v (.int .i64 r.fY0), .v (.int .i64 r.fX1), .v (.int .i64 r.fY1)]) [] true := by
  refine Fun.of_wp (oneOf []) tok mixed Try.func42 (by kernel_rfl) rfl Try.ntmps42 rfl trivial (fun _ => ⟨(by simp [AV.flat, AV.flat1, AC.flat]), trivial⟩) ?_
  unfold F_laws_toRect at h
  generalize hLEN : @len = LEN at *
  generalize hGD : @gd = GD at *
  generalize hA : std = A at *
  generalize hP : Try.prog = P at *
  cbv
  injection h with h
  subst h
  refine ⟨(sparse 17 [(2, .c (.ptr 128 0))] [(128, .var [.v (.int .i64 a0.fX0), .v (.int .i64 a0.fY0), .v (.int .i64 a0.fX1), .v (.int .i64 a0.fY1)])]), ?_, ?_⟩
  · exact le_sparse rfl ⟨AV.le_refl _, trivial⟩ ⟨rfl, trivial⟩ rfl
  · exact ⟨AV.le_refl _, trivial, rfl⟩

/-- laws.toShape -/
noncomputable def F_laws_toShape (a0 : TShape) : Option (TShape) :=
  (F_laws_toRect a0.fBox).bind fun y1 =>
  some (TShape.mk a0.fLayer y1)
theorem run_laws_toShape (a0 : TShape) (r : TShape) (h : F_laws_toShape a0 = some r) : Fun Try.prog 74 [.agg [.v (.int .i64 a0.fLayer), .v (.int .i64 a0.fBox.fX0), .v (.int .i64 a0.fBox.fY0), .v (.int .i64 a0.fBox.fX1), .v (.int .i64 a0.fBox.fY1)]] [] (.agg [.v (.int .i64 r.fLayer), .v (.int .i64 r.fBox.fX0), .v (.int .i64 r.fBox.fY0), .v (.int .i64 r.fBox.fX1), .v (.int .i64 r.fBox.fY1)]) [] true := by
  refine Fun.of_wp (oneOf []) tok mixed Try.func74 (by kernel_rfl) rfl Try.ntmps74 rfl trivial (fun _ => ⟨(by simp [AV.flat, AV.flat1, AC.flat]), trivial⟩) ?_
  unfold F_laws_toShape at h
  have hf_laws_toRect := @run_laws_toRect
  generalize hLEN : @len = LEN at *
  generalize hGD : @gd = GD at *
  generalize hA : std = A at *
  generalize hP : Try.prog = P at *
  cbv
  replace h := of_bind h
  obtain ⟨y1, hy2, h⟩ := h
  refine ⟨{ args := [.agg [.v (.int .i64 a0.fBox.fX0), .v (.int .i64 a0.fBox.fY0), .v (.int .i64 a0.fBox.fX1), .v (.int .i64 a0.fBox.fY1)]], o0 := [], r := .agg [.v (.int .i64 y1.fX0), .v (.int .i64 y1.fY0), .v (.int .i64 y1.fX1), .v (.int .i64 y1.fY1)], o1 := [], fl := true, σ := [], τ := [] }, hf_laws_toRect _ _ hy2, ⟨les_cons (AV.le_refl _) (les_nil), trivial, rfl, rfl, rfl, rfl, trivial, rfl⟩, ?_⟩
  cbv
  injection h with h
  subst h
  refine ⟨(sparse 12 [(2, .c (.ptr 128 0))] [(128, .var [.v (.int .i64 a0.fLayer), .v (.int .i64 y1.fX0), .v (.int .i64 y1.fY0), .v (.int .i64 y1.fX1), .v (.int .i64 y1.fY1)])]), ?_, ?_⟩
  · exact le_sparse rfl ⟨AV.le_refl _, trivial⟩ ⟨rfl, trivial⟩ rfl
  · exact ⟨AV.le_refl _, trivial, rfl⟩

noncomputable def L_laws_toShapeS_x7 (a0 : List TShape) (l1 : List TShape) : (Int × (List TShape)) → Option ((Int × (List TShape)) ⊕ (((List TShape)))) := fun x7 =>
  letO x7.1 fun v5 =>
  letO x7.2 fun v6 =>
  br (std.lt v5 (std.ofN (len a0)))
  (req (std.inR v5 (len a0)) <|
  (F_laws_toShape (gd a0 (std.toN v5))).bind fun y20 =>
  req (std.inR v5 (len l1)) <|
  req (len l1 = len v6) <|
  letO (List.set v6 (std.nadd 0 (std.toN v5)) y20) fun l23 =>
  some (.inl (std.add .i64 v5 1, l23)))
  (some (.inr v6))
/-- laws.toShapeS -/
noncomputable def F_laws_toShapeS (a0 : List TShape) : Option (List TShape) :=
  req (std.nneg (std.ofN (len a0))) <|
  req (std.room (std.toN (std.ofN (len a0))) 40) <|
  letO (List.replicate (std.toN (std.ofN (len a0))) (TShape.mk 0 (TRect.mk 0 0 0 0))) fun l1 =>
  (whileP (σ := Int × (List TShape)) (ρ := ((List TShape))) (L_laws_toShapeS_x7 a0 l1) (0, l1)).bind fun y8 =>
  letO y8 fun y8k0 =>
  letO y8k0 fun w26 =>
  req (len l1 = len w26) <|
  some w26
theorem run_laws_toShapeS (a0 : List TShape) (r : List TShape) (h : F_laws_toShapeS a0 = some r) : Fun Try.prog 226 [.c (.bs (len a0) 5 (row gd (encShape) a0))] [] (.c (.os 64000 0 (len r))) [(64000, .arr .rw [] (len r) 5 (row gd (encShape) r))] true := by
  refine Fun.of_wp (oneOf []) tok mixed Try.func226 (by kernel_rfl) rfl Try.ntmps226 rfl trivial (fun _ => ⟨trivial, ⟨fun i _ j _ => val_flat (vl_encShape _ _), trivial⟩⟩) ?_
  unfold F_laws_toShapeS at h
  unfold L_laws_toShapeS_x7 at h
  have hf_laws_toShape := @run_laws_toShape
  generalize hLEN : @len = LEN at *
  generalize hGD : @gd = GD at *
  generalize hA : std = A at *
  generalize hP : Try.prog = P at *
  cbv
  replace h := of_req h
  obtain ⟨c3, h⟩ := h
  replace h := of_req h
  obtain ⟨c4, h⟩ := h
  replace h := of_let h
  obtain ⟨l1, hl1, h⟩ := h
  have e2 : A.toN (A.ofN (LEN a0)) = LEN l1 := by subst hl1 hLEN hA; exact rep_len rfl
  refine And.intro (by first | exact ⟨c3, c4⟩ | exact ⟨rfl, c3, trivial, trivial, trivial, c4⟩ | (refine ⟨?_, ?_, ?_, ?_, ?_, ?_⟩ <;> first | exact c3 | exact c4 | trivial)) ?_
  refine ⟨_, congrArg (fun n => AV.c (AC.os 448 0 n)) e2, _, row GD (encShape) l1, e2, ?_, ?_⟩
  · subst hGD hLEN
    exact upd_repL hl1 (by intro j hj; match j, hj with | 0, _ => rfl | 1, _ => rfl | 2, _ => rfl | 3, _ => rfl | 4, _ => rfl | (j_ + 5), h_ => exact absurd h_ (by omega))
  cbv
  replace h := of_bind h
  obtain ⟨y8, hr9, hN10⟩ := h
  refine loop_cut hr9 (fun x => (sparse 23 [(0, .c (.bs (LEN a0) 5 (row GD (encShape) a0))), (3, .c (.os 448 0 (LEN l1))), (4, .c (.v (.int .i64 x.1)))] [(448, .arr .rw [] (LEN l1) 5 (row GD (encShape) x.2))])) ?_ (fun y e s => (fun (w : (List TShape)) => e = .exit 0 ∧ s.le (sparse 23 [(3, .c (.os 448 0 (LEN l1)))] [(448, .arr .rw [] (LEN l1) 5 (row GD (encShape) w))])) y) ?_ ?_
  · clear hr9 hN10
    show St.le _ _
    exact le_sparse rfl ⟨AV.le_refl _, AV.le_refl _, AV.le_refl _, trivial⟩ ⟨⟨fun hw => hw, fun c hc => (by cases hc), .inl rfl, rfl, rfl, fun i hi j hj => rfl⟩, trivial⟩ rfl
  · clear hr9 hN10
    intro x z14 h K12 hK13 hY11
    obtain ⟨x0_, x1_⟩ := x
    replace h := of_let h
    obtain ⟨v5, hv5, h⟩ := h
    have hv5 : v5 = x0_ := hv5
    subst hv5
    replace h := of_let h
    obtain ⟨v6, hv6, h⟩ := h
    have hv6 : v6 = x1_ := hv6
    subst hv6
    cbv
    refine fork (fun b25 => ?_) (fun b25 => ?_)
    · replace h := of_br_t b25 h
      cbv
      replace h := of_req h
      obtain ⟨c19, h⟩ := h
      refine ⟨⟨c19, trivial⟩, ?_⟩
      replace h := of_bind h
      obtain ⟨y20, hy21, h⟩ := h
      refine ⟨{ args := [.agg [.v (.int .i64 (GD a0 (A.toN v5)).fLayer), .v (.int .i64 (GD a0 (A.toN v5)).fBox.fX0), .v (.int .i64 (GD a0 (A.toN v5)).fBox.fY0), .v (.int .i64 (GD a0 (A.toN v5)).fBox.fX1), .v (.int .i64 (GD a0 (A.toN v5)).fBox.fY1)]], o0 := [], r := .agg [.v (.int .i64 y20.fLayer), .v (.int .i64 y20.fBox.fX0), .v (.int .i64 y20.fBox.fY0), .v (.int .i64 y20.fBox.fX1), .v (.int .i64 y20.fBox.fY1)], o1 := [], fl := true, σ := [], τ := [] }, hf_laws_toShape _ _ hy21, ⟨les_cons (AV.le_refl _) (les_nil), trivial, rfl, rfl, rfl, rfl, trivial, rfl⟩, ?_⟩
      cbv
      replace h := of_req h
      obtain ⟨c22, h⟩ := h
      refine ⟨⟨c22, trivial⟩, ?_⟩
      replace h := of_req h
      obtain ⟨c24, h⟩ := h
      replace h := of_let h
      obtain ⟨l23, hl23, h⟩ := h
      refine And.intro (by first | exact (by subst hA; exact idx_lt c22) | (refine And.intro (by subst hA; exact idx_lt c22) ?_; first | trivial | exact ⟨trivial, trivial⟩)) ?_
      refine ⟨_, rfl, _, row GD (encShape) l23, rfl, ?_, ?_⟩
      · subst hGD hLEN hA
        rw [c24] at c22
        refine upd_set hl23 (idx_lt c22) ?_ ?_
        · intro b hb hh
          match b, hb, hh with | 0, _, hh => exact rfl | 1, _, hh => exact rfl | 2, _, hh => exact rfl | 3, _, hh => exact rfl | 4, _, hh => exact rfl | (b_ + 5), h_, _ => exact absurd h_ (by omega)
        · intro b hb hh
          match b, hb, hh with | 0, _, hh => exact (absurd (show 0 ≤ 0 ∧ 0 < 0 + 5 from by decide) hh) | 1, _, hh => exact (absurd (show 0 ≤ 1 ∧ 1 < 0 + 5 from by decide) hh) | 2, _, hh => exact (absurd (show 0 ≤ 2 ∧ 2 < 0 + 5 from by decide) hh) | 3, _, hh => exact (absurd (show 0 ≤ 3 ∧ 3 < 0 + 5 from by decide) hh) | 4, _, hh => exact (absurd (show 0 ≤ 4 ∧ 4 < 0 + 5 from by decide) hh) | (b_ + 5), h_, _ => exact absurd h_ (by omega)
      cbv
      injection h with h
      refine hK13 _ h.symm _ ?_
      exact le_sparse rfl ⟨AV.le_refl _, AV.le_refl _, AV.le_refl _, trivial⟩ ⟨⟨fun hw => hw, fun c hc => (by cases hc), .inl rfl, rfl, rfl, fun i hi j hj => rfl⟩, trivial⟩ rfl
    · replace h := of_br_f b25 h
      cbv
      injection h with h
      refine hY11 _ h.symm _ _ (And.intro rfl ?_) (by intro hh; cases hh)
      exact le_sparse rfl ⟨AV.le_refl _, trivial⟩ ⟨⟨fun hw => hw, fun c hc => (by cases hc), .inl rfl, rfl, rfl, fun i hi j hj => rfl⟩, trivial⟩ rfl
  · clear hr9
    have h := hN10
    clear hN10
    intro e17 s18 q16 hne
    replace h := of_let h
    obtain ⟨y8k0, hyk, h⟩ := h
    have hyk : y8k0 = y8 := hyk
    subst hyk
    obtain ⟨rfl, q16⟩ := q16
    replace h := of_let h
    obtain ⟨w26, hw26, h⟩ := h
    have hw26 : w26 = y8k0 := hw26
    subst hw26
    cbv
    refine ⟨_, q16, ?_⟩
    cbv
    replace h := of_req h
    obtain ⟨c27, h⟩ := h
    injection h with h
    subst h
    refine ⟨(sparse 23 [(2, .c (.os 64000 0 (LEN w26)))] [(64000, .arr .rw [] (LEN w26) 5 (row GD (encShape) w26))]), ?_, ?_⟩
    · refine St.le_trans (le_ren 448 64000 (by decide) rfl) ?_
      rw [c27]
      exact le_sparse rfl ⟨AV.le_refl _, trivial⟩ ⟨⟨fun hw => hw, fun c hc => (by cases hc), .inl rfl, rfl, rfl, fun i hi j hj => rfl⟩, trivial⟩ rfl
    · exact ⟨AV.le_refl _, ⟨⟨fun hw => hw, fun c hc => (by cases hc), .inl rfl, rfl, rfl, fun i hi j hj => rfl⟩, trivial⟩, rfl⟩
/-- laws.toPoint -/
noncomputable def F_laws_toPoint (a0 : TPoint) : Option (TPoint) :=
  some a0
theorem run_laws_toPoint (a0 : TPoint) (r : TPoint) (h : F_laws_toPoint a0 = some r) : Fun Try.prog 147 [.agg [.v (.int .i64 a0.fX), .v (.int .i64 a0.fY)]] [] (.agg [.v (.int .i64 r.fX), .v (.int .i64 r.fY)]) [] true := by
  refine Fun.of_wp (oneOf []) tok mixed Try.func147 (by kernel_rfl) rfl Try.ntmps147 rfl trivial (fun _ => ⟨(by simp [AV.flat, AV.flat1, AC.flat]), trivial⟩) ?_
  unfold F_laws_toPoint at h
  generalize hLEN : @len = LEN at *
  generalize hGD : @gd = GD at *
  generalize hA : std = A at *
  generalize hP : Try.prog = P at *
  cbv
  injection h with h
  subst h
  refine ⟨(sparse 11 [(2, .c (.ptr 128 0))] [(128, .var [.v (.int .i64 a0.fX), .v (.int .i64 a0.fY)])]), ?_, ?_⟩
  · exact le_sparse rfl ⟨AV.le_refl _, trivial⟩ ⟨rfl, trivial⟩ rfl
  · exact ⟨AV.le_refl _, trivial, rfl⟩

/-- laws.toLabel -/
noncomputable def F_laws_toLabel (a0 : TLabel) : Option (TLabel) :=
  (F_laws_toPoint a0.fAt).bind fun y1 =>
  some (TLabel.mk a0.fLayer y1 a0.fName)
theorem run_laws_toLabel (a0 : TLabel) (r : TLabel) (h : F_laws_toLabel a0 = some r) : Fun Try.prog 75 [.agg [.v (.int .i64 a0.fLayer), .v (.int .i64 a0.fAt.fX), .v (.int .i64 a0.fAt.fY), .v (.string a0.fName)]] [] (.agg [.v (.int .i64 r.fLayer), .v (.int .i64 r.fAt.fX), .v (.int .i64 r.fAt.fY), .v (.string r.fName)]) [] true := by
  refine Fun.of_wp (oneOf []) tok mixed Try.func75 (by kernel_rfl) rfl Try.ntmps75 rfl trivial (fun _ => ⟨(by simp [AV.flat, AV.flat1, AC.flat]), trivial⟩) ?_
  unfold F_laws_toLabel at h
  have hf_laws_toPoint := @run_laws_toPoint
  generalize hLEN : @len = LEN at *
  generalize hGD : @gd = GD at *
  generalize hA : std = A at *
  generalize hP : Try.prog = P at *
  cbv
  replace h := of_bind h
  obtain ⟨y1, hy2, h⟩ := h
  refine ⟨{ args := [.agg [.v (.int .i64 a0.fAt.fX), .v (.int .i64 a0.fAt.fY)]], o0 := [], r := .agg [.v (.int .i64 y1.fX), .v (.int .i64 y1.fY)], o1 := [], fl := true, σ := [], τ := [] }, hf_laws_toPoint _ _ hy2, ⟨les_cons (AV.le_refl _) (les_nil), trivial, rfl, rfl, rfl, rfl, trivial, rfl⟩, ?_⟩
  cbv
  injection h with h
  subst h
  refine ⟨(sparse 15 [(2, .c (.ptr 128 0))] [(128, .var [.v (.int .i64 a0.fLayer), .v (.int .i64 y1.fX), .v (.int .i64 y1.fY), .v (.string a0.fName)])]), ?_, ?_⟩
  · exact le_sparse rfl ⟨AV.le_refl _, trivial⟩ ⟨rfl, trivial⟩ rfl
  · exact ⟨AV.le_refl _, trivial, rfl⟩

noncomputable def L_laws_toLabelS_x7 (a0 : List TLabel) (l1 : List TLabel) : (Int × (List TLabel)) → Option ((Int × (List TLabel)) ⊕ (((List TLabel)))) := fun x7 =>
  letO x7.1 fun v5 =>
  letO x7.2 fun v6 =>
  br (std.lt v5 (std.ofN (len a0)))
  (req (std.inR v5 (len a0)) <|
  (F_laws_toLabel (gd a0 (std.toN v5))).bind fun y20 =>
  req (std.inR v5 (len l1)) <|
  req (len l1 = len v6) <|
  letO (List.set v6 (std.nadd 0 (std.toN v5)) y20) fun l23 =>
  some (.inl (std.add .i64 v5 1, l23)))
  (some (.inr v6))
/-- laws.toLabelS -/
noncomputable def F_laws_toLabelS (a0 : List TLabel) : Option (List TLabel) :=
  req (std.nneg (std.ofN (len a0))) <|
  req (std.room (std.toN (std.ofN (len a0))) 40) <|
  letO (List.replicate (std.toN (std.ofN (len a0))) (TLabel.mk 0 (TPoint.mk 0 0) (ByteArray.mk #[]))) fun l1 =>
  (whileP (σ := Int × (List TLabel)) (ρ := ((List TLabel))) (L_laws_toLabelS_x7 a0 l1) (0, l1)).bind fun y8 =>
  letO y8 fun y8k0 =>
  letO y8k0 fun w26 =>
  req (len l1 = len w26) <|
  some w26
theorem run_laws_toLabelS (a0 : List TLabel) (r : List TLabel) (h : F_laws_toLabelS a0 = some r) : Fun Try.prog 227 [.c (.bs (len a0) 4 (row gd (encLabel) a0))] [] (.c (.os 64000 0 (len r))) [(64000, .arr .rw [] (len r) 4 (row gd (encLabel) r))] true := by
  refine Fun.of_wp (oneOf []) tok mixed Try.func227 (by kernel_rfl) rfl Try.ntmps227 rfl trivial (fun _ => ⟨trivial, ⟨fun i _ j _ => val_flat (vl_encLabel _ _), trivial⟩⟩) ?_
  unfold F_laws_toLabelS at h
  unfold L_laws_toLabelS_x7 at h
  have hf_laws_toLabel := @run_laws_toLabel
  generalize hLEN : @len = LEN at *
  generalize hGD : @gd = GD at *
  generalize hA : std = A at *
  generalize hP : Try.prog = P at *
  cbv
  replace h := of_req h
  obtain ⟨c3, h⟩ := h
  replace h := of_req h
  obtain ⟨c4, h⟩ := h
  replace h := of_let h
  obtain ⟨l1, hl1, h⟩ := h
  have e2 : A.toN (A.ofN (LEN a0)) = LEN l1 := by subst hl1 hLEN hA; exact rep_len rfl
  refine And.intro (by first | exact ⟨c3, c4⟩ | exact ⟨rfl, c3, trivial, trivial, trivial, c4⟩ | (refine ⟨?_, ?_, ?_, ?_, ?_, ?_⟩ <;> first | exact c3 | exact c4 | trivial)) ?_
  refine ⟨_, congrArg (fun n => AV.c (AC.os 448 0 n)) e2, _, row GD (encLabel) l1, e2, ?_, ?_⟩
  · subst hGD hLEN
    exact upd_repL hl1 (by intro j hj; match j, hj with | 0, _ => rfl | 1, _ => rfl | 2, _ => rfl | 3, _ => rfl | (j_ + 4), h_ => exact absurd h_ (by omega))
  cbv
  replace h := of_bind h
  obtain ⟨y8, hr9, hN10⟩ := h
  refine loop_cut hr9 (fun x => (sparse 23 [(0, .c (.bs (LEN a0) 4 (row GD (encLabel) a0))), (3, .c (.os 448 0 (LEN l1))), (4, .c (.v (.int .i64 x.1)))] [(448, .arr .rw [] (LEN l1) 4 (row GD (encLabel) x.2))])) ?_ (fun y e s => (fun (w : (List TLabel)) => e = .exit 0 ∧ s.le (sparse 23 [(3, .c (.os 448 0 (LEN l1)))] [(448, .arr .rw [] (LEN l1) 4 (row GD (encLabel) w))])) y) ?_ ?_
  · clear hr9 hN10
    show St.le _ _
    exact le_sparse rfl ⟨AV.le_refl _, AV.le_refl _, AV.le_refl _, trivial⟩ ⟨⟨fun hw => hw, fun c hc => (by cases hc), .inl rfl, rfl, rfl, fun i hi j hj => rfl⟩, trivial⟩ rfl
  · clear hr9 hN10
    intro x z14 h K12 hK13 hY11
    obtain ⟨x0_, x1_⟩ := x
    replace h := of_let h
    obtain ⟨v5, hv5, h⟩ := h
    have hv5 : v5 = x0_ := hv5
    subst hv5
    replace h := of_let h
    obtain ⟨v6, hv6, h⟩ := h
    have hv6 : v6 = x1_ := hv6
    subst hv6
    cbv
    refine fork (fun b25 => ?_) (fun b25 => ?_)
    · replace h := of_br_t b25 h
      cbv
      replace h := of_req h
      obtain ⟨c19, h⟩ := h
      refine ⟨⟨c19, trivial⟩, ?_⟩
      replace h := of_bind h
      obtain ⟨y20, hy21, h⟩ := h
      refine ⟨{ args := [.agg [.v (.int .i64 (GD a0 (A.toN v5)).fLayer), .v (.int .i64 (GD a0 (A.toN v5)).fAt.fX), .v (.int .i64 (GD a0 (A.toN v5)).fAt.fY), .v (.string (GD a0 (A.toN v5)).fName)]], o0 := [], r := .agg [.v (.int .i64 y20.fLayer), .v (.int .i64 y20.fAt.fX), .v (.int .i64 y20.fAt.fY), .v (.string y20.fName)], o1 := [], fl := true, σ := [], τ := [] }, hf_laws_toLabel _ _ hy21, ⟨les_cons (AV.le_refl _) (les_nil), trivial, rfl, rfl, rfl, rfl, trivial, rfl⟩, ?_⟩
      cbv
      replace h := of_req h
      obtain ⟨c22, h⟩ := h
      refine ⟨⟨c22, trivial⟩, ?_⟩
      replace h := of_req h
      obtain ⟨c24, h⟩ := h
      replace h := of_let h
      obtain ⟨l23, hl23, h⟩ := h
      refine And.intro (by first | exact (by subst hA; exact idx_lt c22) | (refine And.intro (by subst hA; exact idx_lt c22) ?_; first | trivial | exact ⟨trivial, trivial⟩)) ?_
      refine ⟨_, rfl, _, row GD (encLabel) l23, rfl, ?_, ?_⟩
      · subst hGD hLEN hA
        rw [c24] at c22
        refine upd_set hl23 (idx_lt c22) ?_ ?_
        · intro b hb hh
          match b, hb, hh with | 0, _, hh => exact rfl | 1, _, hh => exact rfl | 2, _, hh => exact rfl | 3, _, hh => exact rfl | (b_ + 4), h_, _ => exact absurd h_ (by omega)
        · intro b hb hh
          match b, hb, hh with | 0, _, hh => exact (absurd (show 0 ≤ 0 ∧ 0 < 0 + 4 from by decide) hh) | 1, _, hh => exact (absurd (show 0 ≤ 1 ∧ 1 < 0 + 4 from by decide) hh) | 2, _, hh => exact (absurd (show 0 ≤ 2 ∧ 2 < 0 + 4 from by decide) hh) | 3, _, hh => exact (absurd (show 0 ≤ 3 ∧ 3 < 0 + 4 from by decide) hh) | (b_ + 4), h_, _ => exact absurd h_ (by omega)
      cbv
      injection h with h
      refine hK13 _ h.symm _ ?_
      exact le_sparse rfl ⟨AV.le_refl _, AV.le_refl _, AV.le_refl _, trivial⟩ ⟨⟨fun hw => hw, fun c hc => (by cases hc), .inl rfl, rfl, rfl, fun i hi j hj => rfl⟩, trivial⟩ rfl
    · replace h := of_br_f b25 h
      cbv
      injection h with h
      refine hY11 _ h.symm _ _ (And.intro rfl ?_) (by intro hh; cases hh)
      exact le_sparse rfl ⟨AV.le_refl _, trivial⟩ ⟨⟨fun hw => hw, fun c hc => (by cases hc), .inl rfl, rfl, rfl, fun i hi j hj => rfl⟩, trivial⟩ rfl
  · clear hr9
    have h := hN10
    clear hN10
    intro e17 s18 q16 hne
    replace h := of_let h
    obtain ⟨y8k0, hyk, h⟩ := h
    have hyk : y8k0 = y8 := hyk
    subst hyk
    obtain ⟨rfl, q16⟩ := q16
    replace h := of_let h
    obtain ⟨w26, hw26, h⟩ := h
    have hw26 : w26 = y8k0 := hw26
    subst hw26
    cbv
    refine ⟨_, q16, ?_⟩
    cbv
    replace h := of_req h
    obtain ⟨c27, h⟩ := h
    injection h with h
    subst h
    refine ⟨(sparse 23 [(2, .c (.os 64000 0 (LEN w26)))] [(64000, .arr .rw [] (LEN w26) 4 (row GD (encLabel) w26))]), ?_, ?_⟩
    · refine St.le_trans (le_ren 448 64000 (by decide) rfl) ?_
      rw [c27]
      exact le_sparse rfl ⟨AV.le_refl _, trivial⟩ ⟨⟨fun hw => hw, fun c hc => (by cases hc), .inl rfl, rfl, rfl, fun i hi j hj => rfl⟩, trivial⟩ rfl
    · exact ⟨AV.le_refl _, ⟨⟨fun hw => hw, fun c hc => (by cases hc), .inl rfl, rfl, rfl, fun i hi j hj => rfl⟩, trivial⟩, rfl⟩

/-- laws.toTransform -/
noncomputable def F_laws_toTransform (a0 : TTransform) : Option (TTransform) :=
  some a0
theorem run_laws_toTransform (a0 : TTransform) (r : TTransform) (h : F_laws_toTransform a0 = some r) : Fun Try.prog 148 [.agg [.v (.int .i64 a0.fOrientation), .v (.int .i64 a0.fX), .v (.int .i64 a0.fY)]] [] (.agg [.v (.int .i64 r.fOrientation), .v (.int .i64 r.fX), .v (.int .i64 r.fY)]) [] true := by
  refine Fun.of_wp (oneOf []) tok mixed Try.func148 (by kernel_rfl) rfl Try.ntmps148 rfl trivial (fun _ => ⟨(by simp [AV.flat, AV.flat1, AC.flat]), trivial⟩) ?_
  unfold F_laws_toTransform at h
  generalize hLEN : @len = LEN at *
  generalize hGD : @gd = GD at *
  generalize hA : std = A at *
  generalize hP : Try.prog = P at *
  cbv
  injection h with h
  subst h
  refine ⟨(sparse 14 [(2, .c (.ptr 128 0))] [(128, .var [.v (.int .i64 a0.fOrientation), .v (.int .i64 a0.fX), .v (.int .i64 a0.fY)])]), ?_, ?_⟩
  · exact le_sparse rfl ⟨AV.le_refl _, trivial⟩ ⟨rfl, trivial⟩ rfl
  · exact ⟨AV.le_refl _, trivial, rfl⟩

/-- laws.toInstance -/
noncomputable def F_laws_toInstance (a0 : TInstance) : Option (TInstance) :=
  (F_laws_toTransform a0.fPlace).bind fun y1 =>
  some (TInstance.mk a0.fCell y1 a0.fColumns a0.fRows a0.fStepX a0.fStepY)
theorem run_laws_toInstance (a0 : TInstance) (r : TInstance) (h : F_laws_toInstance a0 = some r) : Fun Try.prog 76 [.agg [.v (.int .i64 a0.fCell), .v (.int .i64 a0.fPlace.fOrientation), .v (.int .i64 a0.fPlace.fX), .v (.int .i64 a0.fPlace.fY), .v (.int .i64 a0.fColumns), .v (.int .i64 a0.fRows), .v (.int .i64 a0.fStepX), .v (.int .i64 a0.fStepY)]] [] (.agg [.v (.int .i64 r.fCell), .v (.int .i64 r.fPlace.fOrientation), .v (.int .i64 r.fPlace.fX), .v (.int .i64 r.fPlace.fY), .v (.int .i64 r.fColumns), .v (.int .i64 r.fRows), .v (.int .i64 r.fStepX), .v (.int .i64 r.fStepY)]) [] true := by
  refine Fun.of_wp (oneOf []) tok mixed Try.func76 (by kernel_rfl) rfl Try.ntmps76 rfl trivial (fun _ => ⟨(by simp [AV.flat, AV.flat1, AC.flat]), trivial⟩) ?_
  unfold F_laws_toInstance at h
  have hf_laws_toTransform := @run_laws_toTransform
  generalize hLEN : @len = LEN at *
  generalize hGD : @gd = GD at *
  generalize hA : std = A at *
  generalize hP : Try.prog = P at *
  cbv
  replace h := of_bind h
  obtain ⟨y1, hy2, h⟩ := h
  refine ⟨{ args := [.agg [.v (.int .i64 a0.fPlace.fOrientation), .v (.int .i64 a0.fPlace.fX), .v (.int .i64 a0.fPlace.fY)]], o0 := [], r := .agg [.v (.int .i64 y1.fOrientation), .v (.int .i64 y1.fX), .v (.int .i64 y1.fY)], o1 := [], fl := true, σ := [], τ := [] }, hf_laws_toTransform _ _ hy2, ⟨les_cons (AV.le_refl _) (les_nil), trivial, rfl, rfl, rfl, rfl, trivial, rfl⟩, ?_⟩
  cbv
  injection h with h
  subst h
  refine ⟨(sparse 24 [(2, .c (.ptr 128 0))] [(128, .var [.v (.int .i64 a0.fCell), .v (.int .i64 y1.fOrientation), .v (.int .i64 y1.fX), .v (.int .i64 y1.fY), .v (.int .i64 a0.fColumns), .v (.int .i64 a0.fRows), .v (.int .i64 a0.fStepX), .v (.int .i64 a0.fStepY)])]), ?_, ?_⟩
  · exact le_sparse rfl ⟨AV.le_refl _, trivial⟩ ⟨rfl, trivial⟩ rfl
  · exact ⟨AV.le_refl _, trivial, rfl⟩

noncomputable def L_laws_toInstanceS_x7 (a0 : List TInstance) (l1 : List TInstance) : (Int × (List TInstance)) → Option ((Int × (List TInstance)) ⊕ (((List TInstance)))) := fun x7 =>
  letO x7.1 fun v5 =>
  letO x7.2 fun v6 =>
  br (std.lt v5 (std.ofN (len a0)))
  (req (std.inR v5 (len a0)) <|
  (F_laws_toInstance (gd a0 (std.toN v5))).bind fun y20 =>
  req (std.inR v5 (len l1)) <|
  req (len l1 = len v6) <|
  letO (List.set v6 (std.nadd 0 (std.toN v5)) y20) fun l23 =>
  some (.inl (std.add .i64 v5 1, l23)))
  (some (.inr v6))
/-- laws.toInstanceS -/
noncomputable def F_laws_toInstanceS (a0 : List TInstance) : Option (List TInstance) :=
  req (std.nneg (std.ofN (len a0))) <|
  req (std.room (std.toN (std.ofN (len a0))) 64) <|
  letO (List.replicate (std.toN (std.ofN (len a0))) (TInstance.mk 0 (TTransform.mk 0 0 0) 0 0 0 0)) fun l1 =>
  (whileP (σ := Int × (List TInstance)) (ρ := ((List TInstance))) (L_laws_toInstanceS_x7 a0 l1) (0, l1)).bind fun y8 =>
  letO y8 fun y8k0 =>
  letO y8k0 fun w26 =>
  req (len l1 = len w26) <|
  some w26
theorem run_laws_toInstanceS (a0 : List TInstance) (r : List TInstance) (h : F_laws_toInstanceS a0 = some r) : Fun Try.prog 228 [.c (.bs (len a0) 8 (row gd (encInstance) a0))] [] (.c (.os 64000 0 (len r))) [(64000, .arr .rw [] (len r) 8 (row gd (encInstance) r))] true := by
  refine Fun.of_wp (oneOf []) tok mixed Try.func228 (by kernel_rfl) rfl Try.ntmps228 rfl trivial (fun _ => ⟨trivial, ⟨fun i _ j _ => val_flat (vl_encInstance _ _), trivial⟩⟩) ?_
  unfold F_laws_toInstanceS at h
  unfold L_laws_toInstanceS_x7 at h
  have hf_laws_toInstance := @run_laws_toInstance
  generalize hLEN : @len = LEN at *
  generalize hGD : @gd = GD at *
  generalize hA : std = A at *
  generalize hP : Try.prog = P at *
  cbv
  replace h := of_req h
  obtain ⟨c3, h⟩ := h
  replace h := of_req h
  obtain ⟨c4, h⟩ := h
  replace h := of_let h
  obtain ⟨l1, hl1, h⟩ := h
  have e2 : A.toN (A.ofN (LEN a0)) = LEN l1 := by subst hl1 hLEN hA; exact rep_len rfl
  refine And.intro (by first | exact ⟨c3, c4⟩ | exact ⟨rfl, c3, trivial, trivial, trivial, c4⟩ | (refine ⟨?_, ?_, ?_, ?_, ?_, ?_⟩ <;> first | exact c3 | exact c4 | trivial)) ?_
  refine ⟨_, congrArg (fun n => AV.c (AC.os 448 0 n)) e2, _, row GD (encInstance) l1, e2, ?_, ?_⟩
  · subst hGD hLEN
    exact upd_repL hl1 (by intro j hj; match j, hj with | 0, _ => rfl | 1, _ => rfl | 2, _ => rfl | 3, _ => rfl | 4, _ => rfl | 5, _ => rfl | 6, _ => rfl | 7, _ => rfl | (j_ + 8), h_ => exact absurd h_ (by omega))
  cbv
  replace h := of_bind h
  obtain ⟨y8, hr9, hN10⟩ := h
  refine loop_cut hr9 (fun x => (sparse 23 [(0, .c (.bs (LEN a0) 8 (row GD (encInstance) a0))), (3, .c (.os 448 0 (LEN l1))), (4, .c (.v (.int .i64 x.1)))] [(448, .arr .rw [] (LEN l1) 8 (row GD (encInstance) x.2))])) ?_ (fun y e s => (fun (w : (List TInstance)) => e = .exit 0 ∧ s.le (sparse 23 [(3, .c (.os 448 0 (LEN l1)))] [(448, .arr .rw [] (LEN l1) 8 (row GD (encInstance) w))])) y) ?_ ?_
  · clear hr9 hN10
    show St.le _ _
    exact le_sparse rfl ⟨AV.le_refl _, AV.le_refl _, AV.le_refl _, trivial⟩ ⟨⟨fun hw => hw, fun c hc => (by cases hc), .inl rfl, rfl, rfl, fun i hi j hj => rfl⟩, trivial⟩ rfl
  · clear hr9 hN10
    intro x z14 h K12 hK13 hY11
    obtain ⟨x0_, x1_⟩ := x
    replace h := of_let h
    obtain ⟨v5, hv5, h⟩ := h
    have hv5 : v5 = x0_ := hv5
    subst hv5
    replace h := of_let h
    obtain ⟨v6, hv6, h⟩ := h
    have hv6 : v6 = x1_ := hv6
    subst hv6
    cbv
    refine fork (fun b25 => ?_) (fun b25 => ?_)
    · replace h := of_br_t b25 h
      cbv
      replace h := of_req h
      obtain ⟨c19, h⟩ := h
      refine ⟨⟨c19, trivial⟩, ?_⟩
      replace h := of_bind h
      obtain ⟨y20, hy21, h⟩ := h
      refine ⟨{ args := [.agg [.v (.int .i64 (GD a0 (A.toN v5)).fCell), .v (.int .i64 (GD a0 (A.toN v5)).fPlace.fOrientation), .v (.int .i64 (GD a0 (A.toN v5)).fPlace.fX), .v (.int .i64 (GD a0 (A.toN v5)).fPlace.fY), .v (.int .i64 (GD a0 (A.toN v5)).fColumns), .v (.int .i64 (GD a0 (A.toN v5)).fRows), .v (.int .i64 (GD a0 (A.toN v5)).fStepX), .v (.int .i64 (GD a0 (A.toN v5)).fStepY)]], o0 := [], r := .agg [.v (.int .i64 y20.fCell), .v (.int .i64 y20.fPlace.fOrientation), .v (.int .i64 y20.fPlace.fX), .v (.int .i64 y20.fPlace.fY), .v (.int .i64 y20.fColumns), .v (.int .i64 y20.fRows), .v (.int .i64 y20.fStepX), .v (.int .i64 y20.fStepY)], o1 := [], fl := true, σ := [], τ := [] }, hf_laws_toInstance _ _ hy21, ⟨les_cons (AV.le_refl _) (les_nil), trivial, rfl, rfl, rfl, rfl, trivial, rfl⟩, ?_⟩
      cbv
      replace h := of_req h
      obtain ⟨c22, h⟩ := h
      refine ⟨⟨c22, trivial⟩, ?_⟩
      replace h := of_req h
      obtain ⟨c24, h⟩ := h
      replace h := of_let h
      obtain ⟨l23, hl23, h⟩ := h
      refine And.intro (by first | exact (by subst hA; exact idx_lt c22) | (refine And.intro (by subst hA; exact idx_lt c22) ?_; first | trivial | exact ⟨trivial, trivial⟩)) ?_
      refine ⟨_, rfl, _, row GD (encInstance) l23, rfl, ?_, ?_⟩
      · subst hGD hLEN hA
        rw [c24] at c22
        refine upd_set hl23 (idx_lt c22) ?_ ?_
        · intro b hb hh
          match b, hb, hh with | 0, _, hh => exact rfl | 1, _, hh => exact rfl | 2, _, hh => exact rfl | 3, _, hh => exact rfl | 4, _, hh => exact rfl | 5, _, hh => exact rfl | 6, _, hh => exact rfl | 7, _, hh => exact rfl | (b_ + 8), h_, _ => exact absurd h_ (by omega)
        · intro b hb hh
          match b, hb, hh with | 0, _, hh => exact (absurd (show 0 ≤ 0 ∧ 0 < 0 + 8 from by decide) hh) | 1, _, hh => exact (absurd (show 0 ≤ 1 ∧ 1 < 0 + 8 from by decide) hh) | 2, _, hh => exact (absurd (show 0 ≤ 2 ∧ 2 < 0 + 8 from by decide) hh) | 3, _, hh => exact (absurd (show 0 ≤ 3 ∧ 3 < 0 + 8 from by decide) hh) | 4, _, hh => exact (absurd (show 0 ≤ 4 ∧ 4 < 0 + 8 from by decide) hh) | 5, _, hh => exact (absurd (show 0 ≤ 5 ∧ 5 < 0 + 8 from by decide) hh) | 6, _, hh => exact (absurd (show 0 ≤ 6 ∧ 6 < 0 + 8 from by decide) hh) | 7, _, hh => exact (absurd (show 0 ≤ 7 ∧ 7 < 0 + 8 from by decide) hh) | (b_ + 8), h_, _ => exact absurd h_ (by omega)
      cbv
      injection h with h
      refine hK13 _ h.symm _ ?_
      exact le_sparse rfl ⟨AV.le_refl _, AV.le_refl _, AV.le_refl _, trivial⟩ ⟨⟨fun hw => hw, fun c hc => (by cases hc), .inl rfl, rfl, rfl, fun i hi j hj => rfl⟩, trivial⟩ rfl
    · replace h := of_br_f b25 h
      cbv
      injection h with h
      refine hY11 _ h.symm _ _ (And.intro rfl ?_) (by intro hh; cases hh)
      exact le_sparse rfl ⟨AV.le_refl _, trivial⟩ ⟨⟨fun hw => hw, fun c hc => (by cases hc), .inl rfl, rfl, rfl, fun i hi j hj => rfl⟩, trivial⟩ rfl
  · clear hr9
    have h := hN10
    clear hN10
    intro e17 s18 q16 hne
    replace h := of_let h
    obtain ⟨y8k0, hyk, h⟩ := h
    have hyk : y8k0 = y8 := hyk
    subst hyk
    obtain ⟨rfl, q16⟩ := q16
    replace h := of_let h
    obtain ⟨w26, hw26, h⟩ := h
    have hw26 : w26 = y8k0 := hw26
    subst hw26
    cbv
    refine ⟨_, q16, ?_⟩
    cbv
    replace h := of_req h
    obtain ⟨c27, h⟩ := h
    injection h with h
    subst h
    refine ⟨(sparse 23 [(2, .c (.os 64000 0 (LEN w26)))] [(64000, .arr .rw [] (LEN w26) 8 (row GD (encInstance) w26))]), ?_, ?_⟩
    · refine St.le_trans (le_ren 448 64000 (by decide) rfl) ?_
      rw [c27]
      exact le_sparse rfl ⟨AV.le_refl _, trivial⟩ ⟨⟨fun hw => hw, fun c hc => (by cases hc), .inl rfl, rfl, rfl, fun i hi j hj => rfl⟩, trivial⟩ rfl
    · exact ⟨AV.le_refl _, ⟨⟨fun hw => hw, fun c hc => (by cases hc), .inl rfl, rfl, rfl, fun i hi j hj => rfl⟩, trivial⟩, rfl⟩

/-- laws.toCell -/
noncomputable def F_laws_toCell (a0 : TCell) : Option (TCell) :=
  (F_laws_toShapeS a0.fShapes).bind fun y1 =>
  (F_laws_toLabelS a0.fLabels).bind fun y3 =>
  (F_laws_toInstanceS a0.fInstances).bind fun y5 =>
  some (TCell.mk a0.fName y1 y3 y5)
theorem run_laws_toCell (a0 : TCell) (r : TCell) (h : F_laws_toCell a0 = some r) : Fun Try.prog 187 [.agg [.v (.string a0.fName), .bs (len a0.fShapes) 5 (row gd (encShape) a0.fShapes), .bs (len a0.fLabels) 4 (row gd (encLabel) a0.fLabels), .bs (len a0.fInstances) 8 (row gd (encInstance) a0.fInstances)]] [] (.agg [.v (.string r.fName), .os 64000 0 (len r.fShapes), .os 64002 0 (len r.fLabels), .os 64004 0 (len r.fInstances)]) [(64000, .arr .rw [] (len r.fShapes) 5 (row gd (encShape) r.fShapes)), (64002, .arr .rw [] (len r.fLabels) 4 (row gd (encLabel) r.fLabels)), (64004, .arr .rw [] (len r.fInstances) 8 (row gd (encInstance) r.fInstances))] true := by
  refine Fun.of_wp (oneOf []) tok mixed Try.func187 (by kernel_rfl) rfl Try.ntmps187 rfl trivial (fun _ => ⟨(by simp [AV.flat, AV.flat1, AC.flat]), ⟨fun i _ j _ => val_flat (vl_encShape _ _), fun i _ j _ => val_flat (vl_encLabel _ _), fun i _ j _ => val_flat (vl_encInstance _ _), trivial⟩⟩) ?_
  unfold F_laws_toCell at h
  have hf_laws_toInstanceS := @run_laws_toInstanceS
  have hf_laws_toLabelS := @run_laws_toLabelS
  have hf_laws_toShapeS := @run_laws_toShapeS
  generalize hLEN : @len = LEN at *
  generalize hGD : @gd = GD at *
  generalize hA : std = A at *
  generalize hP : Try.prog = P at *
  cbv
  replace h := of_bind h
  obtain ⟨y1, hy2, h⟩ := h
  refine ⟨{ args := [.c (.bs (LEN a0.fShapes) 5 (row GD (encShape) a0.fShapes))], o0 := [], r := .c (.os 64000 0 (LEN y1)), o1 := [(64000, .arr .rw [] (LEN y1) 5 (row GD (encShape) y1))], fl := true, σ := [], τ := [(64000, 576)] }, hf_laws_toShapeS _ _ hy2, ⟨les_cons (AV.le_refl _) (les_nil), trivial, rfl, rfl, rfl, rfl, ⟨fun h => absurd (show (64000 : Nat) % 2 = 1 from h) (by decide), trivial⟩, rfl⟩, _, rfl, _, _, rfl, fun _ _ _ _ => rfl, ?_⟩
  cbv
  replace h := of_bind h
  obtain ⟨y3, hy4, h⟩ := h
  refine ⟨{ args := [.c (.bs (LEN a0.fLabels) 4 (row GD (encLabel) a0.fLabels))], o0 := [], r := .c (.os 64000 0 (LEN y3)), o1 := [(64000, .arr .rw [] (LEN y3) 4 (row GD (encLabel) y3))], fl := true, σ := [], τ := [(64000, 832)] }, hf_laws_toLabelS _ _ hy4, ⟨les_cons (AV.le_refl _) (les_nil), trivial, rfl, rfl, rfl, rfl, ⟨fun h => absurd (show (64000 : Nat) % 2 = 1 from h) (by decide), trivial⟩, rfl⟩, _, rfl, _, _, rfl, fun _ _ _ _ => rfl, ?_⟩
  cbv
  replace h := of_bind h
  obtain ⟨y5, hy6, h⟩ := h
  refine ⟨{ args := [.c (.bs (LEN a0.fInstances) 8 (row GD (encInstance) a0.fInstances))], o0 := [], r := .c (.os 64000 0 (LEN y5)), o1 := [(64000, .arr .rw [] (LEN y5) 8 (row GD (encInstance) y5))], fl := true, σ := [], τ := [(64000, 1088)] }, hf_laws_toInstanceS _ _ hy6, ⟨les_cons (AV.le_refl _) (les_nil), trivial, rfl, rfl, rfl, rfl, ⟨fun h => absurd (show (64000 : Nat) % 2 = 1 from h) (by decide), trivial⟩, rfl⟩, _, rfl, _, _, rfl, fun _ _ _ _ => rfl, ?_⟩
  cbv
  injection h with h
  subst h
  refine ⟨(sparse 20 [(2, .c (.ptr 128 0))] [(128, .var [.v (.string a0.fName), .os 64000 0 (LEN y1), .os 64002 0 (LEN y3), .os 64004 0 (LEN y5)]), (64000, .arr .rw [] (LEN y1) 5 (row GD (encShape) y1)), (64002, .arr .rw [] (LEN y3) 4 (row GD (encLabel) y3)), (64004, .arr .rw [] (LEN y5) 8 (row GD (encInstance) y5))]), ?_, ?_⟩
  · refine St.le_trans (le_ren 576 64000 (by decide) rfl) ?_
    refine St.le_trans (le_ren 832 64002 (by decide) rfl) ?_
    refine St.le_trans (le_ren 1088 64004 (by decide) rfl) ?_
    exact le_sparse rfl ⟨AV.le_refl _, trivial⟩ ⟨rfl, ⟨fun hw => hw, fun c hc => (by cases hc), .inl rfl, rfl, rfl, fun i hi j hj => rfl⟩, ⟨fun hw => hw, fun c hc => (by cases hc), .inl rfl, rfl, rfl, fun i hi j hj => rfl⟩, ⟨fun hw => hw, fun c hc => (by cases hc), .inl rfl, rfl, rfl, fun i hi j hj => rfl⟩, trivial⟩ rfl
  · exact ⟨AV.le_refl _, ⟨⟨fun hw => hw, fun c hc => (by cases hc), .inl rfl, rfl, rfl, fun i hi j hj => rfl⟩, ⟨fun hw => hw, fun c hc => (by cases hc), .inl rfl, rfl, rfl, fun i hi j hj => rfl⟩, ⟨fun hw => hw, fun c hc => (by cases hc), .inl rfl, rfl, rfl, fun i hi j hj => rfl⟩, trivial⟩, rfl⟩

noncomputable def L_laws_toCellS_x14 (a0 : List TCell) (w7 : List TCell) : (Int × (List TCell)) → Option ((Int × (List TCell)) ⊕ (((List TCell)))) := fun x14 =>
  letO x14.1 fun v12 =>
  letO x14.2 fun v13 =>
  br (std.lt v12 (std.ofN (len a0)))
  (((
        req (std.inR v12 (len a0)) <|
        (F_laws_toCell (gd a0 (std.toN v12))).bind fun y34 =>
        req (std.inR v12 (len w7)) <|
        req (len w7 = len v13) <|
        letO (List.set v13 (std.nadd 0 (std.toN v12)) y34) fun l37 =>
        some l37
    ) : Option ((List TCell))).bind fun y26 =>
  letO y26 fun w32 =>
  some (.inl (std.add .i64 v12 1, w32)))
  (some (.inr v13))
/-- laws.toCellS -/
noncomputable def F_laws_toCellS (a0 : List TCell) : Option (List TCell) :=
  ((
        req (std.nneg (std.ofN (len a0))) <|
        req (std.room (std.toN (std.ofN (len a0))) 88) <|
        letO (List.replicate (std.toN (std.ofN (len a0))) (TCell.mk (ByteArray.mk #[]) ([] : List TShape) ([] : List TLabel) ([] : List TInstance))) fun l8 =>
        some l8
    ) : Option ((List TCell))).bind fun y1 =>
  letO y1 fun w7 =>
  (whileP (σ := Int × (List TCell)) (ρ := ((List TCell))) (L_laws_toCellS_x14 a0 w7) (0, w7)).bind fun y15 =>
  letO y15 fun y15k0 =>
  letO y15k0 fun w40 =>
  req (len w7 = len w40) <|
  some w40
theorem run_laws_toCellS (a0 : List TCell) (r : List TCell) (h : F_laws_toCellS a0 = some r) : Fun Try.prog 129 [.c (.bs (len a0) 4 (row gd (encCell len gd) a0))] [] (.c (.os 64000 0 (len r))) [(64000, .arr .rw [] (len r) 4 (row gd (oncCell len gd) r))] true := by
  refine Fun.of_wp (oneOf [1, 5]) tok mixed Try.func129 (by kernel_rfl) rfl Try.ntmps129 rfl trivial (fun _ => ⟨trivial, ⟨fun i _ j _ => fl_oncCell _ _, trivial⟩⟩) ?_
  unfold F_laws_toCellS at h
  unfold L_laws_toCellS_x14 at h
  have hf_laws_toCell := @run_laws_toCell
  generalize hLEN : @len = LEN at *
  generalize hGD : @gd = GD at *
  generalize hA : std = A at *
  generalize hP : Try.prog = P at *
  cbv
  replace h := of_bind h
  obtain ⟨y1, hy2, h⟩ := h
  obtain ⟨S5, hS6⟩ : ∃ S, S = (sparse 23 [(0, .c (.bs (LEN a0) 4 (row GD (encCell LEN GD) a0))), (3, .c (.os 448 0 (LEN y1)))] [(448, .arr .rw [] (LEN y1) 4 (row GD (oncCell LEN GD) y1))]) := ⟨_, rfl⟩
  refine ⟨S5, ?_, ?_⟩
  · clear h
    have h := hy2
    clear hy2
    cbv
    replace h := of_req h
    obtain ⟨c10, h⟩ := h
    replace h := of_req h
    obtain ⟨c11, h⟩ := h
    replace h := of_let h
    obtain ⟨l8, hl8, h⟩ := h
    have e9 : A.toN (A.ofN (LEN a0)) = LEN l8 := by subst hl8 hLEN hA; exact rep_len rfl
    refine And.intro (by first | exact ⟨c10, c11⟩ | exact ⟨rfl, c10, trivial, trivial, trivial, c11⟩ | (refine ⟨?_, ?_, ?_, ?_, ?_, ?_⟩ <;> first | exact c10 | exact c11 | trivial)) ?_
    refine ⟨_, congrArg (fun n => AV.c (AC.os 448 0 n)) e9, _, (fun _ j => ([.v (.string (ByteArray.mk #[])), .v (.slice none 0 0), .v (.slice none 0 0), .v (.slice none 0 0)] : List AC).getD j .junk), e9, ?_, ?_⟩
    · intro i hi j hj
      match j, hj with | 0, _ => rfl | 1, _ => rfl | 2, _ => rfl | 3, _ => rfl | (j_ + 4), h_ => exact absurd h_ (by omega)
    cbv
    injection h with h
    subst h
    subst hS6
    show St.le _ _
    refine St.le_trans (le_nilG (get' := (fun _ j => ([.v (.string (ByteArray.mk #[])), .ow (LEN ([] : List TShape)) 5 (row GD (encShape) ([] : List TShape)), .ow (LEN ([] : List TLabel)) 4 (row GD (encLabel) ([] : List TLabel)), .ow (LEN ([] : List TInstance)) 8 (row GD (encInstance) ([] : List TInstance))] : List AC).getD j .junk)) 448 rfl ?_) ?_
    · subst hLEN
      intro i _ j hj
      match j, hj with | 0, _ => exact (.inl rfl) | 1, _ => exact (.inr ⟨rfl, _, _, rfl⟩) | 2, _ => exact (.inr ⟨rfl, _, _, rfl⟩) | 3, _ => exact (.inr ⟨rfl, _, _, rfl⟩) | (j_ + 4), h_ => exact absurd h_ (by omega)
    exact le_sparse rfl ⟨AV.le_refl _, AV.le_refl _, trivial⟩ ⟨⟨fun hw => hw, fun c hc => (by cases hc), .inr (fun i _ j _ z hz => (noref (rf_oncCell _ _) hz).elim), rfl, rfl, (by subst hGD hLEN hA; exact upd_repL hl8 (g := fun j => _) (by intro j hj; match j, hj with | 0, _ => rfl | 1, _ => rfl | 2, _ => rfl | 3, _ => rfl | (j_ + 4), h_ => exact absurd h_ (by omega)))⟩, trivial⟩ rfl
  · clear hy2
    subst hS6
    replace h := of_let h
    obtain ⟨w7, hw7, h⟩ := h
    have hw7 : w7 = y1 := hw7
    subst hw7
    cbv
    replace h := of_bind h
    obtain ⟨y15, hr16, hN17⟩ := h
    refine loop_cut hr16 (fun x => (sparse 23 [(0, .c (.bs (LEN a0) 4 (row GD (encCell LEN GD) a0))), (3, .c (.os 448 0 (LEN w7))), (4, .c (.v (.int .i64 x.1)))] [(448, .arr .rw [] (LEN w7) 4 (row GD (oncCell LEN GD) x.2))])) ?_ (fun y e s => (fun (w : (List TCell)) => e = .exit 0 ∧ s.le (sparse 23 [(3, .c (.os 448 0 (LEN w7)))] [(448, .arr .rw [] (LEN w7) 4 (row GD (oncCell LEN GD) w))])) y) ?_ ?_
    · clear hr16 hN17
      show St.le _ _
      exact le_sparse rfl ⟨AV.le_refl _, AV.le_refl _, AV.le_refl _, trivial⟩ ⟨⟨fun hw => hw, fun c hc => (by cases hc), .inl rfl, rfl, rfl, fun i hi j hj => rfl⟩, trivial⟩ rfl
    · clear hr16 hN17
      intro x z21 h K19 hK20 hY18
      obtain ⟨x0_, x1_⟩ := x
      replace h := of_let h
      obtain ⟨v12, hv12, h⟩ := h
      have hv12 : v12 = x0_ := hv12
      subst hv12
      replace h := of_let h
      obtain ⟨v13, hv13, h⟩ := h
      have hv13 : v13 = x1_ := hv13
      subst hv13
      cbv
      refine fork (fun b39 => ?_) (fun b39 => ?_)
      · replace h := of_br_t b39 h
        cbv
        replace h := of_bind h
        obtain ⟨y26, hy27, h⟩ := h
        obtain ⟨S30, hS31⟩ : ∃ S, S = (sparse 23 [(0, .c (.bs (LEN a0) 4 (row GD (encCell LEN GD) a0))), (3, .c (.os 448 0 (LEN w7))), (4, .c (.v (.int .i64 v12)))] [(448, .arr .rw [] (LEN w7) 4 (row GD (oncCell LEN GD) y26))]) := ⟨_, rfl⟩
        refine ⟨S30, ?_, ?_⟩
        · clear h
          have h := hy27
          clear hy27
          cbv
          replace h := of_req h
          obtain ⟨c33, h⟩ := h
          refine ⟨⟨c33, trivial⟩, ?_⟩
          replace h := of_bind h
          obtain ⟨y34, hy35, h⟩ := h
          refine ⟨{ args := [.agg [.v (.string (GD a0 (A.toN v12)).fName), .bs (LEN (GD a0 (A.toN v12)).fShapes) 5 (row GD (encShape) (GD a0 (A.toN v12)).fShapes), .bs (LEN (GD a0 (A.toN v12)).fLabels) 4 (row GD (encLabel) (GD a0 (A.toN v12)).fLabels), .bs (LEN (GD a0 (A.toN v12)).fInstances) 8 (row GD (encInstance) (GD a0 (A.toN v12)).fInstances)]], o0 := [], r := .agg [.v (.string y34.fName), .os 64000 0 (LEN y34.fShapes), .os 64002 0 (LEN y34.fLabels), .os 64004 0 (LEN y34.fInstances)], o1 := [(64000, .arr .rw [] (LEN y34.fShapes) 5 (row GD (encShape) y34.fShapes)), (64002, .arr .rw [] (LEN y34.fLabels) 4 (row GD (encLabel) y34.fLabels)), (64004, .arr .rw [] (LEN y34.fInstances) 8 (row GD (encInstance) y34.fInstances))], fl := true, σ := [], τ := [(64000, 1280), (64002, 1282), (64004, 1284)] }, hf_laws_toCell _ _ hy35, ⟨les_cons (AV.le_refl _) (les_nil), trivial, rfl, rfl, rfl, rfl, ⟨fun h => absurd (show (64000 : Nat) % 2 = 1 from h) (by decide), fun h => absurd (show (64002 : Nat) % 2 = 1 from h) (by decide), fun h => absurd (show (64004 : Nat) % 2 = 1 from h) (by decide), trivial⟩, rfl⟩, _, rfl, _, _, rfl, fun _ _ _ _ => rfl, _, _, rfl, fun _ _ _ _ => rfl, _, _, rfl, fun _ _ _ _ => rfl, ?_⟩
          cbv
          replace h := of_req h
          obtain ⟨c36, h⟩ := h
          refine ⟨⟨c36, trivial⟩, ?_⟩
          refine And.intro (by first | exact (by subst hA; exact idx_lt c36) | (refine And.intro (by subst hA; exact idx_lt c36) ?_; first | trivial | exact ⟨trivial, trivial⟩)) ?_
          refine ⟨_, rfl, _, (patchC (row GD (oncCell LEN GD) v13) (A.nadd 0 (A.toN v12)) [.v (.string y34.fName), .os 1280 0 (LEN y34.fShapes), .os 1282 0 (LEN y34.fLabels), .os 1284 0 (LEN y34.fInstances)]), rfl, ?_, ?_⟩
          · refine patch_of ?_
            intro j hj
            match j, hj with | 0, _ => (rfl) | 1, _ => (rfl) | 2, _ => (rfl) | 3, _ => (rfl) | (j_ + 4), h_ => exact absurd h_ (by omega)
          cbv
          replace h := of_req h
          obtain ⟨c38, h⟩ := h
          replace h := of_let h
          obtain ⟨l37, hl37, h⟩ := h
          injection h with h
          subst h
          subst hS31
          show St.le _ _
          refine St.le_trans (le_foldP 448 1 1280 rfl rfl rfl (by decide) (by subst hA; exact idx_lt c36) (by decide) rfl (fun _ _ => rf_oncCell _ _)) ?_
          refine St.le_trans (le_foldP 448 2 1282 rfl rfl rfl (by decide) (by subst hA; exact idx_lt c36) (by decide) rfl (fun _ _ => rf_oncCell _ _)) ?_
          refine St.le_trans (le_foldP 448 3 1284 rfl rfl rfl (by decide) (by subst hA; exact idx_lt c36) (by decide) rfl (fun _ _ => rf_oncCell _ _)) ?_
          exact le_sparse rfl ⟨AV.le_refl _, AV.le_refl _, AV.le_refl _, trivial⟩ ⟨⟨fun hw => hw, fun c hc => (by cases hc), .inr (fun i _ j _ z hz => (noref (rf_oncCell _ _) hz).elim), rfl, rfl, (by subst hGD hLEN hA; exact patch_set hl37 (idx_lt (by rw [← c38]; exact c36)) (by intro j hj; match j, hj with | 0, _ => rfl | 1, _ => rfl | 2, _ => rfl | 3, _ => rfl | (j_ + 4), h_ => exact absurd h_ (by omega)))⟩, trivial⟩ rfl
        · clear hy27
          subst hS31
          replace h := of_let h
          obtain ⟨w32, hw32, h⟩ := h
          have hw32 : w32 = y26 := hw32
          subst hw32
          cbv
          injection h with h
          refine hK20 _ h.symm _ ?_
          exact le_sparse rfl ⟨AV.le_refl _, AV.le_refl _, AV.le_refl _, trivial⟩ ⟨⟨fun hw => hw, fun c hc => (by cases hc), .inl rfl, rfl, rfl, fun i hi j hj => rfl⟩, trivial⟩ rfl
      · replace h := of_br_f b39 h
        cbv
        injection h with h
        refine hY18 _ h.symm _ _ (And.intro rfl ?_) (by intro hh; cases hh)
        exact le_sparse rfl ⟨AV.le_refl _, trivial⟩ ⟨⟨fun hw => hw, fun c hc => (by cases hc), .inl rfl, rfl, rfl, fun i hi j hj => rfl⟩, trivial⟩ rfl
    · clear hr16
      have h := hN17
      clear hN17
      intro e24 s25 q23 hne
      replace h := of_let h
      obtain ⟨y15k0, hyk, h⟩ := h
      have hyk : y15k0 = y15 := hyk
      subst hyk
      obtain ⟨rfl, q23⟩ := q23
      replace h := of_let h
      obtain ⟨w40, hw40, h⟩ := h
      have hw40 : w40 = y15k0 := hw40
      subst hw40
      cbv
      refine ⟨_, q23, ?_⟩
      cbv
      replace h := of_req h
      obtain ⟨c41, h⟩ := h
      injection h with h
      subst h
      refine ⟨(sparse 23 [(2, .c (.os 64000 0 (LEN w40)))] [(64000, .arr .rw [] (LEN w40) 4 (row GD (oncCell LEN GD) w40))]), ?_, ?_⟩
      · refine St.le_trans (le_ren 448 64000 (by decide) rfl) ?_
        rw [c41]
        exact le_sparse rfl ⟨AV.le_refl _, trivial⟩ ⟨⟨fun hw => hw, fun c hc => (by cases hc), .inl rfl, rfl, rfl, fun i hi j hj => rfl⟩, trivial⟩ rfl
      · exact ⟨AV.le_refl _, ⟨⟨fun hw => hw, fun c hc => (by cases hc), .inl rfl, rfl, rfl, fun i hi j hj => rfl⟩, trivial⟩, rfl⟩

/-- laws.toLibrary -/
noncomputable def F_laws_toLibrary (a0 : TLibrary) : Option (TLibrary) :=
  (F_laws_toCellS a0.fCells).bind fun y1 =>
  some (TLibrary.mk y1)
theorem run_laws_toLibrary (a0 : TLibrary) (r : TLibrary) (h : F_laws_toLibrary a0 = some r) : Fun Try.prog 58 [.agg [.bs (len a0.fCells) 4 (row gd (encCell len gd) a0.fCells)]] [] (.agg [.os 64000 0 (len r.fCells)]) [(64000, .arr .rw [] (len r.fCells) 4 (row gd (oncCell len gd) r.fCells))] true := by
  refine Fun.of_wp (oneOf []) tok mixed Try.func58 (by kernel_rfl) rfl Try.ntmps58 rfl trivial (fun _ => ⟨(by simp [AV.flat, AV.flat1, AC.flat]), ⟨fun i _ j _ => fl_oncCell _ _, trivial⟩⟩) ?_
  unfold F_laws_toLibrary at h
  have hf_laws_toCellS := @run_laws_toCellS
  generalize hLEN : @len = LEN at *
  generalize hGD : @gd = GD at *
  generalize hA : std = A at *
  generalize hP : Try.prog = P at *
  cbv
  replace h := of_bind h
  obtain ⟨y1, hy2, h⟩ := h
  refine ⟨{ args := [.c (.bs (LEN a0.fCells) 4 (row GD (encCell LEN GD) a0.fCells))], o0 := [], r := .c (.os 64000 0 (LEN y1)), o1 := [(64000, .arr .rw [] (LEN y1) 4 (row GD (oncCell LEN GD) y1))], fl := true, σ := [], τ := [(64000, 384)] }, hf_laws_toCellS _ _ hy2, ⟨les_cons (AV.le_refl _) (les_nil), trivial, rfl, rfl, rfl, rfl, ⟨fun h => absurd (show (64000 : Nat) % 2 = 1 from h) (by decide), trivial⟩, rfl⟩, _, rfl, _, _, rfl, fun _ _ _ _ => rfl, ?_⟩
  cbv
  injection h with h
  subst h
  refine ⟨(sparse 9 [(2, .c (.ptr 128 0))] [(128, .var [.os 64000 0 (LEN y1)]), (64000, .arr .rw [] (LEN y1) 4 (row GD (oncCell LEN GD) y1))]), ?_, ?_⟩
  · refine St.le_trans (le_ren 384 64000 (by decide) rfl) ?_
    exact le_sparse rfl ⟨AV.le_refl _, trivial⟩ ⟨rfl, ⟨fun hw => hw, fun c hc => (by cases hc), .inl rfl, rfl, rfl, fun i hi j hj => rfl⟩, trivial⟩ rfl
  · exact ⟨AV.le_refl _, ⟨⟨fun hw => hw, fun c hc => (by cases hc), .inl rfl, rfl, rfl, fun i hi j hj => rfl⟩, trivial⟩, rfl⟩

noncomputable def L_spec_IsName_x2 (a0 : ByteArray) : (Int) → Option ((Int) ⊕ ((Unit) ⊕ (Unit))) := fun x2 =>
  letO x2 fun v1 =>
  br (std.lt v1 (std.ofN (std.slen a0)))
  (((
        req (std.inR v1 (std.slen a0)) <|
        br (std.le 97 (std.sat a0 (std.toN v1)))
        (req (std.inR v1 (std.slen a0)) <|
        br (std.le (std.sat a0 (std.toN v1)) 122)
        (some false)
        (req (std.inR v1 (std.slen a0)) <|
        br (std.le 48 (std.sat a0 (std.toN v1)))
        (req (std.inR v1 (std.slen a0)) <|
        some (!(std.le (std.sat a0 (std.toN v1)) 57)))
        (some true)))
        (req (std.inR v1 (std.slen a0)) <|
        br (std.le 48 (std.sat a0 (std.toN v1)))
        (req (std.inR v1 (std.slen a0)) <|
        some (!(std.le (std.sat a0 (std.toN v1)) 57)))
        (some true))
    ) : Option (Bool)).bind fun y14 =>
  letO y14 fun w20 =>
  br w20
  (some (.inr (.inl ())))
  (some (.inl (std.add .i64 v1 1))))
  (some (.inr (.inr ())))
/-- spec.IsName -/
noncomputable def F_spec_IsName (a0 : ByteArray) : Option (Bool) :=
  (whileP (σ := Int) (ρ := (Unit) ⊕ (Unit)) (L_spec_IsName_x2 a0) 0).bind fun y3 =>
  (match y3 with
    | .inl y3k0 => (
        some false)
    | .inr y3m0 =>
        ((
              br (std.le 1 (std.ofN (std.slen a0)))
              (some (std.le (std.ofN (std.slen a0)) 8))
              (some false)
          ) : Option (Bool)).bind fun y33 =>
        letO y33 fun w39 =>
        some w39)
theorem run_spec_IsName (a0 : ByteArray) (r : Bool) (h : F_spec_IsName a0 = some r) : Fun Try.prog 139 [.c (.v (.string a0))] [] (.c (.v (.bool r))) [] true := by
  refine Fun.of_wp (oneOf [4, 6]) tok mixed Try.func139 (by kernel_rfl) rfl Try.ntmps139 rfl trivial (fun _ => ⟨trivial, trivial⟩) ?_
  unfold F_spec_IsName at h
  unfold L_spec_IsName_x2 at h
  generalize hLEN : @len = LEN at *
  generalize hGD : @gd = GD at *
  generalize hA : std = A at *
  generalize hP : Try.prog = P at *
  cbv
  replace h := of_bind h
  obtain ⟨y3, hr4, hN5⟩ := h
  refine loop_cut hr4 (fun x => (sparse 41 [(0, .c (.v (.string a0))), (3, .c (.v (.int .i64 x)))] [])) ?_ (fun y e s => (match y with | .inl w => e = .ret ∧ s.le (sparse 41 [(2, .c (.v (.bool false)))] []) | .inr w0 => (fun (w : Unit) => e = .exit 0 ∧ s.le (sparse 41 [(0, .c (.v (.string a0)))] [])) w0)) ?_ ?_
  · clear hr4 hN5
    show St.le _ _
    exact le_sparse rfl ⟨AV.le_refl _, AV.le_refl _, trivial⟩ trivial rfl
  · clear hr4 hN5
    intro x z9 h K7 hK8 hY6
    replace h := of_let h
    obtain ⟨v1, hv1, h⟩ := h
    have hv1 : v1 = x := hv1
    subst hv1
    cbv
    refine fork (fun b32 => ?_) (fun b32 => ?_)
    · replace h := of_br_t b32 h
      cbv
      replace h := of_bind h
      obtain ⟨y14, hy15, h⟩ := h
      obtain ⟨S18, hS19⟩ : ∃ S, S = (sparse 41 [(0, .c (.v (.string a0))), (3, .c (.v (.int .i64 v1))), (32, .c (.v (.bool y14)))] []) := ⟨_, rfl⟩
      refine ⟨S18, ?_, ?_⟩
      · clear h
        have h := hy15
        clear hy15
        cbv
        replace h := of_req h
        obtain ⟨c21, h⟩ := h
        refine ⟨c21, ?_⟩
        refine fork (fun b30 => ?_) (fun b30 => ?_)
        · replace h := of_br_t b30 h
          cbv
          replace h := of_req h
          obtain ⟨c22, h⟩ := h
          refine ⟨c22, ?_⟩
          refine fork (fun b26 => ?_) (fun b26 => ?_)
          · replace h := of_br_t b26 h
            cbv
            injection h with h
            subst h
            subst hS19
            show St.le _ _
            exact le_sparse rfl ⟨AV.le_refl _, AV.le_refl _, AV.le_refl _, trivial⟩ trivial rfl
          · replace h := of_br_f b26 h
            cbv
            replace h := of_req h
            obtain ⟨c23, h⟩ := h
            refine ⟨c23, ?_⟩
            refine fork (fun b25 => ?_) (fun b25 => ?_)
            · replace h := of_br_t b25 h
              cbv
              replace h := of_req h
              obtain ⟨c24, h⟩ := h
              refine ⟨c24, ?_⟩
              injection h with h
              subst h
              subst hS19
              show St.le _ _
              exact le_sparse rfl ⟨AV.le_refl _, AV.le_refl _, AV.le_refl _, trivial⟩ trivial rfl
            · replace h := of_br_f b25 h
              cbv
              injection h with h
              subst h
              subst hS19
              show St.le _ _
              exact le_sparse rfl ⟨AV.le_refl _, AV.le_refl _, AV.le_refl _, trivial⟩ trivial rfl
        · replace h := of_br_f b30 h
          cbv
          replace h := of_req h
          obtain ⟨c27, h⟩ := h
          refine ⟨c27, ?_⟩
          refine fork (fun b29 => ?_) (fun b29 => ?_)
          · replace h := of_br_t b29 h
            cbv
            replace h := of_req h
            obtain ⟨c28, h⟩ := h
            refine ⟨c28, ?_⟩
            injection h with h
            subst h
            subst hS19
            show St.le _ _
            exact le_sparse rfl ⟨AV.le_refl _, AV.le_refl _, AV.le_refl _, trivial⟩ trivial rfl
          · replace h := of_br_f b29 h
            cbv
            injection h with h
            subst h
            subst hS19
            show St.le _ _
            exact le_sparse rfl ⟨AV.le_refl _, AV.le_refl _, AV.le_refl _, trivial⟩ trivial rfl
      · clear hy15
        subst hS19
        replace h := of_let h
        obtain ⟨w20, hw20, h⟩ := h
        have hw20 : w20 = y14 := hw20
        subst hw20
        cbv
        refine fork (fun b31 => ?_) (fun b31 => ?_)
        · replace h := of_br_t b31 h
          cbv
          injection h with h
          refine hY6 _ h.symm _ _ (And.intro rfl ?_) (by intro hh; cases hh)
          exact le_sparse rfl ⟨AV.le_refl _, trivial⟩ trivial rfl
        · replace h := of_br_f b31 h
          cbv
          injection h with h
          refine hK8 _ h.symm _ ?_
          exact le_sparse rfl ⟨AV.le_refl _, AV.le_refl _, trivial⟩ trivial rfl
    · replace h := of_br_f b32 h
      cbv
      injection h with h
      refine hY6 _ h.symm _ _ (And.intro rfl ?_) (by intro hh; cases hh)
      exact le_sparse rfl ⟨AV.le_refl _, trivial⟩ trivial rfl
  · clear hr4
    have h := hN5
    clear hN5
    intro e12 s13 q11 hne
    rcases y3 with y3k0 | y3m0
    · replace h := h
      obtain ⟨rfl, q11⟩ := q11
      cbv
      injection h with h
      subst h
      refine ⟨(sparse 41 [(2, .c (.v (.bool false)))] []), ?_, ?_⟩
      · refine St.le_trans q11 ?_
        exact le_sparse rfl ⟨AV.le_refl _, trivial⟩ trivial rfl
      · exact ⟨AV.le_refl _, trivial, rfl⟩
    · obtain ⟨rfl, q11⟩ := q11
      cbv
      refine ⟨_, q11, ?_⟩
      cbv
      replace h := of_bind h
      obtain ⟨y33, hy34, h⟩ := h
      obtain ⟨S37, hS38⟩ : ∃ S, S = (sparse 41 [(2, .c (.v (.bool y33)))] []) := ⟨_, rfl⟩
      refine ⟨S37, ?_, ?_⟩
      · clear h
        have h := hy34
        clear hy34
        cbv
        refine fork (fun b40 => ?_) (fun b40 => ?_)
        · replace h := of_br_t b40 h
          cbv
          injection h with h
          subst h
          subst hS38
          show St.le _ _
          exact le_sparse rfl ⟨AV.le_refl _, trivial⟩ trivial rfl
        · replace h := of_br_f b40 h
          cbv
          injection h with h
          subst h
          subst hS38
          show St.le _ _
          exact le_sparse rfl ⟨AV.le_refl _, trivial⟩ trivial rfl
      · clear hy34
        subst hS38
        replace h := of_let h
        obtain ⟨w39, hw39, h⟩ := h
        have hw39 : w39 = y33 := hw39
        subst hw39
        cbv
        injection h with h
        subst h
        refine ⟨(sparse 41 [(2, .c (.v (.bool w39)))] []), ?_, ?_⟩
        · exact le_sparse rfl ⟨AV.le_refl _, trivial⟩ trivial rfl
        · exact ⟨AV.le_refl _, trivial, rfl⟩
/-- spec.l09In -/
noncomputable def F_spec_l09In (a0 : Int) (a1 : Int) (a2 : Int) : Option (Bool) :=
  ((
        br (std.le a1 a0)
        (some (std.le a0 a2))
        (some false)
    ) : Option (Bool)).bind fun y1 =>
  letO y1 fun w7 =>
  some w7
theorem run_spec_l09In (a0 : Int) (a1 : Int) (a2 : Int) (r : Bool) (h : F_spec_l09In a0 a1 a2 = some r) : Fun Try.prog 108 [.c (.v (.int .i64 a0)), .c (.v (.int .i64 a1)), .c (.v (.int .i64 a2))] [] (.c (.v (.bool r))) [] true := by
  refine Fun.of_wp (oneOf [1]) tok mixed Try.func108 (by kernel_rfl) rfl Try.ntmps108 rfl trivial (fun _ => ⟨trivial, trivial⟩) ?_
  unfold F_spec_l09In at h
  generalize hLEN : @len = LEN at *
  generalize hGD : @gd = GD at *
  generalize hA : std = A at *
  generalize hP : Try.prog = P at *
  cbv
  replace h := of_bind h
  obtain ⟨y1, hy2, h⟩ := h
  obtain ⟨S5, hS6⟩ : ∃ S, S = (sparse 15 [(6, .c (.v (.bool y1)))] []) := ⟨_, rfl⟩
  refine ⟨S5, ?_, ?_⟩
  · clear h
    have h := hy2
    clear hy2
    cbv
    refine fork (fun b8 => ?_) (fun b8 => ?_)
    · replace h := of_br_t b8 h
      cbv
      injection h with h
      subst h
      subst hS6
      show St.le _ _
      exact le_sparse rfl ⟨AV.le_refl _, trivial⟩ trivial rfl
    · replace h := of_br_f b8 h
      cbv
      injection h with h
      subst h
      subst hS6
      show St.le _ _
      exact le_sparse rfl ⟨AV.le_refl _, trivial⟩ trivial rfl
  · clear hy2
    subst hS6
    replace h := of_let h
    obtain ⟨w7, hw7, h⟩ := h
    have hw7 : w7 = y1 := hw7
    subst hw7
    cbv
    injection h with h
    subst h
    refine ⟨(sparse 15 [(6, .c (.v (.bool w7)))] []), ?_, ?_⟩
    · exact le_sparse rfl ⟨AV.le_refl _, trivial⟩ trivial rfl
    · exact ⟨AV.le_refl _, trivial, rfl⟩

/-- spec.l09Layer -/
noncomputable def F_spec_l09Layer (a0 : Int) : Option (Bool) :=
  (F_spec_l09In a0 0 7).bind fun y1 =>
  some y1
theorem run_spec_l09Layer (a0 : Int) (r : Bool) (h : F_spec_l09Layer a0 = some r) : Fun Try.prog 192 [.c (.v (.int .i64 a0))] [] (.c (.v (.bool r))) [] true := by
  refine Fun.of_wp (oneOf []) tok mixed Try.func192 (by kernel_rfl) rfl Try.ntmps192 rfl trivial (fun _ => ⟨trivial, trivial⟩) ?_
  unfold F_spec_l09Layer at h
  have hf_spec_l09In := @run_spec_l09In
  generalize hLEN : @len = LEN at *
  generalize hGD : @gd = GD at *
  generalize hA : std = A at *
  generalize hP : Try.prog = P at *
  cbv
  replace h := of_bind h
  obtain ⟨y1, hy2, h⟩ := h
  refine ⟨{ args := [.c (.v (.int .i64 a0)), .c (.v (.int .i64 0)), .c (.v (.int .i64 7))], o0 := [], r := .c (.v (.bool y1)), o1 := [], fl := true, σ := [], τ := [] }, hf_spec_l09In _ _ _ _ hy2, ⟨les_cons (AV.le_refl _) (les_cons (AV.le_refl _) (les_cons (AV.le_refl _) (les_nil))), trivial, rfl, rfl, rfl, rfl, trivial, rfl⟩, ?_⟩
  cbv
  injection h with h
  subst h
  refine ⟨(sparse 5 [(2, .c (.v (.bool y1)))] []), ?_, ?_⟩
  · exact le_sparse rfl ⟨AV.le_refl _, trivial⟩ trivial rfl
  · exact ⟨AV.le_refl _, trivial, rfl⟩

/-- spec.l09Rect -/
noncomputable def F_spec_l09Rect (a0 : TRect) : Option (Bool) :=
  ((
        br (std.le (-40) a0.fX0)
        (br (std.lt a0.fX0 a0.fX1)
        (br (std.le a0.fX1 40)
        (br (std.le (-40) a0.fY0)
        (br (std.lt a0.fY0 a0.fY1)
        (some (std.le a0.fY1 40))
        (some false))
        (some false))
        (some false))
        (some false))
        (some false)
    ) : Option (Bool)).bind fun y1 =>
  letO y1 fun w7 =>
  some w7
theorem run_spec_l09Rect (a0 : TRect) (r : Bool) (h : F_spec_l09Rect a0 = some r) : Fun Try.prog 107 [.agg [.v (.int .i64 a0.fX0), .v (.int .i64 a0.fY0), .v (.int .i64 a0.fX1), .v (.int .i64 a0.fY1)]] [] (.c (.v (.bool r))) [] true := by
  refine Fun.of_wp (oneOf [1]) tok mixed Try.func107 (by kernel_rfl) rfl Try.ntmps107 rfl trivial (fun _ => ⟨trivial, trivial⟩) ?_
  unfold F_spec_l09Rect at h
  generalize hLEN : @len = LEN at *
  generalize hGD : @gd = GD at *
  generalize hA : std = A at *
  generalize hP : Try.prog = P at *
  cbv
  replace h := of_bind h
  obtain ⟨y1, hy2, h⟩ := h
  obtain ⟨S5, hS6⟩ : ∃ S, S = (sparse 35 [(2, .c (.v (.bool y1)))] []) := ⟨_, rfl⟩
  refine ⟨S5, ?_, ?_⟩
  · clear h
    have h := hy2
    clear hy2
    cbv
    refine fork (fun b12 => ?_) (fun b12 => ?_)
    · replace h := of_br_t b12 h
      cbv
      refine fork (fun b11 => ?_) (fun b11 => ?_)
      · replace h := of_br_t b11 h
        cbv
        refine fork (fun b10 => ?_) (fun b10 => ?_)
        · replace h := of_br_t b10 h
          cbv
          refine fork (fun b9 => ?_) (fun b9 => ?_)
          · replace h := of_br_t b9 h
            cbv
            refine fork (fun b8 => ?_) (fun b8 => ?_)
            · replace h := of_br_t b8 h
              cbv
              injection h with h
              subst h
              subst hS6
              show St.le _ _
              exact le_sparse rfl ⟨AV.le_refl _, trivial⟩ trivial rfl
            · replace h := of_br_f b8 h
              cbv
              injection h with h
              subst h
              subst hS6
              show St.le _ _
              exact le_sparse rfl ⟨AV.le_refl _, trivial⟩ trivial rfl
          · replace h := of_br_f b9 h
            cbv
            injection h with h
            subst h
            subst hS6
            show St.le _ _
            exact le_sparse rfl ⟨AV.le_refl _, trivial⟩ trivial rfl
        · replace h := of_br_f b10 h
          cbv
          injection h with h
          subst h
          subst hS6
          show St.le _ _
          exact le_sparse rfl ⟨AV.le_refl _, trivial⟩ trivial rfl
      · replace h := of_br_f b11 h
        cbv
        injection h with h
        subst h
        subst hS6
        show St.le _ _
        exact le_sparse rfl ⟨AV.le_refl _, trivial⟩ trivial rfl
    · replace h := of_br_f b12 h
      cbv
      injection h with h
      subst h
      subst hS6
      show St.le _ _
      exact le_sparse rfl ⟨AV.le_refl _, trivial⟩ trivial rfl
  · clear hy2
    subst hS6
    replace h := of_let h
    obtain ⟨w7, hw7, h⟩ := h
    have hw7 : w7 = y1 := hw7
    subst hw7
    cbv
    injection h with h
    subst h
    refine ⟨(sparse 35 [(2, .c (.v (.bool w7)))] []), ?_, ?_⟩
    · exact le_sparse rfl ⟨AV.le_refl _, trivial⟩ trivial rfl
    · exact ⟨AV.le_refl _, trivial, rfl⟩

/-- spec.l09Shape -/
noncomputable def F_spec_l09Shape (a0 : TShape) : Option (Bool) :=
  ((
        (F_spec_l09Layer a0.fLayer).bind fun y8 =>
        br y8
        ((F_spec_l09Rect a0.fBox).bind fun y10 =>
        some y10)
        (some false)
    ) : Option (Bool)).bind fun y1 =>
  letO y1 fun w7 =>
  some w7
theorem run_spec_l09Shape (a0 : TShape) (r : Bool) (h : F_spec_l09Shape a0 = some r) : Fun Try.prog 140 [.agg [.v (.int .i64 a0.fLayer), .v (.int .i64 a0.fBox.fX0), .v (.int .i64 a0.fBox.fY0), .v (.int .i64 a0.fBox.fX1), .v (.int .i64 a0.fBox.fY1)]] [] (.c (.v (.bool r))) [] true := by
  refine Fun.of_wp (oneOf [1]) tok mixed Try.func140 (by kernel_rfl) rfl Try.ntmps140 rfl trivial (fun _ => ⟨trivial, trivial⟩) ?_
  unfold F_spec_l09Shape at h
  have hf_spec_l09Layer := @run_spec_l09Layer
  have hf_spec_l09Rect := @run_spec_l09Rect
  generalize hLEN : @len = LEN at *
  generalize hGD : @gd = GD at *
  generalize hA : std = A at *
  generalize hP : Try.prog = P at *
  cbv
  replace h := of_bind h
  obtain ⟨y1, hy2, h⟩ := h
  obtain ⟨S5, hS6⟩ : ∃ S, S = (sparse 11 [(2, .c (.v (.bool y1)))] []) := ⟨_, rfl⟩
  refine ⟨S5, ?_, ?_⟩
  · clear h
    have h := hy2
    clear hy2
    cbv
    replace h := of_bind h
    obtain ⟨y8, hy9, h⟩ := h
    refine ⟨{ args := [.c (.v (.int .i64 a0.fLayer))], o0 := [], r := .c (.v (.bool y8)), o1 := [], fl := true, σ := [], τ := [] }, hf_spec_l09Layer _ _ hy9, ⟨les_cons (AV.le_refl _) (les_nil), trivial, rfl, rfl, rfl, rfl, trivial, rfl⟩, ?_⟩
    cbv
    refine fork (fun b12 => ?_) (fun b12 => ?_)
    · replace h := of_br_t b12 h
      cbv
      replace h := of_bind h
      obtain ⟨y10, hy11, h⟩ := h
      refine ⟨{ args := [.agg [.v (.int .i64 a0.fBox.fX0), .v (.int .i64 a0.fBox.fY0), .v (.int .i64 a0.fBox.fX1), .v (.int .i64 a0.fBox.fY1)]], o0 := [], r := .c (.v (.bool y10)), o1 := [], fl := true, σ := [], τ := [] }, hf_spec_l09Rect _ _ hy11, ⟨les_cons (AV.le_refl _) (les_nil), trivial, rfl, rfl, rfl, rfl, trivial, rfl⟩, ?_⟩
      cbv
      injection h with h
      subst h
      subst hS6
      show St.le _ _
      exact le_sparse rfl ⟨AV.le_refl _, trivial⟩ trivial rfl
    · replace h := of_br_f b12 h
      cbv
      injection h with h
      subst h
      subst hS6
      show St.le _ _
      exact le_sparse rfl ⟨AV.le_refl _, trivial⟩ trivial rfl
  · clear hy2
    subst hS6
    replace h := of_let h
    obtain ⟨w7, hw7, h⟩ := h
    have hw7 : w7 = y1 := hw7
    subst hw7
    cbv
    injection h with h
    subst h
    refine ⟨(sparse 11 [(2, .c (.v (.bool w7)))] []), ?_, ?_⟩
    · exact le_sparse rfl ⟨AV.le_refl _, trivial⟩ trivial rfl
    · exact ⟨AV.le_refl _, trivial, rfl⟩

/-- spec.l09Unit -/
noncomputable def F_spec_l09Unit (a0 : TPoint) : Option (Bool) :=
  ((
        (F_spec_l09In a0.fX (-40) 39).bind fun y8 =>
        br y8
        ((F_spec_l09In a0.fY (-40) 39).bind fun y10 =>
        some y10)
        (some false)
    ) : Option (Bool)).bind fun y1 =>
  letO y1 fun w7 =>
  some w7
theorem run_spec_l09Unit (a0 : TPoint) (r : Bool) (h : F_spec_l09Unit a0 = some r) : Fun Try.prog 193 [.agg [.v (.int .i64 a0.fX), .v (.int .i64 a0.fY)]] [] (.c (.v (.bool r))) [] true := by
  refine Fun.of_wp (oneOf [1]) tok mixed Try.func193 (by kernel_rfl) rfl Try.ntmps193 rfl trivial (fun _ => ⟨trivial, trivial⟩) ?_
  unfold F_spec_l09Unit at h
  have hf_spec_l09In := @run_spec_l09In
  generalize hLEN : @len = LEN at *
  generalize hGD : @gd = GD at *
  generalize hA : std = A at *
  generalize hP : Try.prog = P at *
  cbv
  replace h := of_bind h
  obtain ⟨y1, hy2, h⟩ := h
  obtain ⟨S5, hS6⟩ : ∃ S, S = (sparse 11 [(2, .c (.v (.bool y1)))] []) := ⟨_, rfl⟩
  refine ⟨S5, ?_, ?_⟩
  · clear h
    have h := hy2
    clear hy2
    cbv
    replace h := of_bind h
    obtain ⟨y8, hy9, h⟩ := h
    refine ⟨{ args := [.c (.v (.int .i64 a0.fX)), .c (.v (.int .i64 (-40))), .c (.v (.int .i64 39))], o0 := [], r := .c (.v (.bool y8)), o1 := [], fl := true, σ := [], τ := [] }, hf_spec_l09In _ _ _ _ hy9, ⟨les_cons (AV.le_refl _) (les_cons (AV.le_refl _) (les_cons (AV.le_refl _) (les_nil))), trivial, rfl, rfl, rfl, rfl, trivial, rfl⟩, ?_⟩
    cbv
    refine fork (fun b12 => ?_) (fun b12 => ?_)
    · replace h := of_br_t b12 h
      cbv
      replace h := of_bind h
      obtain ⟨y10, hy11, h⟩ := h
      refine ⟨{ args := [.c (.v (.int .i64 a0.fY)), .c (.v (.int .i64 (-40))), .c (.v (.int .i64 39))], o0 := [], r := .c (.v (.bool y10)), o1 := [], fl := true, σ := [], τ := [] }, hf_spec_l09In _ _ _ _ hy11, ⟨les_cons (AV.le_refl _) (les_cons (AV.le_refl _) (les_cons (AV.le_refl _) (les_nil))), trivial, rfl, rfl, rfl, rfl, trivial, rfl⟩, ?_⟩
      cbv
      injection h with h
      subst h
      subst hS6
      show St.le _ _
      exact le_sparse rfl ⟨AV.le_refl _, trivial⟩ trivial rfl
    · replace h := of_br_f b12 h
      cbv
      injection h with h
      subst h
      subst hS6
      show St.le _ _
      exact le_sparse rfl ⟨AV.le_refl _, trivial⟩ trivial rfl
  · clear hy2
    subst hS6
    replace h := of_let h
    obtain ⟨w7, hw7, h⟩ := h
    have hw7 : w7 = y1 := hw7
    subst hw7
    cbv
    injection h with h
    subst h
    refine ⟨(sparse 11 [(2, .c (.v (.bool w7)))] []), ?_, ?_⟩
    · exact le_sparse rfl ⟨AV.le_refl _, trivial⟩ trivial rfl
    · exact ⟨AV.le_refl _, trivial, rfl⟩

/-- spec.l09Label -/
noncomputable def F_spec_l09Label (a0 : TLabel) : Option (Bool) :=
  ((
        (F_spec_l09Layer a0.fLayer).bind fun y8 =>
        br y8
        ((F_spec_l09Unit a0.fAt).bind fun y10 =>
        br y10
        ((F_spec_IsName a0.fName).bind fun y12 =>
        some y12)
        (some false))
        (some false)
    ) : Option (Bool)).bind fun y1 =>
  letO y1 fun w7 =>
  some w7
theorem run_spec_l09Label (a0 : TLabel) (r : Bool) (h : F_spec_l09Label a0 = some r) : Fun Try.prog 142 [.agg [.v (.int .i64 a0.fLayer), .v (.int .i64 a0.fAt.fX), .v (.int .i64 a0.fAt.fY), .v (.string a0.fName)]] [] (.c (.v (.bool r))) [] true := by
  refine Fun.of_wp (oneOf [1]) tok mixed Try.func142 (by kernel_rfl) rfl Try.ntmps142 rfl trivial (fun _ => ⟨trivial, trivial⟩) ?_
  unfold F_spec_l09Label at h
  have hf_spec_IsName := @run_spec_IsName
  have hf_spec_l09Layer := @run_spec_l09Layer
  have hf_spec_l09Unit := @run_spec_l09Unit
  generalize hLEN : @len = LEN at *
  generalize hGD : @gd = GD at *
  generalize hA : std = A at *
  generalize hP : Try.prog = P at *
  cbv
  replace h := of_bind h
  obtain ⟨y1, hy2, h⟩ := h
  obtain ⟨S5, hS6⟩ : ∃ S, S = (sparse 16 [(2, .c (.v (.bool y1)))] []) := ⟨_, rfl⟩
  refine ⟨S5, ?_, ?_⟩
  · clear h
    have h := hy2
    clear hy2
    cbv
    replace h := of_bind h
    obtain ⟨y8, hy9, h⟩ := h
    refine ⟨{ args := [.c (.v (.int .i64 a0.fLayer))], o0 := [], r := .c (.v (.bool y8)), o1 := [], fl := true, σ := [], τ := [] }, hf_spec_l09Layer _ _ hy9, ⟨les_cons (AV.le_refl _) (les_nil), trivial, rfl, rfl, rfl, rfl, trivial, rfl⟩, ?_⟩
    cbv
    refine fork (fun b15 => ?_) (fun b15 => ?_)
    · replace h := of_br_t b15 h
      cbv
      replace h := of_bind h
      obtain ⟨y10, hy11, h⟩ := h
      refine ⟨{ args := [.agg [.v (.int .i64 a0.fAt.fX), .v (.int .i64 a0.fAt.fY)]], o0 := [], r := .c (.v (.bool y10)), o1 := [], fl := true, σ := [], τ := [] }, hf_spec_l09Unit _ _ hy11, ⟨les_cons (AV.le_refl _) (les_nil), trivial, rfl, rfl, rfl, rfl, trivial, rfl⟩, ?_⟩
      cbv
      refine fork (fun b14 => ?_) (fun b14 => ?_)
      · replace h := of_br_t b14 h
        cbv
        replace h := of_bind h
        obtain ⟨y12, hy13, h⟩ := h
        refine ⟨{ args := [.c (.v (.string a0.fName))], o0 := [], r := .c (.v (.bool y12)), o1 := [], fl := true, σ := [], τ := [] }, hf_spec_IsName _ _ hy13, ⟨les_cons (AV.le_refl _) (les_nil), trivial, rfl, rfl, rfl, rfl, trivial, rfl⟩, ?_⟩
        cbv
        injection h with h
        subst h
        subst hS6
        show St.le _ _
        exact le_sparse rfl ⟨AV.le_refl _, trivial⟩ trivial rfl
      · replace h := of_br_f b14 h
        cbv
        injection h with h
        subst h
        subst hS6
        show St.le _ _
        exact le_sparse rfl ⟨AV.le_refl _, trivial⟩ trivial rfl
    · replace h := of_br_f b15 h
      cbv
      injection h with h
      subst h
      subst hS6
      show St.le _ _
      exact le_sparse rfl ⟨AV.le_refl _, trivial⟩ trivial rfl
  · clear hy2
    subst hS6
    replace h := of_let h
    obtain ⟨w7, hw7, h⟩ := h
    have hw7 : w7 = y1 := hw7
    subst hw7
    cbv
    injection h with h
    subst h
    refine ⟨(sparse 16 [(2, .c (.v (.bool w7)))] []), ?_, ?_⟩
    · exact le_sparse rfl ⟨AV.le_refl _, trivial⟩ trivial rfl
    · exact ⟨AV.le_refl _, trivial, rfl⟩

/-- spec.l09Transform -/
noncomputable def F_spec_l09Transform (a0 : TTransform) : Option (Bool) :=
  ((
        (F_spec_l09In a0.fOrientation 0 7).bind fun y8 =>
        br y8
        ((F_spec_l09In a0.fX (-80) 80).bind fun y10 =>
        br y10
        ((F_spec_l09In a0.fY (-80) 80).bind fun y12 =>
        some y12)
        (some false))
        (some false)
    ) : Option (Bool)).bind fun y1 =>
  letO y1 fun w7 =>
  some w7
theorem run_spec_l09Transform (a0 : TTransform) (r : Bool) (h : F_spec_l09Transform a0 = some r) : Fun Try.prog 194 [.agg [.v (.int .i64 a0.fOrientation), .v (.int .i64 a0.fX), .v (.int .i64 a0.fY)]] [] (.c (.v (.bool r))) [] true := by
  refine Fun.of_wp (oneOf [1]) tok mixed Try.func194 (by kernel_rfl) rfl Try.ntmps194 rfl trivial (fun _ => ⟨trivial, trivial⟩) ?_
  unfold F_spec_l09Transform at h
  have hf_spec_l09In := @run_spec_l09In
  generalize hLEN : @len = LEN at *
  generalize hGD : @gd = GD at *
  generalize hA : std = A at *
  generalize hP : Try.prog = P at *
  cbv
  replace h := of_bind h
  obtain ⟨y1, hy2, h⟩ := h
  obtain ⟨S5, hS6⟩ : ∃ S, S = (sparse 16 [(2, .c (.v (.bool y1)))] []) := ⟨_, rfl⟩
  refine ⟨S5, ?_, ?_⟩
  · clear h
    have h := hy2
    clear hy2
    cbv
    replace h := of_bind h
    obtain ⟨y8, hy9, h⟩ := h
    refine ⟨{ args := [.c (.v (.int .i64 a0.fOrientation)), .c (.v (.int .i64 0)), .c (.v (.int .i64 7))], o0 := [], r := .c (.v (.bool y8)), o1 := [], fl := true, σ := [], τ := [] }, hf_spec_l09In _ _ _ _ hy9, ⟨les_cons (AV.le_refl _) (les_cons (AV.le_refl _) (les_cons (AV.le_refl _) (les_nil))), trivial, rfl, rfl, rfl, rfl, trivial, rfl⟩, ?_⟩
    cbv
    refine fork (fun b15 => ?_) (fun b15 => ?_)
    · replace h := of_br_t b15 h
      cbv
      replace h := of_bind h
      obtain ⟨y10, hy11, h⟩ := h
      refine ⟨{ args := [.c (.v (.int .i64 a0.fX)), .c (.v (.int .i64 (-80))), .c (.v (.int .i64 80))], o0 := [], r := .c (.v (.bool y10)), o1 := [], fl := true, σ := [], τ := [] }, hf_spec_l09In _ _ _ _ hy11, ⟨les_cons (AV.le_refl _) (les_cons (AV.le_refl _) (les_cons (AV.le_refl _) (les_nil))), trivial, rfl, rfl, rfl, rfl, trivial, rfl⟩, ?_⟩
      cbv
      refine fork (fun b14 => ?_) (fun b14 => ?_)
      · replace h := of_br_t b14 h
        cbv
        replace h := of_bind h
        obtain ⟨y12, hy13, h⟩ := h
        refine ⟨{ args := [.c (.v (.int .i64 a0.fY)), .c (.v (.int .i64 (-80))), .c (.v (.int .i64 80))], o0 := [], r := .c (.v (.bool y12)), o1 := [], fl := true, σ := [], τ := [] }, hf_spec_l09In _ _ _ _ hy13, ⟨les_cons (AV.le_refl _) (les_cons (AV.le_refl _) (les_cons (AV.le_refl _) (les_nil))), trivial, rfl, rfl, rfl, rfl, trivial, rfl⟩, ?_⟩
        cbv
        injection h with h
        subst h
        subst hS6
        show St.le _ _
        exact le_sparse rfl ⟨AV.le_refl _, trivial⟩ trivial rfl
      · replace h := of_br_f b14 h
        cbv
        injection h with h
        subst h
        subst hS6
        show St.le _ _
        exact le_sparse rfl ⟨AV.le_refl _, trivial⟩ trivial rfl
    · replace h := of_br_f b15 h
      cbv
      injection h with h
      subst h
      subst hS6
      show St.le _ _
      exact le_sparse rfl ⟨AV.le_refl _, trivial⟩ trivial rfl
  · clear hy2
    subst hS6
    replace h := of_let h
    obtain ⟨w7, hw7, h⟩ := h
    have hw7 : w7 = y1 := hw7
    subst hw7
    cbv
    injection h with h
    subst h
    refine ⟨(sparse 16 [(2, .c (.v (.bool w7)))] []), ?_, ?_⟩
    · exact le_sparse rfl ⟨AV.le_refl _, trivial⟩ trivial rfl
    · exact ⟨AV.le_refl _, trivial, rfl⟩

/-- spec.l09Instance -/
noncomputable def F_spec_l09Instance (a0 : TInstance) (a1 : Int) : Option (Bool) :=
  ((
        (F_spec_l09In a0.fCell 0 (std.sub .i64 a1 1)).bind fun y8 =>
        br (!(y8))
        (some true)
        ((F_spec_l09Transform a0.fPlace).bind fun y10 =>
        br (!(y10))
        (some true)
        ((F_spec_l09In a0.fColumns 1 4).bind fun y12 =>
        br (!(y12))
        (some true)
        ((F_spec_l09In a0.fRows 1 4).bind fun y14 =>
        some (!(y14)))))
    ) : Option (Bool)).bind fun y1 =>
  letO y1 fun w7 =>
  br w7
  (some false)
  (((
        (F_spec_l09In a0.fStepX (-80) 80).bind fun y26 =>
        br (!(y26))
        (some true)
        ((F_spec_l09In a0.fStepY (-80) 80).bind fun y28 =>
        some (!(y28)))
    ) : Option (Bool)).bind fun y19 =>
  letO y19 fun w25 =>
  br w25
  (some false)
  (((
        br (std.lt 1 a0.fColumns)
        (br (std.lt 1 a0.fRows)
        (some true)
        (some (std.eq a0.fStepY 0)))
        (br (std.eq a0.fStepX 0)
        (br (std.lt 1 a0.fRows)
        (some true)
        (some (std.eq a0.fStepY 0)))
        (some false))
    ) : Option (Bool)).bind fun y31 =>
  letO y31 fun w37 =>
  some w37))
theorem run_spec_l09Instance (a0 : TInstance) (a1 : Int) (r : Bool) (h : F_spec_l09Instance a0 a1 = some r) : Fun Try.prog 144 [.agg [.v (.int .i64 a0.fCell), .v (.int .i64 a0.fPlace.fOrientation), .v (.int .i64 a0.fPlace.fX), .v (.int .i64 a0.fPlace.fY), .v (.int .i64 a0.fColumns), .v (.int .i64 a0.fRows), .v (.int .i64 a0.fStepX), .v (.int .i64 a0.fStepY)], .c (.v (.int .i64 a1))] [] (.c (.v (.bool r))) [] true := by
  refine Fun.of_wp (oneOf [1, 3, 5]) tok mixed Try.func144 (by kernel_rfl) rfl Try.ntmps144 rfl trivial (fun _ => ⟨trivial, trivial⟩) ?_
  unfold F_spec_l09Instance at h
  have hf_spec_l09In := @run_spec_l09In
  have hf_spec_l09Transform := @run_spec_l09Transform
  generalize hLEN : @len = LEN at *
  generalize hGD : @gd = GD at *
  generalize hA : std = A at *
  generalize hP : Try.prog = P at *
  cbv
  replace h := of_bind h
  obtain ⟨y1, hy2, h⟩ := h
  obtain ⟨S5, hS6⟩ : ∃ S, S = (sparse 57 [(2, .c (.ptr 128 0)), (28, .c (.v (.bool y1)))] [(128, .var [.v (.int .i64 a0.fCell), .v (.int .i64 a0.fPlace.fOrientation), .v (.int .i64 a0.fPlace.fX), .v (.int .i64 a0.fPlace.fY), .v (.int .i64 a0.fColumns), .v (.int .i64 a0.fRows), .v (.int .i64 a0.fStepX), .v (.int .i64 a0.fStepY)])]) := ⟨_, rfl⟩
  refine ⟨S5, ?_, ?_⟩
  · clear h
    have h := hy2
    clear hy2
    cbv
    replace h := of_bind h
    obtain ⟨y8, hy9, h⟩ := h
    refine ⟨{ args := [.c (.v (.int .i64 a0.fCell)), .c (.v (.int .i64 0)), .c (.v (.int .i64 (A.sub .i64 a1 1)))], o0 := [], r := .c (.v (.bool y8)), o1 := [], fl := true, σ := [], τ := [] }, hf_spec_l09In _ _ _ _ hy9, ⟨les_cons (AV.le_refl _) (les_cons (AV.le_refl _) (les_cons (AV.le_refl _) (les_nil))), trivial, rfl, rfl, rfl, rfl, trivial, rfl⟩, ?_⟩
    cbv
    refine fork (fun b18 => ?_) (fun b18 => ?_)
    · replace h := of_br_t b18 h
      cbv
      injection h with h
      subst h
      subst hS6
      show St.le _ _
      exact le_sparse rfl ⟨AV.le_refl _, AV.le_refl _, trivial⟩ ⟨rfl, trivial⟩ rfl
    · replace h := of_br_f b18 h
      cbv
      replace h := of_bind h
      obtain ⟨y10, hy11, h⟩ := h
      refine ⟨{ args := [.agg [.v (.int .i64 a0.fPlace.fOrientation), .v (.int .i64 a0.fPlace.fX), .v (.int .i64 a0.fPlace.fY)]], o0 := [], r := .c (.v (.bool y10)), o1 := [], fl := true, σ := [], τ := [] }, hf_spec_l09Transform _ _ hy11, ⟨les_cons (AV.le_refl _) (les_nil), trivial, rfl, rfl, rfl, rfl, trivial, rfl⟩, ?_⟩
      cbv
      refine fork (fun b17 => ?_) (fun b17 => ?_)
      · replace h := of_br_t b17 h
        cbv
        injection h with h
        subst h
        subst hS6
        show St.le _ _
        exact le_sparse rfl ⟨AV.le_refl _, AV.le_refl _, trivial⟩ ⟨rfl, trivial⟩ rfl
      · replace h := of_br_f b17 h
        cbv
        replace h := of_bind h
        obtain ⟨y12, hy13, h⟩ := h
        refine ⟨{ args := [.c (.v (.int .i64 a0.fColumns)), .c (.v (.int .i64 1)), .c (.v (.int .i64 4))], o0 := [], r := .c (.v (.bool y12)), o1 := [], fl := true, σ := [], τ := [] }, hf_spec_l09In _ _ _ _ hy13, ⟨les_cons (AV.le_refl _) (les_cons (AV.le_refl _) (les_cons (AV.le_refl _) (les_nil))), trivial, rfl, rfl, rfl, rfl, trivial, rfl⟩, ?_⟩
        cbv
        refine fork (fun b16 => ?_) (fun b16 => ?_)
        · replace h := of_br_t b16 h
          cbv
          injection h with h
          subst h
          subst hS6
          show St.le _ _
          exact le_sparse rfl ⟨AV.le_refl _, AV.le_refl _, trivial⟩ ⟨rfl, trivial⟩ rfl
        · replace h := of_br_f b16 h
          cbv
          replace h := of_bind h
          obtain ⟨y14, hy15, h⟩ := h
          refine ⟨{ args := [.c (.v (.int .i64 a0.fRows)), .c (.v (.int .i64 1)), .c (.v (.int .i64 4))], o0 := [], r := .c (.v (.bool y14)), o1 := [], fl := true, σ := [], τ := [] }, hf_spec_l09In _ _ _ _ hy15, ⟨les_cons (AV.le_refl _) (les_cons (AV.le_refl _) (les_cons (AV.le_refl _) (les_nil))), trivial, rfl, rfl, rfl, rfl, trivial, rfl⟩, ?_⟩
          cbv
          injection h with h
          subst h
          subst hS6
          show St.le _ _
          exact le_sparse rfl ⟨AV.le_refl _, AV.le_refl _, trivial⟩ ⟨rfl, trivial⟩ rfl
  · clear hy2
    subst hS6
    replace h := of_let h
    obtain ⟨w7, hw7, h⟩ := h
    have hw7 : w7 = y1 := hw7
    subst hw7
    cbv
    refine fork (fun b43 => ?_) (fun b43 => ?_)
    · replace h := of_br_t b43 h
      cbv
      injection h with h
      subst h
      refine ⟨(sparse 57 [(4, .c (.v (.bool false)))] []), ?_, ?_⟩
      · exact le_sparse rfl ⟨AV.le_refl _, trivial⟩ trivial rfl
      · exact ⟨AV.le_refl _, trivial, rfl⟩
    · replace h := of_br_f b43 h
      cbv
      replace h := of_bind h
      obtain ⟨y19, hy20, h⟩ := h
      obtain ⟨S23, hS24⟩ : ∃ S, S = (sparse 57 [(2, .c (.ptr 128 0)), (38, .c (.v (.bool y19)))] [(128, .var [.v (.int .i64 a0.fCell), .v (.int .i64 a0.fPlace.fOrientation), .v (.int .i64 a0.fPlace.fX), .v (.int .i64 a0.fPlace.fY), .v (.int .i64 a0.fColumns), .v (.int .i64 a0.fRows), .v (.int .i64 a0.fStepX), .v (.int .i64 a0.fStepY)])]) := ⟨_, rfl⟩
      refine ⟨S23, ?_, ?_⟩
      · clear h
        have h := hy20
        clear hy20
        cbv
        replace h := of_bind h
        obtain ⟨y26, hy27, h⟩ := h
        refine ⟨{ args := [.c (.v (.int .i64 a0.fStepX)), .c (.v (.int .i64 (-80))), .c (.v (.int .i64 80))], o0 := [], r := .c (.v (.bool y26)), o1 := [], fl := true, σ := [], τ := [] }, hf_spec_l09In _ _ _ _ hy27, ⟨les_cons (AV.le_refl _) (les_cons (AV.le_refl _) (les_cons (AV.le_refl _) (les_nil))), trivial, rfl, rfl, rfl, rfl, trivial, rfl⟩, ?_⟩
        cbv
        refine fork (fun b30 => ?_) (fun b30 => ?_)
        · replace h := of_br_t b30 h
          cbv
          injection h with h
          subst h
          subst hS24
          show St.le _ _
          exact le_sparse rfl ⟨AV.le_refl _, AV.le_refl _, trivial⟩ ⟨rfl, trivial⟩ rfl
        · replace h := of_br_f b30 h
          cbv
          replace h := of_bind h
          obtain ⟨y28, hy29, h⟩ := h
          refine ⟨{ args := [.c (.v (.int .i64 a0.fStepY)), .c (.v (.int .i64 (-80))), .c (.v (.int .i64 80))], o0 := [], r := .c (.v (.bool y28)), o1 := [], fl := true, σ := [], τ := [] }, hf_spec_l09In _ _ _ _ hy29, ⟨les_cons (AV.le_refl _) (les_cons (AV.le_refl _) (les_cons (AV.le_refl _) (les_nil))), trivial, rfl, rfl, rfl, rfl, trivial, rfl⟩, ?_⟩
          cbv
          injection h with h
          subst h
          subst hS24
          show St.le _ _
          exact le_sparse rfl ⟨AV.le_refl _, AV.le_refl _, trivial⟩ ⟨rfl, trivial⟩ rfl
      · clear hy20
        subst hS24
        replace h := of_let h
        obtain ⟨w25, hw25, h⟩ := h
        have hw25 : w25 = y19 := hw25
        subst hw25
        cbv
        refine fork (fun b42 => ?_) (fun b42 => ?_)
        · replace h := of_br_t b42 h
          cbv
          injection h with h
          subst h
          refine ⟨(sparse 57 [(4, .c (.v (.bool false)))] []), ?_, ?_⟩
          · exact le_sparse rfl ⟨AV.le_refl _, trivial⟩ trivial rfl
          · exact ⟨AV.le_refl _, trivial, rfl⟩
        · replace h := of_br_f b42 h
          cbv
          replace h := of_bind h
          obtain ⟨y31, hy32, h⟩ := h
          obtain ⟨S35, hS36⟩ : ∃ S, S = (sparse 57 [(4, .c (.v (.bool y31)))] []) := ⟨_, rfl⟩
          refine ⟨S35, ?_, ?_⟩
          · clear h
            have h := hy32
            clear hy32
            cbv
            refine fork (fun b41 => ?_) (fun b41 => ?_)
            · replace h := of_br_t b41 h
              cbv
              refine fork (fun b40 => ?_) (fun b40 => ?_)
              · replace h := of_br_t b40 h
                cbv
                injection h with h
                subst h
                subst hS36
                show St.le _ _
                exact le_sparse rfl ⟨AV.le_refl _, trivial⟩ trivial rfl
              · replace h := of_br_f b40 h
                cbv
                injection h with h
                subst h
                subst hS36
                show St.le _ _
                exact le_sparse rfl ⟨AV.le_refl _, trivial⟩ trivial rfl
            · replace h := of_br_f b41 h
              cbv
              refine fork (fun b39 => ?_) (fun b39 => ?_)
              · replace h := of_br_t b39 h
                cbv
                refine fork (fun b38 => ?_) (fun b38 => ?_)
                · replace h := of_br_t b38 h
                  cbv
                  injection h with h
                  subst h
                  subst hS36
                  show St.le _ _
                  exact le_sparse rfl ⟨AV.le_refl _, trivial⟩ trivial rfl
                · replace h := of_br_f b38 h
                  cbv
                  injection h with h
                  subst h
                  subst hS36
                  show St.le _ _
                  exact le_sparse rfl ⟨AV.le_refl _, trivial⟩ trivial rfl
              · replace h := of_br_f b39 h
                cbv
                injection h with h
                subst h
                subst hS36
                show St.le _ _
                exact le_sparse rfl ⟨AV.le_refl _, trivial⟩ trivial rfl
          · clear hy32
            subst hS36
            replace h := of_let h
            obtain ⟨w37, hw37, h⟩ := h
            have hw37 : w37 = y31 := hw37
            subst hw37
            cbv
            injection h with h
            subst h
            refine ⟨(sparse 57 [(4, .c (.v (.bool w37)))] []), ?_, ?_⟩
            · exact le_sparse rfl ⟨AV.le_refl _, trivial⟩ trivial rfl
            · exact ⟨AV.le_refl _, trivial, rfl⟩

noncomputable def L_spec_l09Cell_x52 (a0 : TCell) (a1 : Int) : (Int) → Option ((Int) ⊕ ((Bool) ⊕ (Unit))) := fun x52 =>
  letO x52 fun v51 =>
  br (std.lt v51 (std.ofN (len a0.fInstances)))
  (req (std.inR v51 (len a0.fInstances)) <|
  (F_spec_l09Instance (gd a0.fInstances (std.toN v51)) a1).bind fun y65 =>
  br (!(y65))
  (some (.inr (.inl false)))
  (some (.inl (std.add .i64 v51 1))))
  (some (.inr (.inr ())))
noncomputable def L_spec_l09Cell_x33 (a0 : TCell) : (Int) → Option ((Int) ⊕ ((Bool) ⊕ (Unit))) := fun x33 =>
  letO x33 fun v32 =>
  br (std.lt v32 (std.ofN (len a0.fLabels)))
  (req (std.inR v32 (len a0.fLabels)) <|
  (F_spec_l09Label (gd a0.fLabels (std.toN v32))).bind fun y46 =>
  br (!(y46))
  (some (.inr (.inl false)))
  (some (.inl (std.add .i64 v32 1))))
  (some (.inr (.inr ())))
noncomputable def L_spec_l09Cell_x14 (a0 : TCell) : (Int) → Option ((Int) ⊕ ((Bool) ⊕ (Unit))) := fun x14 =>
  letO x14 fun v13 =>
  br (std.lt v13 (std.ofN (len a0.fShapes)))
  (req (std.inR v13 (len a0.fShapes)) <|
  (F_spec_l09Shape (gd a0.fShapes (std.toN v13))).bind fun y27 =>
  br (!(y27))
  (some (.inr (.inl false)))
  (some (.inl (std.add .i64 v13 1))))
  (some (.inr (.inr ())))
/-- spec.l09Cell -/
noncomputable def F_spec_l09Cell (a0 : TCell) (a1 : Int) : Option (Bool) :=
  ((
        (F_spec_IsName a0.fName).bind fun y8 =>
        br (!(y8))
        (some true)
        (br (std.lt 24 (std.ofN (len a0.fShapes)))
        (some true)
        (br (std.lt 8 (std.ofN (len a0.fLabels)))
        (some true)
        (some (std.lt 8 (std.ofN (len a0.fInstances))))))
    ) : Option (Bool)).bind fun y1 =>
  letO y1 fun w7 =>
  br w7
  (some false)
  ((whileP (σ := Int) (ρ := (Bool) ⊕ (Unit)) (L_spec_l09Cell_x14 a0) 0).bind fun y15 =>
  (match y15 with
    | .inl y15k0 => (
        letO y15k0 fun w31 =>
        some w31)
    | .inr y15m0 =>
        (whileP (σ := Int) (ρ := (Bool) ⊕ (Unit)) (L_spec_l09Cell_x33 a0) 0).bind fun y34 =>
        (match y34 with
          | .inl y34k0 => (
              letO y34k0 fun w50 =>
              some w50)
          | .inr y34m0 =>
              (whileP (σ := Int) (ρ := (Bool) ⊕ (Unit)) (L_spec_l09Cell_x52 a0 a1) 0).bind fun y53 =>
              (match y53 with
                | .inl y53k0 => (
                    letO y53k0 fun w69 =>
                    some w69)
                | .inr y53m0 =>
                    some true))))
theorem run_spec_l09Cell (a0 : TCell) (a1 : Int) (r : Bool) (h : F_spec_l09Cell a0 a1 = some r) : Fun Try.prog 123 [.agg [.v (.string a0.fName), .bs (len a0.fShapes) 5 (row gd (encShape) a0.fShapes), .bs (len a0.fLabels) 4 (row gd (encLabel) a0.fLabels), .bs (len a0.fInstances) 8 (row gd (encInstance) a0.fInstances)], .c (.v (.int .i64 a1))] [] (.c (.v (.bool r))) [] true := by
  refine Fun.of_wp (oneOf [1]) tok mixed Try.func123 (by kernel_rfl) rfl Try.ntmps123 rfl trivial (fun _ => ⟨trivial, trivial⟩) ?_
  unfold F_spec_l09Cell at h
  unfold L_spec_l09Cell_x14 at h
  unfold L_spec_l09Cell_x33 at h
  unfold L_spec_l09Cell_x52 at h
  have hf_spec_IsName := @run_spec_IsName
  have hf_spec_l09Instance := @run_spec_l09Instance
  have hf_spec_l09Label := @run_spec_l09Label
  have hf_spec_l09Shape := @run_spec_l09Shape
  generalize hLEN : @len = LEN at *
  generalize hGD : @gd = GD at *
  generalize hA : std = A at *
  generalize hP : Try.prog = P at *
  cbv
  replace h := of_bind h
  obtain ⟨y1, hy2, h⟩ := h
  obtain ⟨S5, hS6⟩ : ∃ S, S = (sparse 73 [(1, .c (.v (.int .i64 a1))), (2, .c (.ptr 128 0)), (29, .c (.v (.bool y1)))] [(128, .var [.v (.string a0.fName), .bs (LEN a0.fShapes) 5 (row GD (encShape) a0.fShapes), .bs (LEN a0.fLabels) 4 (row GD (encLabel) a0.fLabels), .bs (LEN a0.fInstances) 8 (row GD (encInstance) a0.fInstances)])]) := ⟨_, rfl⟩
  refine ⟨S5, ?_, ?_⟩
  · clear h
    have h := hy2
    clear hy2
    cbv
    replace h := of_bind h
    obtain ⟨y8, hy9, h⟩ := h
    refine ⟨{ args := [.c (.v (.string a0.fName))], o0 := [], r := .c (.v (.bool y8)), o1 := [], fl := true, σ := [], τ := [] }, hf_spec_IsName _ _ hy9, ⟨les_cons (AV.le_refl _) (les_nil), trivial, rfl, rfl, rfl, rfl, trivial, rfl⟩, ?_⟩
    cbv
    refine fork (fun b12 => ?_) (fun b12 => ?_)
    · replace h := of_br_t b12 h
      cbv
      injection h with h
      subst h
      subst hS6
      show St.le _ _
      exact le_sparse rfl ⟨AV.le_refl _, AV.le_refl _, AV.le_refl _, trivial⟩ ⟨rfl, trivial⟩ rfl
    · replace h := of_br_f b12 h
      cbv
      refine fork (fun b11 => ?_) (fun b11 => ?_)
      · replace h := of_br_t b11 h
        cbv
        injection h with h
        subst h
        subst hS6
        show St.le _ _
        exact le_sparse rfl ⟨AV.le_refl _, AV.le_refl _, AV.le_refl _, trivial⟩ ⟨rfl, trivial⟩ rfl
      · replace h := of_br_f b11 h
        cbv
        refine fork (fun b10 => ?_) (fun b10 => ?_)
        · replace h := of_br_t b10 h
          cbv
          injection h with h
          subst h
          subst hS6
          show St.le _ _
          exact le_sparse rfl ⟨AV.le_refl _, AV.le_refl _, AV.le_refl _, trivial⟩ ⟨rfl, trivial⟩ rfl
        · replace h := of_br_f b10 h
          cbv
          injection h with h
          subst h
          subst hS6
          show St.le _ _
          exact le_sparse rfl ⟨AV.le_refl _, AV.le_refl _, AV.le_refl _, trivial⟩ ⟨rfl, trivial⟩ rfl
  · clear hy2
    subst hS6
    replace h := of_let h
    obtain ⟨w7, hw7, h⟩ := h
    have hw7 : w7 = y1 := hw7
    subst hw7
    cbv
    refine fork (fun b70 => ?_) (fun b70 => ?_)
    · replace h := of_br_t b70 h
      cbv
      injection h with h
      subst h
      refine ⟨(sparse 73 [(4, .c (.v (.bool false)))] []), ?_, ?_⟩
      · exact le_sparse rfl ⟨AV.le_refl _, trivial⟩ trivial rfl
      · exact ⟨AV.le_refl _, trivial, rfl⟩
    · replace h := of_br_f b70 h
      cbv
      replace h := of_bind h
      obtain ⟨y15, hr16, hN17⟩ := h
      refine loop_cut hr16 (fun x => (sparse 73 [(1, .c (.v (.int .i64 a1))), (2, .c (.ptr 128 0)), (5, .c (.v (.int .i64 x)))] [(128, .var [.v (.string a0.fName), .bs (LEN a0.fShapes) 5 (row GD (encShape) a0.fShapes), .bs (LEN a0.fLabels) 4 (row GD (encLabel) a0.fLabels), .bs (LEN a0.fInstances) 8 (row GD (encInstance) a0.fInstances)])])) ?_ (fun y e s => (match y with | .inl w => e = .ret ∧ s.le (sparse 73 [(4, .c (.v (.bool w)))] []) | .inr w0 => (fun (w : Unit) => e = .exit 0 ∧ s.le (sparse 73 [(1, .c (.v (.int .i64 a1))), (2, .c (.ptr 128 0))] [(128, .var [.v (.string a0.fName), .bs (LEN a0.fShapes) 5 (row GD (encShape) a0.fShapes), .bs (LEN a0.fLabels) 4 (row GD (encLabel) a0.fLabels), .bs (LEN a0.fInstances) 8 (row GD (encInstance) a0.fInstances)])])) w0)) ?_ ?_
      · clear hr16 hN17
        show St.le _ _
        exact le_sparse rfl ⟨AV.le_refl _, AV.le_refl _, AV.le_refl _, trivial⟩ ⟨rfl, trivial⟩ rfl
      · clear hr16 hN17
        intro x z21 h K19 hK20 hY18
        replace h := of_let h
        obtain ⟨v13, hv13, h⟩ := h
        have hv13 : v13 = x := hv13
        subst hv13
        cbv
        refine fork (fun b30 => ?_) (fun b30 => ?_)
        · replace h := of_br_t b30 h
          cbv
          replace h := of_req h
          obtain ⟨c26, h⟩ := h
          refine ⟨⟨c26, trivial⟩, ?_⟩
          replace h := of_bind h
          obtain ⟨y27, hy28, h⟩ := h
          refine ⟨{ args := [.agg [.v (.int .i64 (GD a0.fShapes (A.toN v13)).fLayer), .v (.int .i64 (GD a0.fShapes (A.toN v13)).fBox.fX0), .v (.int .i64 (GD a0.fShapes (A.toN v13)).fBox.fY0), .v (.int .i64 (GD a0.fShapes (A.toN v13)).fBox.fX1), .v (.int .i64 (GD a0.fShapes (A.toN v13)).fBox.fY1)]], o0 := [], r := .c (.v (.bool y27)), o1 := [], fl := true, σ := [], τ := [] }, hf_spec_l09Shape _ _ hy28, ⟨les_cons (AV.le_refl _) (les_nil), trivial, rfl, rfl, rfl, rfl, trivial, rfl⟩, ?_⟩
          cbv
          refine fork (fun b29 => ?_) (fun b29 => ?_)
          · replace h := of_br_t b29 h
            cbv
            injection h with h
            refine hY18 _ h.symm _ _ (And.intro rfl ?_) (by intro hh; cases hh)
            exact le_sparse rfl ⟨AV.le_refl _, trivial⟩ trivial rfl
          · replace h := of_br_f b29 h
            cbv
            injection h with h
            refine hK20 _ h.symm _ ?_
            exact le_sparse rfl ⟨AV.le_refl _, AV.le_refl _, AV.le_refl _, trivial⟩ ⟨rfl, trivial⟩ rfl
        · replace h := of_br_f b30 h
          cbv
          injection h with h
          refine hY18 _ h.symm _ _ (And.intro rfl ?_) (by intro hh; cases hh)
          exact le_sparse rfl ⟨AV.le_refl _, AV.le_refl _, trivial⟩ ⟨rfl, trivial⟩ rfl
      · clear hr16
        have h := hN17
        clear hN17
        intro e24 s25 q23 hne
        rcases y15 with y15k0 | y15m0
        · replace h := h
          obtain ⟨rfl, q23⟩ := q23
          replace h := of_let h
          obtain ⟨w31, hw31, h⟩ := h
          have hw31 : w31 = y15k0 := hw31
          subst hw31
          cbv
          injection h with h
          subst h
          refine ⟨(sparse 73 [(4, .c (.v (.bool w31)))] []), ?_, ?_⟩
          · refine St.le_trans q23 ?_
            exact le_sparse rfl ⟨AV.le_refl _, trivial⟩ trivial rfl
          · exact ⟨AV.le_refl _, trivial, rfl⟩
        · obtain ⟨rfl, q23⟩ := q23
          cbv
          refine ⟨_, q23, ?_⟩
          cbv
          replace h := of_bind h
          obtain ⟨y34, hr35, hN36⟩ := h
          refine loop_cut hr35 (fun x => (sparse 73 [(1, .c (.v (.int .i64 a1))), (2, .c (.ptr 128 0)), (6, .c (.v (.int .i64 x)))] [(128, .var [.v (.string a0.fName), .bs (LEN a0.fShapes) 5 (row GD (encShape) a0.fShapes), .bs (LEN a0.fLabels) 4 (row GD (encLabel) a0.fLabels), .bs (LEN a0.fInstances) 8 (row GD (encInstance) a0.fInstances)])])) ?_ (fun y e s => (match y with | .inl w => e = .ret ∧ s.le (sparse 73 [(4, .c (.v (.bool w)))] []) | .inr w0 => (fun (w : Unit) => e = .exit 2 ∧ s.le (sparse 73 [(1, .c (.v (.int .i64 a1))), (2, .c (.ptr 128 0))] [(128, .var [.v (.string a0.fName), .bs (LEN a0.fShapes) 5 (row GD (encShape) a0.fShapes), .bs (LEN a0.fLabels) 4 (row GD (encLabel) a0.fLabels), .bs (LEN a0.fInstances) 8 (row GD (encInstance) a0.fInstances)])])) w0)) ?_ ?_
          · clear hr35 hN36
            show St.le _ _
            exact le_sparse rfl ⟨AV.le_refl _, AV.le_refl _, AV.le_refl _, trivial⟩ ⟨rfl, trivial⟩ rfl
          · clear hr35 hN36
            intro x z40 h K38 hK39 hY37
            replace h := of_let h
            obtain ⟨v32, hv32, h⟩ := h
            have hv32 : v32 = x := hv32
            subst hv32
            cbv
            refine fork (fun b49 => ?_) (fun b49 => ?_)
            · replace h := of_br_t b49 h
              cbv
              replace h := of_req h
              obtain ⟨c45, h⟩ := h
              refine ⟨⟨c45, trivial⟩, ?_⟩
              replace h := of_bind h
              obtain ⟨y46, hy47, h⟩ := h
              refine ⟨{ args := [.agg [.v (.int .i64 (GD a0.fLabels (A.toN v32)).fLayer), .v (.int .i64 (GD a0.fLabels (A.toN v32)).fAt.fX), .v (.int .i64 (GD a0.fLabels (A.toN v32)).fAt.fY), .v (.string (GD a0.fLabels (A.toN v32)).fName)]], o0 := [], r := .c (.v (.bool y46)), o1 := [], fl := true, σ := [], τ := [] }, hf_spec_l09Label _ _ hy47, ⟨les_cons (AV.le_refl _) (les_nil), trivial, rfl, rfl, rfl, rfl, trivial, rfl⟩, ?_⟩
              cbv
              refine fork (fun b48 => ?_) (fun b48 => ?_)
              · replace h := of_br_t b48 h
                cbv
                injection h with h
                refine hY37 _ h.symm _ _ (And.intro rfl ?_) (by intro hh; cases hh)
                exact le_sparse rfl ⟨AV.le_refl _, trivial⟩ trivial rfl
              · replace h := of_br_f b48 h
                cbv
                injection h with h
                refine hK39 _ h.symm _ ?_
                exact le_sparse rfl ⟨AV.le_refl _, AV.le_refl _, AV.le_refl _, trivial⟩ ⟨rfl, trivial⟩ rfl
            · replace h := of_br_f b49 h
              cbv
              injection h with h
              refine hY37 _ h.symm _ _ (And.intro rfl ?_) (by intro hh; cases hh)
              exact le_sparse rfl ⟨AV.le_refl _, AV.le_refl _, trivial⟩ ⟨rfl, trivial⟩ rfl
          · clear hr35
            have h := hN36
            clear hN36
            intro e43 s44 q42 hne
            rcases y34 with y34k0 | y34m0
            · replace h := h
              obtain ⟨rfl, q42⟩ := q42
              replace h := of_let h
              obtain ⟨w50, hw50, h⟩ := h
              have hw50 : w50 = y34k0 := hw50
              subst hw50
              cbv
              injection h with h
              subst h
              refine ⟨(sparse 73 [(4, .c (.v (.bool w50)))] []), ?_, ?_⟩
              · refine St.le_trans q42 ?_
                exact le_sparse rfl ⟨AV.le_refl _, trivial⟩ trivial rfl
              · exact ⟨AV.le_refl _, trivial, rfl⟩
            · obtain ⟨rfl, q42⟩ := q42
              cbv
              refine ⟨_, q42, ?_⟩
              cbv
              replace h := of_bind h
              obtain ⟨y53, hr54, hN55⟩ := h
              refine loop_cut hr54 (fun x => (sparse 73 [(1, .c (.v (.int .i64 a1))), (2, .c (.ptr 128 0)), (7, .c (.v (.int .i64 x)))] [(128, .var [.v (.string a0.fName), .bs (LEN a0.fShapes) 5 (row GD (encShape) a0.fShapes), .bs (LEN a0.fLabels) 4 (row GD (encLabel) a0.fLabels), .bs (LEN a0.fInstances) 8 (row GD (encInstance) a0.fInstances)])])) ?_ (fun y e s => (match y with | .inl w => e = .ret ∧ s.le (sparse 73 [(4, .c (.v (.bool w)))] []) | .inr w0 => (fun (w : Unit) => e = .exit 4 ∧ s.le (sparse 73 [] [])) w0)) ?_ ?_
              · clear hr54 hN55
                show St.le _ _
                exact le_sparse rfl ⟨AV.le_refl _, AV.le_refl _, AV.le_refl _, trivial⟩ ⟨rfl, trivial⟩ rfl
              · clear hr54 hN55
                intro x z59 h K57 hK58 hY56
                replace h := of_let h
                obtain ⟨v51, hv51, h⟩ := h
                have hv51 : v51 = x := hv51
                subst hv51
                cbv
                refine fork (fun b68 => ?_) (fun b68 => ?_)
                · replace h := of_br_t b68 h
                  cbv
                  replace h := of_req h
                  obtain ⟨c64, h⟩ := h
                  refine ⟨⟨c64, trivial⟩, ?_⟩
                  replace h := of_bind h
                  obtain ⟨y65, hy66, h⟩ := h
                  refine ⟨{ args := [.agg [.v (.int .i64 (GD a0.fInstances (A.toN v51)).fCell), .v (.int .i64 (GD a0.fInstances (A.toN v51)).fPlace.fOrientation), .v (.int .i64 (GD a0.fInstances (A.toN v51)).fPlace.fX), .v (.int .i64 (GD a0.fInstances (A.toN v51)).fPlace.fY), .v (.int .i64 (GD a0.fInstances (A.toN v51)).fColumns), .v (.int .i64 (GD a0.fInstances (A.toN v51)).fRows), .v (.int .i64 (GD a0.fInstances (A.toN v51)).fStepX), .v (.int .i64 (GD a0.fInstances (A.toN v51)).fStepY)], .c (.v (.int .i64 a1))], o0 := [], r := .c (.v (.bool y65)), o1 := [], fl := true, σ := [], τ := [] }, hf_spec_l09Instance _ _ _ hy66, ⟨les_cons (AV.le_refl _) (les_cons (AV.le_refl _) (les_nil)), trivial, rfl, rfl, rfl, rfl, trivial, rfl⟩, ?_⟩
                  cbv
                  refine fork (fun b67 => ?_) (fun b67 => ?_)
                  · replace h := of_br_t b67 h
                    cbv
                    injection h with h
                    refine hY56 _ h.symm _ _ (And.intro rfl ?_) (by intro hh; cases hh)
                    exact le_sparse rfl ⟨AV.le_refl _, trivial⟩ trivial rfl
                  · replace h := of_br_f b67 h
                    cbv
                    injection h with h
                    refine hK58 _ h.symm _ ?_
                    exact le_sparse rfl ⟨AV.le_refl _, AV.le_refl _, AV.le_refl _, trivial⟩ ⟨rfl, trivial⟩ rfl
                · replace h := of_br_f b68 h
                  cbv
                  injection h with h
                  refine hY56 _ h.symm _ _ (And.intro rfl ?_) (by intro hh; cases hh)
                  exact le_sparse rfl trivial trivial rfl
              · clear hr54
                have h := hN55
                clear hN55
                intro e62 s63 q61 hne
                rcases y53 with y53k0 | y53m0
                · replace h := h
                  obtain ⟨rfl, q61⟩ := q61
                  replace h := of_let h
                  obtain ⟨w69, hw69, h⟩ := h
                  have hw69 : w69 = y53k0 := hw69
                  subst hw69
                  cbv
                  injection h with h
                  subst h
                  refine ⟨(sparse 73 [(4, .c (.v (.bool w69)))] []), ?_, ?_⟩
                  · refine St.le_trans q61 ?_
                    exact le_sparse rfl ⟨AV.le_refl _, trivial⟩ trivial rfl
                  · exact ⟨AV.le_refl _, trivial, rfl⟩
                · obtain ⟨rfl, q61⟩ := q61
                  cbv
                  refine ⟨_, q61, ?_⟩
                  cbv
                  injection h with h
                  subst h
                  refine ⟨(sparse 73 [(4, .c (.v (.bool true)))] []), ?_, ?_⟩
                  · exact le_sparse rfl ⟨AV.le_refl _, trivial⟩ trivial rfl
                  · exact ⟨AV.le_refl _, trivial, rfl⟩

noncomputable def L_spec_IsValidLibrary_x26 (a0 : TLibrary) (v9 : Int) : (Int) → Option ((Int) ⊕ ((Bool) ⊕ (Unit))) := fun x26 =>
  letO x26 fun v25 =>
  br (std.lt v25 v9)
  (req (std.inR v25 (len a0.fCells)) <|
  req (std.inR v9 (len a0.fCells)) <|
  br (std.seq (gd a0.fCells (std.toN v25)).fName (gd a0.fCells (std.toN v9)).fName)
  (some (.inr (.inl false)))
  (some (.inl (std.add .i64 v25 1))))
  (some (.inr (.inr ())))
noncomputable def L_spec_IsValidLibrary_x10 (a0 : TLibrary) : (Int) → Option ((Int) ⊕ ((Bool) ⊕ (Unit))) := fun x10 =>
  letO x10 fun v9 =>
  br (std.lt v9 (std.ofN (len a0.fCells)))
  (req (std.inR v9 (len a0.fCells)) <|
  (F_spec_l09Cell (gd a0.fCells (std.toN v9)) v9).bind fun y23 =>
  br (!(y23))
  (some (.inr (.inl false)))
  ((whileP (σ := Int) (ρ := (Bool) ⊕ (Unit)) (L_spec_IsValidLibrary_x26 a0 v9) 0).bind fun y27 =>
  (match y27 with
    | .inl y27k0 => (
        letO y27k0 fun w42 =>
        some (.inr (.inl w42)))
    | .inr y27m0 =>
        some (.inl (std.add .i64 v9 1)))))
  (some (.inr (.inr ())))
/-- spec.IsValidLibrary -/
noncomputable def F_spec_IsValidLibrary (a0 : TLibrary) : Option (Bool) :=
  ((
        br (std.lt (std.ofN (len a0.fCells)) 1)
        (some true)
        (some (std.lt 8 (std.ofN (len a0.fCells))))
    ) : Option (Bool)).bind fun y1 =>
  letO y1 fun w7 =>
  br w7
  (some false)
  ((whileP (σ := Int) (ρ := (Bool) ⊕ (Unit)) (L_spec_IsValidLibrary_x10 a0) 0).bind fun y11 =>
  (match y11 with
    | .inl y11k0 => (
        letO y11k0 fun w45 =>
        some w45)
    | .inr y11m0 =>
        some true))
theorem run_spec_IsValidLibrary (a0 : TLibrary) (r : Bool) (h : F_spec_IsValidLibrary a0 = some r) : Fun Try.prog 51 [.agg [.bs (len a0.fCells) 4 (row gd (encCell len gd) a0.fCells)]] [] (.c (.v (.bool r))) [] true := by
  refine Fun.of_wp (oneOf [1]) tok mixed Try.func51 (by kernel_rfl) rfl Try.ntmps51 rfl trivial (fun _ => ⟨trivial, trivial⟩) ?_
  unfold F_spec_IsValidLibrary at h
  unfold L_spec_IsValidLibrary_x10 at h
  unfold L_spec_IsValidLibrary_x26 at h
  have hf_spec_l09Cell := @run_spec_l09Cell
  generalize hLEN : @len = LEN at *
  generalize hGD : @gd = GD at *
  generalize hA : std = A at *
  generalize hP : Try.prog = P at *
  cbv
  replace h := of_bind h
  obtain ⟨y1, hy2, h⟩ := h
  obtain ⟨S5, hS6⟩ : ∃ S, S = (sparse 48 [(1, .c (.ptr 64 0)), (14, .c (.v (.bool y1)))] [(64, .var [.bs (LEN a0.fCells) 4 (row GD (encCell LEN GD) a0.fCells)])]) := ⟨_, rfl⟩
  refine ⟨S5, ?_, ?_⟩
  · clear h
    have h := hy2
    clear hy2
    cbv
    refine fork (fun b8 => ?_) (fun b8 => ?_)
    · replace h := of_br_t b8 h
      cbv
      injection h with h
      subst h
      subst hS6
      show St.le _ _
      exact le_sparse rfl ⟨AV.le_refl _, AV.le_refl _, trivial⟩ ⟨rfl, trivial⟩ rfl
    · replace h := of_br_f b8 h
      cbv
      injection h with h
      subst h
      subst hS6
      show St.le _ _
      exact le_sparse rfl ⟨AV.le_refl _, AV.le_refl _, trivial⟩ ⟨rfl, trivial⟩ rfl
  · clear hy2
    subst hS6
    replace h := of_let h
    obtain ⟨w7, hw7, h⟩ := h
    have hw7 : w7 = y1 := hw7
    subst hw7
    cbv
    refine fork (fun b46 => ?_) (fun b46 => ?_)
    · replace h := of_br_t b46 h
      cbv
      injection h with h
      subst h
      refine ⟨(sparse 48 [(2, .c (.v (.bool false)))] []), ?_, ?_⟩
      · exact le_sparse rfl ⟨AV.le_refl _, trivial⟩ trivial rfl
      · exact ⟨AV.le_refl _, trivial, rfl⟩
    · replace h := of_br_f b46 h
      cbv
      replace h := of_bind h
      obtain ⟨y11, hr12, hN13⟩ := h
      refine loop_cut hr12 (fun x => (sparse 48 [(1, .c (.ptr 64 0)), (3, .c (.v (.int .i64 x)))] [(64, .var [.bs (LEN a0.fCells) 4 (row GD (encCell LEN GD) a0.fCells)])])) ?_ (fun y e s => (match y with | .inl w => e = .ret ∧ s.le (sparse 48 [(2, .c (.v (.bool w)))] []) | .inr w0 => (fun (w : Unit) => e = .exit 0 ∧ s.le (sparse 48 [] [])) w0)) ?_ ?_
      · clear hr12 hN13
        show St.le _ _
        exact le_sparse rfl ⟨AV.le_refl _, AV.le_refl _, trivial⟩ ⟨rfl, trivial⟩ rfl
      · clear hr12 hN13
        intro x z17 h K15 hK16 hY14
        replace h := of_let h
        obtain ⟨v9, hv9, h⟩ := h
        have hv9 : v9 = x := hv9
        subst hv9
        cbv
        refine fork (fun b44 => ?_) (fun b44 => ?_)
        · replace h := of_br_t b44 h
          cbv
          replace h := of_req h
          obtain ⟨c22, h⟩ := h
          refine ⟨⟨c22, trivial⟩, ?_⟩
          replace h := of_bind h
          obtain ⟨y23, hy24, h⟩ := h
          refine ⟨{ args := [.agg [.v (.string (GD a0.fCells (A.toN v9)).fName), .bs (LEN (GD a0.fCells (A.toN v9)).fShapes) 5 (row GD (encShape) (GD a0.fCells (A.toN v9)).fShapes), .bs (LEN (GD a0.fCells (A.toN v9)).fLabels) 4 (row GD (encLabel) (GD a0.fCells (A.toN v9)).fLabels), .bs (LEN (GD a0.fCells (A.toN v9)).fInstances) 8 (row GD (encInstance) (GD a0.fCells (A.toN v9)).fInstances)], .c (.v (.int .i64 v9))], o0 := [], r := .c (.v (.bool y23)), o1 := [], fl := true, σ := [], τ := [] }, hf_spec_l09Cell _ _ _ hy24, ⟨les_cons (AV.le_refl _) (les_cons (AV.le_refl _) (les_nil)), trivial, rfl, rfl, rfl, rfl, trivial, rfl⟩, ?_⟩
          cbv
          refine fork (fun b43 => ?_) (fun b43 => ?_)
          · replace h := of_br_t b43 h
            cbv
            injection h with h
            refine hY14 _ h.symm _ _ (And.intro rfl ?_) (by intro hh; cases hh)
            exact le_sparse rfl ⟨AV.le_refl _, trivial⟩ trivial rfl
          · replace h := of_br_f b43 h
            cbv
            replace h := of_bind h
            obtain ⟨y27, hr28, hN29⟩ := h
            refine loop_cut hr28 (fun x => (sparse 48 [(1, .c (.ptr 64 0)), (3, .c (.v (.int .i64 v9))), (4, .c (.v (.int .i64 x)))] [(64, .var [.bs (LEN a0.fCells) 4 (row GD (encCell LEN GD) a0.fCells)])])) ?_ (fun y e s => (match y with | .inl w => e = .ret ∧ s.le (sparse 48 [(2, .c (.v (.bool w)))] []) | .inr w0 => (fun (w : Unit) => e = .exit 2 ∧ s.le (sparse 48 [(1, .c (.ptr 64 0)), (3, .c (.v (.int .i64 v9)))] [(64, .var [.bs (LEN a0.fCells) 4 (row GD (encCell LEN GD) a0.fCells)])])) w0)) ?_ ?_
            · clear hr28 hN29
              show St.le _ _
              exact le_sparse rfl ⟨AV.le_refl _, AV.le_refl _, AV.le_refl _, trivial⟩ ⟨rfl, trivial⟩ rfl
            · clear hr28 hN29
              intro x z33 h K31 hK32 hY30
              replace h := of_let h
              obtain ⟨v25, hv25, h⟩ := h
              have hv25 : v25 = x := hv25
              subst hv25
              cbv
              refine fork (fun b41 => ?_) (fun b41 => ?_)
              · replace h := of_br_t b41 h
                cbv
                replace h := of_req h
                obtain ⟨c38, h⟩ := h
                refine ⟨⟨c38, trivial⟩, ?_⟩
                replace h := of_req h
                obtain ⟨c39, h⟩ := h
                refine ⟨⟨c39, trivial⟩, ?_⟩
                refine fork (fun b40 => ?_) (fun b40 => ?_)
                · replace h := of_br_t b40 h
                  cbv
                  injection h with h
                  refine hY30 _ h.symm _ _ (And.intro rfl ?_) (by intro hh; cases hh)
                  exact le_sparse rfl ⟨AV.le_refl _, trivial⟩ trivial rfl
                · replace h := of_br_f b40 h
                  cbv
                  injection h with h
                  refine hK32 _ h.symm _ ?_
                  exact le_sparse rfl ⟨AV.le_refl _, AV.le_refl _, AV.le_refl _, trivial⟩ ⟨rfl, trivial⟩ rfl
              · replace h := of_br_f b41 h
                cbv
                injection h with h
                refine hY30 _ h.symm _ _ (And.intro rfl ?_) (by intro hh; cases hh)
                exact le_sparse rfl ⟨AV.le_refl _, AV.le_refl _, trivial⟩ ⟨rfl, trivial⟩ rfl
            · clear hr28
              have h := hN29
              clear hN29
              intro e36 s37 q35 hne
              rcases y27 with y27k0 | y27m0
              · replace h := h
                obtain ⟨rfl, q35⟩ := q35
                replace h := of_let h
                obtain ⟨w42, hw42, h⟩ := h
                have hw42 : w42 = y27k0 := hw42
                subst hw42
                cbv
                injection h with h
                refine hY14 _ h.symm _ _ (And.intro rfl ?_) (by intro hh; cases hh)
                refine St.le_trans q35 ?_
                exact le_sparse rfl ⟨AV.le_refl _, trivial⟩ trivial rfl
              · obtain ⟨rfl, q35⟩ := q35
                cbv
                refine ⟨_, q35, ?_⟩
                cbv
                injection h with h
                refine hK16 _ h.symm _ ?_
                exact le_sparse rfl ⟨AV.le_refl _, AV.le_refl _, trivial⟩ ⟨rfl, trivial⟩ rfl
        · replace h := of_br_f b44 h
          cbv
          injection h with h
          refine hY14 _ h.symm _ _ (And.intro rfl ?_) (by intro hh; cases hh)
          exact le_sparse rfl trivial trivial rfl
      · clear hr12
        have h := hN13
        clear hN13
        intro e20 s21 q19 hne
        rcases y11 with y11k0 | y11m0
        · replace h := h
          obtain ⟨rfl, q19⟩ := q19
          replace h := of_let h
          obtain ⟨w45, hw45, h⟩ := h
          have hw45 : w45 = y11k0 := hw45
          subst hw45
          cbv
          injection h with h
          subst h
          refine ⟨(sparse 48 [(2, .c (.v (.bool w45)))] []), ?_, ?_⟩
          · refine St.le_trans q19 ?_
            exact le_sparse rfl ⟨AV.le_refl _, trivial⟩ trivial rfl
          · exact ⟨AV.le_refl _, trivial, rfl⟩
        · obtain ⟨rfl, q19⟩ := q19
          cbv
          refine ⟨_, q19, ?_⟩
          cbv
          injection h with h
          subst h
          refine ⟨(sparse 48 [(2, .c (.v (.bool true)))] []), ?_, ?_⟩
          · exact le_sparse rfl ⟨AV.le_refl _, trivial⟩ trivial rfl
          · exact ⟨AV.le_refl _, trivial, rfl⟩
/-- spec.l09Has -/
noncomputable def F_spec_l09Has (a0 : TLibrary) (a1 : Int) : Option (Bool) :=
  ((
        (F_spec_IsValidLibrary (TLibrary.mk a0.fCells)).bind fun y8 =>
        br y8
        ((F_spec_l09In a1 0 (std.sub .i64 (std.ofN (len a0.fCells)) 1)).bind fun y10 =>
        some y10)
        (some false)
    ) : Option (Bool)).bind fun y1 =>
  letO y1 fun w7 =>
  some w7
theorem run_spec_l09Has (a0 : TLibrary) (a1 : Int) (r : Bool) (h : F_spec_l09Has a0 a1 = some r) : Fun Try.prog 128 [.agg [.bs (len a0.fCells) 4 (row gd (encCell len gd) a0.fCells)], .c (.v (.int .i64 a1))] [] (.c (.v (.bool r))) [] true := by
  refine Fun.of_wp (oneOf [1]) tok mixed Try.func128 (by kernel_rfl) rfl Try.ntmps128 rfl trivial (fun _ => ⟨trivial, trivial⟩) ?_
  unfold F_spec_l09Has at h
  have hf_spec_IsValidLibrary := @run_spec_IsValidLibrary
  have hf_spec_l09In := @run_spec_l09In
  generalize hLEN : @len = LEN at *
  generalize hGD : @gd = GD at *
  generalize hA : std = A at *
  generalize hP : Try.prog = P at *
  cbv
  replace h := of_bind h
  obtain ⟨y1, hy2, h⟩ := h
  obtain ⟨S5, hS6⟩ : ∃ S, S = (sparse 15 [(4, .c (.v (.bool y1)))] []) := ⟨_, rfl⟩
  refine ⟨S5, ?_, ?_⟩
  · clear h
    have h := hy2
    clear hy2
    cbv
    replace h := of_bind h
    obtain ⟨y8, hy9, h⟩ := h
    refine ⟨{ args := [.agg [.bs (LEN a0.fCells) 4 (row GD (encCell LEN GD) a0.fCells)]], o0 := [], r := .c (.v (.bool y8)), o1 := [], fl := true, σ := [], τ := [] }, hf_spec_IsValidLibrary _ _ hy9, ⟨les_cons (AV.le_refl _) (les_nil), trivial, rfl, rfl, rfl, rfl, trivial, rfl⟩, ?_⟩
    cbv
    refine fork (fun b12 => ?_) (fun b12 => ?_)
    · replace h := of_br_t b12 h
      cbv
      replace h := of_bind h
      obtain ⟨y10, hy11, h⟩ := h
      refine ⟨{ args := [.c (.v (.int .i64 a1)), .c (.v (.int .i64 0)), .c (.v (.int .i64 (A.sub .i64 (A.ofN (LEN a0.fCells)) 1)))], o0 := [], r := .c (.v (.bool y10)), o1 := [], fl := true, σ := [], τ := [] }, hf_spec_l09In _ _ _ _ hy11, ⟨les_cons (AV.le_refl _) (les_cons (AV.le_refl _) (les_cons (AV.le_refl _) (les_nil))), trivial, rfl, rfl, rfl, rfl, trivial, rfl⟩, ?_⟩
      cbv
      injection h with h
      subst h
      subst hS6
      show St.le _ _
      exact le_sparse rfl ⟨AV.le_refl _, trivial⟩ trivial rfl
    · replace h := of_br_f b12 h
      cbv
      injection h with h
      subst h
      subst hS6
      show St.le _ _
      exact le_sparse rfl ⟨AV.le_refl _, trivial⟩ trivial rfl
  · clear hy2
    subst hS6
    replace h := of_let h
    obtain ⟨w7, hw7, h⟩ := h
    have hw7 : w7 = y1 := hw7
    subst hw7
    cbv
    injection h with h
    subst h
    refine ⟨(sparse 15 [(4, .c (.v (.bool w7)))] []), ?_, ?_⟩
    · exact le_sparse rfl ⟨AV.le_refl _, trivial⟩ trivial rfl
    · exact ⟨AV.le_refl _, trivial, rfl⟩

noncomputable def L_spec_CellLine_x5 (a0 : TLibrary) (a1 : Int) : (Int × Int) → Option ((Int × Int) ⊕ ((Int))) := fun x5 =>
  letO x5.1 fun v3 =>
  letO x5.2 fun v4 =>
  br (std.lt v4 a1)
  (req (std.inR v4 (len a0.fCells)) <|
  some (.inl (std.add .i64 (std.add .i64 v3 2) (std.add .i64 (std.add .i64 (std.ofN (len (gd a0.fCells (std.toN v4)).fShapes)) (std.ofN (len (gd a0.fCells (std.toN v4)).fLabels))) (std.ofN (len (gd a0.fCells (std.toN v4)).fInstances))), std.add .i64 v4 1)))
  (some (.inr v3))
/-- spec.CellLine -/
noncomputable def F_spec_CellLine (a0 : TLibrary) (a1 : Int) : Option (Int) :=
  (F_spec_l09Has (TLibrary.mk a0.fCells) a1).bind fun y1 =>
  br (!(y1))
  (some 0)
  ((whileP (σ := Int × Int) (ρ := (Int)) (L_spec_CellLine_x5 a0 a1) (1, 0)).bind fun y6 =>
  letO y6 fun y6k0 =>
  letO y6k0 fun w19 =>
  some w19)
theorem run_spec_CellLine (a0 : TLibrary) (a1 : Int) (r : Int) (h : F_spec_CellLine a0 a1 = some r) : Fun Try.prog 57 [.agg [.bs (len a0.fCells) 4 (row gd (encCell len gd) a0.fCells)], .c (.v (.int .i64 a1))] [] (.c (.v (.int .i64 r))) [] true := by
  refine Fun.of_wp (oneOf []) tok mixed Try.func57 (by kernel_rfl) rfl Try.ntmps57 rfl trivial (fun _ => ⟨trivial, trivial⟩) ?_
  unfold F_spec_CellLine at h
  unfold L_spec_CellLine_x5 at h
  have hf_spec_l09Has := @run_spec_l09Has
  generalize hLEN : @len = LEN at *
  generalize hGD : @gd = GD at *
  generalize hA : std = A at *
  generalize hP : Try.prog = P at *
  cbv
  replace h := of_bind h
  obtain ⟨y1, hy2, h⟩ := h
  refine ⟨{ args := [.agg [.bs (LEN a0.fCells) 4 (row GD (encCell LEN GD) a0.fCells)], .c (.v (.int .i64 a1))], o0 := [], r := .c (.v (.bool y1)), o1 := [], fl := true, σ := [], τ := [] }, hf_spec_l09Has _ _ _ hy2, ⟨les_cons (AV.le_refl _) (les_cons (AV.le_refl _) (les_nil)), trivial, rfl, rfl, rfl, rfl, trivial, rfl⟩, ?_⟩
  cbv
  refine fork (fun b20 => ?_) (fun b20 => ?_)
  · replace h := of_br_t b20 h
    cbv
    injection h with h
    subst h
    refine ⟨(sparse 37 [(4, .c (.v (.int .i64 0)))] []), ?_, ?_⟩
    · exact le_sparse rfl ⟨AV.le_refl _, trivial⟩ trivial rfl
    · exact ⟨AV.le_refl _, trivial, rfl⟩
  · replace h := of_br_f b20 h
    cbv
    replace h := of_bind h
    obtain ⟨y6, hr7, hN8⟩ := h
    refine loop_cut hr7 (fun x => (sparse 37 [(1, .c (.v (.int .i64 a1))), (2, .c (.ptr 128 0)), (5, .c (.v (.int .i64 x.1))), (6, .c (.v (.int .i64 x.2)))] [(128, .var [.bs (LEN a0.fCells) 4 (row GD (encCell LEN GD) a0.fCells)])])) ?_ (fun y e s => (fun (w : Int) => e = .exit 0 ∧ s.le (sparse 37 [(5, .c (.v (.int .i64 w)))] [])) y) ?_ ?_
    · clear hr7 hN8
      show St.le _ _
      exact le_sparse rfl ⟨AV.le_refl _, AV.le_refl _, AV.le_refl _, AV.le_refl _, trivial⟩ ⟨rfl, trivial⟩ rfl
    · clear hr7 hN8
      intro x z12 h K10 hK11 hY9
      obtain ⟨x0_, x1_⟩ := x
      replace h := of_let h
      obtain ⟨v3, hv3, h⟩ := h
      have hv3 : v3 = x0_ := hv3
      subst hv3
      replace h := of_let h
      obtain ⟨v4, hv4, h⟩ := h
      have hv4 : v4 = x1_ := hv4
      subst hv4
      cbv
      refine fork (fun b18 => ?_) (fun b18 => ?_)
      · replace h := of_br_t b18 h
        cbv
        replace h := of_req h
        obtain ⟨c17, h⟩ := h
        refine ⟨⟨c17, trivial⟩, ?_⟩
        injection h with h
        refine hK11 _ h.symm _ ?_
        exact le_sparse rfl ⟨AV.le_refl _, AV.le_refl _, AV.le_refl _, AV.le_refl _, trivial⟩ ⟨rfl, trivial⟩ rfl
      · replace h := of_br_f b18 h
        cbv
        injection h with h
        refine hY9 _ h.symm _ _ (And.intro rfl ?_) (by intro hh; cases hh)
        exact le_sparse rfl ⟨AV.le_refl _, trivial⟩ trivial rfl
    · clear hr7
      have h := hN8
      clear hN8
      intro e15 s16 q14 hne
      replace h := of_let h
      obtain ⟨y6k0, hyk, h⟩ := h
      have hyk : y6k0 = y6 := hyk
      subst hyk
      obtain ⟨rfl, q14⟩ := q14
      replace h := of_let h
      obtain ⟨w19, hw19, h⟩ := h
      have hw19 : w19 = y6k0 := hw19
      subst hw19
      cbv
      refine ⟨_, q14, ?_⟩
      cbv
      injection h with h
      subst h
      refine ⟨(sparse 37 [(4, .c (.v (.int .i64 w19)))] []), ?_, ?_⟩
      · exact le_sparse rfl ⟨AV.le_refl _, trivial⟩ trivial rfl
      · exact ⟨AV.le_refl _, trivial, rfl⟩

noncomputable def L_impl_IsName_x2 (a0 : ByteArray) : (Int) → Option ((Int) ⊕ ((Unit) ⊕ (Unit))) := fun x2 =>
  letO x2 fun v1 =>
  br (std.lt v1 (std.ofN (std.slen a0)))
  (((
        req (std.inR v1 (std.slen a0)) <|
        br (std.lt (std.sat a0 (std.toN v1)) 97)
        (req (std.inR v1 (std.slen a0)) <|
        br (std.lt (std.sat a0 (std.toN v1)) 48)
        (some true)
        (req (std.inR v1 (std.slen a0)) <|
        some (std.lt 57 (std.sat a0 (std.toN v1)))))
        (req (std.inR v1 (std.slen a0)) <|
        br (std.lt 122 (std.sat a0 (std.toN v1)))
        (req (std.inR v1 (std.slen a0)) <|
        br (std.lt (std.sat a0 (std.toN v1)) 48)
        (some true)
        (req (std.inR v1 (std.slen a0)) <|
        some (std.lt 57 (std.sat a0 (std.toN v1)))))
        (some false))
    ) : Option (Bool)).bind fun y14 =>
  letO y14 fun w20 =>
  br w20
  (some (.inr (.inl ())))
  (some (.inl (std.add .i64 v1 1))))
  (some (.inr (.inr ())))
/-- impl.IsName -/
noncomputable def F_impl_IsName (a0 : ByteArray) : Option (Bool) :=
  (whileP (σ := Int) (ρ := (Unit) ⊕ (Unit)) (L_impl_IsName_x2 a0) 0).bind fun y3 =>
  (match y3 with
    | .inl y3k0 => (
        some false)
    | .inr y3m0 =>
        ((
              br (std.le 1 (std.ofN (std.slen a0)))
              (some (std.le (std.ofN (std.slen a0)) 8))
              (some false)
          ) : Option (Bool)).bind fun y33 =>
        letO y33 fun w39 =>
        some w39)
theorem run_impl_IsName (a0 : ByteArray) (r : Bool) (h : F_impl_IsName a0 = some r) : Fun Try.prog 152 [.c (.v (.string a0))] [] (.c (.v (.bool r))) [] true := by
  refine Fun.of_wp (oneOf [4, 6]) tok mixed Try.func152 (by kernel_rfl) rfl Try.ntmps152 rfl trivial (fun _ => ⟨trivial, trivial⟩) ?_
  unfold F_impl_IsName at h
  unfold L_impl_IsName_x2 at h
  generalize hLEN : @len = LEN at *
  generalize hGD : @gd = GD at *
  generalize hA : std = A at *
  generalize hP : Try.prog = P at *
  cbv
  replace h := of_bind h
  obtain ⟨y3, hr4, hN5⟩ := h
  refine loop_cut hr4 (fun x => (sparse 40 [(0, .c (.v (.string a0))), (3, .c (.v (.int .i64 x)))] [])) ?_ (fun y e s => (match y with | .inl w => e = .ret ∧ s.le (sparse 40 [(2, .c (.v (.bool false)))] []) | .inr w0 => (fun (w : Unit) => e = .exit 0 ∧ s.le (sparse 40 [(0, .c (.v (.string a0)))] [])) w0)) ?_ ?_
  · clear hr4 hN5
    show St.le _ _
    exact le_sparse rfl ⟨AV.le_refl _, AV.le_refl _, trivial⟩ trivial rfl
  · clear hr4 hN5
    intro x z9 h K7 hK8 hY6
    replace h := of_let h
    obtain ⟨v1, hv1, h⟩ := h
    have hv1 : v1 = x := hv1
    subst hv1
    cbv
    refine fork (fun b32 => ?_) (fun b32 => ?_)
    · replace h := of_br_t b32 h
      cbv
      replace h := of_bind h
      obtain ⟨y14, hy15, h⟩ := h
      obtain ⟨S18, hS19⟩ : ∃ S, S = (sparse 40 [(0, .c (.v (.string a0))), (3, .c (.v (.int .i64 v1))), (31, .c (.v (.bool y14)))] []) := ⟨_, rfl⟩
      refine ⟨S18, ?_, ?_⟩
      · clear h
        have h := hy15
        clear hy15
        cbv
        replace h := of_req h
        obtain ⟨c21, h⟩ := h
        refine ⟨c21, ?_⟩
        refine fork (fun b30 => ?_) (fun b30 => ?_)
        · replace h := of_br_t b30 h
          cbv
          replace h := of_req h
          obtain ⟨c27, h⟩ := h
          refine ⟨c27, ?_⟩
          refine fork (fun b29 => ?_) (fun b29 => ?_)
          · replace h := of_br_t b29 h
            cbv
            injection h with h
            subst h
            subst hS19
            show St.le _ _
            exact le_sparse rfl ⟨AV.le_refl _, AV.le_refl _, AV.le_refl _, trivial⟩ trivial rfl
          · replace h := of_br_f b29 h
            cbv
            replace h := of_req h
            obtain ⟨c28, h⟩ := h
            refine ⟨c28, ?_⟩
            injection h with h
            subst h
            subst hS19
            show St.le _ _
            exact le_sparse rfl ⟨AV.le_refl _, AV.le_refl _, AV.le_refl _, trivial⟩ trivial rfl
        · replace h := of_br_f b30 h
          cbv
          replace h := of_req h
          obtain ⟨c22, h⟩ := h
          refine ⟨c22, ?_⟩
          refine fork (fun b26 => ?_) (fun b26 => ?_)
          · replace h := of_br_t b26 h
            cbv
            replace h := of_req h
            obtain ⟨c23, h⟩ := h
            refine ⟨c23, ?_⟩
            refine fork (fun b25 => ?_) (fun b25 => ?_)
            · replace h := of_br_t b25 h
              cbv
              injection h with h
              subst h
              subst hS19
              show St.le _ _
              exact le_sparse rfl ⟨AV.le_refl _, AV.le_refl _, AV.le_refl _, trivial⟩ trivial rfl
            · replace h := of_br_f b25 h
              cbv
              replace h := of_req h
              obtain ⟨c24, h⟩ := h
              refine ⟨c24, ?_⟩
              injection h with h
              subst h
              subst hS19
              show St.le _ _
              exact le_sparse rfl ⟨AV.le_refl _, AV.le_refl _, AV.le_refl _, trivial⟩ trivial rfl
          · replace h := of_br_f b26 h
            cbv
            injection h with h
            subst h
            subst hS19
            show St.le _ _
            exact le_sparse rfl ⟨AV.le_refl _, AV.le_refl _, AV.le_refl _, trivial⟩ trivial rfl
      · clear hy15
        subst hS19
        replace h := of_let h
        obtain ⟨w20, hw20, h⟩ := h
        have hw20 : w20 = y14 := hw20
        subst hw20
        cbv
        refine fork (fun b31 => ?_) (fun b31 => ?_)
        · replace h := of_br_t b31 h
          cbv
          injection h with h
          refine hY6 _ h.symm _ _ (And.intro rfl ?_) (by intro hh; cases hh)
          exact le_sparse rfl ⟨AV.le_refl _, trivial⟩ trivial rfl
        · replace h := of_br_f b31 h
          cbv
          injection h with h
          refine hK8 _ h.symm _ ?_
          exact le_sparse rfl ⟨AV.le_refl _, AV.le_refl _, trivial⟩ trivial rfl
    · replace h := of_br_f b32 h
      cbv
      injection h with h
      refine hY6 _ h.symm _ _ (And.intro rfl ?_) (by intro hh; cases hh)
      exact le_sparse rfl ⟨AV.le_refl _, trivial⟩ trivial rfl
  · clear hr4
    have h := hN5
    clear hN5
    intro e12 s13 q11 hne
    rcases y3 with y3k0 | y3m0
    · replace h := h
      obtain ⟨rfl, q11⟩ := q11
      cbv
      injection h with h
      subst h
      refine ⟨(sparse 40 [(2, .c (.v (.bool false)))] []), ?_, ?_⟩
      · refine St.le_trans q11 ?_
        exact le_sparse rfl ⟨AV.le_refl _, trivial⟩ trivial rfl
      · exact ⟨AV.le_refl _, trivial, rfl⟩
    · obtain ⟨rfl, q11⟩ := q11
      cbv
      refine ⟨_, q11, ?_⟩
      cbv
      replace h := of_bind h
      obtain ⟨y33, hy34, h⟩ := h
      obtain ⟨S37, hS38⟩ : ∃ S, S = (sparse 40 [(2, .c (.v (.bool y33)))] []) := ⟨_, rfl⟩
      refine ⟨S37, ?_, ?_⟩
      · clear h
        have h := hy34
        clear hy34
        cbv
        refine fork (fun b40 => ?_) (fun b40 => ?_)
        · replace h := of_br_t b40 h
          cbv
          injection h with h
          subst h
          subst hS38
          show St.le _ _
          exact le_sparse rfl ⟨AV.le_refl _, trivial⟩ trivial rfl
        · replace h := of_br_f b40 h
          cbv
          injection h with h
          subst h
          subst hS38
          show St.le _ _
          exact le_sparse rfl ⟨AV.le_refl _, trivial⟩ trivial rfl
      · clear hy34
        subst hS38
        replace h := of_let h
        obtain ⟨w39, hw39, h⟩ := h
        have hw39 : w39 = y33 := hw39
        subst hw39
        cbv
        injection h with h
        subst h
        refine ⟨(sparse 40 [(2, .c (.v (.bool w39)))] []), ?_, ?_⟩
        · exact le_sparse rfl ⟨AV.le_refl _, trivial⟩ trivial rfl
        · exact ⟨AV.le_refl _, trivial, rfl⟩

/-- impl.within -/
noncomputable def F_impl_within (a0 : Int) (a1 : Int) (a2 : Int) : Option (Bool) :=
  ((
        br (std.le a1 a0)
        (some (std.le a0 a2))
        (some false)
    ) : Option (Bool)).bind fun y1 =>
  letO y1 fun w7 =>
  some w7
theorem run_impl_within (a0 : Int) (a1 : Int) (a2 : Int) (r : Bool) (h : F_impl_within a0 a1 a2 = some r) : Fun Try.prog 110 [.c (.v (.int .i64 a0)), .c (.v (.int .i64 a1)), .c (.v (.int .i64 a2))] [] (.c (.v (.bool r))) [] true := by
  refine Fun.of_wp (oneOf [1]) tok mixed Try.func110 (by kernel_rfl) rfl Try.ntmps110 rfl trivial (fun _ => ⟨trivial, trivial⟩) ?_
  unfold F_impl_within at h
  generalize hLEN : @len = LEN at *
  generalize hGD : @gd = GD at *
  generalize hA : std = A at *
  generalize hP : Try.prog = P at *
  cbv
  replace h := of_bind h
  obtain ⟨y1, hy2, h⟩ := h
  obtain ⟨S5, hS6⟩ : ∃ S, S = (sparse 15 [(6, .c (.v (.bool y1)))] []) := ⟨_, rfl⟩
  refine ⟨S5, ?_, ?_⟩
  · clear h
    have h := hy2
    clear hy2
    cbv
    refine fork (fun b8 => ?_) (fun b8 => ?_)
    · replace h := of_br_t b8 h
      cbv
      injection h with h
      subst h
      subst hS6
      show St.le _ _
      exact le_sparse rfl ⟨AV.le_refl _, trivial⟩ trivial rfl
    · replace h := of_br_f b8 h
      cbv
      injection h with h
      subst h
      subst hS6
      show St.le _ _
      exact le_sparse rfl ⟨AV.le_refl _, trivial⟩ trivial rfl
  · clear hy2
    subst hS6
    replace h := of_let h
    obtain ⟨w7, hw7, h⟩ := h
    have hw7 : w7 = y1 := hw7
    subst hw7
    cbv
    injection h with h
    subst h
    refine ⟨(sparse 15 [(6, .c (.v (.bool w7)))] []), ?_, ?_⟩
    · exact le_sparse rfl ⟨AV.le_refl _, trivial⟩ trivial rfl
    · exact ⟨AV.le_refl _, trivial, rfl⟩

/-- impl.IsValidRect -/
noncomputable def F_impl_IsValidRect (a0 : TRect) : Option (Bool) :=
  ((
        br (std.le (-40) a0.fX0)
        (br (std.lt a0.fX0 a0.fX1)
        (br (std.le a0.fX1 40)
        (br (std.le (-40) a0.fY0)
        (br (std.lt a0.fY0 a0.fY1)
        (some (std.le a0.fY1 40))
        (some false))
        (some false))
        (some false))
        (some false))
        (some false)
    ) : Option (Bool)).bind fun y1 =>
  letO y1 fun w7 =>
  some w7
theorem run_impl_IsValidRect (a0 : TRect) (r : Bool) (h : F_impl_IsValidRect a0 = some r) : Fun Try.prog 109 [.agg [.v (.int .i64 a0.fX0), .v (.int .i64 a0.fY0), .v (.int .i64 a0.fX1), .v (.int .i64 a0.fY1)]] [] (.c (.v (.bool r))) [] true := by
  refine Fun.of_wp (oneOf [1]) tok mixed Try.func109 (by kernel_rfl) rfl Try.ntmps109 rfl trivial (fun _ => ⟨trivial, trivial⟩) ?_
  unfold F_impl_IsValidRect at h
  generalize hLEN : @len = LEN at *
  generalize hGD : @gd = GD at *
  generalize hA : std = A at *
  generalize hP : Try.prog = P at *
  cbv
  replace h := of_bind h
  obtain ⟨y1, hy2, h⟩ := h
  obtain ⟨S5, hS6⟩ : ∃ S, S = (sparse 35 [(2, .c (.v (.bool y1)))] []) := ⟨_, rfl⟩
  refine ⟨S5, ?_, ?_⟩
  · clear h
    have h := hy2
    clear hy2
    cbv
    refine fork (fun b12 => ?_) (fun b12 => ?_)
    · replace h := of_br_t b12 h
      cbv
      refine fork (fun b11 => ?_) (fun b11 => ?_)
      · replace h := of_br_t b11 h
        cbv
        refine fork (fun b10 => ?_) (fun b10 => ?_)
        · replace h := of_br_t b10 h
          cbv
          refine fork (fun b9 => ?_) (fun b9 => ?_)
          · replace h := of_br_t b9 h
            cbv
            refine fork (fun b8 => ?_) (fun b8 => ?_)
            · replace h := of_br_t b8 h
              cbv
              injection h with h
              subst h
              subst hS6
              show St.le _ _
              exact le_sparse rfl ⟨AV.le_refl _, trivial⟩ trivial rfl
            · replace h := of_br_f b8 h
              cbv
              injection h with h
              subst h
              subst hS6
              show St.le _ _
              exact le_sparse rfl ⟨AV.le_refl _, trivial⟩ trivial rfl
          · replace h := of_br_f b9 h
            cbv
            injection h with h
            subst h
            subst hS6
            show St.le _ _
            exact le_sparse rfl ⟨AV.le_refl _, trivial⟩ trivial rfl
        · replace h := of_br_f b10 h
          cbv
          injection h with h
          subst h
          subst hS6
          show St.le _ _
          exact le_sparse rfl ⟨AV.le_refl _, trivial⟩ trivial rfl
      · replace h := of_br_f b11 h
        cbv
        injection h with h
        subst h
        subst hS6
        show St.le _ _
        exact le_sparse rfl ⟨AV.le_refl _, trivial⟩ trivial rfl
    · replace h := of_br_f b12 h
      cbv
      injection h with h
      subst h
      subst hS6
      show St.le _ _
      exact le_sparse rfl ⟨AV.le_refl _, trivial⟩ trivial rfl
  · clear hy2
    subst hS6
    replace h := of_let h
    obtain ⟨w7, hw7, h⟩ := h
    have hw7 : w7 = y1 := hw7
    subst hw7
    cbv
    injection h with h
    subst h
    refine ⟨(sparse 35 [(2, .c (.v (.bool w7)))] []), ?_, ?_⟩
    · exact le_sparse rfl ⟨AV.le_refl _, trivial⟩ trivial rfl
    · exact ⟨AV.le_refl _, trivial, rfl⟩

/-- impl.validShape -/
noncomputable def F_impl_validShape (a0 : TShape) : Option (Bool) :=
  ((
        (F_impl_within a0.fLayer 0 7).bind fun y8 =>
        br y8
        ((F_impl_IsValidRect a0.fBox).bind fun y10 =>
        some y10)
        (some false)
    ) : Option (Bool)).bind fun y1 =>
  letO y1 fun w7 =>
  some w7
theorem run_impl_validShape (a0 : TShape) (r : Bool) (h : F_impl_validShape a0 = some r) : Fun Try.prog 149 [.agg [.v (.int .i64 a0.fLayer), .v (.int .i64 a0.fBox.fX0), .v (.int .i64 a0.fBox.fY0), .v (.int .i64 a0.fBox.fX1), .v (.int .i64 a0.fBox.fY1)]] [] (.c (.v (.bool r))) [] true := by
  refine Fun.of_wp (oneOf [1]) tok mixed Try.func149 (by kernel_rfl) rfl Try.ntmps149 rfl trivial (fun _ => ⟨trivial, trivial⟩) ?_
  unfold F_impl_validShape at h
  have hf_impl_IsValidRect := @run_impl_IsValidRect
  have hf_impl_within := @run_impl_within
  generalize hLEN : @len = LEN at *
  generalize hGD : @gd = GD at *
  generalize hA : std = A at *
  generalize hP : Try.prog = P at *
  cbv
  replace h := of_bind h
  obtain ⟨y1, hy2, h⟩ := h
  obtain ⟨S5, hS6⟩ : ∃ S, S = (sparse 11 [(2, .c (.v (.bool y1)))] []) := ⟨_, rfl⟩
  refine ⟨S5, ?_, ?_⟩
  · clear h
    have h := hy2
    clear hy2
    cbv
    replace h := of_bind h
    obtain ⟨y8, hy9, h⟩ := h
    refine ⟨{ args := [.c (.v (.int .i64 a0.fLayer)), .c (.v (.int .i64 0)), .c (.v (.int .i64 7))], o0 := [], r := .c (.v (.bool y8)), o1 := [], fl := true, σ := [], τ := [] }, hf_impl_within _ _ _ _ hy9, ⟨les_cons (AV.le_refl _) (les_cons (AV.le_refl _) (les_cons (AV.le_refl _) (les_nil))), trivial, rfl, rfl, rfl, rfl, trivial, rfl⟩, ?_⟩
    cbv
    refine fork (fun b12 => ?_) (fun b12 => ?_)
    · replace h := of_br_t b12 h
      cbv
      replace h := of_bind h
      obtain ⟨y10, hy11, h⟩ := h
      refine ⟨{ args := [.agg [.v (.int .i64 a0.fBox.fX0), .v (.int .i64 a0.fBox.fY0), .v (.int .i64 a0.fBox.fX1), .v (.int .i64 a0.fBox.fY1)]], o0 := [], r := .c (.v (.bool y10)), o1 := [], fl := true, σ := [], τ := [] }, hf_impl_IsValidRect _ _ hy11, ⟨les_cons (AV.le_refl _) (les_nil), trivial, rfl, rfl, rfl, rfl, trivial, rfl⟩, ?_⟩
      cbv
      injection h with h
      subst h
      subst hS6
      show St.le _ _
      exact le_sparse rfl ⟨AV.le_refl _, trivial⟩ trivial rfl
    · replace h := of_br_f b12 h
      cbv
      injection h with h
      subst h
      subst hS6
      show St.le _ _
      exact le_sparse rfl ⟨AV.le_refl _, trivial⟩ trivial rfl
  · clear hy2
    subst hS6
    replace h := of_let h
    obtain ⟨w7, hw7, h⟩ := h
    have hw7 : w7 = y1 := hw7
    subst hw7
    cbv
    injection h with h
    subst h
    refine ⟨(sparse 11 [(2, .c (.v (.bool w7)))] []), ?_, ?_⟩
    · exact le_sparse rfl ⟨AV.le_refl _, trivial⟩ trivial rfl
    · exact ⟨AV.le_refl _, trivial, rfl⟩

/-- impl.validCell$1 -/
noncomputable def F_impl_validCell_1 (a0 : TShape) : Option (Bool) :=
  (F_impl_validShape (TShape.mk a0.fLayer a0.fBox)).bind fun y1 =>
  some (!(y1))
theorem run_impl_validCell_1 (a0 : TShape) (r : Bool) (h : F_impl_validCell_1 a0 = some r) : Fun Try.prog 216 [.agg [.v (.int .i64 a0.fLayer), .v (.int .i64 a0.fBox.fX0), .v (.int .i64 a0.fBox.fY0), .v (.int .i64 a0.fBox.fX1), .v (.int .i64 a0.fBox.fY1)]] [] (.c (.v (.bool r))) [] true := by
  refine Fun.of_wp (oneOf []) tok mixed Try.func216 (by kernel_rfl) rfl Try.ntmps216 rfl trivial (fun _ => ⟨trivial, trivial⟩) ?_
  unfold F_impl_validCell_1 at h
  have hf_impl_validShape := @run_impl_validShape
  generalize hLEN : @len = LEN at *
  generalize hGD : @gd = GD at *
  generalize hA : std = A at *
  generalize hP : Try.prog = P at *
  cbv
  replace h := of_bind h
  obtain ⟨y1, hy2, h⟩ := h
  refine ⟨{ args := [.agg [.v (.int .i64 a0.fLayer), .v (.int .i64 a0.fBox.fX0), .v (.int .i64 a0.fBox.fY0), .v (.int .i64 a0.fBox.fX1), .v (.int .i64 a0.fBox.fY1)]], o0 := [], r := .c (.v (.bool y1)), o1 := [], fl := true, σ := [], τ := [] }, hf_impl_validShape _ _ hy2, ⟨les_cons (AV.le_refl _) (les_nil), trivial, rfl, rfl, rfl, rfl, trivial, rfl⟩, ?_⟩
  cbv
  injection h with h
  subst h
  refine ⟨(sparse 6 [(2, .c (.v (.bool (!(y1)))))] []), ?_, ?_⟩
  · exact le_sparse rfl ⟨AV.le_refl _, trivial⟩ trivial rfl
  · exact ⟨AV.le_refl _, trivial, rfl⟩

noncomputable def L_slices_IndexFunc_Limpl_Shape_impl_Shape_mbFimpl_validCell_1_x2 (a0 : List TShape) : (Int) → Option ((Int) ⊕ ((Int) ⊕ (Unit))) := fun x2 =>
  letO x2 fun v1 =>
  br (std.lt v1 (std.ofN (len a0)))
  (req (std.inR v1 (len a0)) <|
  (F_impl_validCell_1 (gd a0 (std.toN v1))).bind fun y15 =>
  br y15
  (some (.inr (.inl v1)))
  (some (.inl (std.add .i64 v1 1))))
  (some (.inr (.inr ())))
/-- impl.Shape] -/
noncomputable def F_slices_IndexFunc_Limpl_Shape_impl_Shape_mbFimpl_validCell_1 (a0 : List TShape) : Option (Int) :=
  (whileP (σ := Int) (ρ := (Int) ⊕ (Unit)) (L_slices_IndexFunc_Limpl_Shape_impl_Shape_mbFimpl_validCell_1_x2 a0) 0).bind fun y3 =>
  (match y3 with
    | .inl y3k0 => (
        letO y3k0 fun w19 =>
        some w19)
    | .inr y3m0 =>
        some (-1))
theorem run_slices_IndexFunc_Limpl_Shape_impl_Shape_mbFimpl_validCell_1 (a0 : List TShape) (r : Int) (h : F_slices_IndexFunc_Limpl_Shape_impl_Shape_mbFimpl_validCell_1 a0 = some r) : Fun Try.prog 243 [.c (.bs (len a0) 5 (row gd (encShape) a0)), .c (.fn 216 0 fun _ => .junk)] [] (.c (.v (.int .i64 r))) [] true := by
  refine Fun.of_wp (oneOf []) tok mixed Try.func243 (by kernel_rfl) rfl Try.ntmps243 rfl trivial (fun _ => ⟨trivial, trivial⟩) ?_
  unfold F_slices_IndexFunc_Limpl_Shape_impl_Shape_mbFimpl_validCell_1 at h
  unfold L_slices_IndexFunc_Limpl_Shape_impl_Shape_mbFimpl_validCell_1_x2 at h
  have hf_impl_validCell_1 := @run_impl_validCell_1
  generalize hLEN : @len = LEN at *
  generalize hGD : @gd = GD at *
  generalize hA : std = A at *
  generalize hP : Try.prog = P at *
  cbv
  replace h := of_bind h
  obtain ⟨y3, hr4, hN5⟩ := h
  refine loop_cut hr4 (fun x => (sparse 19 [(0, .c (.bs (LEN a0) 5 (row GD (encShape) a0))), (1, .c (.fn 216 0 fun _ => .junk)), (7, .c (.v (.int .i64 (A.ofN (LEN a0))))), (8, .c (.v (.int .i64 x)))] [])) ?_ (fun y e s => (match y with | .inl w => e = .ret ∧ s.le (sparse 19 [(4, .c (.v (.int .i64 w)))] []) | .inr w0 => (fun (w : Unit) => e = .exit 0 ∧ s.le (sparse 19 [] [])) w0)) ?_ ?_
  · clear hr4 hN5
    show St.le _ _
    exact le_sparse rfl ⟨AV.le_refl _, AV.le_refl _, AV.le_refl _, AV.le_refl _, trivial⟩ trivial rfl
  · clear hr4 hN5
    intro x z9 h K7 hK8 hY6
    replace h := of_let h
    obtain ⟨v1, hv1, h⟩ := h
    have hv1 : v1 = x := hv1
    subst hv1
    cbv
    refine fork (fun b18 => ?_) (fun b18 => ?_)
    · replace h := of_br_t b18 h
      cbv
      replace h := of_req h
      obtain ⟨c14, h⟩ := h
      refine ⟨⟨c14, trivial⟩, ?_⟩
      replace h := of_bind h
      obtain ⟨y15, hy16, h⟩ := h
      refine ⟨{ args := [.agg [.v (.int .i64 (GD a0 (A.toN v1)).fLayer), .v (.int .i64 (GD a0 (A.toN v1)).fBox.fX0), .v (.int .i64 (GD a0 (A.toN v1)).fBox.fY0), .v (.int .i64 (GD a0 (A.toN v1)).fBox.fX1), .v (.int .i64 (GD a0 (A.toN v1)).fBox.fY1)]], o0 := [], r := .c (.v (.bool y15)), o1 := [], fl := true, σ := [], τ := [] }, hf_impl_validCell_1 _ _ hy16, ⟨les_cons (AV.le_refl _) (les_nil), trivial, rfl, rfl, rfl, rfl, trivial, rfl⟩, ?_⟩
      cbv
      refine fork (fun b17 => ?_) (fun b17 => ?_)
      · replace h := of_br_t b17 h
        cbv
        injection h with h
        refine hY6 _ h.symm _ _ (And.intro rfl ?_) (by intro hh; cases hh)
        exact le_sparse rfl ⟨AV.le_refl _, trivial⟩ trivial rfl
      · replace h := of_br_f b17 h
        cbv
        injection h with h
        refine hK8 _ h.symm _ ?_
        exact le_sparse rfl ⟨AV.le_refl _, AV.le_refl _, AV.le_refl _, AV.le_refl _, trivial⟩ trivial rfl
    · replace h := of_br_f b18 h
      cbv
      injection h with h
      refine hY6 _ h.symm _ _ (And.intro rfl ?_) (by intro hh; cases hh)
      exact le_sparse rfl trivial trivial rfl
  · clear hr4
    have h := hN5
    clear hN5
    intro e12 s13 q11 hne
    rcases y3 with y3k0 | y3m0
    · replace h := h
      obtain ⟨rfl, q11⟩ := q11
      replace h := of_let h
      obtain ⟨w19, hw19, h⟩ := h
      have hw19 : w19 = y3k0 := hw19
      subst hw19
      cbv
      injection h with h
      subst h
      refine ⟨(sparse 19 [(4, .c (.v (.int .i64 w19)))] []), ?_, ?_⟩
      · refine St.le_trans q11 ?_
        exact le_sparse rfl ⟨AV.le_refl _, trivial⟩ trivial rfl
      · exact ⟨AV.le_refl _, trivial, rfl⟩
    · obtain ⟨rfl, q11⟩ := q11
      cbv
      refine ⟨_, q11, ?_⟩
      cbv
      injection h with h
      subst h
      refine ⟨(sparse 19 [(4, .c (.v (.int .i64 (-1))))] []), ?_, ?_⟩
      · exact le_sparse rfl ⟨AV.le_refl _, trivial⟩ trivial rfl
      · exact ⟨AV.le_refl _, trivial, rfl⟩

/-- impl.Shape] -/
noncomputable def F_slices_ContainsFunc_Limpl_Shape_impl_Shape_mbFimpl_validCell_1 (a0 : List TShape) : Option (Bool) :=
  (F_slices_IndexFunc_Limpl_Shape_impl_Shape_mbFimpl_validCell_1 a0).bind fun y1 =>
  some (std.le 0 y1)
theorem run_slices_ContainsFunc_Limpl_Shape_impl_Shape_mbFimpl_validCell_1 (a0 : List TShape) (r : Bool) (h : F_slices_ContainsFunc_Limpl_Shape_impl_Shape_mbFimpl_validCell_1 a0 = some r) : Fun Try.prog 215 [.c (.bs (len a0) 5 (row gd (encShape) a0)), .c (.fn 216 0 fun _ => .junk)] [] (.c (.v (.bool r))) [] true := by
  refine Fun.of_wp (oneOf []) tok mixed Try.func215 (by kernel_rfl) rfl Try.ntmps215 rfl trivial (fun _ => ⟨trivial, trivial⟩) ?_
  unfold F_slices_ContainsFunc_Limpl_Shape_impl_Shape_mbFimpl_validCell_1 at h
  have hf_slices_IndexFunc_Limpl_Shape_impl_Shape_mbFimpl_validCell_1 := @run_slices_IndexFunc_Limpl_Shape_impl_Shape_mbFimpl_validCell_1
  generalize hLEN : @len = LEN at *
  generalize hGD : @gd = GD at *
  generalize hA : std = A at *
  generalize hP : Try.prog = P at *
  cbv
  replace h := of_bind h
  obtain ⟨y1, hy2, h⟩ := h
  refine ⟨{ args := [.c (.bs (LEN a0) 5 (row GD (encShape) a0)), .c (.fn 216 0 fun _ => .junk)], o0 := [], r := .c (.v (.int .i64 y1)), o1 := [], fl := true, σ := [], τ := [] }, hf_slices_IndexFunc_Limpl_Shape_impl_Shape_mbFimpl_validCell_1 _ _ hy2, ⟨les_cons (AV.le_refl _) (les_cons (AV.le_refl _) (les_nil)), trivial, rfl, rfl, rfl, rfl, trivial, rfl⟩, ?_⟩
  cbv
  injection h with h
  subst h
  refine ⟨(sparse 9 [(4, .c (.v (.bool (A.le 0 y1))))] []), ?_, ?_⟩
  · exact le_sparse rfl ⟨AV.le_refl _, trivial⟩ trivial rfl
  · exact ⟨AV.le_refl _, trivial, rfl⟩

/-- impl.isUnitCell -/
noncomputable def F_impl_isUnitCell (a0 : TPoint) : Option (Bool) :=
  ((
        (F_impl_within a0.fX (-40) 39).bind fun y8 =>
        br y8
        ((F_impl_within a0.fY (-40) 39).bind fun y10 =>
        some y10)
        (some false)
    ) : Option (Bool)).bind fun y1 =>
  letO y1 fun w7 =>
  some w7
theorem run_impl_isUnitCell (a0 : TPoint) (r : Bool) (h : F_impl_isUnitCell a0 = some r) : Fun Try.prog 195 [.agg [.v (.int .i64 a0.fX), .v (.int .i64 a0.fY)]] [] (.c (.v (.bool r))) [] true := by
  refine Fun.of_wp (oneOf [1]) tok mixed Try.func195 (by kernel_rfl) rfl Try.ntmps195 rfl trivial (fun _ => ⟨trivial, trivial⟩) ?_
  unfold F_impl_isUnitCell at h
  have hf_impl_within := @run_impl_within
  generalize hLEN : @len = LEN at *
  generalize hGD : @gd = GD at *
  generalize hA : std = A at *
  generalize hP : Try.prog = P at *
  cbv
  replace h := of_bind h
  obtain ⟨y1, hy2, h⟩ := h
  obtain ⟨S5, hS6⟩ : ∃ S, S = (sparse 11 [(2, .c (.v (.bool y1)))] []) := ⟨_, rfl⟩
  refine ⟨S5, ?_, ?_⟩
  · clear h
    have h := hy2
    clear hy2
    cbv
    replace h := of_bind h
    obtain ⟨y8, hy9, h⟩ := h
    refine ⟨{ args := [.c (.v (.int .i64 a0.fX)), .c (.v (.int .i64 (-40))), .c (.v (.int .i64 39))], o0 := [], r := .c (.v (.bool y8)), o1 := [], fl := true, σ := [], τ := [] }, hf_impl_within _ _ _ _ hy9, ⟨les_cons (AV.le_refl _) (les_cons (AV.le_refl _) (les_cons (AV.le_refl _) (les_nil))), trivial, rfl, rfl, rfl, rfl, trivial, rfl⟩, ?_⟩
    cbv
    refine fork (fun b12 => ?_) (fun b12 => ?_)
    · replace h := of_br_t b12 h
      cbv
      replace h := of_bind h
      obtain ⟨y10, hy11, h⟩ := h
      refine ⟨{ args := [.c (.v (.int .i64 a0.fY)), .c (.v (.int .i64 (-40))), .c (.v (.int .i64 39))], o0 := [], r := .c (.v (.bool y10)), o1 := [], fl := true, σ := [], τ := [] }, hf_impl_within _ _ _ _ hy11, ⟨les_cons (AV.le_refl _) (les_cons (AV.le_refl _) (les_cons (AV.le_refl _) (les_nil))), trivial, rfl, rfl, rfl, rfl, trivial, rfl⟩, ?_⟩
      cbv
      injection h with h
      subst h
      subst hS6
      show St.le _ _
      exact le_sparse rfl ⟨AV.le_refl _, trivial⟩ trivial rfl
    · replace h := of_br_f b12 h
      cbv
      injection h with h
      subst h
      subst hS6
      show St.le _ _
      exact le_sparse rfl ⟨AV.le_refl _, trivial⟩ trivial rfl
  · clear hy2
    subst hS6
    replace h := of_let h
    obtain ⟨w7, hw7, h⟩ := h
    have hw7 : w7 = y1 := hw7
    subst hw7
    cbv
    injection h with h
    subst h
    refine ⟨(sparse 11 [(2, .c (.v (.bool w7)))] []), ?_, ?_⟩
    · exact le_sparse rfl ⟨AV.le_refl _, trivial⟩ trivial rfl
    · exact ⟨AV.le_refl _, trivial, rfl⟩
/-- impl.validLabel -/
noncomputable def F_impl_validLabel (a0 : TLabel) : Option (Bool) :=
  ((
        (F_impl_within a0.fLayer 0 7).bind fun y8 =>
        br y8
        ((F_impl_isUnitCell a0.fAt).bind fun y10 =>
        br y10
        ((F_impl_IsName a0.fName).bind fun y12 =>
        some y12)
        (some false))
        (some false)
    ) : Option (Bool)).bind fun y1 =>
  letO y1 fun w7 =>
  some w7
theorem run_impl_validLabel (a0 : TLabel) (r : Bool) (h : F_impl_validLabel a0 = some r) : Fun Try.prog 150 [.agg [.v (.int .i64 a0.fLayer), .v (.int .i64 a0.fAt.fX), .v (.int .i64 a0.fAt.fY), .v (.string a0.fName)]] [] (.c (.v (.bool r))) [] true := by
  refine Fun.of_wp (oneOf [1]) tok mixed Try.func150 (by kernel_rfl) rfl Try.ntmps150 rfl trivial (fun _ => ⟨trivial, trivial⟩) ?_
  unfold F_impl_validLabel at h
  have hf_impl_IsName := @run_impl_IsName
  have hf_impl_isUnitCell := @run_impl_isUnitCell
  have hf_impl_within := @run_impl_within
  generalize hLEN : @len = LEN at *
  generalize hGD : @gd = GD at *
  generalize hA : std = A at *
  generalize hP : Try.prog = P at *
  cbv
  replace h := of_bind h
  obtain ⟨y1, hy2, h⟩ := h
  obtain ⟨S5, hS6⟩ : ∃ S, S = (sparse 16 [(2, .c (.v (.bool y1)))] []) := ⟨_, rfl⟩
  refine ⟨S5, ?_, ?_⟩
  · clear h
    have h := hy2
    clear hy2
    cbv
    replace h := of_bind h
    obtain ⟨y8, hy9, h⟩ := h
    refine ⟨{ args := [.c (.v (.int .i64 a0.fLayer)), .c (.v (.int .i64 0)), .c (.v (.int .i64 7))], o0 := [], r := .c (.v (.bool y8)), o1 := [], fl := true, σ := [], τ := [] }, hf_impl_within _ _ _ _ hy9, ⟨les_cons (AV.le_refl _) (les_cons (AV.le_refl _) (les_cons (AV.le_refl _) (les_nil))), trivial, rfl, rfl, rfl, rfl, trivial, rfl⟩, ?_⟩
    cbv
    refine fork (fun b15 => ?_) (fun b15 => ?_)
    · replace h := of_br_t b15 h
      cbv
      replace h := of_bind h
      obtain ⟨y10, hy11, h⟩ := h
      refine ⟨{ args := [.agg [.v (.int .i64 a0.fAt.fX), .v (.int .i64 a0.fAt.fY)]], o0 := [], r := .c (.v (.bool y10)), o1 := [], fl := true, σ := [], τ := [] }, hf_impl_isUnitCell _ _ hy11, ⟨les_cons (AV.le_refl _) (les_nil), trivial, rfl, rfl, rfl, rfl, trivial, rfl⟩, ?_⟩
      cbv
      refine fork (fun b14 => ?_) (fun b14 => ?_)
      · replace h := of_br_t b14 h
        cbv
        replace h := of_bind h
        obtain ⟨y12, hy13, h⟩ := h
        refine ⟨{ args := [.c (.v (.string a0.fName))], o0 := [], r := .c (.v (.bool y12)), o1 := [], fl := true, σ := [], τ := [] }, hf_impl_IsName _ _ hy13, ⟨les_cons (AV.le_refl _) (les_nil), trivial, rfl, rfl, rfl, rfl, trivial, rfl⟩, ?_⟩
        cbv
        injection h with h
        subst h
        subst hS6
        show St.le _ _
        exact le_sparse rfl ⟨AV.le_refl _, trivial⟩ trivial rfl
      · replace h := of_br_f b14 h
        cbv
        injection h with h
        subst h
        subst hS6
        show St.le _ _
        exact le_sparse rfl ⟨AV.le_refl _, trivial⟩ trivial rfl
    · replace h := of_br_f b15 h
      cbv
      injection h with h
      subst h
      subst hS6
      show St.le _ _
      exact le_sparse rfl ⟨AV.le_refl _, trivial⟩ trivial rfl
  · clear hy2
    subst hS6
    replace h := of_let h
    obtain ⟨w7, hw7, h⟩ := h
    have hw7 : w7 = y1 := hw7
    subst hw7
    cbv
    injection h with h
    subst h
    refine ⟨(sparse 16 [(2, .c (.v (.bool w7)))] []), ?_, ?_⟩
    · exact le_sparse rfl ⟨AV.le_refl _, trivial⟩ trivial rfl
    · exact ⟨AV.le_refl _, trivial, rfl⟩

/-- impl.validCell$2 -/
noncomputable def F_impl_validCell_2 (a0 : TLabel) : Option (Bool) :=
  (F_impl_validLabel (TLabel.mk a0.fLayer a0.fAt a0.fName)).bind fun y1 =>
  some (!(y1))
theorem run_impl_validCell_2 (a0 : TLabel) (r : Bool) (h : F_impl_validCell_2 a0 = some r) : Fun Try.prog 218 [.agg [.v (.int .i64 a0.fLayer), .v (.int .i64 a0.fAt.fX), .v (.int .i64 a0.fAt.fY), .v (.string a0.fName)]] [] (.c (.v (.bool r))) [] true := by
  refine Fun.of_wp (oneOf []) tok mixed Try.func218 (by kernel_rfl) rfl Try.ntmps218 rfl trivial (fun _ => ⟨trivial, trivial⟩) ?_
  unfold F_impl_validCell_2 at h
  have hf_impl_validLabel := @run_impl_validLabel
  generalize hLEN : @len = LEN at *
  generalize hGD : @gd = GD at *
  generalize hA : std = A at *
  generalize hP : Try.prog = P at *
  cbv
  replace h := of_bind h
  obtain ⟨y1, hy2, h⟩ := h
  refine ⟨{ args := [.agg [.v (.int .i64 a0.fLayer), .v (.int .i64 a0.fAt.fX), .v (.int .i64 a0.fAt.fY), .v (.string a0.fName)]], o0 := [], r := .c (.v (.bool y1)), o1 := [], fl := true, σ := [], τ := [] }, hf_impl_validLabel _ _ hy2, ⟨les_cons (AV.le_refl _) (les_nil), trivial, rfl, rfl, rfl, rfl, trivial, rfl⟩, ?_⟩
  cbv
  injection h with h
  subst h
  refine ⟨(sparse 6 [(2, .c (.v (.bool (!(y1)))))] []), ?_, ?_⟩
  · exact le_sparse rfl ⟨AV.le_refl _, trivial⟩ trivial rfl
  · exact ⟨AV.le_refl _, trivial, rfl⟩

noncomputable def L_slices_IndexFunc_Limpl_Label_impl_Label_mbFimpl_validCell_2_x2 (a0 : List TLabel) : (Int) → Option ((Int) ⊕ ((Int) ⊕ (Unit))) := fun x2 =>
  letO x2 fun v1 =>
  br (std.lt v1 (std.ofN (len a0)))
  (req (std.inR v1 (len a0)) <|
  (F_impl_validCell_2 (gd a0 (std.toN v1))).bind fun y15 =>
  br y15
  (some (.inr (.inl v1)))
  (some (.inl (std.add .i64 v1 1))))
  (some (.inr (.inr ())))
/-- impl.Label] -/
noncomputable def F_slices_IndexFunc_Limpl_Label_impl_Label_mbFimpl_validCell_2 (a0 : List TLabel) : Option (Int) :=
  (whileP (σ := Int) (ρ := (Int) ⊕ (Unit)) (L_slices_IndexFunc_Limpl_Label_impl_Label_mbFimpl_validCell_2_x2 a0) 0).bind fun y3 =>
  (match y3 with
    | .inl y3k0 => (
        letO y3k0 fun w19 =>
        some w19)
    | .inr y3m0 =>
        some (-1))
theorem run_slices_IndexFunc_Limpl_Label_impl_Label_mbFimpl_validCell_2 (a0 : List TLabel) (r : Int) (h : F_slices_IndexFunc_Limpl_Label_impl_Label_mbFimpl_validCell_2 a0 = some r) : Fun Try.prog 244 [.c (.bs (len a0) 4 (row gd (encLabel) a0)), .c (.fn 218 0 fun _ => .junk)] [] (.c (.v (.int .i64 r))) [] true := by
  refine Fun.of_wp (oneOf []) tok mixed Try.func244 (by kernel_rfl) rfl Try.ntmps244 rfl trivial (fun _ => ⟨trivial, trivial⟩) ?_
  unfold F_slices_IndexFunc_Limpl_Label_impl_Label_mbFimpl_validCell_2 at h
  unfold L_slices_IndexFunc_Limpl_Label_impl_Label_mbFimpl_validCell_2_x2 at h
  have hf_impl_validCell_2 := @run_impl_validCell_2
  generalize hLEN : @len = LEN at *
  generalize hGD : @gd = GD at *
  generalize hA : std = A at *
  generalize hP : Try.prog = P at *
  cbv
  replace h := of_bind h
  obtain ⟨y3, hr4, hN5⟩ := h
  refine loop_cut hr4 (fun x => (sparse 19 [(0, .c (.bs (LEN a0) 4 (row GD (encLabel) a0))), (1, .c (.fn 218 0 fun _ => .junk)), (7, .c (.v (.int .i64 (A.ofN (LEN a0))))), (8, .c (.v (.int .i64 x)))] [])) ?_ (fun y e s => (match y with | .inl w => e = .ret ∧ s.le (sparse 19 [(4, .c (.v (.int .i64 w)))] []) | .inr w0 => (fun (w : Unit) => e = .exit 0 ∧ s.le (sparse 19 [] [])) w0)) ?_ ?_
  · clear hr4 hN5
    show St.le _ _
    exact le_sparse rfl ⟨AV.le_refl _, AV.le_refl _, AV.le_refl _, AV.le_refl _, trivial⟩ trivial rfl
  · clear hr4 hN5
    intro x z9 h K7 hK8 hY6
    replace h := of_let h
    obtain ⟨v1, hv1, h⟩ := h
    have hv1 : v1 = x := hv1
    subst hv1
    cbv
    refine fork (fun b18 => ?_) (fun b18 => ?_)
    · replace h := of_br_t b18 h
      cbv
      replace h := of_req h
      obtain ⟨c14, h⟩ := h
      refine ⟨⟨c14, trivial⟩, ?_⟩
      replace h := of_bind h
      obtain ⟨y15, hy16, h⟩ := h
      refine ⟨{ args := [.agg [.v (.int .i64 (GD a0 (A.toN v1)).fLayer), .v (.int .i64 (GD a0 (A.toN v1)).fAt.fX), .v (.int .i64 (GD a0 (A.toN v1)).fAt.fY), .v (.string (GD a0 (A.toN v1)).fName)]], o0 := [], r := .c (.v (.bool y15)), o1 := [], fl := true, σ := [], τ := [] }, hf_impl_validCell_2 _ _ hy16, ⟨les_cons (AV.le_refl _) (les_nil), trivial, rfl, rfl, rfl, rfl, trivial, rfl⟩, ?_⟩
      cbv
      refine fork (fun b17 => ?_) (fun b17 => ?_)
      · replace h := of_br_t b17 h
        cbv
        injection h with h
        refine hY6 _ h.symm _ _ (And.intro rfl ?_) (by intro hh; cases hh)
        exact le_sparse rfl ⟨AV.le_refl _, trivial⟩ trivial rfl
      · replace h := of_br_f b17 h
        cbv
        injection h with h
        refine hK8 _ h.symm _ ?_
        exact le_sparse rfl ⟨AV.le_refl _, AV.le_refl _, AV.le_refl _, AV.le_refl _, trivial⟩ trivial rfl
    · replace h := of_br_f b18 h
      cbv
      injection h with h
      refine hY6 _ h.symm _ _ (And.intro rfl ?_) (by intro hh; cases hh)
      exact le_sparse rfl trivial trivial rfl
  · clear hr4
    have h := hN5
    clear hN5
    intro e12 s13 q11 hne
    rcases y3 with y3k0 | y3m0
    · replace h := h
      obtain ⟨rfl, q11⟩ := q11
      replace h := of_let h
      obtain ⟨w19, hw19, h⟩ := h
      have hw19 : w19 = y3k0 := hw19
      subst hw19
      cbv
      injection h with h
      subst h
      refine ⟨(sparse 19 [(4, .c (.v (.int .i64 w19)))] []), ?_, ?_⟩
      · refine St.le_trans q11 ?_
        exact le_sparse rfl ⟨AV.le_refl _, trivial⟩ trivial rfl
      · exact ⟨AV.le_refl _, trivial, rfl⟩
    · obtain ⟨rfl, q11⟩ := q11
      cbv
      refine ⟨_, q11, ?_⟩
      cbv
      injection h with h
      subst h
      refine ⟨(sparse 19 [(4, .c (.v (.int .i64 (-1))))] []), ?_, ?_⟩
      · exact le_sparse rfl ⟨AV.le_refl _, trivial⟩ trivial rfl
      · exact ⟨AV.le_refl _, trivial, rfl⟩

/-- impl.Label] -/
noncomputable def F_slices_ContainsFunc_Limpl_Label_impl_Label_mbFimpl_validCell_2 (a0 : List TLabel) : Option (Bool) :=
  (F_slices_IndexFunc_Limpl_Label_impl_Label_mbFimpl_validCell_2 a0).bind fun y1 =>
  some (std.le 0 y1)
theorem run_slices_ContainsFunc_Limpl_Label_impl_Label_mbFimpl_validCell_2 (a0 : List TLabel) (r : Bool) (h : F_slices_ContainsFunc_Limpl_Label_impl_Label_mbFimpl_validCell_2 a0 = some r) : Fun Try.prog 217 [.c (.bs (len a0) 4 (row gd (encLabel) a0)), .c (.fn 218 0 fun _ => .junk)] [] (.c (.v (.bool r))) [] true := by
  refine Fun.of_wp (oneOf []) tok mixed Try.func217 (by kernel_rfl) rfl Try.ntmps217 rfl trivial (fun _ => ⟨trivial, trivial⟩) ?_
  unfold F_slices_ContainsFunc_Limpl_Label_impl_Label_mbFimpl_validCell_2 at h
  have hf_slices_IndexFunc_Limpl_Label_impl_Label_mbFimpl_validCell_2 := @run_slices_IndexFunc_Limpl_Label_impl_Label_mbFimpl_validCell_2
  generalize hLEN : @len = LEN at *
  generalize hGD : @gd = GD at *
  generalize hA : std = A at *
  generalize hP : Try.prog = P at *
  cbv
  replace h := of_bind h
  obtain ⟨y1, hy2, h⟩ := h
  refine ⟨{ args := [.c (.bs (LEN a0) 4 (row GD (encLabel) a0)), .c (.fn 218 0 fun _ => .junk)], o0 := [], r := .c (.v (.int .i64 y1)), o1 := [], fl := true, σ := [], τ := [] }, hf_slices_IndexFunc_Limpl_Label_impl_Label_mbFimpl_validCell_2 _ _ hy2, ⟨les_cons (AV.le_refl _) (les_cons (AV.le_refl _) (les_nil)), trivial, rfl, rfl, rfl, rfl, trivial, rfl⟩, ?_⟩
  cbv
  injection h with h
  subst h
  refine ⟨(sparse 9 [(4, .c (.v (.bool (A.le 0 y1))))] []), ?_, ?_⟩
  · exact le_sparse rfl ⟨AV.le_refl _, trivial⟩ trivial rfl
  · exact ⟨AV.le_refl _, trivial, rfl⟩

/-- impl.IsValidTransform -/
noncomputable def F_impl_IsValidTransform (a0 : TTransform) : Option (Bool) :=
  ((
        (F_impl_within a0.fOrientation 0 7).bind fun y8 =>
        br y8
        ((F_impl_within a0.fX (-80) 80).bind fun y10 =>
        br y10
        ((F_impl_within a0.fY (-80) 80).bind fun y12 =>
        some y12)
        (some false))
        (some false)
    ) : Option (Bool)).bind fun y1 =>
  letO y1 fun w7 =>
  some w7
theorem run_impl_IsValidTransform (a0 : TTransform) (r : Bool) (h : F_impl_IsValidTransform a0 = some r) : Fun Try.prog 196 [.agg [.v (.int .i64 a0.fOrientation), .v (.int .i64 a0.fX), .v (.int .i64 a0.fY)]] [] (.c (.v (.bool r))) [] true := by
  refine Fun.of_wp (oneOf [1]) tok mixed Try.func196 (by kernel_rfl) rfl Try.ntmps196 rfl trivial (fun _ => ⟨trivial, trivial⟩) ?_
  unfold F_impl_IsValidTransform at h
  have hf_impl_within := @run_impl_within
  generalize hLEN : @len = LEN at *
  generalize hGD : @gd = GD at *
  generalize hA : std = A at *
  generalize hP : Try.prog = P at *
  cbv
  replace h := of_bind h
  obtain ⟨y1, hy2, h⟩ := h
  obtain ⟨S5, hS6⟩ : ∃ S, S = (sparse 16 [(2, .c (.v (.bool y1)))] []) := ⟨_, rfl⟩
  refine ⟨S5, ?_, ?_⟩
  · clear h
    have h := hy2
    clear hy2
    cbv
    replace h := of_bind h
    obtain ⟨y8, hy9, h⟩ := h
    refine ⟨{ args := [.c (.v (.int .i64 a0.fOrientation)), .c (.v (.int .i64 0)), .c (.v (.int .i64 7))], o0 := [], r := .c (.v (.bool y8)), o1 := [], fl := true, σ := [], τ := [] }, hf_impl_within _ _ _ _ hy9, ⟨les_cons (AV.le_refl _) (les_cons (AV.le_refl _) (les_cons (AV.le_refl _) (les_nil))), trivial, rfl, rfl, rfl, rfl, trivial, rfl⟩, ?_⟩
    cbv
    refine fork (fun b15 => ?_) (fun b15 => ?_)
    · replace h := of_br_t b15 h
      cbv
      replace h := of_bind h
      obtain ⟨y10, hy11, h⟩ := h
      refine ⟨{ args := [.c (.v (.int .i64 a0.fX)), .c (.v (.int .i64 (-80))), .c (.v (.int .i64 80))], o0 := [], r := .c (.v (.bool y10)), o1 := [], fl := true, σ := [], τ := [] }, hf_impl_within _ _ _ _ hy11, ⟨les_cons (AV.le_refl _) (les_cons (AV.le_refl _) (les_cons (AV.le_refl _) (les_nil))), trivial, rfl, rfl, rfl, rfl, trivial, rfl⟩, ?_⟩
      cbv
      refine fork (fun b14 => ?_) (fun b14 => ?_)
      · replace h := of_br_t b14 h
        cbv
        replace h := of_bind h
        obtain ⟨y12, hy13, h⟩ := h
        refine ⟨{ args := [.c (.v (.int .i64 a0.fY)), .c (.v (.int .i64 (-80))), .c (.v (.int .i64 80))], o0 := [], r := .c (.v (.bool y12)), o1 := [], fl := true, σ := [], τ := [] }, hf_impl_within _ _ _ _ hy13, ⟨les_cons (AV.le_refl _) (les_cons (AV.le_refl _) (les_cons (AV.le_refl _) (les_nil))), trivial, rfl, rfl, rfl, rfl, trivial, rfl⟩, ?_⟩
        cbv
        injection h with h
        subst h
        subst hS6
        show St.le _ _
        exact le_sparse rfl ⟨AV.le_refl _, trivial⟩ trivial rfl
      · replace h := of_br_f b14 h
        cbv
        injection h with h
        subst h
        subst hS6
        show St.le _ _
        exact le_sparse rfl ⟨AV.le_refl _, trivial⟩ trivial rfl
    · replace h := of_br_f b15 h
      cbv
      injection h with h
      subst h
      subst hS6
      show St.le _ _
      exact le_sparse rfl ⟨AV.le_refl _, trivial⟩ trivial rfl
  · clear hy2
    subst hS6
    replace h := of_let h
    obtain ⟨w7, hw7, h⟩ := h
    have hw7 : w7 = y1 := hw7
    subst hw7
    cbv
    injection h with h
    subst h
    refine ⟨(sparse 16 [(2, .c (.v (.bool w7)))] []), ?_, ?_⟩
    · exact le_sparse rfl ⟨AV.le_refl _, trivial⟩ trivial rfl
    · exact ⟨AV.le_refl _, trivial, rfl⟩

/-- impl.validInstance -/
noncomputable def F_impl_validInstance (a0 : TInstance) (a1 : Int) : Option (Bool) :=
  ((
        (F_impl_within a0.fCell 0 (std.sub .i64 a1 1)).bind fun y8 =>
        br y8
        ((F_impl_IsValidTransform a0.fPlace).bind fun y10 =>
        br y10
        ((F_impl_within a0.fColumns 1 4).bind fun y12 =>
        br y12
        ((F_impl_within a0.fRows 1 4).bind fun y14 =>
        br y14
        ((F_impl_within a0.fStepX (-80) 80).bind fun y16 =>
        br y16
        ((F_impl_within a0.fStepY (-80) 80).bind fun y18 =>
        br y18
        (br (std.eq a0.fStepX 0)
        (br (std.eq a0.fStepY 0)
        (some true)
        (some (std.lt 1 a0.fRows)))
        (br (std.lt 1 a0.fColumns)
        (br (std.eq a0.fStepY 0)
        (some true)
        (some (std.lt 1 a0.fRows)))
        (some false)))
        (some false))
        (some false))
        (some false))
        (some false))
        (some false))
        (some false)
    ) : Option (Bool)).bind fun y1 =>
  letO y1 fun w7 =>
  some w7
theorem run_impl_validInstance (a0 : TInstance) (a1 : Int) (r : Bool) (h : F_impl_validInstance a0 a1 = some r) : Fun Try.prog 151 [.agg [.v (.int .i64 a0.fCell), .v (.int .i64 a0.fPlace.fOrientation), .v (.int .i64 a0.fPlace.fX), .v (.int .i64 a0.fPlace.fY), .v (.int .i64 a0.fColumns), .v (.int .i64 a0.fRows), .v (.int .i64 a0.fStepX), .v (.int .i64 a0.fStepY)], .c (.v (.int .i64 a1))] [] (.c (.v (.bool r))) [] true := by
  refine Fun.of_wp (oneOf [1]) tok mixed Try.func151 (by kernel_rfl) rfl Try.ntmps151 rfl trivial (fun _ => ⟨trivial, trivial⟩) ?_
  unfold F_impl_validInstance at h
  have hf_impl_IsValidTransform := @run_impl_IsValidTransform
  have hf_impl_within := @run_impl_within
  generalize hLEN : @len = LEN at *
  generalize hGD : @gd = GD at *
  generalize hA : std = A at *
  generalize hP : Try.prog = P at *
  cbv
  replace h := of_bind h
  obtain ⟨y1, hy2, h⟩ := h
  obtain ⟨S5, hS6⟩ : ∃ S, S = (sparse 55 [(4, .c (.v (.bool y1)))] []) := ⟨_, rfl⟩
  refine ⟨S5, ?_, ?_⟩
  · clear h
    have h := hy2
    clear hy2
    cbv
    replace h := of_bind h
    obtain ⟨y8, hy9, h⟩ := h
    refine ⟨{ args := [.c (.v (.int .i64 a0.fCell)), .c (.v (.int .i64 0)), .c (.v (.int .i64 (A.sub .i64 a1 1)))], o0 := [], r := .c (.v (.bool y8)), o1 := [], fl := true, σ := [], τ := [] }, hf_impl_within _ _ _ _ hy9, ⟨les_cons (AV.le_refl _) (les_cons (AV.le_refl _) (les_cons (AV.le_refl _) (les_nil))), trivial, rfl, rfl, rfl, rfl, trivial, rfl⟩, ?_⟩
    cbv
    refine fork (fun b29 => ?_) (fun b29 => ?_)
    · replace h := of_br_t b29 h
      cbv
      replace h := of_bind h
      obtain ⟨y10, hy11, h⟩ := h
      refine ⟨{ args := [.agg [.v (.int .i64 a0.fPlace.fOrientation), .v (.int .i64 a0.fPlace.fX), .v (.int .i64 a0.fPlace.fY)]], o0 := [], r := .c (.v (.bool y10)), o1 := [], fl := true, σ := [], τ := [] }, hf_impl_IsValidTransform _ _ hy11, ⟨les_cons (AV.le_refl _) (les_nil), trivial, rfl, rfl, rfl, rfl, trivial, rfl⟩, ?_⟩
      cbv
      refine fork (fun b28 => ?_) (fun b28 => ?_)
      · replace h := of_br_t b28 h
        cbv
        replace h := of_bind h
        obtain ⟨y12, hy13, h⟩ := h
        refine ⟨{ args := [.c (.v (.int .i64 a0.fColumns)), .c (.v (.int .i64 1)), .c (.v (.int .i64 4))], o0 := [], r := .c (.v (.bool y12)), o1 := [], fl := true, σ := [], τ := [] }, hf_impl_within _ _ _ _ hy13, ⟨les_cons (AV.le_refl _) (les_cons (AV.le_refl _) (les_cons (AV.le_refl _) (les_nil))), trivial, rfl, rfl, rfl, rfl, trivial, rfl⟩, ?_⟩
        cbv
        refine fork (fun b27 => ?_) (fun b27 => ?_)
        · replace h := of_br_t b27 h
          cbv
          replace h := of_bind h
          obtain ⟨y14, hy15, h⟩ := h
          refine ⟨{ args := [.c (.v (.int .i64 a0.fRows)), .c (.v (.int .i64 1)), .c (.v (.int .i64 4))], o0 := [], r := .c (.v (.bool y14)), o1 := [], fl := true, σ := [], τ := [] }, hf_impl_within _ _ _ _ hy15, ⟨les_cons (AV.le_refl _) (les_cons (AV.le_refl _) (les_cons (AV.le_refl _) (les_nil))), trivial, rfl, rfl, rfl, rfl, trivial, rfl⟩, ?_⟩
          cbv
          refine fork (fun b26 => ?_) (fun b26 => ?_)
          · replace h := of_br_t b26 h
            cbv
            replace h := of_bind h
            obtain ⟨y16, hy17, h⟩ := h
            refine ⟨{ args := [.c (.v (.int .i64 a0.fStepX)), .c (.v (.int .i64 (-80))), .c (.v (.int .i64 80))], o0 := [], r := .c (.v (.bool y16)), o1 := [], fl := true, σ := [], τ := [] }, hf_impl_within _ _ _ _ hy17, ⟨les_cons (AV.le_refl _) (les_cons (AV.le_refl _) (les_cons (AV.le_refl _) (les_nil))), trivial, rfl, rfl, rfl, rfl, trivial, rfl⟩, ?_⟩
            cbv
            refine fork (fun b25 => ?_) (fun b25 => ?_)
            · replace h := of_br_t b25 h
              cbv
              replace h := of_bind h
              obtain ⟨y18, hy19, h⟩ := h
              refine ⟨{ args := [.c (.v (.int .i64 a0.fStepY)), .c (.v (.int .i64 (-80))), .c (.v (.int .i64 80))], o0 := [], r := .c (.v (.bool y18)), o1 := [], fl := true, σ := [], τ := [] }, hf_impl_within _ _ _ _ hy19, ⟨les_cons (AV.le_refl _) (les_cons (AV.le_refl _) (les_cons (AV.le_refl _) (les_nil))), trivial, rfl, rfl, rfl, rfl, trivial, rfl⟩, ?_⟩
              cbv
              refine fork (fun b24 => ?_) (fun b24 => ?_)
              · replace h := of_br_t b24 h
                cbv
                refine fork (fun b23 => ?_) (fun b23 => ?_)
                · replace h := of_br_t b23 h
                  cbv
                  refine fork (fun b22 => ?_) (fun b22 => ?_)
                  · replace h := of_br_t b22 h
                    cbv
                    injection h with h
                    subst h
                    subst hS6
                    show St.le _ _
                    exact le_sparse rfl ⟨AV.le_refl _, trivial⟩ trivial rfl
                  · replace h := of_br_f b22 h
                    cbv
                    injection h with h
                    subst h
                    subst hS6
                    show St.le _ _
                    exact le_sparse rfl ⟨AV.le_refl _, trivial⟩ trivial rfl
                · replace h := of_br_f b23 h
                  cbv
                  refine fork (fun b21 => ?_) (fun b21 => ?_)
                  · replace h := of_br_t b21 h
                    cbv
                    refine fork (fun b20 => ?_) (fun b20 => ?_)
                    · replace h := of_br_t b20 h
                      cbv
                      injection h with h
                      subst h
                      subst hS6
                      show St.le _ _
                      exact le_sparse rfl ⟨AV.le_refl _, trivial⟩ trivial rfl
                    · replace h := of_br_f b20 h
                      cbv
                      injection h with h
                      subst h
                      subst hS6
                      show St.le _ _
                      exact le_sparse rfl ⟨AV.le_refl _, trivial⟩ trivial rfl
                  · replace h := of_br_f b21 h
                    cbv
                    injection h with h
                    subst h
                    subst hS6
                    show St.le _ _
                    exact le_sparse rfl ⟨AV.le_refl _, trivial⟩ trivial rfl
              · replace h := of_br_f b24 h
                cbv
                injection h with h
                subst h
                subst hS6
                show St.le _ _
                exact le_sparse rfl ⟨AV.le_refl _, trivial⟩ trivial rfl
            · replace h := of_br_f b25 h
              cbv
              injection h with h
              subst h
              subst hS6
              show St.le _ _
              exact le_sparse rfl ⟨AV.le_refl _, trivial⟩ trivial rfl
          · replace h := of_br_f b26 h
            cbv
            injection h with h
            subst h
            subst hS6
            show St.le _ _
            exact le_sparse rfl ⟨AV.le_refl _, trivial⟩ trivial rfl
        · replace h := of_br_f b27 h
          cbv
          injection h with h
          subst h
          subst hS6
          show St.le _ _
          exact le_sparse rfl ⟨AV.le_refl _, trivial⟩ trivial rfl
      · replace h := of_br_f b28 h
        cbv
        injection h with h
        subst h
        subst hS6
        show St.le _ _
        exact le_sparse rfl ⟨AV.le_refl _, trivial⟩ trivial rfl
    · replace h := of_br_f b29 h
      cbv
      injection h with h
      subst h
      subst hS6
      show St.le _ _
      exact le_sparse rfl ⟨AV.le_refl _, trivial⟩ trivial rfl
  · clear hy2
    subst hS6
    replace h := of_let h
    obtain ⟨w7, hw7, h⟩ := h
    have hw7 : w7 = y1 := hw7
    subst hw7
    cbv
    injection h with h
    subst h
    refine ⟨(sparse 55 [(4, .c (.v (.bool w7)))] []), ?_, ?_⟩
    · exact le_sparse rfl ⟨AV.le_refl _, trivial⟩ trivial rfl
    · exact ⟨AV.le_refl _, trivial, rfl⟩

/-- impl.validCell$3 -/
noncomputable def F_impl_validCell_3_mbp (a0 : TInstance) (a1 : Int) : Option (Bool) :=
  (F_impl_validInstance (TInstance.mk a0.fCell a0.fPlace a0.fColumns a0.fRows a0.fStepX a0.fStepY) a1).bind fun y1 =>
  some (!(y1))
theorem run_impl_validCell_3_mbp (a0 : TInstance) (a1 : Int) (r : Bool) (h : F_impl_validCell_3_mbp a0 a1 = some r) : Fun Try.prog 220 [.agg [.v (.int .i64 a0.fCell), .v (.int .i64 a0.fPlace.fOrientation), .v (.int .i64 a0.fPlace.fX), .v (.int .i64 a0.fPlace.fY), .v (.int .i64 a0.fColumns), .v (.int .i64 a0.fRows), .v (.int .i64 a0.fStepX), .v (.int .i64 a0.fStepY)], .c (.bp 1 (encI .i64 a1))] [] (.c (.v (.bool r))) [] true := by
  refine Fun.of_wp (oneOf []) tok mixed Try.func220 (by kernel_rfl) rfl Try.ntmps220 rfl trivial (fun _ => ⟨trivial, trivial⟩) ?_
  unfold F_impl_validCell_3_mbp at h
  have hf_impl_validInstance := @run_impl_validInstance
  generalize hLEN : @len = LEN at *
  generalize hGD : @gd = GD at *
  generalize hA : std = A at *
  generalize hP : Try.prog = P at *
  cbv
  replace h := of_bind h
  obtain ⟨y1, hy2, h⟩ := h
  refine ⟨{ args := [.agg [.v (.int .i64 a0.fCell), .v (.int .i64 a0.fPlace.fOrientation), .v (.int .i64 a0.fPlace.fX), .v (.int .i64 a0.fPlace.fY), .v (.int .i64 a0.fColumns), .v (.int .i64 a0.fRows), .v (.int .i64 a0.fStepX), .v (.int .i64 a0.fStepY)], .c (.v (.int .i64 a1))], o0 := [], r := .c (.v (.bool y1)), o1 := [], fl := true, σ := [], τ := [] }, hf_impl_validInstance _ _ _ hy2, ⟨les_cons (AV.le_refl _) (les_cons (AV.le_refl _) (les_nil)), trivial, rfl, rfl, rfl, rfl, trivial, rfl⟩, ?_⟩
  cbv
  injection h with h
  subst h
  refine ⟨(sparse 8 [(3, .c (.v (.bool (!(y1)))))] []), ?_, ?_⟩
  · exact le_sparse rfl ⟨AV.le_refl _, trivial⟩ trivial rfl
  · exact ⟨AV.le_refl _, trivial, rfl⟩

noncomputable def L_slices_IndexFunc_Limpl_Instance_impl_Instance_mbFimpl_validCell_3p_x2 (a0 : List TInstance) (a1_0 : Int) : (Int) → Option ((Int) ⊕ ((Int) ⊕ (Unit))) := fun x2 =>
  letO x2 fun v1 =>
  br (std.lt v1 (std.ofN (len a0)))
  (req (std.inR v1 (len a0)) <|
  (F_impl_validCell_3_mbp (gd a0 (std.toN v1)) a1_0).bind fun y15 =>
  br y15
  (some (.inr (.inl v1)))
  (some (.inl (std.add .i64 v1 1))))
  (some (.inr (.inr ())))
/-- impl.Instance] -/
noncomputable def F_slices_IndexFunc_Limpl_Instance_impl_Instance_mbFimpl_validCell_3p (a0 : List TInstance) (a1_0 : Int) : Option (Int) :=
  (whileP (σ := Int) (ρ := (Int) ⊕ (Unit)) (L_slices_IndexFunc_Limpl_Instance_impl_Instance_mbFimpl_validCell_3p_x2 a0 a1_0) 0).bind fun y3 =>
  (match y3 with
    | .inl y3k0 => (
        letO y3k0 fun w19 =>
        some w19)
    | .inr y3m0 =>
        some (-1))
theorem run_slices_IndexFunc_Limpl_Instance_impl_Instance_mbFimpl_validCell_3p (a0 : List TInstance) (a1_0 : Int) (r : Int) (h : F_slices_IndexFunc_Limpl_Instance_impl_Instance_mbFimpl_validCell_3p a0 a1_0 = some r) : Fun Try.prog 245 [.c (.bs (len a0) 8 (row gd (encInstance) a0)), .c (.fn 220 1 fun j => ([.bp 1 (encI .i64 a1_0)] : List AC).getD j .junk)] [] (.c (.v (.int .i64 r))) [] true := by
  refine Fun.of_wp (oneOf []) tok mixed Try.func245 (by kernel_rfl) rfl Try.ntmps245 rfl trivial (fun _ => ⟨trivial, trivial⟩) ?_
  unfold F_slices_IndexFunc_Limpl_Instance_impl_Instance_mbFimpl_validCell_3p at h
  unfold L_slices_IndexFunc_Limpl_Instance_impl_Instance_mbFimpl_validCell_3p_x2 at h
  have hf_impl_validCell_3_mbp := @run_impl_validCell_3_mbp
  generalize hLEN : @len = LEN at *
  generalize hGD : @gd = GD at *
  generalize hA : std = A at *
  generalize hP : Try.prog = P at *
  cbv
  replace h := of_bind h
  obtain ⟨y3, hr4, hN5⟩ := h
  refine loop_cut hr4 (fun x => (sparse 19 [(0, .c (.bs (LEN a0) 8 (row GD (encInstance) a0))), (1, .c (.fn 220 1 fun j => ([.bp 1 (encI .i64 a1_0)] : List AC).getD j .junk)), (7, .c (.v (.int .i64 (A.ofN (LEN a0))))), (8, .c (.v (.int .i64 x)))] [])) ?_ (fun y e s => (match y with | .inl w => e = .ret ∧ s.le (sparse 19 [(4, .c (.v (.int .i64 w)))] []) | .inr w0 => (fun (w : Unit) => e = .exit 0 ∧ s.le (sparse 19 [] [])) w0)) ?_ ?_
  · clear hr4 hN5
    show St.le _ _
    exact le_sparse rfl ⟨AV.le_refl _, AV.le_refl _, AV.le_refl _, AV.le_refl _, trivial⟩ trivial rfl
  · clear hr4 hN5
    intro x z9 h K7 hK8 hY6
    replace h := of_let h
    obtain ⟨v1, hv1, h⟩ := h
    have hv1 : v1 = x := hv1
    subst hv1
    cbv
    refine fork (fun b18 => ?_) (fun b18 => ?_)
    · replace h := of_br_t b18 h
      cbv
      replace h := of_req h
      obtain ⟨c14, h⟩ := h
      refine ⟨⟨c14, trivial⟩, ?_⟩
      replace h := of_bind h
      obtain ⟨y15, hy16, h⟩ := h
      refine ⟨{ args := [.agg [.v (.int .i64 (GD a0 (A.toN v1)).fCell), .v (.int .i64 (GD a0 (A.toN v1)).fPlace.fOrientation), .v (.int .i64 (GD a0 (A.toN v1)).fPlace.fX), .v (.int .i64 (GD a0 (A.toN v1)).fPlace.fY), .v (.int .i64 (GD a0 (A.toN v1)).fColumns), .v (.int .i64 (GD a0 (A.toN v1)).fRows), .v (.int .i64 (GD a0 (A.toN v1)).fStepX), .v (.int .i64 (GD a0 (A.toN v1)).fStepY)], .c (.bp 1 (encI .i64 a1_0))], o0 := [], r := .c (.v (.bool y15)), o1 := [], fl := true, σ := [], τ := [] }, hf_impl_validCell_3_mbp _ _ _ hy16, ⟨les_cons (AV.le_refl _) (les_cons (le_bp (show 1 ≤ 1 from by decide) (by intro j hj; match j, hj with | 0, _ => exact rle_refl _ | (j_ + 1), h_ => exact absurd h_ (by omega))) (les_nil)), trivial, rfl, rfl, rfl, rfl, trivial, rfl⟩, ?_⟩
      cbv
      refine fork (fun b17 => ?_) (fun b17 => ?_)
      · replace h := of_br_t b17 h
        cbv
        injection h with h
        refine hY6 _ h.symm _ _ (And.intro rfl ?_) (by intro hh; cases hh)
        exact le_sparse rfl ⟨AV.le_refl _, trivial⟩ trivial rfl
      · replace h := of_br_f b17 h
        cbv
        injection h with h
        refine hK8 _ h.symm _ ?_
        exact le_sparse rfl ⟨AV.le_refl _, AV.le_refl _, AV.le_refl _, AV.le_refl _, trivial⟩ trivial rfl
    · replace h := of_br_f b18 h
      cbv
      injection h with h
      refine hY6 _ h.symm _ _ (And.intro rfl ?_) (by intro hh; cases hh)
      exact le_sparse rfl trivial trivial rfl
  · clear hr4
    have h := hN5
    clear hN5
    intro e12 s13 q11 hne
    rcases y3 with y3k0 | y3m0
    · replace h := h
      obtain ⟨rfl, q11⟩ := q11
      replace h := of_let h
      obtain ⟨w19, hw19, h⟩ := h
      have hw19 : w19 = y3k0 := hw19
      subst hw19
      cbv
      injection h with h
      subst h
      refine ⟨(sparse 19 [(4, .c (.v (.int .i64 w19)))] []), ?_, ?_⟩
      · refine St.le_trans q11 ?_
        exact le_sparse rfl ⟨AV.le_refl _, trivial⟩ trivial rfl
      · exact ⟨AV.le_refl _, trivial, rfl⟩
    · obtain ⟨rfl, q11⟩ := q11
      cbv
      refine ⟨_, q11, ?_⟩
      cbv
      injection h with h
      subst h
      refine ⟨(sparse 19 [(4, .c (.v (.int .i64 (-1))))] []), ?_, ?_⟩
      · exact le_sparse rfl ⟨AV.le_refl _, trivial⟩ trivial rfl
      · exact ⟨AV.le_refl _, trivial, rfl⟩

/-- impl.Instance] -/
noncomputable def F_slices_ContainsFunc_Limpl_Instance_impl_Instance_mbFimpl_validCell_3p (a0 : List TInstance) (a1_0 : Int) : Option (Bool) :=
  (F_slices_IndexFunc_Limpl_Instance_impl_Instance_mbFimpl_validCell_3p a0 a1_0).bind fun y1 =>
  some (std.le 0 y1)
theorem run_slices_ContainsFunc_Limpl_Instance_impl_Instance_mbFimpl_validCell_3p (a0 : List TInstance) (a1_0 : Int) (r : Bool) (h : F_slices_ContainsFunc_Limpl_Instance_impl_Instance_mbFimpl_validCell_3p a0 a1_0 = some r) : Fun Try.prog 219 [.c (.bs (len a0) 8 (row gd (encInstance) a0)), .c (.fn 220 1 fun j => ([.bp 1 (encI .i64 a1_0)] : List AC).getD j .junk)] [] (.c (.v (.bool r))) [] true := by
  refine Fun.of_wp (oneOf []) tok mixed Try.func219 (by kernel_rfl) rfl Try.ntmps219 rfl trivial (fun _ => ⟨trivial, trivial⟩) ?_
  unfold F_slices_ContainsFunc_Limpl_Instance_impl_Instance_mbFimpl_validCell_3p at h
  have hf_slices_IndexFunc_Limpl_Instance_impl_Instance_mbFimpl_validCell_3p := @run_slices_IndexFunc_Limpl_Instance_impl_Instance_mbFimpl_validCell_3p
  generalize hLEN : @len = LEN at *
  generalize hGD : @gd = GD at *
  generalize hA : std = A at *
  generalize hP : Try.prog = P at *
  cbv
  replace h := of_bind h
  obtain ⟨y1, hy2, h⟩ := h
  refine ⟨{ args := [.c (.bs (LEN a0) 8 (row GD (encInstance) a0)), .c (.fn 220 1 fun j => ([.bp 1 (encI .i64 a1_0)] : List AC).getD j .junk)], o0 := [], r := .c (.v (.int .i64 y1)), o1 := [], fl := true, σ := [], τ := [] }, hf_slices_IndexFunc_Limpl_Instance_impl_Instance_mbFimpl_validCell_3p _ _ _ hy2, ⟨les_cons (AV.le_refl _) (les_cons (le_fn (by intro j hj; match j, hj with | 0, _ => exact le_bp (show 1 ≤ 1 from by decide) (by intro j hj; match j, hj with | 0, _ => exact rle_refl _ | (j_ + 1), h_ => exact absurd h_ (by omega)) | (j_ + 1), h_ => exact absurd h_ (by omega))) (les_nil)), trivial, rfl, rfl, rfl, rfl, trivial, rfl⟩, ?_⟩
  cbv
  injection h with h
  subst h
  refine ⟨(sparse 9 [(4, .c (.v (.bool (A.le 0 y1))))] []), ?_, ?_⟩
  · exact le_sparse rfl ⟨AV.le_refl _, trivial⟩ trivial rfl
  · exact ⟨AV.le_refl _, trivial, rfl⟩

/-- impl.validCell -/
noncomputable def F_impl_validCell (a0 : TCell) (a1 : Int) : Option (Bool) :=
  ((
        (F_impl_IsName a0.fName).bind fun y8 =>
        br (!(y8))
        (some true)
        (br (std.lt 24 (std.ofN (len a0.fShapes)))
        (some true)
        (br (std.lt 8 (std.ofN (len a0.fLabels)))
        (some true)
        (some (std.lt 8 (std.ofN (len a0.fInstances))))))
    ) : Option (Bool)).bind fun y1 =>
  letO y1 fun w7 =>
  br w7
  (some false)
  (((
        (F_slices_ContainsFunc_Limpl_Shape_impl_Shape_mbFimpl_validCell_1 a0.fShapes).bind fun y20 =>
        br (!(y20))
        ((F_slices_ContainsFunc_Limpl_Label_impl_Label_mbFimpl_validCell_2 a0.fLabels).bind fun y22 =>
        br (!(y22))
        ((F_slices_ContainsFunc_Limpl_Instance_impl_Instance_mbFimpl_validCell_3p a0.fInstances a1).bind fun y24 =>
        some (!(y24)))
        (some false))
        (some false)
    ) : Option (Bool)).bind fun y13 =>
  letO y13 fun w19 =>
  some w19)
theorem run_impl_validCell (a0 : TCell) (a1 : Int) (r : Bool) (h : F_impl_validCell a0 a1 = some r) : Fun Try.prog 184 [.agg [.v (.string a0.fName), .bs (len a0.fShapes) 5 (row gd (encShape) a0.fShapes), .bs (len a0.fLabels) 4 (row gd (encLabel) a0.fLabels), .bs (len a0.fInstances) 8 (row gd (encInstance) a0.fInstances)], .c (.v (.int .i64 a1))] [] (.c (.v (.bool r))) [] true := by
  refine Fun.of_wp (oneOf [1, 3]) tok mixed Try.func184 (by kernel_rfl) rfl Try.ntmps184 rfl trivial (fun _ => ⟨trivial, trivial⟩) ?_
  unfold F_impl_validCell at h
  have hf_impl_IsName := @run_impl_IsName
  have hf_slices_ContainsFunc_Limpl_Instance_impl_Instance_mbFimpl_validCell_3p := @run_slices_ContainsFunc_Limpl_Instance_impl_Instance_mbFimpl_validCell_3p
  have hf_slices_ContainsFunc_Limpl_Label_impl_Label_mbFimpl_validCell_2 := @run_slices_ContainsFunc_Limpl_Label_impl_Label_mbFimpl_validCell_2
  have hf_slices_ContainsFunc_Limpl_Shape_impl_Shape_mbFimpl_validCell_1 := @run_slices_ContainsFunc_Limpl_Shape_impl_Shape_mbFimpl_validCell_1
  generalize hLEN : @len = LEN at *
  generalize hGD : @gd = GD at *
  generalize hA : std = A at *
  generalize hP : Try.prog = P at *
  cbv
  replace h := of_bind h
  obtain ⟨y1, hy2, h⟩ := h
  obtain ⟨S5, hS6⟩ : ∃ S, S = (sparse 44 [(2, .c (.ptr 128 0)), (3, .c (.ptr 192 0)), (26, .c (.v (.bool y1)))] [(128, .var [.v (.string a0.fName), .bs (LEN a0.fShapes) 5 (row GD (encShape) a0.fShapes), .bs (LEN a0.fLabels) 4 (row GD (encLabel) a0.fLabels), .bs (LEN a0.fInstances) 8 (row GD (encInstance) a0.fInstances)]), (192, .var [.v (.int .i64 a1)])]) := ⟨_, rfl⟩
  refine ⟨S5, ?_, ?_⟩
  · clear h
    have h := hy2
    clear hy2
    cbv
    replace h := of_bind h
    obtain ⟨y8, hy9, h⟩ := h
    refine ⟨{ args := [.c (.v (.string a0.fName))], o0 := [], r := .c (.v (.bool y8)), o1 := [], fl := true, σ := [], τ := [] }, hf_impl_IsName _ _ hy9, ⟨les_cons (AV.le_refl _) (les_nil), trivial, rfl, rfl, rfl, rfl, trivial, rfl⟩, ?_⟩
    cbv
    refine fork (fun b12 => ?_) (fun b12 => ?_)
    · replace h := of_br_t b12 h
      cbv
      injection h with h
      subst h
      subst hS6
      show St.le _ _
      exact le_sparse rfl ⟨AV.le_refl _, AV.le_refl _, AV.le_refl _, trivial⟩ ⟨rfl, rfl, trivial⟩ rfl
    · replace h := of_br_f b12 h
      cbv
      refine fork (fun b11 => ?_) (fun b11 => ?_)
      · replace h := of_br_t b11 h
        cbv
        injection h with h
        subst h
        subst hS6
        show St.le _ _
        exact le_sparse rfl ⟨AV.le_refl _, AV.le_refl _, AV.le_refl _, trivial⟩ ⟨rfl, rfl, trivial⟩ rfl
      · replace h := of_br_f b11 h
        cbv
        refine fork (fun b10 => ?_) (fun b10 => ?_)
        · replace h := of_br_t b10 h
          cbv
          injection h with h
          subst h
          subst hS6
          show St.le _ _
          exact le_sparse rfl ⟨AV.le_refl _, AV.le_refl _, AV.le_refl _, trivial⟩ ⟨rfl, rfl, trivial⟩ rfl
        · replace h := of_br_f b10 h
          cbv
          injection h with h
          subst h
          subst hS6
          show St.le _ _
          exact le_sparse rfl ⟨AV.le_refl _, AV.le_refl _, AV.le_refl _, trivial⟩ ⟨rfl, rfl, trivial⟩ rfl
  · clear hy2
    subst hS6
    replace h := of_let h
    obtain ⟨w7, hw7, h⟩ := h
    have hw7 : w7 = y1 := hw7
    subst hw7
    cbv
    refine fork (fun b28 => ?_) (fun b28 => ?_)
    · replace h := of_br_t b28 h
      cbv
      injection h with h
      subst h
      refine ⟨(sparse 44 [(4, .c (.v (.bool false)))] []), ?_, ?_⟩
      · exact le_sparse rfl ⟨AV.le_refl _, trivial⟩ trivial rfl
      · exact ⟨AV.le_refl _, trivial, rfl⟩
    · replace h := of_br_f b28 h
      cbv
      replace h := of_bind h
      obtain ⟨y13, hy14, h⟩ := h
      obtain ⟨S17, hS18⟩ : ∃ S, S = (sparse 44 [(4, .c (.v (.bool y13)))] []) := ⟨_, rfl⟩
      refine ⟨S17, ?_, ?_⟩
      · clear h
        have h := hy14
        clear hy14
        cbv
        replace h := of_bind h
        obtain ⟨y20, hy21, h⟩ := h
        refine ⟨{ args := [.c (.bs (LEN a0.fShapes) 5 (row GD (encShape) a0.fShapes)), .c (.fn 216 0 fun _ => .junk)], o0 := [], r := .c (.v (.bool y20)), o1 := [], fl := true, σ := [], τ := [] }, hf_slices_ContainsFunc_Limpl_Shape_impl_Shape_mbFimpl_validCell_1 _ _ hy21, ⟨les_cons (AV.le_refl _) (les_cons (AV.le_refl _) (les_nil)), trivial, rfl, rfl, rfl, rfl, trivial, rfl⟩, ?_⟩
        cbv
        refine fork (fun b27 => ?_) (fun b27 => ?_)
        · replace h := of_br_t b27 h
          cbv
          replace h := of_bind h
          obtain ⟨y22, hy23, h⟩ := h
          refine ⟨{ args := [.c (.bs (LEN a0.fLabels) 4 (row GD (encLabel) a0.fLabels)), .c (.fn 218 0 fun _ => .junk)], o0 := [], r := .c (.v (.bool y22)), o1 := [], fl := true, σ := [], τ := [] }, hf_slices_ContainsFunc_Limpl_Label_impl_Label_mbFimpl_validCell_2 _ _ hy23, ⟨les_cons (AV.le_refl _) (les_cons (AV.le_refl _) (les_nil)), trivial, rfl, rfl, rfl, rfl, trivial, rfl⟩, ?_⟩
          cbv
          refine fork (fun b26 => ?_) (fun b26 => ?_)
          · replace h := of_br_t b26 h
            cbv
            replace h := of_bind h
            obtain ⟨y24, hy25, h⟩ := h
            refine ⟨{ args := [.c (.bs (LEN a0.fInstances) 8 (row GD (encInstance) a0.fInstances)), .c (.fn 220 1 fun j => ([.bp 1 (encI .i64 a1)] : List AC).getD j .junk)], o0 := [], r := .c (.v (.bool y24)), o1 := [], fl := true, σ := [], τ := [] }, hf_slices_ContainsFunc_Limpl_Instance_impl_Instance_mbFimpl_validCell_3p _ _ _ hy25, ⟨les_cons (AV.le_refl _) (les_cons (le_fn (by intro j hj; match j, hj with | 0, _ => exact le_bp (show 1 ≤ 1 from by decide) (by intro j hj; match j, hj with | 0, _ => exact rle_refl _ | (j_ + 1), h_ => exact absurd h_ (by omega)) | (j_ + 1), h_ => exact absurd h_ (by omega))) (les_nil)), trivial, rfl, rfl, rfl, rfl, trivial, rfl⟩, ?_⟩
            cbv
            injection h with h
            subst h
            subst hS18
            show St.le _ _
            exact le_sparse rfl ⟨AV.le_refl _, trivial⟩ trivial rfl
          · replace h := of_br_f b26 h
            cbv
            injection h with h
            subst h
            subst hS18
            show St.le _ _
            exact le_sparse rfl ⟨AV.le_refl _, trivial⟩ trivial rfl
        · replace h := of_br_f b27 h
          cbv
          injection h with h
          subst h
          subst hS18
          show St.le _ _
          exact le_sparse rfl ⟨AV.le_refl _, trivial⟩ trivial rfl
      · clear hy14
        subst hS18
        replace h := of_let h
        obtain ⟨w19, hw19, h⟩ := h
        have hw19 : w19 = y13 := hw19
        subst hw19
        cbv
        injection h with h
        subst h
        refine ⟨(sparse 44 [(4, .c (.v (.bool w19)))] []), ?_, ?_⟩
        · exact le_sparse rfl ⟨AV.le_refl _, trivial⟩ trivial rfl
        · exact ⟨AV.le_refl _, trivial, rfl⟩
end Go.Proofs.Ytnmfighfidaglaa.AM
