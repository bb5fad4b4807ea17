/-
  What the functions that the law reaches compute, and that they do. No condition.
-/
import Derived.Test.YtmdlnjeppemipaaAmT
import Derived.Test.YtmdlnjeppemipaaAmE
namespace Go.Proofs.Ytmdlnjeppemipaa.AM
open Go Go.Proofs Go.RowKit
set_option linter.unusedVariables false
set_option linter.unusedSimpArgs false
set_option maxRecDepth 100000

theorem mixed : Try.prog.follows .mixedOrders = true := by kernel_rfl
structure TRect where
 fX0 : Int
 fY0 : Int
 fX1 : Int
 fY1 : Int
instance : Inhabited TRect := ⟨⟨default, default, default, default⟩⟩
def encRect (x : TRect) : Nat → AC := fun j => match j with
 | 0 => .v (.int .i64 x.fX0)
 | 1 => .v (.int .i64 x.fY0)
 | 2 => .v (.int .i64 x.fX1)
 | _ => .v (.int .i64 x.fY1)
theorem pl_encRect : ∀ (x : TRect) (j : Nat), plainC (encRect x j) = true := by
 intro x j
 unfold encRect
 split <;> rfl
theorem vl_encRect : ∀ (x : TRect) (j : Nat), valC (encRect x j) = true := by
 intro x j
 unfold encRect
 split <;> rfl
structure TShape where
 fLayer : Int
 fBox : TRect
instance : Inhabited TShape := ⟨⟨default, default⟩⟩
def encShape (x : TShape) : Nat → AC := fun j => match j with
 | 0 => .v (.int .i64 x.fLayer)
 | 1 => .v (.int .i64 x.fBox.fX0)
 | 2 => .v (.int .i64 x.fBox.fY0)
 | 3 => .v (.int .i64 x.fBox.fX1)
 | _ => .v (.int .i64 x.fBox.fY1)
theorem pl_encShape : ∀ (x : TShape) (j : Nat), plainC (encShape x j) = true := by
 intro x j
 unfold encShape
 split <;> rfl
theorem vl_encShape : ∀ (x : TShape) (j : Nat), valC (encShape x j) = true := by
 intro x j
 unfold encShape
 split <;> rfl
structure TPoint where
 fX : Int
 fY : Int
instance : Inhabited TPoint := ⟨⟨default, default⟩⟩
def encPoint (x : TPoint) : Nat → AC := fun j => match j with
 | 0 => .v (.int .i64 x.fX)
 | _ => .v (.int .i64 x.fY)
theorem pl_encPoint : ∀ (x : TPoint) (j : Nat), plainC (encPoint x j) = true := by
 intro x j
 unfold encPoint
 split <;> rfl
theorem vl_encPoint : ∀ (x : TPoint) (j : Nat), valC (encPoint x j) = true := by
 intro x j
 unfold encPoint
 split <;> rfl
structure TLabel where
 fLayer : Int
 fAt : TPoint
 fName : ByteArray
instance : Inhabited TLabel := ⟨⟨default, default, default⟩⟩
def encLabel (x : TLabel) : Nat → AC := fun j => match j with
 | 0 => .v (.int .i64 x.fLayer)
 | 1 => .v (.int .i64 x.fAt.fX)
 | 2 => .v (.int .i64 x.fAt.fY)
 | _ => .v (.string x.fName)
theorem pl_encLabel : ∀ (x : TLabel) (j : Nat), plainC (encLabel x j) = true := by
 intro x j
 unfold encLabel
 split <;> rfl
theorem vl_encLabel : ∀ (x : TLabel) (j : Nat), valC (encLabel x j) = true := by
 intro x j
 unfold encLabel
 split <;> rfl
structure TTransform where
 fOrientation : Int
 fX : Int
 fY : Int
instance : Inhabited TTransform := ⟨⟨default, default, default⟩⟩
def encTransform (x : TTransform) : Nat → AC := fun j => match j with
 | 0 => .v (.int .i64 x.fOrientation)
 | 1 => .v (.int .i64 x.fX)
 | _ => .v (.int .i64 x.fY)
theorem pl_encTransform : ∀ (x : TTransform) (j : Nat), plainC (encTransform x j) = true := by
 intro x j
 unfold encTransform
 split <;> rfl
theorem vl_encTransform : ∀ (x : TTransform) (j : Nat), valC (encTransform x j) = true := by
 intro x j
 unfold encTransform
 split <;> rfl
structure TInstance where
 fCell : Int
 fPlace : TTransform
 fColumns : Int
 fRows : Int
 fStepX : Int
 fStepY : Int
instance : Inhabited TInstance := ⟨⟨default, default, default, default, default, default⟩⟩
def encInstance (x : TInstance) : Nat → AC := fun j => match j with
 | 0 => .v (.int .i64 x.fCell)
 | 1 => .v (.int .i64 x.fPlace.fOrientation)
 | 2 => .v (.int .i64 x.fPlace.fX)
 | 3 => .v (.int .i64 x.fPlace.fY)
 | 4 => .v (.int .i64 x.fColumns)
 | 5 => .v (.int .i64 x.fRows)
 | 6 => .v (.int .i64 x.fStepX)
 | _ => .v (.int .i64 x.fStepY)
theorem pl_encInstance : ∀ (x : TInstance) (j : Nat), plainC (encInstance x j) = true := by
 intro x j
 unfold encInstance
 split <;> rfl
theorem vl_encInstance : ∀ (x : TInstance) (j : Nat), valC (encInstance x j) = true := by
 intro x j
 unfold encInstance
 split <;> rfl
structure TCell where
 fName : ByteArray
 fShapes : List TShape
 fLabels : List TLabel
 fInstances : List TInstance
instance : Inhabited TCell := ⟨⟨default, default, default, default⟩⟩
def encCell (LEN : {α : Type} → List α → Nat) (GD : {α : Type} → [Inhabited α] → List α → Nat → α) (x : TCell) : Nat → AC := fun j => match j with
 | 0 => .v (.string x.fName)
 | 1 => .bs (LEN x.fShapes) 5 (row GD (encShape) x.fShapes)
 | 2 => .bs (LEN x.fLabels) 4 (row GD (encLabel) x.fLabels)
 | _ => .bs (LEN x.fInstances) 8 (row GD (encInstance) x.fInstances)
theorem pl_encCell {LEN : {α : Type} → List α → Nat} {GD : {α : Type} → [Inhabited α] → List α → Nat → α} : ∀ (x : TCell) (j : Nat), plainC (encCell LEN GD x j) = true := by
 intro x j
 unfold encCell
 split <;> rfl
def oncCell (LEN : {α : Type} → List α → Nat) (GD : {α : Type} → [Inhabited α] → List α → Nat → α) (x : TCell) : Nat → AC := fun j => match j with
 | 0 => .v (.string x.fName)
 | 1 => .ow (LEN x.fShapes) 5 (row GD (encShape) x.fShapes)
 | 2 => .ow (LEN x.fLabels) 4 (row GD (encLabel) x.fLabels)
 | _ => .ow (LEN x.fInstances) 8 (row GD (encInstance) x.fInstances)
theorem rf_oncCell {LEN : {α : Type} → List α → Nat} {GD : {α : Type} → [Inhabited α] → List α → Nat → α} : ∀ (x : TCell) (j : Nat), (oncCell LEN GD x j).ref = [] := by
 intro x j
 unfold oncCell
 split <;> rfl
theorem ln_oncCell {LEN : {α : Type} → List α → Nat} {GD : {α : Type} → [Inhabited α] → List α → Nat → α} : ∀ (x : TCell) (j : Nat), (oncCell LEN GD x j).lentIn = encCell LEN GD x j := by
 intro x j
 unfold oncCell encCell
 split <;> rfl
theorem fl_oncCell {LEN : {α : Type} → List α → Nat} {GD : {α : Type} → [Inhabited α] → List α → Nat → α} : ∀ (x : TCell) (j : Nat), (oncCell LEN GD x j).flat := by
 intro x j
 unfold oncCell
 split <;> first | trivial | (exact fun i _ j _ => val_v (vl_encShape _ _)) | (exact fun i _ j _ => val_v (vl_encLabel _ _)) | (exact fun i _ j _ => val_v (vl_encInstance _ _))
structure TLibrary where
 fCells : List TCell
instance : Inhabited TLibrary := ⟨⟨default⟩⟩
def encLibrary (LEN : {α : Type} → List α → Nat) (GD : {α : Type} → [Inhabited α] → List α → Nat → α) (x : TLibrary) : Nat → AC := fun j => match j with
 | _ => .bs (LEN x.fCells) 4 (row GD (encCell LEN GD) x.fCells)
theorem pl_encLibrary {LEN : {α : Type} → List α → Nat} {GD : {α : Type} → [Inhabited α] → List α → Nat → α} : ∀ (x : TLibrary) (j : Nat), plainC (encLibrary LEN GD x j) = true := by
 intro x j
 unfold encLibrary
 split <;> rfl
structure TEdit where
 fKind : Int
 fCell : Int
 fIndex : Int
 fName : ByteArray
 fShape : TShape
 fLabel : TLabel
 fInstance : TInstance
instance : Inhabited TEdit := ⟨⟨default, default, default, default, default, default, default⟩⟩
def encEdit (x : TEdit) : Nat → AC := fun j => match j with
 | 0 => .v (.int .i64 x.fKind)
 | 1 => .v (.int .i64 x.fCell)
 | 2 => .v (.int .i64 x.fIndex)
 | 3 => .v (.string x.fName)
 | 4 => .v (.int .i64 x.fShape.fLayer)
 | 5 => .v (.int .i64 x.fShape.fBox.fX0)
 | 6 => .v (.int .i64 x.fShape.fBox.fY0)
 | 7 => .v (.int .i64 x.fShape.fBox.fX1)
 | 8 => .v (.int .i64 x.fShape.fBox.fY1)
 | 9 => .v (.int .i64 x.fLabel.fLayer)
 | 10 => .v (.int .i64 x.fLabel.fAt.fX)
 | 11 => .v (.int .i64 x.fLabel.fAt.fY)
 | 12 => .v (.string x.fLabel.fName)
 | 13 => .v (.int .i64 x.fInstance.fCell)
 | 14 => .v (.int .i64 x.fInstance.fPlace.fOrientation)
 | 15 => .v (.int .i64 x.fInstance.fPlace.fX)
 | 16 => .v (.int .i64 x.fInstance.fPlace.fY)
 | 17 => .v (.int .i64 x.fInstance.fColumns)
 | 18 => .v (.int .i64 x.fInstance.fRows)
 | 19 => .v (.int .i64 x.fInstance.fStepX)
 | _ => .v (.int .i64 x.fInstance.fStepY)
theorem pl_encEdit : ∀ (x : TEdit) (j : Nat), plainC (encEdit x j) = true := by
 intro x j
 unfold encEdit
 split <;> rfl
theorem vl_encEdit : ∀ (x : TEdit) (j : Nat), valC (encEdit x j) = true := by
 intro x j
 unfold encEdit
 split <;> rfl
/-- laws.szShapeS -/
noncomputable def F_laws_szShapeS (a0 : List TShape) (a1 : Int) : Option (Int) :=
 br (std.lt (std.sub .i64 a1 (std.ofN (len a0))) 0)
 (some (-1))
 (some (std.sub .i64 a1 (std.ofN (len a0))))
theorem run_laws_szShapeS (a0 : List TShape) (a1 : Int) (r : Int) (h : F_laws_szShapeS a0 a1 = some r) : Fun Try.prog 144 [.c (.bs (len a0) 5 (row gd (encShape) a0)), .c (.v (.int .i64 a1))] [] (.c (.v (.int .i64 r))) [] true := by
 refine Fun.of_wp (oneOf []) tok mixed Try.func144 (by kernel_rfl) rfl Try.ntmps144 rfl trivial (fun _ => ⟨trivial, trivial⟩) ?_
 unfold F_laws_szShapeS at h
 generalize hLEN : @len = LEN at *
 generalize hGD : @gd = GD at *
 generalize hA : std = A at *
 generalize hP : Try.prog = P at *
 cbv
 refine fork (fun b1 => ?_) (fun b1 => ?_)
 ·replace h := of_br_t b1 h
  cbv
  injection h with h
  subst h
  refine ⟨(sparse 12 [(4, .c (.v (.int .i64 (-1))))] []), ?_, ?_⟩
  ·exact le_sparse rfl ⟨lR _, trivial⟩ trivial rfl
  ·exact ⟨lR _, trivial, rfl⟩
 ·replace h := of_br_f b1 h
  cbv
  injection h with h
  subst h
  refine ⟨(sparse 12 [(4, .c (.v (.int .i64 (A.sub .i64 a1 (A.ofN (LEN a0))))))] []), ?_, ?_⟩
  ·exact le_sparse rfl ⟨lR _, trivial⟩ trivial rfl
  ·exact ⟨lR _, trivial, rfl⟩

/-- laws.szLabel -/
noncomputable def F_laws_szLabel (a0 : TLabel) (a1 : Int) : Option (Int) :=
 br (std.lt (std.sub .i64 a1 (std.ofN (std.slen a0.fName))) 0)
 (some (-1))
 (some (std.sub .i64 a1 (std.ofN (std.slen a0.fName))))
theorem run_laws_szLabel (a0 : TLabel) (a1 : Int) (r : Int) (h : F_laws_szLabel a0 a1 = some r) : Fun Try.prog 69 [.agg [.v (.int .i64 a0.fLayer), .v (.int .i64 a0.fAt.fX), .v (.int .i64 a0.fAt.fY), .v (.string a0.fName)], .c (.v (.int .i64 a1))] [] (.c (.v (.int .i64 r))) [] true := by
 refine Fun.of_wp (oneOf []) tok mixed Try.func69 (by kernel_rfl) rfl Try.ntmps69 rfl trivial (fun _ => ⟨trivial, trivial⟩) ?_
 unfold F_laws_szLabel at h
 generalize hLEN : @len = LEN at *
 generalize hGD : @gd = GD at *
 generalize hA : std = A at *
 generalize hP : Try.prog = P at *
 cbv
 refine fork (fun b1 => ?_) (fun b1 => ?_)
 ·replace h := of_br_t b1 h
  cbv
  injection h with h
  subst h
  refine ⟨(sparse 13 [(4, .c (.v (.int .i64 (-1))))] []), ?_, ?_⟩
  ·exact le_sparse rfl ⟨lR _, trivial⟩ trivial rfl
  ·exact ⟨lR _, trivial, rfl⟩
 ·replace h := of_br_f b1 h
  cbv
  injection h with h
  subst h
  refine ⟨(sparse 13 [(4, .c (.v (.int .i64 (A.sub .i64 a1 (A.ofN (A.slen a0.fName))))))] []), ?_, ?_⟩
  ·exact le_sparse rfl ⟨lR _, trivial⟩ trivial rfl
  ·exact ⟨lR _, trivial, rfl⟩

noncomputable def L_laws_szLabelS_x3 (a0 : List TLabel) : (Int × Int) → Option ((Int × Int) ⊕ ((Int) ⊕ (Int))) := fun x3 =>
 letO x3.1 fun v1 =>
 letO x3.2 fun v2 =>
 br (std.lt v2 (std.ofN (len a0)))
 (req (std.inR v2 (len a0)) <|
 (F_laws_szLabel (gd a0 (std.toN v2)) v1).bind fun y16 =>
 br (std.lt y16 0)
 (some (.inr (.inl (-1))))
 (some (.inl (y16, std.add .i64 v2 1))))
 (some (.inr (.inr v1)))
/-- laws.szLabelS -/
noncomputable def F_laws_szLabelS (a0 : List TLabel) (a1 : Int) : Option (Int) :=
 br (std.lt (std.sub .i64 a1 (std.ofN (len a0))) 0)
 (some (-1))
 ((whileP (σ := Int × Int) (ρ := (Int) ⊕ (Int)) (L_laws_szLabelS_x3 a0) (std.sub .i64 a1 (std.ofN (len a0)), 0)).bind fun y4 =>
 (match y4 with
  | .inl y4k0 => (
    letO y4k0 fun w20 =>
    some w20)
  | .inr y4m0 =>
    letO y4m0 fun y4k1 =>
    letO y4k1 fun w21 =>
    some w21))
theorem run_laws_szLabelS (a0 : List TLabel) (a1 : Int) (r : Int) (h : F_laws_szLabelS a0 a1 = some r) : Fun Try.prog 145 [.c (.bs (len a0) 4 (row gd (encLabel) a0)), .c (.v (.int .i64 a1))] [] (.c (.v (.int .i64 r))) [] true := by
 refine Fun.of_wp (oneOf []) tok mixed Try.func145 (by kernel_rfl) rfl Try.ntmps145 rfl trivial (fun _ => ⟨trivial, trivial⟩) ?_
 unfold F_laws_szLabelS at h
 unfold L_laws_szLabelS_x3 at h
 have hf_laws_szLabel := @run_laws_szLabel
 generalize hLEN : @len = LEN at *
 generalize hGD : @gd = GD at *
 generalize hA : std = A at *
 generalize hP : Try.prog = P at *
 cbv
 refine fork (fun b22 => ?_) (fun b22 => ?_)
 ·replace h := of_br_t b22 h
  cbv
  injection h with h
  subst h
  refine ⟨(sparse 27 [(4, .c (.v (.int .i64 (-1))))] []), ?_, ?_⟩
  ·exact le_sparse rfl ⟨lR _, trivial⟩ trivial rfl
  ·exact ⟨lR _, trivial, rfl⟩
 ·replace h := of_br_f b22 h
  cbv
  replace h := of_bind h
  obtain ⟨y4, hr5, hN6⟩ := h
  refine loop_cut hr5 (fun x => (sparse 27 [(0, .c (.bs (LEN a0) 4 (row GD (encLabel) a0))), (1, .c (.v (.int .i64 x.1))), (5, .c (.v (.int .i64 x.2)))] [])) ?_ (fun y e s => (match y with | .inl w => e = .ret ∧ s.le (sparse 27 [(4, .c (.v (.int .i64 w)))] []) | .inr w0 => (fun (w : Int) => e = .exit 0 ∧ s.le (sparse 27 [(1, .c (.v (.int .i64 w)))] [])) w0)) ?_ ?_
  ·clear hr5 hN6
   show St.le _ _
   exact le_sparse rfl ⟨lR _, lR _, lR _, trivial⟩ trivial rfl
  ·clear hr5 hN6
   intro x z10 h K8 hK9 hY7
   obtain ⟨x0_, x1_⟩ := x
   replace h := of_let h
   obtain ⟨v1, hv1, h⟩ := h
   have hv1 : v1 = x0_ := hv1
   subst hv1
   replace h := of_let h
   obtain ⟨v2, hv2, h⟩ := h
   have hv2 : v2 = x1_ := hv2
   subst hv2
   cbv
   refine fork (fun b19 => ?_) (fun b19 => ?_)
   ·replace h := of_br_t b19 h
    cbv
    replace h := of_req h
    obtain ⟨c15, h⟩ := h
    refine ⟨⟨c15, trivial⟩, ?_⟩
    replace h := of_bind h
    obtain ⟨y16, hy17, h⟩ := h
    refine ⟨{ args := [.agg [.v (.int .i64 (GD a0 (A.toN v2)).fLayer), .v (.int .i64 (GD a0 (A.toN v2)).fAt.fX), .v (.int .i64 (GD a0 (A.toN v2)).fAt.fY), .v (.string (GD a0 (A.toN v2)).fName)], .c (.v (.int .i64 v1))], o0 := [], r := .c (.v (.int .i64 y16)), o1 := [], fl := true, σ := [], τ := [] }, hf_laws_szLabel _ _ _ hy17, ⟨les_cons (lR _) (les_cons (lR _) (les_nil)), trivial, rfl, rfl, rfl, rfl, trivial, rfl⟩, ?_⟩
    cbv
    refine fork (fun b18 => ?_) (fun b18 => ?_)
    ·replace h := of_br_t b18 h
     cbv
     injection h with h
     refine hY7 _ h.symm _ _ (And.intro rfl ?_) (by intro hh; cases hh)
     exact le_sparse rfl ⟨lR _, trivial⟩ trivial rfl
    ·replace h := of_br_f b18 h
     cbv
     injection h with h
     refine hK9 _ h.symm _ ?_
     exact le_sparse rfl ⟨lR _, lR _, lR _, trivial⟩ trivial rfl
   ·replace h := of_br_f b19 h
    cbv
    injection h with h
    refine hY7 _ h.symm _ _ (And.intro rfl ?_) (by intro hh; cases hh)
    exact le_sparse rfl ⟨lR _, trivial⟩ trivial rfl
  ·clear hr5
   have h := hN6
   clear hN6
   intro e13 s14 q12 hne
   rcases y4 with y4k0 | y4m0
   ·replace h := h
    obtain ⟨rfl, q12⟩ := q12
    replace h := of_let h
    obtain ⟨w20, hw20, h⟩ := h
    have hw20 : w20 = y4k0 := hw20
    subst hw20
    cbv
    injection h with h
    subst h
    refine ⟨(sparse 27 [(4, .c (.v (.int .i64 w20)))] []), ?_, ?_⟩
    ·refine St.le_trans q12 ?_
     exact le_sparse rfl ⟨lR _, trivial⟩ trivial rfl
    ·exact ⟨lR _, trivial, rfl⟩
   ·replace h := of_let h
    obtain ⟨y4k1, hyk, h⟩ := h
    have hyk : y4k1 = y4m0 := hyk
    subst hyk
    obtain ⟨rfl, q12⟩ := q12
    replace h := of_let h
    obtain ⟨w21, hw21, h⟩ := h
    have hw21 : w21 = y4k1 := hw21
    subst hw21
    cbv
    refine ⟨_, q12, ?_⟩
    cbv
    injection h with h
    subst h
    refine ⟨(sparse 27 [(4, .c (.v (.int .i64 w21)))] []), ?_, ?_⟩
    ·exact le_sparse rfl ⟨lR _, trivial⟩ trivial rfl
    ·exact ⟨lR _, trivial, rfl⟩

/-- laws.szInstanceS -/
noncomputable def F_laws_szInstanceS (a0 : List TInstance) (a1 : Int) : Option (Int) :=
 br (std.lt (std.sub .i64 a1 (std.ofN (len a0))) 0)
 (some (-1))
 (some (std.sub .i64 a1 (std.ofN (len a0))))
theorem run_laws_szInstanceS (a0 : List TInstance) (a1 : Int) (r : Int) (h : F_laws_szInstanceS a0 a1 = some r) : Fun Try.prog 146 [.c (.bs (len a0) 8 (row gd (encInstance) a0)), .c (.v (.int .i64 a1))] [] (.c (.v (.int .i64 r))) [] true := by
 refine Fun.of_wp (oneOf []) tok mixed Try.func146 (by kernel_rfl) rfl Try.ntmps146 rfl trivial (fun _ => ⟨trivial, trivial⟩) ?_
 unfold F_laws_szInstanceS at h
 generalize hLEN : @len = LEN at *
 generalize hGD : @gd = GD at *
 generalize hA : std = A at *
 generalize hP : Try.prog = P at *
 cbv
 refine fork (fun b1 => ?_) (fun b1 => ?_)
 ·replace h := of_br_t b1 h
  cbv
  injection h with h
  subst h
  refine ⟨(sparse 12 [(4, .c (.v (.int .i64 (-1))))] []), ?_, ?_⟩
  ·exact le_sparse rfl ⟨lR _, trivial⟩ trivial rfl
  ·exact ⟨lR _, trivial, rfl⟩
 ·replace h := of_br_f b1 h
  cbv
  injection h with h
  subst h
  refine ⟨(sparse 12 [(4, .c (.v (.int .i64 (A.sub .i64 a1 (A.ofN (LEN a0))))))] []), ?_, ?_⟩
  ·exact le_sparse rfl ⟨lR _, trivial⟩ trivial rfl
  ·exact ⟨lR _, trivial, rfl⟩

/-- laws.szCell -/
noncomputable def F_laws_szCell (a0 : TCell) (a1 : Int) : Option (Int) :=
 br (std.lt (std.sub .i64 a1 (std.ofN (std.slen a0.fName))) 0)
 (some (-1))
 ((F_laws_szShapeS a0.fShapes (std.sub .i64 a1 (std.ofN (std.slen a0.fName)))).bind fun y1 =>
 br (std.lt y1 0)
 (some (-1))
 ((F_laws_szLabelS a0.fLabels y1).bind fun y3 =>
 br (std.lt y3 0)
 (some (-1))
 ((F_laws_szInstanceS a0.fInstances y3).bind fun y5 =>
 br (std.lt y5 0)
 (some (-1))
 (some y5))))
theorem run_laws_szCell (a0 : TCell) (a1 : Int) (r : Int) (h : F_laws_szCell a0 a1 = some r) : Fun Try.prog 94 [.agg [.v (.string a0.fName), .bs (len a0.fShapes) 5 (row gd (encShape) a0.fShapes), .bs (len a0.fLabels) 4 (row gd (encLabel) a0.fLabels), .bs (len a0.fInstances) 8 (row gd (encInstance) a0.fInstances)], .c (.v (.int .i64 a1))] [] (.c (.v (.int .i64 r))) [] true := by
 refine Fun.of_wp (oneOf []) tok mixed Try.func94 (by kernel_rfl) rfl Try.ntmps94 rfl trivial (fun _ => ⟨trivial, trivial⟩) ?_
 unfold F_laws_szCell at h
 have hf_laws_szInstanceS := @run_laws_szInstanceS
 have hf_laws_szLabelS := @run_laws_szLabelS
 have hf_laws_szShapeS := @run_laws_szShapeS
 generalize hLEN : @len = LEN at *
 generalize hGD : @gd = GD at *
 generalize hA : std = A at *
 generalize hP : Try.prog = P at *
 cbv
 refine fork (fun b10 => ?_) (fun b10 => ?_)
 ·replace h := of_br_t b10 h
  cbv
  injection h with h
  subst h
  refine ⟨(sparse 31 [(4, .c (.v (.int .i64 (-1))))] []), ?_, ?_⟩
  ·exact le_sparse rfl ⟨lR _, trivial⟩ trivial rfl
  ·exact ⟨lR _, trivial, rfl⟩
 ·replace h := of_br_f b10 h
  cbv
  replace h := of_bind h
  obtain ⟨y1, hy2, h⟩ := h
  refine ⟨{ args := [.c (.bs (LEN a0.fShapes) 5 (row GD (encShape) a0.fShapes)), .c (.v (.int .i64 (A.sub .i64 a1 (A.ofN (A.slen a0.fName)))))], o0 := [], r := .c (.v (.int .i64 y1)), o1 := [], fl := true, σ := [], τ := [] }, hf_laws_szShapeS _ _ _ hy2, ⟨les_cons (lR _) (les_cons (lR _) (les_nil)), trivial, rfl, rfl, rfl, rfl, trivial, rfl⟩, ?_⟩
  cbv
  refine fork (fun b9 => ?_) (fun b9 => ?_)
  ·replace h := of_br_t b9 h
   cbv
   injection h with h
   subst h
   refine ⟨(sparse 31 [(4, .c (.v (.int .i64 (-1))))] []), ?_, ?_⟩
   ·exact le_sparse rfl ⟨lR _, trivial⟩ trivial rfl
   ·exact ⟨lR _, trivial, rfl⟩
  ·replace h := of_br_f b9 h
   cbv
   replace h := of_bind h
   obtain ⟨y3, hy4, h⟩ := h
   refine ⟨{ args := [.c (.bs (LEN a0.fLabels) 4 (row GD (encLabel) a0.fLabels)), .c (.v (.int .i64 y1))], o0 := [], r := .c (.v (.int .i64 y3)), o1 := [], fl := true, σ := [], τ := [] }, hf_laws_szLabelS _ _ _ hy4, ⟨les_cons (lR _) (les_cons (lR _) (les_nil)), trivial, rfl, rfl, rfl, rfl, trivial, rfl⟩, ?_⟩
   cbv
   refine fork (fun b8 => ?_) (fun b8 => ?_)
   ·replace h := of_br_t b8 h
    cbv
    injection h with h
    subst h
    refine ⟨(sparse 31 [(4, .c (.v (.int .i64 (-1))))] []), ?_, ?_⟩
    ·exact le_sparse rfl ⟨lR _, trivial⟩ trivial rfl
    ·exact ⟨lR _, trivial, rfl⟩
   ·replace h := of_br_f b8 h
    cbv
    replace h := of_bind h
    obtain ⟨y5, hy6, h⟩ := h
    refine ⟨{ args := [.c (.bs (LEN a0.fInstances) 8 (row GD (encInstance) a0.fInstances)), .c (.v (.int .i64 y3))], o0 := [], r := .c (.v (.int .i64 y5)), o1 := [], fl := true, σ := [], τ := [] }, hf_laws_szInstanceS _ _ _ hy6, ⟨les_cons (lR _) (les_cons (lR _) (les_nil)), trivial, rfl, rfl, rfl, rfl, trivial, rfl⟩, ?_⟩
    cbv
    refine fork (fun b7 => ?_) (fun b7 => ?_)
    ·replace h := of_br_t b7 h
     cbv
     injection h with h
     subst h
     refine ⟨(sparse 31 [(4, .c (.v (.int .i64 (-1))))] []), ?_, ?_⟩
     ·exact le_sparse rfl ⟨lR _, trivial⟩ trivial rfl
     ·exact ⟨lR _, trivial, rfl⟩
    ·replace h := of_br_f b7 h
     cbv
     injection h with h
     subst h
     refine ⟨(sparse 31 [(4, .c (.v (.int .i64 y5)))] []), ?_, ?_⟩
     ·exact le_sparse rfl ⟨lR _, trivial⟩ trivial rfl
     ·exact ⟨lR _, trivial, rfl⟩

noncomputable def L_laws_szCellS_x3 (a0 : List TCell) : (Int × Int) → Option ((Int × Int) ⊕ ((Int) ⊕ (Int))) := fun x3 =>
 letO x3.1 fun v1 =>
 letO x3.2 fun v2 =>
 br (std.lt v2 (std.ofN (len a0)))
 (req (std.inR v2 (len a0)) <|
 (F_laws_szCell (gd a0 (std.toN v2)) v1).bind fun y16 =>
 br (std.lt y16 0)
 (some (.inr (.inl (-1))))
 (some (.inl (y16, std.add .i64 v2 1))))
 (some (.inr (.inr v1)))
/-- laws.szCellS -/
noncomputable def F_laws_szCellS (a0 : List TCell) (a1 : Int) : Option (Int) :=
 br (std.lt (std.sub .i64 a1 (std.ofN (len a0))) 0)
 (some (-1))
 ((whileP (σ := Int × Int) (ρ := (Int) ⊕ (Int)) (L_laws_szCellS_x3 a0) (std.sub .i64 a1 (std.ofN (len a0)), 0)).bind fun y4 =>
 (match y4 with
  | .inl y4k0 => (
    letO y4k0 fun w20 =>
    some w20)
  | .inr y4m0 =>
    letO y4m0 fun y4k1 =>
    letO y4k1 fun w21 =>
    some w21))
theorem run_laws_szCellS (a0 : List TCell) (a1 : Int) (r : Int) (h : F_laws_szCellS a0 a1 = some r) : Fun Try.prog 53 [.c (.bs (len a0) 4 (row gd (encCell len gd) a0)), .c (.v (.int .i64 a1))] [] (.c (.v (.int .i64 r))) [] true := by
 refine Fun.of_wp (oneOf []) tok mixed Try.func53 (by kernel_rfl) rfl Try.ntmps53 rfl trivial (fun _ => ⟨trivial, trivial⟩) ?_
 unfold F_laws_szCellS at h
 unfold L_laws_szCellS_x3 at h
 have hf_laws_szCell := @run_laws_szCell
 generalize hLEN : @len = LEN at *
 generalize hGD : @gd = GD at *
 generalize hA : std = A at *
 generalize hP : Try.prog = P at *
 cbv
 refine fork (fun b22 => ?_) (fun b22 => ?_)
 ·replace h := of_br_t b22 h
  cbv
  injection h with h
  subst h
  refine ⟨(sparse 27 [(4, .c (.v (.int .i64 (-1))))] []), ?_, ?_⟩
  ·exact le_sparse rfl ⟨lR _, trivial⟩ trivial rfl
  ·exact ⟨lR _, trivial, rfl⟩
 ·replace h := of_br_f b22 h
  cbv
  replace h := of_bind h
  obtain ⟨y4, hr5, hN6⟩ := h
  refine loop_cut hr5 (fun x => (sparse 27 [(0, .c (.bs (LEN a0) 4 (row GD (encCell LEN GD) a0))), (1, .c (.v (.int .i64 x.1))), (5, .c (.v (.int .i64 x.2)))] [])) ?_ (fun y e s => (match y with | .inl w => e = .ret ∧ s.le (sparse 27 [(4, .c (.v (.int .i64 w)))] []) | .inr w0 => (fun (w : Int) => e = .exit 0 ∧ s.le (sparse 27 [(1, .c (.v (.int .i64 w)))] [])) w0)) ?_ ?_
  ·clear hr5 hN6
   show St.le _ _
   exact le_sparse rfl ⟨lR _, lR _, lR _, trivial⟩ trivial rfl
  ·clear hr5 hN6
   intro x z10 h K8 hK9 hY7
   obtain ⟨x0_, x1_⟩ := x
   replace h := of_let h
   obtain ⟨v1, hv1, h⟩ := h
   have hv1 : v1 = x0_ := hv1
   subst hv1
   replace h := of_let h
   obtain ⟨v2, hv2, h⟩ := h
   have hv2 : v2 = x1_ := hv2
   subst hv2
   cbv
   refine fork (fun b19 => ?_) (fun b19 => ?_)
   ·replace h := of_br_t b19 h
    cbv
    replace h := of_req h
    obtain ⟨c15, h⟩ := h
    refine ⟨⟨c15, trivial⟩, ?_⟩
    replace h := of_bind h
    obtain ⟨y16, hy17, h⟩ := h
    refine ⟨{ args := [.agg [.v (.string (GD a0 (A.toN v2)).fName), .bs (LEN (GD a0 (A.toN v2)).fShapes) 5 (row GD (encShape) (GD a0 (A.toN v2)).fShapes), .bs (LEN (GD a0 (A.toN v2)).fLabels) 4 (row GD (encLabel) (GD a0 (A.toN v2)).fLabels), .bs (LEN (GD a0 (A.toN v2)).fInstances) 8 (row GD (encInstance) (GD a0 (A.toN v2)).fInstances)], .c (.v (.int .i64 v1))], o0 := [], r := .c (.v (.int .i64 y16)), o1 := [], fl := true, σ := [], τ := [] }, hf_laws_szCell _ _ _ hy17, ⟨les_cons (lR _) (les_cons (lR _) (les_nil)), trivial, rfl, rfl, rfl, rfl, trivial, rfl⟩, ?_⟩
    cbv
    refine fork (fun b18 => ?_) (fun b18 => ?_)
    ·replace h := of_br_t b18 h
     cbv
     injection h with h
     refine hY7 _ h.symm _ _ (And.intro rfl ?_) (by intro hh; cases hh)
     exact le_sparse rfl ⟨lR _, trivial⟩ trivial rfl
    ·replace h := of_br_f b18 h
     cbv
     injection h with h
     refine hK9 _ h.symm _ ?_
     exact le_sparse rfl ⟨lR _, lR _, lR _, trivial⟩ trivial rfl
   ·replace h := of_br_f b19 h
    cbv
    injection h with h
    refine hY7 _ h.symm _ _ (And.intro rfl ?_) (by intro hh; cases hh)
    exact le_sparse rfl ⟨lR _, trivial⟩ trivial rfl
  ·clear hr5
   have h := hN6
   clear hN6
   intro e13 s14 q12 hne
   rcases y4 with y4k0 | y4m0
   ·replace h := h
    obtain ⟨rfl, q12⟩ := q12
    replace h := of_let h
    obtain ⟨w20, hw20, h⟩ := h
    have hw20 : w20 = y4k0 := hw20
    subst hw20
    cbv
    injection h with h
    subst h
    refine ⟨(sparse 27 [(4, .c (.v (.int .i64 w20)))] []), ?_, ?_⟩
    ·refine St.le_trans q12 ?_
     exact le_sparse rfl ⟨lR _, trivial⟩ trivial rfl
    ·exact ⟨lR _, trivial, rfl⟩
   ·replace h := of_let h
    obtain ⟨y4k1, hyk, h⟩ := h
    have hyk : y4k1 = y4m0 := hyk
    subst hyk
    obtain ⟨rfl, q12⟩ := q12
    replace h := of_let h
    obtain ⟨w21, hw21, h⟩ := h
    have hw21 : w21 = y4k1 := hw21
    subst hw21
    cbv
    refine ⟨_, q12, ?_⟩
    cbv
    injection h with h
    subst h
    refine ⟨(sparse 27 [(4, .c (.v (.int .i64 w21)))] []), ?_, ?_⟩
    ·exact le_sparse rfl ⟨lR _, trivial⟩ trivial rfl
    ·exact ⟨lR _, trivial, rfl⟩
/-- laws.szLibrary -/
noncomputable def F_laws_szLibrary (a0 : TLibrary) (a1 : Int) : Option (Int) :=
 (F_laws_szCellS a0.fCells a1).bind fun y1 =>
 br (std.lt y1 0)
 (some (-1))
 (some y1)
theorem run_laws_szLibrary (a0 : TLibrary) (a1 : Int) (r : Int) (h : F_laws_szLibrary a0 a1 = some r) : Fun Try.prog 17 [.agg [.bs (len a0.fCells) 4 (row gd (encCell len gd) a0.fCells)], .c (.v (.int .i64 a1))] [] (.c (.v (.int .i64 r))) [] true := by
 refine Fun.of_wp (oneOf []) tok mixed Try.func17 (by kernel_rfl) rfl Try.ntmps17 rfl trivial (fun _ => ⟨trivial, trivial⟩) ?_
 unfold F_laws_szLibrary at h
 have hf_laws_szCellS := @run_laws_szCellS
 generalize hLEN : @len = LEN at *
 generalize hGD : @gd = GD at *
 generalize hA : std = A at *
 generalize hP : Try.prog = P at *
 cbv
 replace h := of_bind h
 obtain ⟨y1, hy2, h⟩ := h
 refine ⟨{ args := [.c (.bs (LEN a0.fCells) 4 (row GD (encCell LEN GD) a0.fCells)), .c (.v (.int .i64 a1))], o0 := [], r := .c (.v (.int .i64 y1)), o1 := [], fl := true, σ := [], τ := [] }, hf_laws_szCellS _ _ _ hy2, ⟨les_cons (lR _) (les_cons (lR _) (les_nil)), trivial, rfl, rfl, rfl, rfl, trivial, rfl⟩, ?_⟩
 cbv
 refine fork (fun b3 => ?_) (fun b3 => ?_)
 ·replace h := of_br_t b3 h
  cbv
  injection h with h
  subst h
  refine ⟨(sparse 12 [(4, .c (.v (.int .i64 (-1))))] []), ?_, ?_⟩
  ·exact le_sparse rfl ⟨lR _, trivial⟩ trivial rfl
  ·exact ⟨lR _, trivial, rfl⟩
 ·replace h := of_br_f b3 h
  cbv
  injection h with h
  subst h
  refine ⟨(sparse 12 [(4, .c (.v (.int .i64 y1)))] []), ?_, ?_⟩
  ·exact le_sparse rfl ⟨lR _, trivial⟩ trivial rfl
  ·exact ⟨lR _, trivial, rfl⟩

/-- laws.szEdit -/
noncomputable def F_laws_szEdit (a0 : TEdit) (a1 : Int) : Option (Int) :=
 br (std.lt (std.sub .i64 a1 (std.ofN (std.slen a0.fName))) 0)
 (some (-1))
 ((F_laws_szLabel a0.fLabel (std.sub .i64 a1 (std.ofN (std.slen a0.fName)))).bind fun y1 =>
 br (std.lt y1 0)
 (some (-1))
 (some y1))
theorem run_laws_szEdit (a0 : TEdit) (a1 : Int) (r : Int) (h : F_laws_szEdit a0 a1 = some r) : Fun Try.prog 33 [.agg [.v (.int .i64 a0.fKind), .v (.int .i64 a0.fCell), .v (.int .i64 a0.fIndex), .v (.string a0.fName), .v (.int .i64 a0.fShape.fLayer), .v (.int .i64 a0.fShape.fBox.fX0), .v (.int .i64 a0.fShape.fBox.fY0), .v (.int .i64 a0.fShape.fBox.fX1), .v (.int .i64 a0.fShape.fBox.fY1), .v (.int .i64 a0.fLabel.fLayer), .v (.int .i64 a0.fLabel.fAt.fX), .v (.int .i64 a0.fLabel.fAt.fY), .v (.string a0.fLabel.fName), .v (.int .i64 a0.fInstance.fCell), .v (.int .i64 a0.fInstance.fPlace.fOrientation), .v (.int .i64 a0.fInstance.fPlace.fX), .v (.int .i64 a0.fInstance.fPlace.fY), .v (.int .i64 a0.fInstance.fColumns), .v (.int .i64 a0.fInstance.fRows), .v (.int .i64 a0.fInstance.fStepX), .v (.int .i64 a0.fInstance.fStepY)], .c (.v (.int .i64 a1))] [] (.c (.v (.int .i64 r))) [] true := by
 refine Fun.of_wp (oneOf []) tok mixed Try.func33 (by kernel_rfl) rfl Try.ntmps33 rfl trivial (fun _ => ⟨trivial, trivial⟩) ?_
 unfold F_laws_szEdit at h
 have hf_laws_szLabel := @run_laws_szLabel
 generalize hLEN : @len = LEN at *
 generalize hGD : @gd = GD at *
 generalize hA : std = A at *
 generalize hP : Try.prog = P at *
 cbv
 refine fork (fun b4 => ?_) (fun b4 => ?_)
 ·replace h := of_br_t b4 h
  cbv
  injection h with h
  subst h
  refine ⟨(sparse 19 [(4, .c (.v (.int .i64 (-1))))] []), ?_, ?_⟩
  ·exact le_sparse rfl ⟨lR _, trivial⟩ trivial rfl
  ·exact ⟨lR _, trivial, rfl⟩
 ·replace h := of_br_f b4 h
  cbv
  replace h := of_bind h
  obtain ⟨y1, hy2, h⟩ := h
  refine ⟨{ args := [.agg [.v (.int .i64 a0.fLabel.fLayer), .v (.int .i64 a0.fLabel.fAt.fX), .v (.int .i64 a0.fLabel.fAt.fY), .v (.string a0.fLabel.fName)], .c (.v (.int .i64 (A.sub .i64 a1 (A.ofN (A.slen a0.fName)))))], o0 := [], r := .c (.v (.int .i64 y1)), o1 := [], fl := true, σ := [], τ := [] }, hf_laws_szLabel _ _ _ hy2, ⟨les_cons (lR _) (les_cons (lR _) (les_nil)), trivial, rfl, rfl, rfl, rfl, trivial, rfl⟩, ?_⟩
  cbv
  refine fork (fun b3 => ?_) (fun b3 => ?_)
  ·replace h := of_br_t b3 h
   cbv
   injection h with h
   subst h
   refine ⟨(sparse 19 [(4, .c (.v (.int .i64 (-1))))] []), ?_, ?_⟩
   ·exact le_sparse rfl ⟨lR _, trivial⟩ trivial rfl
   ·exact ⟨lR _, trivial, rfl⟩
  ·replace h := of_br_f b3 h
   cbv
   injection h with h
   subst h
   refine ⟨(sparse 19 [(4, .c (.v (.int .i64 y1)))] []), ?_, ?_⟩
   ·exact le_sparse rfl ⟨lR _, trivial⟩ trivial rfl
   ·exact ⟨lR _, trivial, rfl⟩

/-- laws.toRect -/
noncomputable def F_laws_toRect (a0 : TRect) : Option (TRect) :=
 some a0
theorem run_laws_toRect (a0 : TRect) (r : TRect) (h : F_laws_toRect a0 = some r) : Fun Try.prog 26 [.agg [.v (.int .i64 a0.fX0), .v (.int .i64 a0.fY0), .v (.int .i64 a0.fX1), .v (.int .i64 a0.fY1)]] [] (.agg [.v (.int .i64 r.fX0), .v (.int .i64 r.fY0), .v (.int .i64 r.fX1), .v (.int .i64 r.fY1)]) [] true := by
 refine Fun.of_wp (oneOf []) tok mixed Try.func26 (by kernel_rfl) rfl Try.ntmps26 rfl trivial (fun _ => ⟨(by simp [AV.flat, AV.flat1, AC.flat]), trivial⟩) ?_
 unfold F_laws_toRect at h
 generalize hLEN : @len = LEN at *
 generalize hGD : @gd = GD at *
 generalize hA : std = A at *
 generalize hP : Try.prog = P at *
 cbv
 injection h with h
 subst h
 refine ⟨(sparse 17 [(2, .c (.ptr 128 0))] [(128, .var [.v (.int .i64 a0.fX0), .v (.int .i64 a0.fY0), .v (.int .i64 a0.fX1), .v (.int .i64 a0.fY1)])]), ?_, ?_⟩
 ·exact le_sparse rfl ⟨lR _, trivial⟩ ⟨rfl, trivial⟩ rfl
 ·exact ⟨lR _, trivial, rfl⟩

/-- laws.toShape -/
noncomputable def F_laws_toShape (a0 : TShape) : Option (TShape) :=
 (F_laws_toRect a0.fBox).bind fun y1 =>
 some (TShape.mk a0.fLayer y1)
theorem run_laws_toShape (a0 : TShape) (r : TShape) (h : F_laws_toShape a0 = some r) : Fun Try.prog 72 [.agg [.v (.int .i64 a0.fLayer), .v (.int .i64 a0.fBox.fX0), .v (.int .i64 a0.fBox.fY0), .v (.int .i64 a0.fBox.fX1), .v (.int .i64 a0.fBox.fY1)]] [] (.agg [.v (.int .i64 r.fLayer), .v (.int .i64 r.fBox.fX0), .v (.int .i64 r.fBox.fY0), .v (.int .i64 r.fBox.fX1), .v (.int .i64 r.fBox.fY1)]) [] true := by
 refine Fun.of_wp (oneOf []) tok mixed Try.func72 (by kernel_rfl) rfl Try.ntmps72 rfl trivial (fun _ => ⟨(by simp [AV.flat, AV.flat1, AC.flat]), trivial⟩) ?_
 unfold F_laws_toShape at h
 have hf_laws_toRect := @run_laws_toRect
 generalize hLEN : @len = LEN at *
 generalize hGD : @gd = GD at *
 generalize hA : std = A at *
 generalize hP : Try.prog = P at *
 cbv
 replace h := of_bind h
 obtain ⟨y1, hy2, h⟩ := h
 refine ⟨{ args := [.agg [.v (.int .i64 a0.fBox.fX0), .v (.int .i64 a0.fBox.fY0), .v (.int .i64 a0.fBox.fX1), .v (.int .i64 a0.fBox.fY1)]], o0 := [], r := .agg [.v (.int .i64 y1.fX0), .v (.int .i64 y1.fY0), .v (.int .i64 y1.fX1), .v (.int .i64 y1.fY1)], o1 := [], fl := true, σ := [], τ := [] }, hf_laws_toRect _ _ hy2, ⟨les_cons (lR _) (les_nil), trivial, rfl, rfl, rfl, rfl, trivial, rfl⟩, ?_⟩
 cbv
 injection h with h
 subst h
 refine ⟨(sparse 12 [(2, .c (.ptr 128 0))] [(128, .var [.v (.int .i64 a0.fLayer), .v (.int .i64 y1.fX0), .v (.int .i64 y1.fY0), .v (.int .i64 y1.fX1), .v (.int .i64 y1.fY1)])]), ?_, ?_⟩
 ·exact le_sparse rfl ⟨lR _, trivial⟩ ⟨rfl, trivial⟩ rfl
 ·exact ⟨lR _, trivial, rfl⟩

noncomputable def L_laws_toShapeS_x7 (a0 : List TShape) (l1 : List TShape) : (Int × (List TShape)) → Option ((Int × (List TShape)) ⊕ (((List TShape)))) := fun x7 =>
 letO x7.1 fun v5 =>
 letO x7.2 fun v6 =>
 br (std.lt v5 (std.ofN (len a0)))
 (req (std.inR v5 (len a0)) <|
 (F_laws_toShape (gd a0 (std.toN v5))).bind fun y20 =>
 req (std.inR v5 (len l1)) <|
 req (len l1 = len v6) <|
 letO (List.set v6 (std.nadd 0 (std.toN v5)) y20) fun l23 =>
 some (.inl (std.add .i64 v5 1, l23)))
 (some (.inr v6))
/-- laws.toShapeS -/
noncomputable def F_laws_toShapeS (a0 : List TShape) : Option (List TShape) :=
 req (std.nneg (std.ofN (len a0))) <|
 req (std.room (std.toN (std.ofN (len a0))) 40) <|
 letO (List.replicate (std.toN (std.ofN (len a0))) (TShape.mk 0 (TRect.mk 0 0 0 0))) fun l1 =>
 (whileP (σ := Int × (List TShape)) (ρ := ((List TShape))) (L_laws_toShapeS_x7 a0 l1) (0, l1)).bind fun y8 =>
 letO y8 fun y8k0 =>
 letO y8k0 fun w26 =>
 req (len l1 = len w26) <|
 some w26
theorem run_laws_toShapeS (a0 : List TShape) (r : List TShape) (h : F_laws_toShapeS a0 = some r) : Fun Try.prog 147 [.c (.bs (len a0) 5 (row gd (encShape) a0))] [] (.c (.os 64000 0 (len r))) [(64000, .arr .rw [] (len r) 5 (row gd (encShape) r))] true := by
 refine Fun.of_wp (oneOf []) tok mixed Try.func147 (by kernel_rfl) rfl Try.ntmps147 rfl trivial (fun _ => ⟨trivial, ⟨fun i _ j _ => val_flat (vl_encShape _ _), trivial⟩⟩) ?_
 unfold F_laws_toShapeS at h
 unfold L_laws_toShapeS_x7 at h
 have hf_laws_toShape := @run_laws_toShape
 generalize hLEN : @len = LEN at *
 generalize hGD : @gd = GD at *
 generalize hA : std = A at *
 generalize hP : Try.prog = P at *
 cbv
 replace h := of_req h
 obtain ⟨c3, h⟩ := h
 replace h := of_req h
 obtain ⟨c4, h⟩ := h
 replace h := of_let h
 obtain ⟨l1, hl1, h⟩ := h
 have e2 : A.toN (A.ofN (LEN a0)) = LEN l1 := by subst hl1 hLEN hA; exact rep_len rfl
 refine And.intro (by first | exact ⟨c3, c4⟩ | exact ⟨rfl, c3, trivial, trivial, trivial, c4⟩ | (refine ⟨?_, ?_, ?_, ?_, ?_, ?_⟩ <;> first | exact c3 | exact c4 | trivial)) ?_
 refine ⟨_, congrArg (fun n => AV.c (AC.os 448 0 n)) e2, _, row GD (encShape) l1, e2, ?_, ?_⟩
 ·subst hGD hLEN
  exact upd_repL hl1 (by intro j hj; match j, hj with | 0, _ => rfl | 1, _ => rfl | 2, _ => rfl | 3, _ => rfl | 4, _ => rfl | (j_ + 5), h_ => exact absurd h_ (by omega))
 cbv
 replace h := of_bind h
 obtain ⟨y8, hr9, hN10⟩ := h
 refine loop_cut hr9 (fun x => (sparse 23 [(0, .c (.bs (LEN a0) 5 (row GD (encShape) a0))), (3, .c (.os 448 0 (LEN l1))), (4, .c (.v (.int .i64 x.1)))] [(448, .arr .rw [] (LEN l1) 5 (row GD (encShape) x.2))])) ?_ (fun y e s => (fun (w : (List TShape)) => e = .exit 0 ∧ s.le (sparse 23 [(3, .c (.os 448 0 (LEN l1)))] [(448, .arr .rw [] (LEN l1) 5 (row GD (encShape) w))])) y) ?_ ?_
 ·clear hr9 hN10
  show St.le _ _
  exact le_sparse rfl ⟨lR _, lR _, lR _, trivial⟩ ⟨oS, trivial⟩ rfl
 ·clear hr9 hN10
  intro x z14 h K12 hK13 hY11
  obtain ⟨x0_, x1_⟩ := x
  replace h := of_let h
  obtain ⟨v5, hv5, h⟩ := h
  have hv5 : v5 = x0_ := hv5
  subst hv5
  replace h := of_let h
  obtain ⟨v6, hv6, h⟩ := h
  have hv6 : v6 = x1_ := hv6
  subst hv6
  cbv
  refine fork (fun b25 => ?_) (fun b25 => ?_)
  ·replace h := of_br_t b25 h
   cbv
   replace h := of_req h
   obtain ⟨c19, h⟩ := h
   refine ⟨⟨c19, trivial⟩, ?_⟩
   replace h := of_bind h
   obtain ⟨y20, hy21, h⟩ := h
   refine ⟨{ args := [.agg [.v (.int .i64 (GD a0 (A.toN v5)).fLayer), .v (.int .i64 (GD a0 (A.toN v5)).fBox.fX0), .v (.int .i64 (GD a0 (A.toN v5)).fBox.fY0), .v (.int .i64 (GD a0 (A.toN v5)).fBox.fX1), .v (.int .i64 (GD a0 (A.toN v5)).fBox.fY1)]], o0 := [], r := .agg [.v (.int .i64 y20.fLayer), .v (.int .i64 y20.fBox.fX0), .v (.int .i64 y20.fBox.fY0), .v (.int .i64 y20.fBox.fX1), .v (.int .i64 y20.fBox.fY1)], o1 := [], fl := true, σ := [], τ := [] }, hf_laws_toShape _ _ hy21, ⟨les_cons (lR _) (les_nil), trivial, rfl, rfl, rfl, rfl, trivial, rfl⟩, ?_⟩
   cbv
   replace h := of_req h
   obtain ⟨c22, h⟩ := h
   refine ⟨⟨c22, trivial⟩, ?_⟩
   replace h := of_req h
   obtain ⟨c24, h⟩ := h
   replace h := of_let h
   obtain ⟨l23, hl23, h⟩ := h
   refine And.intro (by first | exact (by subst hA; exact idx_lt c22) | (refine And.intro (by subst hA; exact idx_lt c22) ?_; first | trivial | exact ⟨trivial, trivial⟩)) ?_
   refine ⟨_, rfl, _, row GD (encShape) l23, rfl, ?_, ?_⟩
   ·subst hGD hLEN hA
    rw [c24] at c22
    refine upd_set hl23 (idx_lt c22) ?_ ?_
    ·intro b hb hh
     match b, hb, hh with | 0, _, hh => exact rfl | 1, _, hh => exact rfl | 2, _, hh => exact rfl | 3, _, hh => exact rfl | 4, _, hh => exact rfl | (b_ + 5), h_, _ => exact absurd h_ (by omega)
    ·intro b hb hh
     match b, hb, hh with | 0, _, hh => exact (absurd (show 0 ≤ 0 ∧ 0 < 0 + 5 from by decide) hh) | 1, _, hh => exact (absurd (show 0 ≤ 1 ∧ 1 < 0 + 5 from by decide) hh) | 2, _, hh => exact (absurd (show 0 ≤ 2 ∧ 2 < 0 + 5 from by decide) hh) | 3, _, hh => exact (absurd (show 0 ≤ 3 ∧ 3 < 0 + 5 from by decide) hh) | 4, _, hh => exact (absurd (show 0 ≤ 4 ∧ 4 < 0 + 5 from by decide) hh) | (b_ + 5), h_, _ => exact absurd h_ (by omega)
   cbv
   injection h with h
   refine hK13 _ h.symm _ ?_
   exact le_sparse rfl ⟨lR _, lR _, lR _, trivial⟩ ⟨oS, trivial⟩ rfl
  ·replace h := of_br_f b25 h
   cbv
   injection h with h
   refine hY11 _ h.symm _ _ (And.intro rfl ?_) (by intro hh; cases hh)
   exact le_sparse rfl ⟨lR _, trivial⟩ ⟨oS, trivial⟩ rfl
 ·clear hr9
  have h := hN10
  clear hN10
  intro e17 s18 q16 hne
  replace h := of_let h
  obtain ⟨y8k0, hyk, h⟩ := h
  have hyk : y8k0 = y8 := hyk
  subst hyk
  obtain ⟨rfl, q16⟩ := q16
  replace h := of_let h
  obtain ⟨w26, hw26, h⟩ := h
  have hw26 : w26 = y8k0 := hw26
  subst hw26
  cbv
  refine ⟨_, q16, ?_⟩
  cbv
  replace h := of_req h
  obtain ⟨c27, h⟩ := h
  injection h with h
  subst h
  refine ⟨(sparse 23 [(2, .c (.os 64000 0 (LEN w26)))] [(64000, .arr .rw [] (LEN w26) 5 (row GD (encShape) w26))]), ?_, ?_⟩
  ·refine St.le_trans (le_ren 448 64000 (by decide) rfl) ?_
   rw [c27]
   exact le_sparse rfl ⟨lR _, trivial⟩ ⟨oS, trivial⟩ rfl
  ·exact ⟨lR _, ⟨oS, trivial⟩, rfl⟩

/-- laws.toPoint -/
noncomputable def F_laws_toPoint (a0 : TPoint) : Option (TPoint) :=
 some a0
theorem run_laws_toPoint (a0 : TPoint) (r : TPoint) (h : F_laws_toPoint a0 = some r) : Fun Try.prog 115 [.agg [.v (.int .i64 a0.fX), .v (.int .i64 a0.fY)]] [] (.agg [.v (.int .i64 r.fX), .v (.int .i64 r.fY)]) [] true := by
 refine Fun.of_wp (oneOf []) tok mixed Try.func115 (by kernel_rfl) rfl Try.ntmps115 rfl trivial (fun _ => ⟨(by simp [AV.flat, AV.flat1, AC.flat]), trivial⟩) ?_
 unfold F_laws_toPoint at h
 generalize hLEN : @len = LEN at *
 generalize hGD : @gd = GD at *
 generalize hA : std = A at *
 generalize hP : Try.prog = P at *
 cbv
 injection h with h
 subst h
 refine ⟨(sparse 11 [(2, .c (.ptr 128 0))] [(128, .var [.v (.int .i64 a0.fX), .v (.int .i64 a0.fY)])]), ?_, ?_⟩
 ·exact le_sparse rfl ⟨lR _, trivial⟩ ⟨rfl, trivial⟩ rfl
 ·exact ⟨lR _, trivial, rfl⟩
/-- laws.toLabel -/
noncomputable def F_laws_toLabel (a0 : TLabel) : Option (TLabel) :=
 (F_laws_toPoint a0.fAt).bind fun y1 =>
 some (TLabel.mk a0.fLayer y1 a0.fName)
theorem run_laws_toLabel (a0 : TLabel) (r : TLabel) (h : F_laws_toLabel a0 = some r) : Fun Try.prog 73 [.agg [.v (.int .i64 a0.fLayer), .v (.int .i64 a0.fAt.fX), .v (.int .i64 a0.fAt.fY), .v (.string a0.fName)]] [] (.agg [.v (.int .i64 r.fLayer), .v (.int .i64 r.fAt.fX), .v (.int .i64 r.fAt.fY), .v (.string r.fName)]) [] true := by
 refine Fun.of_wp (oneOf []) tok mixed Try.func73 (by kernel_rfl) rfl Try.ntmps73 rfl trivial (fun _ => ⟨(by simp [AV.flat, AV.flat1, AC.flat]), trivial⟩) ?_
 unfold F_laws_toLabel at h
 have hf_laws_toPoint := @run_laws_toPoint
 generalize hLEN : @len = LEN at *
 generalize hGD : @gd = GD at *
 generalize hA : std = A at *
 generalize hP : Try.prog = P at *
 cbv
 replace h := of_bind h
 obtain ⟨y1, hy2, h⟩ := h
 refine ⟨{ args := [.agg [.v (.int .i64 a0.fAt.fX), .v (.int .i64 a0.fAt.fY)]], o0 := [], r := .agg [.v (.int .i64 y1.fX), .v (.int .i64 y1.fY)], o1 := [], fl := true, σ := [], τ := [] }, hf_laws_toPoint _ _ hy2, ⟨les_cons (lR _) (les_nil), trivial, rfl, rfl, rfl, rfl, trivial, rfl⟩, ?_⟩
 cbv
 injection h with h
 subst h
 refine ⟨(sparse 15 [(2, .c (.ptr 128 0))] [(128, .var [.v (.int .i64 a0.fLayer), .v (.int .i64 y1.fX), .v (.int .i64 y1.fY), .v (.string a0.fName)])]), ?_, ?_⟩
 ·exact le_sparse rfl ⟨lR _, trivial⟩ ⟨rfl, trivial⟩ rfl
 ·exact ⟨lR _, trivial, rfl⟩

noncomputable def L_laws_toLabelS_x7 (a0 : List TLabel) (l1 : List TLabel) : (Int × (List TLabel)) → Option ((Int × (List TLabel)) ⊕ (((List TLabel)))) := fun x7 =>
 letO x7.1 fun v5 =>
 letO x7.2 fun v6 =>
 br (std.lt v5 (std.ofN (len a0)))
 (req (std.inR v5 (len a0)) <|
 (F_laws_toLabel (gd a0 (std.toN v5))).bind fun y20 =>
 req (std.inR v5 (len l1)) <|
 req (len l1 = len v6) <|
 letO (List.set v6 (std.nadd 0 (std.toN v5)) y20) fun l23 =>
 some (.inl (std.add .i64 v5 1, l23)))
 (some (.inr v6))
/-- laws.toLabelS -/
noncomputable def F_laws_toLabelS (a0 : List TLabel) : Option (List TLabel) :=
 req (std.nneg (std.ofN (len a0))) <|
 req (std.room (std.toN (std.ofN (len a0))) 40) <|
 letO (List.replicate (std.toN (std.ofN (len a0))) (TLabel.mk 0 (TPoint.mk 0 0) (ByteArray.mk #[]))) fun l1 =>
 (whileP (σ := Int × (List TLabel)) (ρ := ((List TLabel))) (L_laws_toLabelS_x7 a0 l1) (0, l1)).bind fun y8 =>
 letO y8 fun y8k0 =>
 letO y8k0 fun w26 =>
 req (len l1 = len w26) <|
 some w26
theorem run_laws_toLabelS (a0 : List TLabel) (r : List TLabel) (h : F_laws_toLabelS a0 = some r) : Fun Try.prog 148 [.c (.bs (len a0) 4 (row gd (encLabel) a0))] [] (.c (.os 64000 0 (len r))) [(64000, .arr .rw [] (len r) 4 (row gd (encLabel) r))] true := by
 refine Fun.of_wp (oneOf []) tok mixed Try.func148 (by kernel_rfl) rfl Try.ntmps148 rfl trivial (fun _ => ⟨trivial, ⟨fun i _ j _ => val_flat (vl_encLabel _ _), trivial⟩⟩) ?_
 unfold F_laws_toLabelS at h
 unfold L_laws_toLabelS_x7 at h
 have hf_laws_toLabel := @run_laws_toLabel
 generalize hLEN : @len = LEN at *
 generalize hGD : @gd = GD at *
 generalize hA : std = A at *
 generalize hP : Try.prog = P at *
 cbv
 replace h := of_req h
 obtain ⟨c3, h⟩ := h
 replace h := of_req h
 obtain ⟨c4, h⟩ := h
 replace h := of_let h
 obtain ⟨l1, hl1, h⟩ := h
 have e2 : A.toN (A.ofN (LEN a0)) = LEN l1 := by subst hl1 hLEN hA; exact rep_len rfl
 refine And.intro (by first | exact ⟨c3, c4⟩ | exact ⟨rfl, c3, trivial, trivial, trivial, c4⟩ | (refine ⟨?_, ?_, ?_, ?_, ?_, ?_⟩ <;> first | exact c3 | exact c4 | trivial)) ?_
 refine ⟨_, congrArg (fun n => AV.c (AC.os 448 0 n)) e2, _, row GD (encLabel) l1, e2, ?_, ?_⟩
 ·subst hGD hLEN
  exact upd_repL hl1 (by intro j hj; match j, hj with | 0, _ => rfl | 1, _ => rfl | 2, _ => rfl | 3, _ => rfl | (j_ + 4), h_ => exact absurd h_ (by omega))
 cbv
 replace h := of_bind h
 obtain ⟨y8, hr9, hN10⟩ := h
 refine loop_cut hr9 (fun x => (sparse 23 [(0, .c (.bs (LEN a0) 4 (row GD (encLabel) a0))), (3, .c (.os 448 0 (LEN l1))), (4, .c (.v (.int .i64 x.1)))] [(448, .arr .rw [] (LEN l1) 4 (row GD (encLabel) x.2))])) ?_ (fun y e s => (fun (w : (List TLabel)) => e = .exit 0 ∧ s.le (sparse 23 [(3, .c (.os 448 0 (LEN l1)))] [(448, .arr .rw [] (LEN l1) 4 (row GD (encLabel) w))])) y) ?_ ?_
 ·clear hr9 hN10
  show St.le _ _
  exact le_sparse rfl ⟨lR _, lR _, lR _, trivial⟩ ⟨oS, trivial⟩ rfl
 ·clear hr9 hN10
  intro x z14 h K12 hK13 hY11
  obtain ⟨x0_, x1_⟩ := x
  replace h := of_let h
  obtain ⟨v5, hv5, h⟩ := h
  have hv5 : v5 = x0_ := hv5
  subst hv5
  replace h := of_let h
  obtain ⟨v6, hv6, h⟩ := h
  have hv6 : v6 = x1_ := hv6
  subst hv6
  cbv
  refine fork (fun b25 => ?_) (fun b25 => ?_)
  ·replace h := of_br_t b25 h
   cbv
   replace h := of_req h
   obtain ⟨c19, h⟩ := h
   refine ⟨⟨c19, trivial⟩, ?_⟩
   replace h := of_bind h
   obtain ⟨y20, hy21, h⟩ := h
   refine ⟨{ args := [.agg [.v (.int .i64 (GD a0 (A.toN v5)).fLayer), .v (.int .i64 (GD a0 (A.toN v5)).fAt.fX), .v (.int .i64 (GD a0 (A.toN v5)).fAt.fY), .v (.string (GD a0 (A.toN v5)).fName)]], o0 := [], r := .agg [.v (.int .i64 y20.fLayer), .v (.int .i64 y20.fAt.fX), .v (.int .i64 y20.fAt.fY), .v (.string y20.fName)], o1 := [], fl := true, σ := [], τ := [] }, hf_laws_toLabel _ _ hy21, ⟨les_cons (lR _) (les_nil), trivial, rfl, rfl, rfl, rfl, trivial, rfl⟩, ?_⟩
   cbv
   replace h := of_req h
   obtain ⟨c22, h⟩ := h
   refine ⟨⟨c22, trivial⟩, ?_⟩
   replace h := of_req h
   obtain ⟨c24, h⟩ := h
   replace h := of_let h
   obtain ⟨l23, hl23, h⟩ := h
   refine And.intro (by first | exact (by subst hA; exact idx_lt c22) | (refine And.intro (by subst hA; exact idx_lt c22) ?_; first | trivial | exact ⟨trivial, trivial⟩)) ?_
   refine ⟨_, rfl, _, row GD (encLabel) l23, rfl, ?_, ?_⟩
   ·subst hGD hLEN hA
    rw [c24] at c22
    refine upd_set hl23 (idx_lt c22) ?_ ?_
    ·intro b hb hh
     match b, hb, hh with | 0, _, hh => exact rfl | 1, _, hh => exact rfl | 2, _, hh => exact rfl | 3, _, hh => exact rfl | (b_ + 4), h_, _ => exact absurd h_ (by omega)
    ·intro b hb hh
     match b, hb, hh with | 0, _, hh => exact (absurd (show 0 ≤ 0 ∧ 0 < 0 + 4 from by decide) hh) | 1, _, hh => exact (absurd (show 0 ≤ 1 ∧ 1 < 0 + 4 from by decide) hh) | 2, _, hh => exact (absurd (show 0 ≤ 2 ∧ 2 < 0 + 4 from by decide) hh) | 3, _, hh => exact (absurd (show 0 ≤ 3 ∧ 3 < 0 + 4 from by decide) hh) | (b_ + 4), h_, _ => exact absurd h_ (by omega)
   cbv
   injection h with h
   refine hK13 _ h.symm _ ?_
   exact le_sparse rfl ⟨lR _, lR _, lR _, trivial⟩ ⟨oS, trivial⟩ rfl
  ·replace h := of_br_f b25 h
   cbv
   injection h with h
   refine hY11 _ h.symm _ _ (And.intro rfl ?_) (by intro hh; cases hh)
   exact le_sparse rfl ⟨lR _, trivial⟩ ⟨oS, trivial⟩ rfl
 ·clear hr9
  have h := hN10
  clear hN10
  intro e17 s18 q16 hne
  replace h := of_let h
  obtain ⟨y8k0, hyk, h⟩ := h
  have hyk : y8k0 = y8 := hyk
  subst hyk
  obtain ⟨rfl, q16⟩ := q16
  replace h := of_let h
  obtain ⟨w26, hw26, h⟩ := h
  have hw26 : w26 = y8k0 := hw26
  subst hw26
  cbv
  refine ⟨_, q16, ?_⟩
  cbv
  replace h := of_req h
  obtain ⟨c27, h⟩ := h
  injection h with h
  subst h
  refine ⟨(sparse 23 [(2, .c (.os 64000 0 (LEN w26)))] [(64000, .arr .rw [] (LEN w26) 4 (row GD (encLabel) w26))]), ?_, ?_⟩
  ·refine St.le_trans (le_ren 448 64000 (by decide) rfl) ?_
   rw [c27]
   exact le_sparse rfl ⟨lR _, trivial⟩ ⟨oS, trivial⟩ rfl
  ·exact ⟨lR _, ⟨oS, trivial⟩, rfl⟩

/-- laws.toTransform -/
noncomputable def F_laws_toTransform (a0 : TTransform) : Option (TTransform) :=
 some a0
theorem run_laws_toTransform (a0 : TTransform) (r : TTransform) (h : F_laws_toTransform a0 = some r) : Fun Try.prog 116 [.agg [.v (.int .i64 a0.fOrientation), .v (.int .i64 a0.fX), .v (.int .i64 a0.fY)]] [] (.agg [.v (.int .i64 r.fOrientation), .v (.int .i64 r.fX), .v (.int .i64 r.fY)]) [] true := by
 refine Fun.of_wp (oneOf []) tok mixed Try.func116 (by kernel_rfl) rfl Try.ntmps116 rfl trivial (fun _ => ⟨(by simp [AV.flat, AV.flat1, AC.flat]), trivial⟩) ?_
 unfold F_laws_toTransform at h
 generalize hLEN : @len = LEN at *
 generalize hGD : @gd = GD at *
 generalize hA : std = A at *
 generalize hP : Try.prog = P at *
 cbv
 injection h with h
 subst h
 refine ⟨(sparse 14 [(2, .c (.ptr 128 0))] [(128, .var [.v (.int .i64 a0.fOrientation), .v (.int .i64 a0.fX), .v (.int .i64 a0.fY)])]), ?_, ?_⟩
 ·exact le_sparse rfl ⟨lR _, trivial⟩ ⟨rfl, trivial⟩ rfl
 ·exact ⟨lR _, trivial, rfl⟩

/-- laws.toInstance -/
noncomputable def F_laws_toInstance (a0 : TInstance) : Option (TInstance) :=
 (F_laws_toTransform a0.fPlace).bind fun y1 =>
 some (TInstance.mk a0.fCell y1 a0.fColumns a0.fRows a0.fStepX a0.fStepY)
theorem run_laws_toInstance (a0 : TInstance) (r : TInstance) (h : F_laws_toInstance a0 = some r) : Fun Try.prog 74 [.agg [.v (.int .i64 a0.fCell), .v (.int .i64 a0.fPlace.fOrientation), .v (.int .i64 a0.fPlace.fX), .v (.int .i64 a0.fPlace.fY), .v (.int .i64 a0.fColumns), .v (.int .i64 a0.fRows), .v (.int .i64 a0.fStepX), .v (.int .i64 a0.fStepY)]] [] (.agg [.v (.int .i64 r.fCell), .v (.int .i64 r.fPlace.fOrientation), .v (.int .i64 r.fPlace.fX), .v (.int .i64 r.fPlace.fY), .v (.int .i64 r.fColumns), .v (.int .i64 r.fRows), .v (.int .i64 r.fStepX), .v (.int .i64 r.fStepY)]) [] true := by
 refine Fun.of_wp (oneOf []) tok mixed Try.func74 (by kernel_rfl) rfl Try.ntmps74 rfl trivial (fun _ => ⟨(by simp [AV.flat, AV.flat1, AC.flat]), trivial⟩) ?_
 unfold F_laws_toInstance at h
 have hf_laws_toTransform := @run_laws_toTransform
 generalize hLEN : @len = LEN at *
 generalize hGD : @gd = GD at *
 generalize hA : std = A at *
 generalize hP : Try.prog = P at *
 cbv
 replace h := of_bind h
 obtain ⟨y1, hy2, h⟩ := h
 refine ⟨{ args := [.agg [.v (.int .i64 a0.fPlace.fOrientation), .v (.int .i64 a0.fPlace.fX), .v (.int .i64 a0.fPlace.fY)]], o0 := [], r := .agg [.v (.int .i64 y1.fOrientation), .v (.int .i64 y1.fX), .v (.int .i64 y1.fY)], o1 := [], fl := true, σ := [], τ := [] }, hf_laws_toTransform _ _ hy2, ⟨les_cons (lR _) (les_nil), trivial, rfl, rfl, rfl, rfl, trivial, rfl⟩, ?_⟩
 cbv
 injection h with h
 subst h
 refine ⟨(sparse 24 [(2, .c (.ptr 128 0))] [(128, .var [.v (.int .i64 a0.fCell), .v (.int .i64 y1.fOrientation), .v (.int .i64 y1.fX), .v (.int .i64 y1.fY), .v (.int .i64 a0.fColumns), .v (.int .i64 a0.fRows), .v (.int .i64 a0.fStepX), .v (.int .i64 a0.fStepY)])]), ?_, ?_⟩
 ·exact le_sparse rfl ⟨lR _, trivial⟩ ⟨rfl, trivial⟩ rfl
 ·exact ⟨lR _, trivial, rfl⟩

noncomputable def L_laws_toInstanceS_x7 (a0 : List TInstance) (l1 : List TInstance) : (Int × (List TInstance)) → Option ((Int × (List TInstance)) ⊕ (((List TInstance)))) := fun x7 =>
 letO x7.1 fun v5 =>
 letO x7.2 fun v6 =>
 br (std.lt v5 (std.ofN (len a0)))
 (req (std.inR v5 (len a0)) <|
 (F_laws_toInstance (gd a0 (std.toN v5))).bind fun y20 =>
 req (std.inR v5 (len l1)) <|
 req (len l1 = len v6) <|
 letO (List.set v6 (std.nadd 0 (std.toN v5)) y20) fun l23 =>
 some (.inl (std.add .i64 v5 1, l23)))
 (some (.inr v6))
/-- laws.toInstanceS -/
noncomputable def F_laws_toInstanceS (a0 : List TInstance) : Option (List TInstance) :=
 req (std.nneg (std.ofN (len a0))) <|
 req (std.room (std.toN (std.ofN (len a0))) 64) <|
 letO (List.replicate (std.toN (std.ofN (len a0))) (TInstance.mk 0 (TTransform.mk 0 0 0) 0 0 0 0)) fun l1 =>
 (whileP (σ := Int × (List TInstance)) (ρ := ((List TInstance))) (L_laws_toInstanceS_x7 a0 l1) (0, l1)).bind fun y8 =>
 letO y8 fun y8k0 =>
 letO y8k0 fun w26 =>
 req (len l1 = len w26) <|
 some w26
theorem run_laws_toInstanceS (a0 : List TInstance) (r : List TInstance) (h : F_laws_toInstanceS a0 = some r) : Fun Try.prog 149 [.c (.bs (len a0) 8 (row gd (encInstance) a0))] [] (.c (.os 64000 0 (len r))) [(64000, .arr .rw [] (len r) 8 (row gd (encInstance) r))] true := by
 refine Fun.of_wp (oneOf []) tok mixed Try.func149 (by kernel_rfl) rfl Try.ntmps149 rfl trivial (fun _ => ⟨trivial, ⟨fun i _ j _ => val_flat (vl_encInstance _ _), trivial⟩⟩) ?_
 unfold F_laws_toInstanceS at h
 unfold L_laws_toInstanceS_x7 at h
 have hf_laws_toInstance := @run_laws_toInstance
 generalize hLEN : @len = LEN at *
 generalize hGD : @gd = GD at *
 generalize hA : std = A at *
 generalize hP : Try.prog = P at *
 cbv
 replace h := of_req h
 obtain ⟨c3, h⟩ := h
 replace h := of_req h
 obtain ⟨c4, h⟩ := h
 replace h := of_let h
 obtain ⟨l1, hl1, h⟩ := h
 have e2 : A.toN (A.ofN (LEN a0)) = LEN l1 := by subst hl1 hLEN hA; exact rep_len rfl
 refine And.intro (by first | exact ⟨c3, c4⟩ | exact ⟨rfl, c3, trivial, trivial, trivial, c4⟩ | (refine ⟨?_, ?_, ?_, ?_, ?_, ?_⟩ <;> first | exact c3 | exact c4 | trivial)) ?_
 refine ⟨_, congrArg (fun n => AV.c (AC.os 448 0 n)) e2, _, row GD (encInstance) l1, e2, ?_, ?_⟩
 ·subst hGD hLEN
  exact upd_repL hl1 (by intro j hj; match j, hj with | 0, _ => rfl | 1, _ => rfl | 2, _ => rfl | 3, _ => rfl | 4, _ => rfl | 5, _ => rfl | 6, _ => rfl | 7, _ => rfl | (j_ + 8), h_ => exact absurd h_ (by omega))
 cbv
 replace h := of_bind h
 obtain ⟨y8, hr9, hN10⟩ := h
 refine loop_cut hr9 (fun x => (sparse 23 [(0, .c (.bs (LEN a0) 8 (row GD (encInstance) a0))), (3, .c (.os 448 0 (LEN l1))), (4, .c (.v (.int .i64 x.1)))] [(448, .arr .rw [] (LEN l1) 8 (row GD (encInstance) x.2))])) ?_ (fun y e s => (fun (w : (List TInstance)) => e = .exit 0 ∧ s.le (sparse 23 [(3, .c (.os 448 0 (LEN l1)))] [(448, .arr .rw [] (LEN l1) 8 (row GD (encInstance) w))])) y) ?_ ?_
 ·clear hr9 hN10
  show St.le _ _
  exact le_sparse rfl ⟨lR _, lR _, lR _, trivial⟩ ⟨oS, trivial⟩ rfl
 ·clear hr9 hN10
  intro x z14 h K12 hK13 hY11
  obtain ⟨x0_, x1_⟩ := x
  replace h := of_let h
  obtain ⟨v5, hv5, h⟩ := h
  have hv5 : v5 = x0_ := hv5
  subst hv5
  replace h := of_let h
  obtain ⟨v6, hv6, h⟩ := h
  have hv6 : v6 = x1_ := hv6
  subst hv6
  cbv
  refine fork (fun b25 => ?_) (fun b25 => ?_)
  ·replace h := of_br_t b25 h
   cbv
   replace h := of_req h
   obtain ⟨c19, h⟩ := h
   refine ⟨⟨c19, trivial⟩, ?_⟩
   replace h := of_bind h
   obtain ⟨y20, hy21, h⟩ := h
   refine ⟨{ args := [.agg [.v (.int .i64 (GD a0 (A.toN v5)).fCell), .v (.int .i64 (GD a0 (A.toN v5)).fPlace.fOrientation), .v (.int .i64 (GD a0 (A.toN v5)).fPlace.fX), .v (.int .i64 (GD a0 (A.toN v5)).fPlace.fY), .v (.int .i64 (GD a0 (A.toN v5)).fColumns), .v (.int .i64 (GD a0 (A.toN v5)).fRows), .v (.int .i64 (GD a0 (A.toN v5)).fStepX), .v (.int .i64 (GD a0 (A.toN v5)).fStepY)]], o0 := [], r := .agg [.v (.int .i64 y20.fCell), .v (.int .i64 y20.fPlace.fOrientation), .v (.int .i64 y20.fPlace.fX), .v (.int .i64 y20.fPlace.fY), .v (.int .i64 y20.fColumns), .v (.int .i64 y20.fRows), .v (.int .i64 y20.fStepX), .v (.int .i64 y20.fStepY)], o1 := [], fl := true, σ := [], τ := [] }, hf_laws_toInstance _ _ hy21, ⟨les_cons (lR _) (les_nil), trivial, rfl, rfl, rfl, rfl, trivial, rfl⟩, ?_⟩
   cbv
   replace h := of_req h
   obtain ⟨c22, h⟩ := h
   refine ⟨⟨c22, trivial⟩, ?_⟩
   replace h := of_req h
   obtain ⟨c24, h⟩ := h
   replace h := of_let h
   obtain ⟨l23, hl23, h⟩ := h
   refine And.intro (by first | exact (by subst hA; exact idx_lt c22) | (refine And.intro (by subst hA; exact idx_lt c22) ?_; first | trivial | exact ⟨trivial, trivial⟩)) ?_
   refine ⟨_, rfl, _, row GD (encInstance) l23, rfl, ?_, ?_⟩
   ·subst hGD hLEN hA
    rw [c24] at c22
    refine upd_set hl23 (idx_lt c22) ?_ ?_
    ·intro b hb hh
     match b, hb, hh with | 0, _, hh => exact rfl | 1, _, hh => exact rfl | 2, _, hh => exact rfl | 3, _, hh => exact rfl | 4, _, hh => exact rfl | 5, _, hh => exact rfl | 6, _, hh => exact rfl | 7, _, hh => exact rfl | (b_ + 8), h_, _ => exact absurd h_ (by omega)
    ·intro b hb hh
     match b, hb, hh with | 0, _, hh => exact (absurd (show 0 ≤ 0 ∧ 0 < 0 + 8 from by decide) hh) | 1, _, hh => exact (absurd (show 0 ≤ 1 ∧ 1 < 0 + 8 from by decide) hh) | 2, _, hh => exact (absurd (show 0 ≤ 2 ∧ 2 < 0 + 8 from by decide) hh) | 3, _, hh => exact (absurd (show 0 ≤ 3 ∧ 3 < 0 + 8 from by decide) hh) | 4, _, hh => exact (absurd (show 0 ≤ 4 ∧ 4 < 0 + 8 from by decide) hh) | 5, _, hh => exact (absurd (show 0 ≤ 5 ∧ 5 < 0 + 8 from by decide) hh) | 6, _, hh => exact (absurd (show 0 ≤ 6 ∧ 6 < 0 + 8 from by decide) hh) | 7, _, hh => exact (absurd (show 0 ≤ 7 ∧ 7 < 0 + 8 from by decide) hh) | (b_ + 8), h_, _ => exact absurd h_ (by omega)
   cbv
   injection h with h
   refine hK13 _ h.symm _ ?_
   exact le_sparse rfl ⟨lR _, lR _, lR _, trivial⟩ ⟨oS, trivial⟩ rfl
  ·replace h := of_br_f b25 h
   cbv
   injection h with h
   refine hY11 _ h.symm _ _ (And.intro rfl ?_) (by intro hh; cases hh)
   exact le_sparse rfl ⟨lR _, trivial⟩ ⟨oS, trivial⟩ rfl
 ·clear hr9
  have h := hN10
  clear hN10
  intro e17 s18 q16 hne
  replace h := of_let h
  obtain ⟨y8k0, hyk, h⟩ := h
  have hyk : y8k0 = y8 := hyk
  subst hyk
  obtain ⟨rfl, q16⟩ := q16
  replace h := of_let h
  obtain ⟨w26, hw26, h⟩ := h
  have hw26 : w26 = y8k0 := hw26
  subst hw26
  cbv
  refine ⟨_, q16, ?_⟩
  cbv
  replace h := of_req h
  obtain ⟨c27, h⟩ := h
  injection h with h
  subst h
  refine ⟨(sparse 23 [(2, .c (.os 64000 0 (LEN w26)))] [(64000, .arr .rw [] (LEN w26) 8 (row GD (encInstance) w26))]), ?_, ?_⟩
  ·refine St.le_trans (le_ren 448 64000 (by decide) rfl) ?_
   rw [c27]
   exact le_sparse rfl ⟨lR _, trivial⟩ ⟨oS, trivial⟩ rfl
  ·exact ⟨lR _, ⟨oS, trivial⟩, rfl⟩

/-- laws.toCell -/
noncomputable def F_laws_toCell (a0 : TCell) : Option (TCell) :=
 (F_laws_toShapeS a0.fShapes).bind fun y1 =>
 (F_laws_toLabelS a0.fLabels).bind fun y3 =>
 (F_laws_toInstanceS a0.fInstances).bind fun y5 =>
 some (TCell.mk a0.fName y1 y3 y5)
theorem run_laws_toCell (a0 : TCell) (r : TCell) (h : F_laws_toCell a0 = some r) : Fun Try.prog 97 [.agg [.v (.string a0.fName), .bs (len a0.fShapes) 5 (row gd (encShape) a0.fShapes), .bs (len a0.fLabels) 4 (row gd (encLabel) a0.fLabels), .bs (len a0.fInstances) 8 (row gd (encInstance) a0.fInstances)]] [] (.agg [.v (.string r.fName), .os 64000 0 (len r.fShapes), .os 64002 0 (len r.fLabels), .os 64004 0 (len r.fInstances)]) [(64000, .arr .rw [] (len r.fShapes) 5 (row gd (encShape) r.fShapes)), (64002, .arr .rw [] (len r.fLabels) 4 (row gd (encLabel) r.fLabels)), (64004, .arr .rw [] (len r.fInstances) 8 (row gd (encInstance) r.fInstances))] true := by
 refine Fun.of_wp (oneOf []) tok mixed Try.func97 (by kernel_rfl) rfl Try.ntmps97 rfl trivial (fun _ => ⟨(by simp [AV.flat, AV.flat1, AC.flat]), ⟨fun i _ j _ => val_flat (vl_encShape _ _), fun i _ j _ => val_flat (vl_encLabel _ _), fun i _ j _ => val_flat (vl_encInstance _ _), trivial⟩⟩) ?_
 unfold F_laws_toCell at h
 have hf_laws_toInstanceS := @run_laws_toInstanceS
 have hf_laws_toLabelS := @run_laws_toLabelS
 have hf_laws_toShapeS := @run_laws_toShapeS
 generalize hLEN : @len = LEN at *
 generalize hGD : @gd = GD at *
 generalize hA : std = A at *
 generalize hP : Try.prog = P at *
 cbv
 replace h := of_bind h
 obtain ⟨y1, hy2, h⟩ := h
 refine ⟨{ args := [.c (.bs (LEN a0.fShapes) 5 (row GD (encShape) a0.fShapes))], o0 := [], r := .c (.os 64000 0 (LEN y1)), o1 := [(64000, .arr .rw [] (LEN y1) 5 (row GD (encShape) y1))], fl := true, σ := [], τ := [(64000, 576)] }, hf_laws_toShapeS _ _ hy2, ⟨les_cons (lR _) (les_nil), trivial, rfl, rfl, rfl, rfl, ⟨fun h => absurd (show (64000 : Nat) % 2 = 1 from h) (by decide), trivial⟩, rfl⟩, _, rfl, _, _, rfl, fun _ _ _ _ => rfl, ?_⟩
 cbv
 replace h := of_bind h
 obtain ⟨y3, hy4, h⟩ := h
 refine ⟨{ args := [.c (.bs (LEN a0.fLabels) 4 (row GD (encLabel) a0.fLabels))], o0 := [], r := .c (.os 64000 0 (LEN y3)), o1 := [(64000, .arr .rw [] (LEN y3) 4 (row GD (encLabel) y3))], fl := true, σ := [], τ := [(64000, 832)] }, hf_laws_toLabelS _ _ hy4, ⟨les_cons (lR _) (les_nil), trivial, rfl, rfl, rfl, rfl, ⟨fun h => absurd (show (64000 : Nat) % 2 = 1 from h) (by decide), trivial⟩, rfl⟩, _, rfl, _, _, rfl, fun _ _ _ _ => rfl, ?_⟩
 cbv
 replace h := of_bind h
 obtain ⟨y5, hy6, h⟩ := h
 refine ⟨{ args := [.c (.bs (LEN a0.fInstances) 8 (row GD (encInstance) a0.fInstances))], o0 := [], r := .c (.os 64000 0 (LEN y5)), o1 := [(64000, .arr .rw [] (LEN y5) 8 (row GD (encInstance) y5))], fl := true, σ := [], τ := [(64000, 1088)] }, hf_laws_toInstanceS _ _ hy6, ⟨les_cons (lR _) (les_nil), trivial, rfl, rfl, rfl, rfl, ⟨fun h => absurd (show (64000 : Nat) % 2 = 1 from h) (by decide), trivial⟩, rfl⟩, _, rfl, _, _, rfl, fun _ _ _ _ => rfl, ?_⟩
 cbv
 injection h with h
 subst h
 refine ⟨(sparse 20 [(2, .c (.ptr 128 0))] [(128, .var [.v (.string a0.fName), .os 64000 0 (LEN y1), .os 64002 0 (LEN y3), .os 64004 0 (LEN y5)]), (64000, .arr .rw [] (LEN y1) 5 (row GD (encShape) y1)), (64002, .arr .rw [] (LEN y3) 4 (row GD (encLabel) y3)), (64004, .arr .rw [] (LEN y5) 8 (row GD (encInstance) y5))]), ?_, ?_⟩
 ·refine St.le_trans (le_ren 576 64000 (by decide) rfl) ?_
  refine St.le_trans (le_ren 832 64002 (by decide) rfl) ?_
  refine St.le_trans (le_ren 1088 64004 (by decide) rfl) ?_
  exact le_sparse rfl ⟨lR _, trivial⟩ ⟨rfl, oS, oS, oS, trivial⟩ rfl
 ·exact ⟨lR _, ⟨oS, oS, oS, trivial⟩, rfl⟩
noncomputable def L_laws_toCellS_x14 (a0 : List TCell) (w7 : List TCell) : (Int × (List TCell)) → Option ((Int × (List TCell)) ⊕ (((List TCell)))) := fun x14 =>
 letO x14.1 fun v12 =>
 letO x14.2 fun v13 =>
 br (std.lt v12 (std.ofN (len a0)))
 (((
    req (std.inR v12 (len a0)) <|
    (F_laws_toCell (gd a0 (std.toN v12))).bind fun y34 =>
    req (std.inR v12 (len w7)) <|
    req (len w7 = len v13) <|
    letO (List.set v13 (std.nadd 0 (std.toN v12)) y34) fun l37 =>
    some l37
  ) : Option ((List TCell))).bind fun y26 =>
 letO y26 fun w32 =>
 some (.inl (std.add .i64 v12 1, w32)))
 (some (.inr v13))
/-- laws.toCellS -/
noncomputable def F_laws_toCellS (a0 : List TCell) : Option (List TCell) :=
 ((
    req (std.nneg (std.ofN (len a0))) <|
    req (std.room (std.toN (std.ofN (len a0))) 88) <|
    letO (List.replicate (std.toN (std.ofN (len a0))) (TCell.mk (ByteArray.mk #[]) ([] : List TShape) ([] : List TLabel) ([] : List TInstance))) fun l8 =>
    some l8
  ) : Option ((List TCell))).bind fun y1 =>
 letO y1 fun w7 =>
 (whileP (σ := Int × (List TCell)) (ρ := ((List TCell))) (L_laws_toCellS_x14 a0 w7) (0, w7)).bind fun y15 =>
 letO y15 fun y15k0 =>
 letO y15k0 fun w40 =>
 req (len w7 = len w40) <|
 some w40
theorem run_laws_toCellS (a0 : List TCell) (r : List TCell) (h : F_laws_toCellS a0 = some r) : Fun Try.prog 56 [.c (.bs (len a0) 4 (row gd (encCell len gd) a0))] [] (.c (.os 64000 0 (len r))) [(64000, .arr .rw [] (len r) 4 (row gd (oncCell len gd) r))] true := by
 refine Fun.of_wp (oneOf [1, 5]) tok mixed Try.func56 (by kernel_rfl) rfl Try.ntmps56 rfl trivial (fun _ => ⟨trivial, ⟨fun i _ j _ => fl_oncCell _ _, trivial⟩⟩) ?_
 unfold F_laws_toCellS at h
 unfold L_laws_toCellS_x14 at h
 have hf_laws_toCell := @run_laws_toCell
 generalize hLEN : @len = LEN at *
 generalize hGD : @gd = GD at *
 generalize hA : std = A at *
 generalize hP : Try.prog = P at *
 cbv
 replace h := of_bind h
 obtain ⟨y1, hy2, h⟩ := h
 obtain ⟨S5, hS6⟩ : ∃ S, S = (sparse 23 [(0, .c (.bs (LEN a0) 4 (row GD (encCell LEN GD) a0))), (3, .c (.os 448 0 (LEN y1)))] [(448, .arr .rw [] (LEN y1) 4 (row GD (oncCell LEN GD) y1))]) := ⟨_, rfl⟩
 refine ⟨S5, ?_, ?_⟩
 ·clear h
  have h := hy2
  clear hy2
  cbv
  replace h := of_req h
  obtain ⟨c10, h⟩ := h
  replace h := of_req h
  obtain ⟨c11, h⟩ := h
  replace h := of_let h
  obtain ⟨l8, hl8, h⟩ := h
  have e9 : A.toN (A.ofN (LEN a0)) = LEN l8 := by subst hl8 hLEN hA; exact rep_len rfl
  refine And.intro (by first | exact ⟨c10, c11⟩ | exact ⟨rfl, c10, trivial, trivial, trivial, c11⟩ | (refine ⟨?_, ?_, ?_, ?_, ?_, ?_⟩ <;> first | exact c10 | exact c11 | trivial)) ?_
  refine ⟨_, congrArg (fun n => AV.c (AC.os 448 0 n)) e9, _, (fun _ j => ([.v (.string (ByteArray.mk #[])), .v (.slice none 0 0), .v (.slice none 0 0), .v (.slice none 0 0)] : List AC).getD j .junk), e9, ?_, ?_⟩
  ·intro i hi j hj
   match j, hj with | 0, _ => rfl | 1, _ => rfl | 2, _ => rfl | 3, _ => rfl | (j_ + 4), h_ => exact absurd h_ (by omega)
  cbv
  injection h with h
  subst h
  subst hS6
  show St.le _ _
  refine St.le_trans (le_nilG (get' := (fun _ j => ([.v (.string (ByteArray.mk #[])), .ow (LEN ([] : List TShape)) 5 (row GD (encShape) ([] : List TShape)), .ow (LEN ([] : List TLabel)) 4 (row GD (encLabel) ([] : List TLabel)), .ow (LEN ([] : List TInstance)) 8 (row GD (encInstance) ([] : List TInstance))] : List AC).getD j .junk)) 448 rfl ?_) ?_
  ·subst hLEN
   intro i _ j hj
   match j, hj with | 0, _ => exact (.inl rfl) | 1, _ => exact (.inr ⟨rfl, _, _, rfl⟩) | 2, _ => exact (.inr ⟨rfl, _, _, rfl⟩) | 3, _ => exact (.inr ⟨rfl, _, _, rfl⟩) | (j_ + 4), h_ => exact absurd h_ (by omega)
  exact le_sparse rfl ⟨lR _, lR _, trivial⟩ ⟨⟨fun hw => hw, fun c hc => (by cases hc), .inr (fun i _ j _ z hz => (noref (rf_oncCell _ _) hz).elim), rfl, rfl, (by subst hGD hLEN hA; exact upd_repL hl8 (g := fun j => _) (by intro j hj; match j, hj with | 0, _ => rfl | 1, _ => rfl | 2, _ => rfl | 3, _ => rfl | (j_ + 4), h_ => exact absurd h_ (by omega)))⟩, trivial⟩ rfl
 ·clear hy2
  subst hS6
  replace h := of_let h
  obtain ⟨w7, hw7, h⟩ := h
  have hw7 : w7 = y1 := hw7
  subst hw7
  cbv
  replace h := of_bind h
  obtain ⟨y15, hr16, hN17⟩ := h
  refine loop_cut hr16 (fun x => (sparse 23 [(0, .c (.bs (LEN a0) 4 (row GD (encCell LEN GD) a0))), (3, .c (.os 448 0 (LEN w7))), (4, .c (.v (.int .i64 x.1)))] [(448, .arr .rw [] (LEN w7) 4 (row GD (oncCell LEN GD) x.2))])) ?_ (fun y e s => (fun (w : (List TCell)) => e = .exit 0 ∧ s.le (sparse 23 [(3, .c (.os 448 0 (LEN w7)))] [(448, .arr .rw [] (LEN w7) 4 (row GD (oncCell LEN GD) w))])) y) ?_ ?_
  ·clear hr16 hN17
   show St.le _ _
   exact le_sparse rfl ⟨lR _, lR _, lR _, trivial⟩ ⟨oS, trivial⟩ rfl
  ·clear hr16 hN17
   intro x z21 h K19 hK20 hY18
   obtain ⟨x0_, x1_⟩ := x
   replace h := of_let h
   obtain ⟨v12, hv12, h⟩ := h
   have hv12 : v12 = x0_ := hv12
   subst hv12
   replace h := of_let h
   obtain ⟨v13, hv13, h⟩ := h
   have hv13 : v13 = x1_ := hv13
   subst hv13
   cbv
   refine fork (fun b39 => ?_) (fun b39 => ?_)
   ·replace h := of_br_t b39 h
    cbv
    replace h := of_bind h
    obtain ⟨y26, hy27, h⟩ := h
    obtain ⟨S30, hS31⟩ : ∃ S, S = (sparse 23 [(0, .c (.bs (LEN a0) 4 (row GD (encCell LEN GD) a0))), (3, .c (.os 448 0 (LEN w7))), (4, .c (.v (.int .i64 v12)))] [(448, .arr .rw [] (LEN w7) 4 (row GD (oncCell LEN GD) y26))]) := ⟨_, rfl⟩
    refine ⟨S30, ?_, ?_⟩
    ·clear h
     have h := hy27
     clear hy27
     cbv
     replace h := of_req h
     obtain ⟨c33, h⟩ := h
     refine ⟨⟨c33, trivial⟩, ?_⟩
     replace h := of_bind h
     obtain ⟨y34, hy35, h⟩ := h
     refine ⟨{ args := [.agg [.v (.string (GD a0 (A.toN v12)).fName), .bs (LEN (GD a0 (A.toN v12)).fShapes) 5 (row GD (encShape) (GD a0 (A.toN v12)).fShapes), .bs (LEN (GD a0 (A.toN v12)).fLabels) 4 (row GD (encLabel) (GD a0 (A.toN v12)).fLabels), .bs (LEN (GD a0 (A.toN v12)).fInstances) 8 (row GD (encInstance) (GD a0 (A.toN v12)).fInstances)]], o0 := [], r := .agg [.v (.string y34.fName), .os 64000 0 (LEN y34.fShapes), .os 64002 0 (LEN y34.fLabels), .os 64004 0 (LEN y34.fInstances)], o1 := [(64000, .arr .rw [] (LEN y34.fShapes) 5 (row GD (encShape) y34.fShapes)), (64002, .arr .rw [] (LEN y34.fLabels) 4 (row GD (encLabel) y34.fLabels)), (64004, .arr .rw [] (LEN y34.fInstances) 8 (row GD (encInstance) y34.fInstances))], fl := true, σ := [], τ := [(64000, 1280), (64002, 1282), (64004, 1284)] }, hf_laws_toCell _ _ hy35, ⟨les_cons (lR _) (les_nil), trivial, rfl, rfl, rfl, rfl, ⟨fun h => absurd (show (64000 : Nat) % 2 = 1 from h) (by decide), fun h => absurd (show (64002 : Nat) % 2 = 1 from h) (by decide), fun h => absurd (show (64004 : Nat) % 2 = 1 from h) (by decide), trivial⟩, rfl⟩, _, rfl, _, _, rfl, fun _ _ _ _ => rfl, _, _, rfl, fun _ _ _ _ => rfl, _, _, rfl, fun _ _ _ _ => rfl, ?_⟩
     cbv
     replace h := of_req h
     obtain ⟨c36, h⟩ := h
     refine ⟨⟨c36, trivial⟩, ?_⟩
     refine And.intro (by first | exact (by subst hA; exact idx_lt c36) | (refine And.intro (by subst hA; exact idx_lt c36) ?_; first | trivial | exact ⟨trivial, trivial⟩)) ?_
     refine ⟨_, rfl, _, (patchC (row GD (oncCell LEN GD) v13) (A.nadd 0 (A.toN v12)) [.v (.string y34.fName), .os 1280 0 (LEN y34.fShapes), .os 1282 0 (LEN y34.fLabels), .os 1284 0 (LEN y34.fInstances)]), rfl, ?_, ?_⟩
     ·refine patch_of ?_
      intro j hj
      match j, hj with | 0, _ => (rfl) | 1, _ => (rfl) | 2, _ => (rfl) | 3, _ => (rfl) | (j_ + 4), h_ => exact absurd h_ (by omega)
     cbv
     replace h := of_req h
     obtain ⟨c38, h⟩ := h
     replace h := of_let h
     obtain ⟨l37, hl37, h⟩ := h
     injection h with h
     subst h
     subst hS31
     show St.le _ _
     refine St.le_trans (le_foldP 448 1 1280 rfl rfl rfl (by decide) (by subst hA; exact idx_lt c36) (by decide) rfl (fun _ _ => rf_oncCell _ _)) ?_
     refine St.le_trans (le_foldP 448 2 1282 rfl rfl rfl (by decide) (by subst hA; exact idx_lt c36) (by decide) rfl (fun _ _ => rf_oncCell _ _)) ?_
     refine St.le_trans (le_foldP 448 3 1284 rfl rfl rfl (by decide) (by subst hA; exact idx_lt c36) (by decide) rfl (fun _ _ => rf_oncCell _ _)) ?_
     exact le_sparse rfl ⟨lR _, lR _, lR _, trivial⟩ ⟨⟨fun hw => hw, fun c hc => (by cases hc), .inr (fun i _ j _ z hz => (noref (rf_oncCell _ _) hz).elim), rfl, rfl, (by subst hGD hLEN hA; exact patch_set hl37 (idx_lt (by rw [← c38]; exact c36)) (by intro j hj; match j, hj with | 0, _ => rfl | 1, _ => rfl | 2, _ => rfl | 3, _ => rfl | (j_ + 4), h_ => exact absurd h_ (by omega)))⟩, trivial⟩ rfl
    ·clear hy27
     subst hS31
     replace h := of_let h
     obtain ⟨w32, hw32, h⟩ := h
     have hw32 : w32 = y26 := hw32
     subst hw32
     cbv
     injection h with h
     refine hK20 _ h.symm _ ?_
     exact le_sparse rfl ⟨lR _, lR _, lR _, trivial⟩ ⟨oS, trivial⟩ rfl
   ·replace h := of_br_f b39 h
    cbv
    injection h with h
    refine hY18 _ h.symm _ _ (And.intro rfl ?_) (by intro hh; cases hh)
    exact le_sparse rfl ⟨lR _, trivial⟩ ⟨oS, trivial⟩ rfl
  ·clear hr16
   have h := hN17
   clear hN17
   intro e24 s25 q23 hne
   replace h := of_let h
   obtain ⟨y15k0, hyk, h⟩ := h
   have hyk : y15k0 = y15 := hyk
   subst hyk
   obtain ⟨rfl, q23⟩ := q23
   replace h := of_let h
   obtain ⟨w40, hw40, h⟩ := h
   have hw40 : w40 = y15k0 := hw40
   subst hw40
   cbv
   refine ⟨_, q23, ?_⟩
   cbv
   replace h := of_req h
   obtain ⟨c41, h⟩ := h
   injection h with h
   subst h
   refine ⟨(sparse 23 [(2, .c (.os 64000 0 (LEN w40)))] [(64000, .arr .rw [] (LEN w40) 4 (row GD (oncCell LEN GD) w40))]), ?_, ?_⟩
   ·refine St.le_trans (le_ren 448 64000 (by decide) rfl) ?_
    rw [c41]
    exact le_sparse rfl ⟨lR _, trivial⟩ ⟨oS, trivial⟩ rfl
   ·exact ⟨lR _, ⟨oS, trivial⟩, rfl⟩

/-- laws.toLibrary -/
noncomputable def F_laws_toLibrary (a0 : TLibrary) : Option (TLibrary) :=
 (F_laws_toCellS a0.fCells).bind fun y1 =>
 some (TLibrary.mk y1)
theorem run_laws_toLibrary (a0 : TLibrary) (r : TLibrary) (h : F_laws_toLibrary a0 = some r) : Fun Try.prog 19 [.agg [.bs (len a0.fCells) 4 (row gd (encCell len gd) a0.fCells)]] [] (.agg [.os 64000 0 (len r.fCells)]) [(64000, .arr .rw [] (len r.fCells) 4 (row gd (oncCell len gd) r.fCells))] true := by
 refine Fun.of_wp (oneOf []) tok mixed Try.func19 (by kernel_rfl) rfl Try.ntmps19 rfl trivial (fun _ => ⟨(by simp [AV.flat, AV.flat1, AC.flat]), ⟨fun i _ j _ => fl_oncCell _ _, trivial⟩⟩) ?_
 unfold F_laws_toLibrary at h
 have hf_laws_toCellS := @run_laws_toCellS
 generalize hLEN : @len = LEN at *
 generalize hGD : @gd = GD at *
 generalize hA : std = A at *
 generalize hP : Try.prog = P at *
 cbv
 replace h := of_bind h
 obtain ⟨y1, hy2, h⟩ := h
 refine ⟨{ args := [.c (.bs (LEN a0.fCells) 4 (row GD (encCell LEN GD) a0.fCells))], o0 := [], r := .c (.os 64000 0 (LEN y1)), o1 := [(64000, .arr .rw [] (LEN y1) 4 (row GD (oncCell LEN GD) y1))], fl := true, σ := [], τ := [(64000, 384)] }, hf_laws_toCellS _ _ hy2, ⟨les_cons (lR _) (les_nil), trivial, rfl, rfl, rfl, rfl, ⟨fun h => absurd (show (64000 : Nat) % 2 = 1 from h) (by decide), trivial⟩, rfl⟩, _, rfl, _, _, rfl, fun _ _ _ _ => rfl, ?_⟩
 cbv
 injection h with h
 subst h
 refine ⟨(sparse 9 [(2, .c (.ptr 128 0))] [(128, .var [.os 64000 0 (LEN y1)]), (64000, .arr .rw [] (LEN y1) 4 (row GD (oncCell LEN GD) y1))]), ?_, ?_⟩
 ·refine St.le_trans (le_ren 384 64000 (by decide) rfl) ?_
  exact le_sparse rfl ⟨lR _, trivial⟩ ⟨rfl, oS, trivial⟩ rfl
 ·exact ⟨lR _, ⟨oS, trivial⟩, rfl⟩

/-- laws.toEdit -/
noncomputable def F_laws_toEdit (a0 : TEdit) : Option (TEdit) :=
 (F_laws_toShape a0.fShape).bind fun y1 =>
 (F_laws_toLabel a0.fLabel).bind fun y3 =>
 (F_laws_toInstance a0.fInstance).bind fun y5 =>
 some (TEdit.mk a0.fKind a0.fCell a0.fIndex a0.fName y1 y3 y5)
theorem run_laws_toEdit (a0 : TEdit) (r : TEdit) (h : F_laws_toEdit a0 = some r) : Fun Try.prog 35 [.agg [.v (.int .i64 a0.fKind), .v (.int .i64 a0.fCell), .v (.int .i64 a0.fIndex), .v (.string a0.fName), .v (.int .i64 a0.fShape.fLayer), .v (.int .i64 a0.fShape.fBox.fX0), .v (.int .i64 a0.fShape.fBox.fY0), .v (.int .i64 a0.fShape.fBox.fX1), .v (.int .i64 a0.fShape.fBox.fY1), .v (.int .i64 a0.fLabel.fLayer), .v (.int .i64 a0.fLabel.fAt.fX), .v (.int .i64 a0.fLabel.fAt.fY), .v (.string a0.fLabel.fName), .v (.int .i64 a0.fInstance.fCell), .v (.int .i64 a0.fInstance.fPlace.fOrientation), .v (.int .i64 a0.fInstance.fPlace.fX), .v (.int .i64 a0.fInstance.fPlace.fY), .v (.int .i64 a0.fInstance.fColumns), .v (.int .i64 a0.fInstance.fRows), .v (.int .i64 a0.fInstance.fStepX), .v (.int .i64 a0.fInstance.fStepY)]] [] (.agg [.v (.int .i64 r.fKind), .v (.int .i64 r.fCell), .v (.int .i64 r.fIndex), .v (.string r.fName), .v (.int .i64 r.fShape.fLayer), .v (.int .i64 r.fShape.fBox.fX0), .v (.int .i64 r.fShape.fBox.fY0), .v (.int .i64 r.fShape.fBox.fX1), .v (.int .i64 r.fShape.fBox.fY1), .v (.int .i64 r.fLabel.fLayer), .v (.int .i64 r.fLabel.fAt.fX), .v (.int .i64 r.fLabel.fAt.fY), .v (.string r.fLabel.fName), .v (.int .i64 r.fInstance.fCell), .v (.int .i64 r.fInstance.fPlace.fOrientation), .v (.int .i64 r.fInstance.fPlace.fX), .v (.int .i64 r.fInstance.fPlace.fY), .v (.int .i64 r.fInstance.fColumns), .v (.int .i64 r.fInstance.fRows), .v (.int .i64 r.fInstance.fStepX), .v (.int .i64 r.fInstance.fStepY)]) [] true := by
 refine Fun.of_wp (oneOf []) tok mixed Try.func35 (by kernel_rfl) rfl Try.ntmps35 rfl trivial (fun _ => ⟨(by simp [AV.flat, AV.flat1, AC.flat]), trivial⟩) ?_
 unfold F_laws_toEdit at h
 have hf_laws_toInstance := @run_laws_toInstance
 have hf_laws_toLabel := @run_laws_toLabel
 have hf_laws_toShape := @run_laws_toShape
 generalize hLEN : @len = LEN at *
 generalize hGD : @gd = GD at *
 generalize hA : std = A at *
 generalize hP : Try.prog = P at *
 cbv
 replace h := of_bind h
 obtain ⟨y1, hy2, h⟩ := h
 refine ⟨{ args := [.agg [.v (.int .i64 a0.fShape.fLayer), .v (.int .i64 a0.fShape.fBox.fX0), .v (.int .i64 a0.fShape.fBox.fY0), .v (.int .i64 a0.fShape.fBox.fX1), .v (.int .i64 a0.fShape.fBox.fY1)]], o0 := [], r := .agg [.v (.int .i64 y1.fLayer), .v (.int .i64 y1.fBox.fX0), .v (.int .i64 y1.fBox.fY0), .v (.int .i64 y1.fBox.fX1), .v (.int .i64 y1.fBox.fY1)], o1 := [], fl := true, σ := [], τ := [] }, hf_laws_toShape _ _ hy2, ⟨les_cons (lR _) (les_nil), trivial, rfl, rfl, rfl, rfl, trivial, rfl⟩, ?_⟩
 cbv
 replace h := of_bind h
 obtain ⟨y3, hy4, h⟩ := h
 refine ⟨{ args := [.agg [.v (.int .i64 a0.fLabel.fLayer), .v (.int .i64 a0.fLabel.fAt.fX), .v (.int .i64 a0.fLabel.fAt.fY), .v (.string a0.fLabel.fName)]], o0 := [], r := .agg [.v (.int .i64 y3.fLayer), .v (.int .i64 y3.fAt.fX), .v (.int .i64 y3.fAt.fY), .v (.string y3.fName)], o1 := [], fl := true, σ := [], τ := [] }, hf_laws_toLabel _ _ hy4, ⟨les_cons (lR _) (les_nil), trivial, rfl, rfl, rfl, rfl, trivial, rfl⟩, ?_⟩
 cbv
 replace h := of_bind h
 obtain ⟨y5, hy6, h⟩ := h
 refine ⟨{ args := [.agg [.v (.int .i64 a0.fInstance.fCell), .v (.int .i64 a0.fInstance.fPlace.fOrientation), .v (.int .i64 a0.fInstance.fPlace.fX), .v (.int .i64 a0.fInstance.fPlace.fY), .v (.int .i64 a0.fInstance.fColumns), .v (.int .i64 a0.fInstance.fRows), .v (.int .i64 a0.fInstance.fStepX), .v (.int .i64 a0.fInstance.fStepY)]], o0 := [], r := .agg [.v (.int .i64 y5.fCell), .v (.int .i64 y5.fPlace.fOrientation), .v (.int .i64 y5.fPlace.fX), .v (.int .i64 y5.fPlace.fY), .v (.int .i64 y5.fColumns), .v (.int .i64 y5.fRows), .v (.int .i64 y5.fStepX), .v (.int .i64 y5.fStepY)], o1 := [], fl := true, σ := [], τ := [] }, hf_laws_toInstance _ _ hy6, ⟨les_cons (lR _) (les_nil), trivial, rfl, rfl, rfl, rfl, trivial, rfl⟩, ?_⟩
 cbv
 injection h with h
 subst h
 refine ⟨(sparse 29 [(2, .c (.ptr 128 0))] [(128, .var [.v (.int .i64 a0.fKind), .v (.int .i64 a0.fCell), .v (.int .i64 a0.fIndex), .v (.string a0.fName), .v (.int .i64 y1.fLayer), .v (.int .i64 y1.fBox.fX0), .v (.int .i64 y1.fBox.fY0), .v (.int .i64 y1.fBox.fX1), .v (.int .i64 y1.fBox.fY1), .v (.int .i64 y3.fLayer), .v (.int .i64 y3.fAt.fX), .v (.int .i64 y3.fAt.fY), .v (.string y3.fName), .v (.int .i64 y5.fCell), .v (.int .i64 y5.fPlace.fOrientation), .v (.int .i64 y5.fPlace.fX), .v (.int .i64 y5.fPlace.fY), .v (.int .i64 y5.fColumns), .v (.int .i64 y5.fRows), .v (.int .i64 y5.fStepX), .v (.int .i64 y5.fStepY)])]), ?_, ?_⟩
 ·exact le_sparse rfl ⟨lR _, trivial⟩ ⟨rfl, trivial⟩ rfl
 ·exact ⟨lR _, trivial, rfl⟩

noncomputable def L_spec_IsName_x2 (a0 : ByteArray) : (Int) → Option ((Int) ⊕ ((Unit) ⊕ (Unit))) := fun x2 =>
 letO x2 fun v1 =>
 br (std.lt v1 (std.ofN (std.slen a0)))
 (((
    req (std.inR v1 (std.slen a0)) <|
    br (std.le 97 (std.sat a0 (std.toN v1)))
    (req (std.inR v1 (std.slen a0)) <|
    br (std.le (std.sat a0 (std.toN v1)) 122)
    (some false)
    (req (std.inR v1 (std.slen a0)) <|
    br (std.le 48 (std.sat a0 (std.toN v1)))
    (req (std.inR v1 (std.slen a0)) <|
    some (!(std.le (std.sat a0 (std.toN v1)) 57)))
    (some true)))
    (req (std.inR v1 (std.slen a0)) <|
    br (std.le 48 (std.sat a0 (std.toN v1)))
    (req (std.inR v1 (std.slen a0)) <|
    some (!(std.le (std.sat a0 (std.toN v1)) 57)))
    (some true))
  ) : Option (Bool)).bind fun y14 =>
 letO y14 fun w20 =>
 br w20
 (some (.inr (.inl ())))
 (some (.inl (std.add .i64 v1 1))))
 (some (.inr (.inr ())))
/-- spec.IsName -/
noncomputable def F_spec_IsName (a0 : ByteArray) : Option (Bool) :=
 (whileP (σ := Int) (ρ := (Unit) ⊕ (Unit)) (L_spec_IsName_x2 a0) 0).bind fun y3 =>
 (match y3 with
  | .inl y3k0 => (
    some false)
  | .inr y3m0 =>
    ((
       br (std.le 1 (std.ofN (std.slen a0)))
       (some (std.le (std.ofN (std.slen a0)) 8))
       (some false)
     ) : Option (Bool)).bind fun y33 =>
    letO y33 fun w39 =>
    some w39)
theorem run_spec_IsName (a0 : ByteArray) (r : Bool) (h : F_spec_IsName a0 = some r) : Fun Try.prog 156 [.c (.v (.string a0))] [] (.c (.v (.bool r))) [] true := by
 refine Fun.of_wp (oneOf [4, 6]) tok mixed Try.func156 (by kernel_rfl) rfl Try.ntmps156 rfl trivial (fun _ => ⟨trivial, trivial⟩) ?_
 unfold F_spec_IsName at h
 unfold L_spec_IsName_x2 at h
 generalize hLEN : @len = LEN at *
 generalize hGD : @gd = GD at *
 generalize hA : std = A at *
 generalize hP : Try.prog = P at *
 cbv
 replace h := of_bind h
 obtain ⟨y3, hr4, hN5⟩ := h
 refine loop_cut hr4 (fun x => (sparse 41 [(0, .c (.v (.string a0))), (3, .c (.v (.int .i64 x)))] [])) ?_ (fun y e s => (match y with | .inl w => e = .ret ∧ s.le (sparse 41 [(2, .c (.v (.bool false)))] []) | .inr w0 => (fun (w : Unit) => e = .exit 0 ∧ s.le (sparse 41 [(0, .c (.v (.string a0)))] [])) w0)) ?_ ?_
 ·clear hr4 hN5
  show St.le _ _
  exact le_sparse rfl ⟨lR _, lR _, trivial⟩ trivial rfl
 ·clear hr4 hN5
  intro x z9 h K7 hK8 hY6
  replace h := of_let h
  obtain ⟨v1, hv1, h⟩ := h
  have hv1 : v1 = x := hv1
  subst hv1
  cbv
  refine fork (fun b32 => ?_) (fun b32 => ?_)
  ·replace h := of_br_t b32 h
   cbv
   replace h := of_bind h
   obtain ⟨y14, hy15, h⟩ := h
   obtain ⟨S18, hS19⟩ : ∃ S, S = (sparse 41 [(0, .c (.v (.string a0))), (3, .c (.v (.int .i64 v1))), (32, .c (.v (.bool y14)))] []) := ⟨_, rfl⟩
   refine ⟨S18, ?_, ?_⟩
   ·clear h
    have h := hy15
    clear hy15
    cbv
    replace h := of_req h
    obtain ⟨c21, h⟩ := h
    refine ⟨c21, ?_⟩
    refine fork (fun b30 => ?_) (fun b30 => ?_)
    ·replace h := of_br_t b30 h
     cbv
     replace h := of_req h
     obtain ⟨c22, h⟩ := h
     refine ⟨c22, ?_⟩
     refine fork (fun b26 => ?_) (fun b26 => ?_)
     ·replace h := of_br_t b26 h
      cbv
      injection h with h
      subst h
      subst hS19
      show St.le _ _
      exact le_sparse rfl ⟨lR _, lR _, lR _, trivial⟩ trivial rfl
     ·replace h := of_br_f b26 h
      cbv
      replace h := of_req h
      obtain ⟨c23, h⟩ := h
      refine ⟨c23, ?_⟩
      refine fork (fun b25 => ?_) (fun b25 => ?_)
      ·replace h := of_br_t b25 h
       cbv
       replace h := of_req h
       obtain ⟨c24, h⟩ := h
       refine ⟨c24, ?_⟩
       injection h with h
       subst h
       subst hS19
       show St.le _ _
       exact le_sparse rfl ⟨lR _, lR _, lR _, trivial⟩ trivial rfl
      ·replace h := of_br_f b25 h
       cbv
       injection h with h
       subst h
       subst hS19
       show St.le _ _
       exact le_sparse rfl ⟨lR _, lR _, lR _, trivial⟩ trivial rfl
    ·replace h := of_br_f b30 h
     cbv
     replace h := of_req h
     obtain ⟨c27, h⟩ := h
     refine ⟨c27, ?_⟩
     refine fork (fun b29 => ?_) (fun b29 => ?_)
     ·replace h := of_br_t b29 h
      cbv
      replace h := of_req h
      obtain ⟨c28, h⟩ := h
      refine ⟨c28, ?_⟩
      injection h with h
      subst h
      subst hS19
      show St.le _ _
      exact le_sparse rfl ⟨lR _, lR _, lR _, trivial⟩ trivial rfl
     ·replace h := of_br_f b29 h
      cbv
      injection h with h
      subst h
      subst hS19
      show St.le _ _
      exact le_sparse rfl ⟨lR _, lR _, lR _, trivial⟩ trivial rfl
   ·clear hy15
    subst hS19
    replace h := of_let h
    obtain ⟨w20, hw20, h⟩ := h
    have hw20 : w20 = y14 := hw20
    subst hw20
    cbv
    refine fork (fun b31 => ?_) (fun b31 => ?_)
    ·replace h := of_br_t b31 h
     cbv
     injection h with h
     refine hY6 _ h.symm _ _ (And.intro rfl ?_) (by intro hh; cases hh)
     exact le_sparse rfl ⟨lR _, trivial⟩ trivial rfl
    ·replace h := of_br_f b31 h
     cbv
     injection h with h
     refine hK8 _ h.symm _ ?_
     exact le_sparse rfl ⟨lR _, lR _, trivial⟩ trivial rfl
  ·replace h := of_br_f b32 h
   cbv
   injection h with h
   refine hY6 _ h.symm _ _ (And.intro rfl ?_) (by intro hh; cases hh)
   exact le_sparse rfl ⟨lR _, trivial⟩ trivial rfl
 ·clear hr4
  have h := hN5
  clear hN5
  intro e12 s13 q11 hne
  rcases y3 with y3k0 | y3m0
  ·replace h := h
   obtain ⟨rfl, q11⟩ := q11
   cbv
   injection h with h
   subst h
   refine ⟨(sparse 41 [(2, .c (.v (.bool false)))] []), ?_, ?_⟩
   ·refine St.le_trans q11 ?_
    exact le_sparse rfl ⟨lR _, trivial⟩ trivial rfl
   ·exact ⟨lR _, trivial, rfl⟩
  ·obtain ⟨rfl, q11⟩ := q11
   cbv
   refine ⟨_, q11, ?_⟩
   cbv
   replace h := of_bind h
   obtain ⟨y33, hy34, h⟩ := h
   obtain ⟨S37, hS38⟩ : ∃ S, S = (sparse 41 [(2, .c (.v (.bool y33)))] []) := ⟨_, rfl⟩
   refine ⟨S37, ?_, ?_⟩
   ·clear h
    have h := hy34
    clear hy34
    cbv
    refine fork (fun b40 => ?_) (fun b40 => ?_)
    ·replace h := of_br_t b40 h
     cbv
     injection h with h
     subst h
     subst hS38
     show St.le _ _
     exact le_sparse rfl ⟨lR _, trivial⟩ trivial rfl
    ·replace h := of_br_f b40 h
     cbv
     injection h with h
     subst h
     subst hS38
     show St.le _ _
     exact le_sparse rfl ⟨lR _, trivial⟩ trivial rfl
   ·clear hy34
    subst hS38
    replace h := of_let h
    obtain ⟨w39, hw39, h⟩ := h
    have hw39 : w39 = y33 := hw39
    subst hw39
    cbv
    injection h with h
    subst h
    refine ⟨(sparse 41 [(2, .c (.v (.bool w39)))] []), ?_, ?_⟩
    ·exact le_sparse rfl ⟨lR _, trivial⟩ trivial rfl
    ·exact ⟨lR _, trivial, rfl⟩

/-- spec.l09In -/
noncomputable def F_spec_l09In (a0 : Int) (a1 : Int) (a2 : Int) : Option (Bool) :=
 ((
    br (std.le a1 a0)
    (some (std.le a0 a2))
    (some false)
  ) : Option (Bool)).bind fun y1 =>
 letO y1 fun w7 =>
 some w7
theorem run_spec_l09In (a0 : Int) (a1 : Int) (a2 : Int) (r : Bool) (h : F_spec_l09In a0 a1 a2 = some r) : Fun Try.prog 59 [.c (.v (.int .i64 a0)), .c (.v (.int .i64 a1)), .c (.v (.int .i64 a2))] [] (.c (.v (.bool r))) [] true := by
 refine Fun.of_wp (oneOf [1]) tok mixed Try.func59 (by kernel_rfl) rfl Try.ntmps59 rfl trivial (fun _ => ⟨trivial, trivial⟩) ?_
 unfold F_spec_l09In at h
 generalize hLEN : @len = LEN at *
 generalize hGD : @gd = GD at *
 generalize hA : std = A at *
 generalize hP : Try.prog = P at *
 cbv
 replace h := of_bind h
 obtain ⟨y1, hy2, h⟩ := h
 obtain ⟨S5, hS6⟩ : ∃ S, S = (sparse 15 [(6, .c (.v (.bool y1)))] []) := ⟨_, rfl⟩
 refine ⟨S5, ?_, ?_⟩
 ·clear h
  have h := hy2
  clear hy2
  cbv
  refine fork (fun b8 => ?_) (fun b8 => ?_)
  ·replace h := of_br_t b8 h
   cbv
   injection h with h
   subst h
   subst hS6
   show St.le _ _
   exact le_sparse rfl ⟨lR _, trivial⟩ trivial rfl
  ·replace h := of_br_f b8 h
   cbv
   injection h with h
   subst h
   subst hS6
   show St.le _ _
   exact le_sparse rfl ⟨lR _, trivial⟩ trivial rfl
 ·clear hy2
  subst hS6
  replace h := of_let h
  obtain ⟨w7, hw7, h⟩ := h
  have hw7 : w7 = y1 := hw7
  subst hw7
  cbv
  injection h with h
  subst h
  refine ⟨(sparse 15 [(6, .c (.v (.bool w7)))] []), ?_, ?_⟩
  ·exact le_sparse rfl ⟨lR _, trivial⟩ trivial rfl
  ·exact ⟨lR _, trivial, rfl⟩

/-- spec.l09Layer -/
noncomputable def F_spec_l09Layer (a0 : Int) : Option (Bool) :=
 (F_spec_l09In a0 0 7).bind fun y1 =>
 some y1
theorem run_spec_l09Layer (a0 : Int) (r : Bool) (h : F_spec_l09Layer a0 = some r) : Fun Try.prog 208 [.c (.v (.int .i64 a0))] [] (.c (.v (.bool r))) [] true := by
 refine Fun.of_wp (oneOf []) tok mixed Try.func208 (by kernel_rfl) rfl Try.ntmps208 rfl trivial (fun _ => ⟨trivial, trivial⟩) ?_
 unfold F_spec_l09Layer at h
 have hf_spec_l09In := @run_spec_l09In
 generalize hLEN : @len = LEN at *
 generalize hGD : @gd = GD at *
 generalize hA : std = A at *
 generalize hP : Try.prog = P at *
 cbv
 replace h := of_bind h
 obtain ⟨y1, hy2, h⟩ := h
 refine ⟨{ args := [.c (.v (.int .i64 a0)), .c (.v (.int .i64 0)), .c (.v (.int .i64 7))], o0 := [], r := .c (.v (.bool y1)), o1 := [], fl := true, σ := [], τ := [] }, hf_spec_l09In _ _ _ _ hy2, ⟨les_cons (lR _) (les_cons (lR _) (les_cons (lR _) (les_nil))), trivial, rfl, rfl, rfl, rfl, trivial, rfl⟩, ?_⟩
 cbv
 injection h with h
 subst h
 refine ⟨(sparse 5 [(2, .c (.v (.bool y1)))] []), ?_, ?_⟩
 ·exact le_sparse rfl ⟨lR _, trivial⟩ trivial rfl
 ·exact ⟨lR _, trivial, rfl⟩
/-- spec.l09Rect -/
noncomputable def F_spec_l09Rect (a0 : TRect) : Option (Bool) :=
 ((
    br (std.le (-40) a0.fX0)
    (br (std.lt a0.fX0 a0.fX1)
    (br (std.le a0.fX1 40)
    (br (std.le (-40) a0.fY0)
    (br (std.lt a0.fY0 a0.fY1)
    (some (std.le a0.fY1 40))
    (some false))
    (some false))
    (some false))
    (some false))
    (some false)
  ) : Option (Bool)).bind fun y1 =>
 letO y1 fun w7 =>
 some w7
theorem run_spec_l09Rect (a0 : TRect) (r : Bool) (h : F_spec_l09Rect a0 = some r) : Fun Try.prog 63 [.agg [.v (.int .i64 a0.fX0), .v (.int .i64 a0.fY0), .v (.int .i64 a0.fX1), .v (.int .i64 a0.fY1)]] [] (.c (.v (.bool r))) [] true := by
 refine Fun.of_wp (oneOf [1]) tok mixed Try.func63 (by kernel_rfl) rfl Try.ntmps63 rfl trivial (fun _ => ⟨trivial, trivial⟩) ?_
 unfold F_spec_l09Rect at h
 generalize hLEN : @len = LEN at *
 generalize hGD : @gd = GD at *
 generalize hA : std = A at *
 generalize hP : Try.prog = P at *
 cbv
 replace h := of_bind h
 obtain ⟨y1, hy2, h⟩ := h
 obtain ⟨S5, hS6⟩ : ∃ S, S = (sparse 35 [(2, .c (.v (.bool y1)))] []) := ⟨_, rfl⟩
 refine ⟨S5, ?_, ?_⟩
 ·clear h
  have h := hy2
  clear hy2
  cbv
  refine fork (fun b12 => ?_) (fun b12 => ?_)
  ·replace h := of_br_t b12 h
   cbv
   refine fork (fun b11 => ?_) (fun b11 => ?_)
   ·replace h := of_br_t b11 h
    cbv
    refine fork (fun b10 => ?_) (fun b10 => ?_)
    ·replace h := of_br_t b10 h
     cbv
     refine fork (fun b9 => ?_) (fun b9 => ?_)
     ·replace h := of_br_t b9 h
      cbv
      refine fork (fun b8 => ?_) (fun b8 => ?_)
      ·replace h := of_br_t b8 h
       cbv
       injection h with h
       subst h
       subst hS6
       show St.le _ _
       exact le_sparse rfl ⟨lR _, trivial⟩ trivial rfl
      ·replace h := of_br_f b8 h
       cbv
       injection h with h
       subst h
       subst hS6
       show St.le _ _
       exact le_sparse rfl ⟨lR _, trivial⟩ trivial rfl
     ·replace h := of_br_f b9 h
      cbv
      injection h with h
      subst h
      subst hS6
      show St.le _ _
      exact le_sparse rfl ⟨lR _, trivial⟩ trivial rfl
    ·replace h := of_br_f b10 h
     cbv
     injection h with h
     subst h
     subst hS6
     show St.le _ _
     exact le_sparse rfl ⟨lR _, trivial⟩ trivial rfl
   ·replace h := of_br_f b11 h
    cbv
    injection h with h
    subst h
    subst hS6
    show St.le _ _
    exact le_sparse rfl ⟨lR _, trivial⟩ trivial rfl
  ·replace h := of_br_f b12 h
   cbv
   injection h with h
   subst h
   subst hS6
   show St.le _ _
   exact le_sparse rfl ⟨lR _, trivial⟩ trivial rfl
 ·clear hy2
  subst hS6
  replace h := of_let h
  obtain ⟨w7, hw7, h⟩ := h
  have hw7 : w7 = y1 := hw7
  subst hw7
  cbv
  injection h with h
  subst h
  refine ⟨(sparse 35 [(2, .c (.v (.bool w7)))] []), ?_, ?_⟩
  ·exact le_sparse rfl ⟨lR _, trivial⟩ trivial rfl
  ·exact ⟨lR _, trivial, rfl⟩

/-- spec.l09Shape -/
noncomputable def F_spec_l09Shape (a0 : TShape) : Option (Bool) :=
 ((
    (F_spec_l09Layer a0.fLayer).bind fun y8 =>
    br y8
    ((F_spec_l09Rect a0.fBox).bind fun y10 =>
    some y10)
    (some false)
  ) : Option (Bool)).bind fun y1 =>
 letO y1 fun w7 =>
 some w7
theorem run_spec_l09Shape (a0 : TShape) (r : Bool) (h : F_spec_l09Shape a0 = some r) : Fun Try.prog 157 [.agg [.v (.int .i64 a0.fLayer), .v (.int .i64 a0.fBox.fX0), .v (.int .i64 a0.fBox.fY0), .v (.int .i64 a0.fBox.fX1), .v (.int .i64 a0.fBox.fY1)]] [] (.c (.v (.bool r))) [] true := by
 refine Fun.of_wp (oneOf [1]) tok mixed Try.func157 (by kernel_rfl) rfl Try.ntmps157 rfl trivial (fun _ => ⟨trivial, trivial⟩) ?_
 unfold F_spec_l09Shape at h
 have hf_spec_l09Layer := @run_spec_l09Layer
 have hf_spec_l09Rect := @run_spec_l09Rect
 generalize hLEN : @len = LEN at *
 generalize hGD : @gd = GD at *
 generalize hA : std = A at *
 generalize hP : Try.prog = P at *
 cbv
 replace h := of_bind h
 obtain ⟨y1, hy2, h⟩ := h
 obtain ⟨S5, hS6⟩ : ∃ S, S = (sparse 11 [(2, .c (.v (.bool y1)))] []) := ⟨_, rfl⟩
 refine ⟨S5, ?_, ?_⟩
 ·clear h
  have h := hy2
  clear hy2
  cbv
  replace h := of_bind h
  obtain ⟨y8, hy9, h⟩ := h
  refine ⟨{ args := [.c (.v (.int .i64 a0.fLayer))], o0 := [], r := .c (.v (.bool y8)), o1 := [], fl := true, σ := [], τ := [] }, hf_spec_l09Layer _ _ hy9, ⟨les_cons (lR _) (les_nil), trivial, rfl, rfl, rfl, rfl, trivial, rfl⟩, ?_⟩
  cbv
  refine fork (fun b12 => ?_) (fun b12 => ?_)
  ·replace h := of_br_t b12 h
   cbv
   replace h := of_bind h
   obtain ⟨y10, hy11, h⟩ := h
   refine ⟨{ args := [.agg [.v (.int .i64 a0.fBox.fX0), .v (.int .i64 a0.fBox.fY0), .v (.int .i64 a0.fBox.fX1), .v (.int .i64 a0.fBox.fY1)]], o0 := [], r := .c (.v (.bool y10)), o1 := [], fl := true, σ := [], τ := [] }, hf_spec_l09Rect _ _ hy11, ⟨les_cons (lR _) (les_nil), trivial, rfl, rfl, rfl, rfl, trivial, rfl⟩, ?_⟩
   cbv
   injection h with h
   subst h
   subst hS6
   show St.le _ _
   exact le_sparse rfl ⟨lR _, trivial⟩ trivial rfl
  ·replace h := of_br_f b12 h
   cbv
   injection h with h
   subst h
   subst hS6
   show St.le _ _
   exact le_sparse rfl ⟨lR _, trivial⟩ trivial rfl
 ·clear hy2
  subst hS6
  replace h := of_let h
  obtain ⟨w7, hw7, h⟩ := h
  have hw7 : w7 = y1 := hw7
  subst hw7
  cbv
  injection h with h
  subst h
  refine ⟨(sparse 11 [(2, .c (.v (.bool w7)))] []), ?_, ?_⟩
  ·exact le_sparse rfl ⟨lR _, trivial⟩ trivial rfl
  ·exact ⟨lR _, trivial, rfl⟩

/-- spec.l09Unit -/
noncomputable def F_spec_l09Unit (a0 : TPoint) : Option (Bool) :=
 ((
    (F_spec_l09In a0.fX (-40) 39).bind fun y8 =>
    br y8
    ((F_spec_l09In a0.fY (-40) 39).bind fun y10 =>
    some y10)
    (some false)
  ) : Option (Bool)).bind fun y1 =>
 letO y1 fun w7 =>
 some w7
theorem run_spec_l09Unit (a0 : TPoint) (r : Bool) (h : F_spec_l09Unit a0 = some r) : Fun Try.prog 209 [.agg [.v (.int .i64 a0.fX), .v (.int .i64 a0.fY)]] [] (.c (.v (.bool r))) [] true := by
 refine Fun.of_wp (oneOf [1]) tok mixed Try.func209 (by kernel_rfl) rfl Try.ntmps209 rfl trivial (fun _ => ⟨trivial, trivial⟩) ?_
 unfold F_spec_l09Unit at h
 have hf_spec_l09In := @run_spec_l09In
 generalize hLEN : @len = LEN at *
 generalize hGD : @gd = GD at *
 generalize hA : std = A at *
 generalize hP : Try.prog = P at *
 cbv
 replace h := of_bind h
 obtain ⟨y1, hy2, h⟩ := h
 obtain ⟨S5, hS6⟩ : ∃ S, S = (sparse 11 [(2, .c (.v (.bool y1)))] []) := ⟨_, rfl⟩
 refine ⟨S5, ?_, ?_⟩
 ·clear h
  have h := hy2
  clear hy2
  cbv
  replace h := of_bind h
  obtain ⟨y8, hy9, h⟩ := h
  refine ⟨{ args := [.c (.v (.int .i64 a0.fX)), .c (.v (.int .i64 (-40))), .c (.v (.int .i64 39))], o0 := [], r := .c (.v (.bool y8)), o1 := [], fl := true, σ := [], τ := [] }, hf_spec_l09In _ _ _ _ hy9, ⟨les_cons (lR _) (les_cons (lR _) (les_cons (lR _) (les_nil))), trivial, rfl, rfl, rfl, rfl, trivial, rfl⟩, ?_⟩
  cbv
  refine fork (fun b12 => ?_) (fun b12 => ?_)
  ·replace h := of_br_t b12 h
   cbv
   replace h := of_bind h
   obtain ⟨y10, hy11, h⟩ := h
   refine ⟨{ args := [.c (.v (.int .i64 a0.fY)), .c (.v (.int .i64 (-40))), .c (.v (.int .i64 39))], o0 := [], r := .c (.v (.bool y10)), o1 := [], fl := true, σ := [], τ := [] }, hf_spec_l09In _ _ _ _ hy11, ⟨les_cons (lR _) (les_cons (lR _) (les_cons (lR _) (les_nil))), trivial, rfl, rfl, rfl, rfl, trivial, rfl⟩, ?_⟩
   cbv
   injection h with h
   subst h
   subst hS6
   show St.le _ _
   exact le_sparse rfl ⟨lR _, trivial⟩ trivial rfl
  ·replace h := of_br_f b12 h
   cbv
   injection h with h
   subst h
   subst hS6
   show St.le _ _
   exact le_sparse rfl ⟨lR _, trivial⟩ trivial rfl
 ·clear hy2
  subst hS6
  replace h := of_let h
  obtain ⟨w7, hw7, h⟩ := h
  have hw7 : w7 = y1 := hw7
  subst hw7
  cbv
  injection h with h
  subst h
  refine ⟨(sparse 11 [(2, .c (.v (.bool w7)))] []), ?_, ?_⟩
  ·exact le_sparse rfl ⟨lR _, trivial⟩ trivial rfl
  ·exact ⟨lR _, trivial, rfl⟩

/-- spec.l09Label -/
noncomputable def F_spec_l09Label (a0 : TLabel) : Option (Bool) :=
 ((
    (F_spec_l09Layer a0.fLayer).bind fun y8 =>
    br y8
    ((F_spec_l09Unit a0.fAt).bind fun y10 =>
    br y10
    ((F_spec_IsName a0.fName).bind fun y12 =>
    some y12)
    (some false))
    (some false)
  ) : Option (Bool)).bind fun y1 =>
 letO y1 fun w7 =>
 some w7
theorem run_spec_l09Label (a0 : TLabel) (r : Bool) (h : F_spec_l09Label a0 = some r) : Fun Try.prog 159 [.agg [.v (.int .i64 a0.fLayer), .v (.int .i64 a0.fAt.fX), .v (.int .i64 a0.fAt.fY), .v (.string a0.fName)]] [] (.c (.v (.bool r))) [] true := by
 refine Fun.of_wp (oneOf [1]) tok mixed Try.func159 (by kernel_rfl) rfl Try.ntmps159 rfl trivial (fun _ => ⟨trivial, trivial⟩) ?_
 unfold F_spec_l09Label at h
 have hf_spec_IsName := @run_spec_IsName
 have hf_spec_l09Layer := @run_spec_l09Layer
 have hf_spec_l09Unit := @run_spec_l09Unit
 generalize hLEN : @len = LEN at *
 generalize hGD : @gd = GD at *
 generalize hA : std = A at *
 generalize hP : Try.prog = P at *
 cbv
 replace h := of_bind h
 obtain ⟨y1, hy2, h⟩ := h
 obtain ⟨S5, hS6⟩ : ∃ S, S = (sparse 16 [(2, .c (.v (.bool y1)))] []) := ⟨_, rfl⟩
 refine ⟨S5, ?_, ?_⟩
 ·clear h
  have h := hy2
  clear hy2
  cbv
  replace h := of_bind h
  obtain ⟨y8, hy9, h⟩ := h
  refine ⟨{ args := [.c (.v (.int .i64 a0.fLayer))], o0 := [], r := .c (.v (.bool y8)), o1 := [], fl := true, σ := [], τ := [] }, hf_spec_l09Layer _ _ hy9, ⟨les_cons (lR _) (les_nil), trivial, rfl, rfl, rfl, rfl, trivial, rfl⟩, ?_⟩
  cbv
  refine fork (fun b15 => ?_) (fun b15 => ?_)
  ·replace h := of_br_t b15 h
   cbv
   replace h := of_bind h
   obtain ⟨y10, hy11, h⟩ := h
   refine ⟨{ args := [.agg [.v (.int .i64 a0.fAt.fX), .v (.int .i64 a0.fAt.fY)]], o0 := [], r := .c (.v (.bool y10)), o1 := [], fl := true, σ := [], τ := [] }, hf_spec_l09Unit _ _ hy11, ⟨les_cons (lR _) (les_nil), trivial, rfl, rfl, rfl, rfl, trivial, rfl⟩, ?_⟩
   cbv
   refine fork (fun b14 => ?_) (fun b14 => ?_)
   ·replace h := of_br_t b14 h
    cbv
    replace h := of_bind h
    obtain ⟨y12, hy13, h⟩ := h
    refine ⟨{ args := [.c (.v (.string a0.fName))], o0 := [], r := .c (.v (.bool y12)), o1 := [], fl := true, σ := [], τ := [] }, hf_spec_IsName _ _ hy13, ⟨les_cons (lR _) (les_nil), trivial, rfl, rfl, rfl, rfl, trivial, rfl⟩, ?_⟩
    cbv
    injection h with h
    subst h
    subst hS6
    show St.le _ _
    exact le_sparse rfl ⟨lR _, trivial⟩ trivial rfl
   ·replace h := of_br_f b14 h
    cbv
    injection h with h
    subst h
    subst hS6
    show St.le _ _
    exact le_sparse rfl ⟨lR _, trivial⟩ trivial rfl
  ·replace h := of_br_f b15 h
   cbv
   injection h with h
   subst h
   subst hS6
   show St.le _ _
   exact le_sparse rfl ⟨lR _, trivial⟩ trivial rfl
 ·clear hy2
  subst hS6
  replace h := of_let h
  obtain ⟨w7, hw7, h⟩ := h
  have hw7 : w7 = y1 := hw7
  subst hw7
  cbv
  injection h with h
  subst h
  refine ⟨(sparse 16 [(2, .c (.v (.bool w7)))] []), ?_, ?_⟩
  ·exact le_sparse rfl ⟨lR _, trivial⟩ trivial rfl
  ·exact ⟨lR _, trivial, rfl⟩

/-- spec.l09Transform -/
noncomputable def F_spec_l09Transform (a0 : TTransform) : Option (Bool) :=
 ((
    (F_spec_l09In a0.fOrientation 0 7).bind fun y8 =>
    br y8
    ((F_spec_l09In a0.fX (-80) 80).bind fun y10 =>
    br y10
    ((F_spec_l09In a0.fY (-80) 80).bind fun y12 =>
    some y12)
    (some false))
    (some false)
  ) : Option (Bool)).bind fun y1 =>
 letO y1 fun w7 =>
 some w7
theorem run_spec_l09Transform (a0 : TTransform) (r : Bool) (h : F_spec_l09Transform a0 = some r) : Fun Try.prog 210 [.agg [.v (.int .i64 a0.fOrientation), .v (.int .i64 a0.fX), .v (.int .i64 a0.fY)]] [] (.c (.v (.bool r))) [] true := by
 refine Fun.of_wp (oneOf [1]) tok mixed Try.func210 (by kernel_rfl) rfl Try.ntmps210 rfl trivial (fun _ => ⟨trivial, trivial⟩) ?_
 unfold F_spec_l09Transform at h
 have hf_spec_l09In := @run_spec_l09In
 generalize hLEN : @len = LEN at *
 generalize hGD : @gd = GD at *
 generalize hA : std = A at *
 generalize hP : Try.prog = P at *
 cbv
 replace h := of_bind h
 obtain ⟨y1, hy2, h⟩ := h
 obtain ⟨S5, hS6⟩ : ∃ S, S = (sparse 16 [(2, .c (.v (.bool y1)))] []) := ⟨_, rfl⟩
 refine ⟨S5, ?_, ?_⟩
 ·clear h
  have h := hy2
  clear hy2
  cbv
  replace h := of_bind h
  obtain ⟨y8, hy9, h⟩ := h
  refine ⟨{ args := [.c (.v (.int .i64 a0.fOrientation)), .c (.v (.int .i64 0)), .c (.v (.int .i64 7))], o0 := [], r := .c (.v (.bool y8)), o1 := [], fl := true, σ := [], τ := [] }, hf_spec_l09In _ _ _ _ hy9, ⟨les_cons (lR _) (les_cons (lR _) (les_cons (lR _) (les_nil))), trivial, rfl, rfl, rfl, rfl, trivial, rfl⟩, ?_⟩
  cbv
  refine fork (fun b15 => ?_) (fun b15 => ?_)
  ·replace h := of_br_t b15 h
   cbv
   replace h := of_bind h
   obtain ⟨y10, hy11, h⟩ := h
   refine ⟨{ args := [.c (.v (.int .i64 a0.fX)), .c (.v (.int .i64 (-80))), .c (.v (.int .i64 80))], o0 := [], r := .c (.v (.bool y10)), o1 := [], fl := true, σ := [], τ := [] }, hf_spec_l09In _ _ _ _ hy11, ⟨les_cons (lR _) (les_cons (lR _) (les_cons (lR _) (les_nil))), trivial, rfl, rfl, rfl, rfl, trivial, rfl⟩, ?_⟩
   cbv
   refine fork (fun b14 => ?_) (fun b14 => ?_)
   ·replace h := of_br_t b14 h
    cbv
    replace h := of_bind h
    obtain ⟨y12, hy13, h⟩ := h
    refine ⟨{ args := [.c (.v (.int .i64 a0.fY)), .c (.v (.int .i64 (-80))), .c (.v (.int .i64 80))], o0 := [], r := .c (.v (.bool y12)), o1 := [], fl := true, σ := [], τ := [] }, hf_spec_l09In _ _ _ _ hy13, ⟨les_cons (lR _) (les_cons (lR _) (les_cons (lR _) (les_nil))), trivial, rfl, rfl, rfl, rfl, trivial, rfl⟩, ?_⟩
    cbv
    injection h with h
    subst h
    subst hS6
    show St.le _ _
    exact le_sparse rfl ⟨lR _, trivial⟩ trivial rfl
   ·replace h := of_br_f b14 h
    cbv
    injection h with h
    subst h
    subst hS6
    show St.le _ _
    exact le_sparse rfl ⟨lR _, trivial⟩ trivial rfl
  ·replace h := of_br_f b15 h
   cbv
   injection h with h
   subst h
   subst hS6
   show St.le _ _
   exact le_sparse rfl ⟨lR _, trivial⟩ trivial rfl
 ·clear hy2
  subst hS6
  replace h := of_let h
  obtain ⟨w7, hw7, h⟩ := h
  have hw7 : w7 = y1 := hw7
  subst hw7
  cbv
  injection h with h
  subst h
  refine ⟨(sparse 16 [(2, .c (.v (.bool w7)))] []), ?_, ?_⟩
  ·exact le_sparse rfl ⟨lR _, trivial⟩ trivial rfl
  ·exact ⟨lR _, trivial, rfl⟩

/-- spec.l09Instance -/
noncomputable def F_spec_l09Instance (a0 : TInstance) (a1 : Int) : Option (Bool) :=
 ((
    (F_spec_l09In a0.fCell 0 (std.sub .i64 a1 1)).bind fun y8 =>
    br (!(y8))
    (some true)
    ((F_spec_l09Transform a0.fPlace).bind fun y10 =>
    br (!(y10))
    (some true)
    ((F_spec_l09In a0.fColumns 1 4).bind fun y12 =>
    br (!(y12))
    (some true)
    ((F_spec_l09In a0.fRows 1 4).bind fun y14 =>
    some (!(y14)))))
  ) : Option (Bool)).bind fun y1 =>
 letO y1 fun w7 =>
 br w7
 (some false)
 (((
    (F_spec_l09In a0.fStepX (-80) 80).bind fun y26 =>
    br (!(y26))
    (some true)
    ((F_spec_l09In a0.fStepY (-80) 80).bind fun y28 =>
    some (!(y28)))
  ) : Option (Bool)).bind fun y19 =>
 letO y19 fun w25 =>
 br w25
 (some false)
 (((
    br (std.lt 1 a0.fColumns)
    (br (std.lt 1 a0.fRows)
    (some true)
    (some (std.eq a0.fStepY 0)))
    (br (std.eq a0.fStepX 0)
    (br (std.lt 1 a0.fRows)
    (some true)
    (some (std.eq a0.fStepY 0)))
    (some false))
  ) : Option (Bool)).bind fun y31 =>
 letO y31 fun w37 =>
 some w37))
theorem run_spec_l09Instance (a0 : TInstance) (a1 : Int) (r : Bool) (h : F_spec_l09Instance a0 a1 = some r) : Fun Try.prog 161 [.agg [.v (.int .i64 a0.fCell), .v (.int .i64 a0.fPlace.fOrientation), .v (.int .i64 a0.fPlace.fX), .v (.int .i64 a0.fPlace.fY), .v (.int .i64 a0.fColumns), .v (.int .i64 a0.fRows), .v (.int .i64 a0.fStepX), .v (.int .i64 a0.fStepY)], .c (.v (.int .i64 a1))] [] (.c (.v (.bool r))) [] true := by
 refine Fun.of_wp (oneOf [1, 3, 5]) tok mixed Try.func161 (by kernel_rfl) rfl Try.ntmps161 rfl trivial (fun _ => ⟨trivial, trivial⟩) ?_
 unfold F_spec_l09Instance at h
 have hf_spec_l09In := @run_spec_l09In
 have hf_spec_l09Transform := @run_spec_l09Transform
 generalize hLEN : @len = LEN at *
 generalize hGD : @gd = GD at *
 generalize hA : std = A at *
 generalize hP : Try.prog = P at *
 cbv
 replace h := of_bind h
 obtain ⟨y1, hy2, h⟩ := h
 obtain ⟨S5, hS6⟩ : ∃ S, S = (sparse 57 [(2, .c (.ptr 128 0)), (28, .c (.v (.bool y1)))] [(128, .var [.v (.int .i64 a0.fCell), .v (.int .i64 a0.fPlace.fOrientation), .v (.int .i64 a0.fPlace.fX), .v (.int .i64 a0.fPlace.fY), .v (.int .i64 a0.fColumns), .v (.int .i64 a0.fRows), .v (.int .i64 a0.fStepX), .v (.int .i64 a0.fStepY)])]) := ⟨_, rfl⟩
 refine ⟨S5, ?_, ?_⟩
 ·clear h
  have h := hy2
  clear hy2
  cbv
  replace h := of_bind h
  obtain ⟨y8, hy9, h⟩ := h
  refine ⟨{ args := [.c (.v (.int .i64 a0.fCell)), .c (.v (.int .i64 0)), .c (.v (.int .i64 (A.sub .i64 a1 1)))], o0 := [], r := .c (.v (.bool y8)), o1 := [], fl := true, σ := [], τ := [] }, hf_spec_l09In _ _ _ _ hy9, ⟨les_cons (lR _) (les_cons (lR _) (les_cons (lR _) (les_nil))), trivial, rfl, rfl, rfl, rfl, trivial, rfl⟩, ?_⟩
  cbv
  refine fork (fun b18 => ?_) (fun b18 => ?_)
  ·replace h := of_br_t b18 h
   cbv
   injection h with h
   subst h
   subst hS6
   show St.le _ _
   exact le_sparse rfl ⟨lR _, lR _, trivial⟩ ⟨rfl, trivial⟩ rfl
  ·replace h := of_br_f b18 h
   cbv
   replace h := of_bind h
   obtain ⟨y10, hy11, h⟩ := h
   refine ⟨{ args := [.agg [.v (.int .i64 a0.fPlace.fOrientation), .v (.int .i64 a0.fPlace.fX), .v (.int .i64 a0.fPlace.fY)]], o0 := [], r := .c (.v (.bool y10)), o1 := [], fl := true, σ := [], τ := [] }, hf_spec_l09Transform _ _ hy11, ⟨les_cons (lR _) (les_nil), trivial, rfl, rfl, rfl, rfl, trivial, rfl⟩, ?_⟩
   cbv
   refine fork (fun b17 => ?_) (fun b17 => ?_)
   ·replace h := of_br_t b17 h
    cbv
    injection h with h
    subst h
    subst hS6
    show St.le _ _
    exact le_sparse rfl ⟨lR _, lR _, trivial⟩ ⟨rfl, trivial⟩ rfl
   ·replace h := of_br_f b17 h
    cbv
    replace h := of_bind h
    obtain ⟨y12, hy13, h⟩ := h
    refine ⟨{ args := [.c (.v (.int .i64 a0.fColumns)), .c (.v (.int .i64 1)), .c (.v (.int .i64 4))], o0 := [], r := .c (.v (.bool y12)), o1 := [], fl := true, σ := [], τ := [] }, hf_spec_l09In _ _ _ _ hy13, ⟨les_cons (lR _) (les_cons (lR _) (les_cons (lR _) (les_nil))), trivial, rfl, rfl, rfl, rfl, trivial, rfl⟩, ?_⟩
    cbv
    refine fork (fun b16 => ?_) (fun b16 => ?_)
    ·replace h := of_br_t b16 h
     cbv
     injection h with h
     subst h
     subst hS6
     show St.le _ _
     exact le_sparse rfl ⟨lR _, lR _, trivial⟩ ⟨rfl, trivial⟩ rfl
    ·replace h := of_br_f b16 h
     cbv
     replace h := of_bind h
     obtain ⟨y14, hy15, h⟩ := h
     refine ⟨{ args := [.c (.v (.int .i64 a0.fRows)), .c (.v (.int .i64 1)), .c (.v (.int .i64 4))], o0 := [], r := .c (.v (.bool y14)), o1 := [], fl := true, σ := [], τ := [] }, hf_spec_l09In _ _ _ _ hy15, ⟨les_cons (lR _) (les_cons (lR _) (les_cons (lR _) (les_nil))), trivial, rfl, rfl, rfl, rfl, trivial, rfl⟩, ?_⟩
     cbv
     injection h with h
     subst h
     subst hS6
     show St.le _ _
     exact le_sparse rfl ⟨lR _, lR _, trivial⟩ ⟨rfl, trivial⟩ rfl
 ·clear hy2
  subst hS6
  replace h := of_let h
  obtain ⟨w7, hw7, h⟩ := h
  have hw7 : w7 = y1 := hw7
  subst hw7
  cbv
  refine fork (fun b43 => ?_) (fun b43 => ?_)
  ·replace h := of_br_t b43 h
   cbv
   injection h with h
   subst h
   refine ⟨(sparse 57 [(4, .c (.v (.bool false)))] []), ?_, ?_⟩
   ·exact le_sparse rfl ⟨lR _, trivial⟩ trivial rfl
   ·exact ⟨lR _, trivial, rfl⟩
  ·replace h := of_br_f b43 h
   cbv
   replace h := of_bind h
   obtain ⟨y19, hy20, h⟩ := h
   obtain ⟨S23, hS24⟩ : ∃ S, S = (sparse 57 [(2, .c (.ptr 128 0)), (38, .c (.v (.bool y19)))] [(128, .var [.v (.int .i64 a0.fCell), .v (.int .i64 a0.fPlace.fOrientation), .v (.int .i64 a0.fPlace.fX), .v (.int .i64 a0.fPlace.fY), .v (.int .i64 a0.fColumns), .v (.int .i64 a0.fRows), .v (.int .i64 a0.fStepX), .v (.int .i64 a0.fStepY)])]) := ⟨_, rfl⟩
   refine ⟨S23, ?_, ?_⟩
   ·clear h
    have h := hy20
    clear hy20
    cbv
    replace h := of_bind h
    obtain ⟨y26, hy27, h⟩ := h
    refine ⟨{ args := [.c (.v (.int .i64 a0.fStepX)), .c (.v (.int .i64 (-80))), .c (.v (.int .i64 80))], o0 := [], r := .c (.v (.bool y26)), o1 := [], fl := true, σ := [], τ := [] }, hf_spec_l09In _ _ _ _ hy27, ⟨les_cons (lR _) (les_cons (lR _) (les_cons (lR _) (les_nil))), trivial, rfl, rfl, rfl, rfl, trivial, rfl⟩, ?_⟩
    cbv
    refine fork (fun b30 => ?_) (fun b30 => ?_)
    ·replace h := of_br_t b30 h
     cbv
     injection h with h
     subst h
     subst hS24
     show St.le _ _
     exact le_sparse rfl ⟨lR _, lR _, trivial⟩ ⟨rfl, trivial⟩ rfl
    ·replace h := of_br_f b30 h
     cbv
     replace h := of_bind h
     obtain ⟨y28, hy29, h⟩ := h
     refine ⟨{ args := [.c (.v (.int .i64 a0.fStepY)), .c (.v (.int .i64 (-80))), .c (.v (.int .i64 80))], o0 := [], r := .c (.v (.bool y28)), o1 := [], fl := true, σ := [], τ := [] }, hf_spec_l09In _ _ _ _ hy29, ⟨les_cons (lR _) (les_cons (lR _) (les_cons (lR _) (les_nil))), trivial, rfl, rfl, rfl, rfl, trivial, rfl⟩, ?_⟩
     cbv
     injection h with h
     subst h
     subst hS24
     show St.le _ _
     exact le_sparse rfl ⟨lR _, lR _, trivial⟩ ⟨rfl, trivial⟩ rfl
   ·clear hy20
    subst hS24
    replace h := of_let h
    obtain ⟨w25, hw25, h⟩ := h
    have hw25 : w25 = y19 := hw25
    subst hw25
    cbv
    refine fork (fun b42 => ?_) (fun b42 => ?_)
    ·replace h := of_br_t b42 h
     cbv
     injection h with h
     subst h
     refine ⟨(sparse 57 [(4, .c (.v (.bool false)))] []), ?_, ?_⟩
     ·exact le_sparse rfl ⟨lR _, trivial⟩ trivial rfl
     ·exact ⟨lR _, trivial, rfl⟩
    ·replace h := of_br_f b42 h
     cbv
     replace h := of_bind h
     obtain ⟨y31, hy32, h⟩ := h
     obtain ⟨S35, hS36⟩ : ∃ S, S = (sparse 57 [(4, .c (.v (.bool y31)))] []) := ⟨_, rfl⟩
     refine ⟨S35, ?_, ?_⟩
     ·clear h
      have h := hy32
      clear hy32
      cbv
      refine fork (fun b41 => ?_) (fun b41 => ?_)
      ·replace h := of_br_t b41 h
       cbv
       refine fork (fun b40 => ?_) (fun b40 => ?_)
       ·replace h := of_br_t b40 h
        cbv
        injection h with h
        subst h
        subst hS36
        show St.le _ _
        exact le_sparse rfl ⟨lR _, trivial⟩ trivial rfl
       ·replace h := of_br_f b40 h
        cbv
        injection h with h
        subst h
        subst hS36
        show St.le _ _
        exact le_sparse rfl ⟨lR _, trivial⟩ trivial rfl
      ·replace h := of_br_f b41 h
       cbv
       refine fork (fun b39 => ?_) (fun b39 => ?_)
       ·replace h := of_br_t b39 h
        cbv
        refine fork (fun b38 => ?_) (fun b38 => ?_)
        ·replace h := of_br_t b38 h
         cbv
         injection h with h
         subst h
         subst hS36
         show St.le _ _
         exact le_sparse rfl ⟨lR _, trivial⟩ trivial rfl
        ·replace h := of_br_f b38 h
         cbv
         injection h with h
         subst h
         subst hS36
         show St.le _ _
         exact le_sparse rfl ⟨lR _, trivial⟩ trivial rfl
       ·replace h := of_br_f b39 h
        cbv
        injection h with h
        subst h
        subst hS36
        show St.le _ _
        exact le_sparse rfl ⟨lR _, trivial⟩ trivial rfl
     ·clear hy32
      subst hS36
      replace h := of_let h
      obtain ⟨w37, hw37, h⟩ := h
      have hw37 : w37 = y31 := hw37
      subst hw37
      cbv
      injection h with h
      subst h
      refine ⟨(sparse 57 [(4, .c (.v (.bool w37)))] []), ?_, ?_⟩
      ·exact le_sparse rfl ⟨lR _, trivial⟩ trivial rfl
      ·exact ⟨lR _, trivial, rfl⟩
end Go.Proofs.Ytmdlnjeppemipaa.AM
