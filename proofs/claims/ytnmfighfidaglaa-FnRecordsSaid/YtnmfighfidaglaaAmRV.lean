/-
  What the functions that the law reaches compute, and that they do. No condition.
-/
import Derived.Test.YtnmfighfidaglaaAmT
import Derived.Test.YtnmfighfidaglaaAmE
namespace Go.Proofs.Ytnmfighfidaglaa.AM
open Go Go.Proofs Go.RowKit
set_option linter.unusedVariables false
set_option linter.unusedSimpArgs false
set_option maxRecDepth 100000

theorem mixed : Try.prog.follows .mixedOrders = true := by kernel_rfl
structure TRect where
 fX0 : Int
 fY0 : Int
 fX1 : Int
 fY1 : Int
instance : Inhabited TRect := ⟨⟨default, default, default, default⟩⟩
def encRect (x : TRect) : Nat → AC := fun j => match j with
 | 0 => .v (.int .i64 x.fX0)
 | 1 => .v (.int .i64 x.fY0)
 | 2 => .v (.int .i64 x.fX1)
 | _ => .v (.int .i64 x.fY1)
theorem pl_encRect : ∀ (x : TRect) (j : Nat), plainC (encRect x j) = true := by
 intro x j
 unfold encRect
 split <;> rfl
theorem vl_encRect : ∀ (x : TRect) (j : Nat), valC (encRect x j) = true := by
 intro x j
 unfold encRect
 split <;> rfl
structure TShape where
 fLayer : Int
 fBox : TRect
instance : Inhabited TShape := ⟨⟨default, default⟩⟩
def encShape (x : TShape) : Nat → AC := fun j => match j with
 | 0 => .v (.int .i64 x.fLayer)
 | 1 => .v (.int .i64 x.fBox.fX0)
 | 2 => .v (.int .i64 x.fBox.fY0)
 | 3 => .v (.int .i64 x.fBox.fX1)
 | _ => .v (.int .i64 x.fBox.fY1)
theorem pl_encShape : ∀ (x : TShape) (j : Nat), plainC (encShape x j) = true := by
 intro x j
 unfold encShape
 split <;> rfl
theorem vl_encShape : ∀ (x : TShape) (j : Nat), valC (encShape x j) = true := by
 intro x j
 unfold encShape
 split <;> rfl
structure TPoint where
 fX : Int
 fY : Int
instance : Inhabited TPoint := ⟨⟨default, default⟩⟩
def encPoint (x : TPoint) : Nat → AC := fun j => match j with
 | 0 => .v (.int .i64 x.fX)
 | _ => .v (.int .i64 x.fY)
theorem pl_encPoint : ∀ (x : TPoint) (j : Nat), plainC (encPoint x j) = true := by
 intro x j
 unfold encPoint
 split <;> rfl
theorem vl_encPoint : ∀ (x : TPoint) (j : Nat), valC (encPoint x j) = true := by
 intro x j
 unfold encPoint
 split <;> rfl
structure TLabel where
 fLayer : Int
 fAt : TPoint
 fName : ByteArray
instance : Inhabited TLabel := ⟨⟨default, default, default⟩⟩
def encLabel (x : TLabel) : Nat → AC := fun j => match j with
 | 0 => .v (.int .i64 x.fLayer)
 | 1 => .v (.int .i64 x.fAt.fX)
 | 2 => .v (.int .i64 x.fAt.fY)
 | _ => .v (.string x.fName)
theorem pl_encLabel : ∀ (x : TLabel) (j : Nat), plainC (encLabel x j) = true := by
 intro x j
 unfold encLabel
 split <;> rfl
theorem vl_encLabel : ∀ (x : TLabel) (j : Nat), valC (encLabel x j) = true := by
 intro x j
 unfold encLabel
 split <;> rfl
structure TTransform where
 fOrientation : Int
 fX : Int
 fY : Int
instance : Inhabited TTransform := ⟨⟨default, default, default⟩⟩
def encTransform (x : TTransform) : Nat → AC := fun j => match j with
 | 0 => .v (.int .i64 x.fOrientation)
 | 1 => .v (.int .i64 x.fX)
 | _ => .v (.int .i64 x.fY)
theorem pl_encTransform : ∀ (x : TTransform) (j : Nat), plainC (encTransform x j) = true := by
 intro x j
 unfold encTransform
 split <;> rfl
theorem vl_encTransform : ∀ (x : TTransform) (j : Nat), valC (encTransform x j) = true := by
 intro x j
 unfold encTransform
 split <;> rfl
structure TInstance where
 fCell : Int
 fPlace : TTransform
 fColumns : Int
 fRows : Int
 fStepX : Int
 fStepY : Int
instance : Inhabited TInstance := ⟨⟨default, default, default, default, default, default⟩⟩
def encInstance (x : TInstance) : Nat → AC := fun j => match j with
 | 0 => .v (.int .i64 x.fCell)
 | 1 => .v (.int .i64 x.fPlace.fOrientation)
 | 2 => .v (.int .i64 x.fPlace.fX)
 | 3 => .v (.int .i64 x.fPlace.fY)
 | 4 => .v (.int .i64 x.fColumns)
 | 5 => .v (.int .i64 x.fRows)
 | 6 => .v (.int .i64 x.fStepX)
 | _ => .v (.int .i64 x.fStepY)
theorem pl_encInstance : ∀ (x : TInstance) (j : Nat), plainC (encInstance x j) = true := by
 intro x j
 unfold encInstance
 split <;> rfl
theorem vl_encInstance : ∀ (x : TInstance) (j : Nat), valC (encInstance x j) = true := by
 intro x j
 unfold encInstance
 split <;> rfl
structure TCell where
 fName : ByteArray
 fShapes : List TShape
 fLabels : List TLabel
 fInstances : List TInstance
instance : Inhabited TCell := ⟨⟨default, default, default, default⟩⟩
def encCell (LEN : {α : Type} → List α → Nat) (GD : {α : Type} → [Inhabited α] → List α → Nat → α) (x : TCell) : Nat → AC := fun j => match j with
 | 0 => .v (.string x.fName)
 | 1 => .bs (LEN x.fShapes) 5 (row GD (encShape) x.fShapes)
 | 2 => .bs (LEN x.fLabels) 4 (row GD (encLabel) x.fLabels)
 | _ => .bs (LEN x.fInstances) 8 (row GD (encInstance) x.fInstances)
theorem pl_encCell {LEN : {α : Type} → List α → Nat} {GD : {α : Type} → [Inhabited α] → List α → Nat → α} : ∀ (x : TCell) (j : Nat), plainC (encCell LEN GD x j) = true := by
 intro x j
 unfold encCell
 split <;> rfl
def oncCell (LEN : {α : Type} → List α → Nat) (GD : {α : Type} → [Inhabited α] → List α → Nat → α) (x : TCell) : Nat → AC := fun j => match j with
 | 0 => .v (.string x.fName)
 | 1 => .ow (LEN x.fShapes) 5 (row GD (encShape) x.fShapes)
 | 2 => .ow (LEN x.fLabels) 4 (row GD (encLabel) x.fLabels)
 | _ => .ow (LEN x.fInstances) 8 (row GD (encInstance) x.fInstances)
theorem rf_oncCell {LEN : {α : Type} → List α → Nat} {GD : {α : Type} → [Inhabited α] → List α → Nat → α} : ∀ (x : TCell) (j : Nat), (oncCell LEN GD x j).ref = [] := by
 intro x j
 unfold oncCell
 split <;> rfl
theorem ln_oncCell {LEN : {α : Type} → List α → Nat} {GD : {α : Type} → [Inhabited α] → List α → Nat → α} : ∀ (x : TCell) (j : Nat), (oncCell LEN GD x j).lentIn = encCell LEN GD x j := by
 intro x j
 unfold oncCell encCell
 split <;> rfl
theorem fl_oncCell {LEN : {α : Type} → List α → Nat} {GD : {α : Type} → [Inhabited α] → List α → Nat → α} : ∀ (x : TCell) (j : Nat), (oncCell LEN GD x j).flat := by
 intro x j
 unfold oncCell
 split <;> first | trivial | (exact fun i _ j _ => val_v (vl_encShape _ _)) | (exact fun i _ j _ => val_v (vl_encLabel _ _)) | (exact fun i _ j _ => val_v (vl_encInstance _ _))
structure TLibrary where
 fCells : List TCell
instance : Inhabited TLibrary := ⟨⟨default⟩⟩
def encLibrary (LEN : {α : Type} → List α → Nat) (GD : {α : Type} → [Inhabited α] → List α → Nat → α) (x : TLibrary) : Nat → AC := fun j => match j with
 | _ => .bs (LEN x.fCells) 4 (row GD (encCell LEN GD) x.fCells)
theorem pl_encLibrary {LEN : {α : Type} → List α → Nat} {GD : {α : Type} → [Inhabited α] → List α → Nat → α} : ∀ (x : TLibrary) (j : Nat), plainC (encLibrary LEN GD x j) = true := by
 intro x j
 unfold encLibrary
 split <;> rfl
structure Tl01Source where
 gcode : List Int
 gat : Int
 gseed : Int
instance : Inhabited Tl01Source := ⟨⟨default, default, default⟩⟩
def encl01Source (LEN : {α : Type} → List α → Nat) (GD : {α : Type} → [Inhabited α] → List α → Nat → α) (x : Tl01Source) : Nat → AC := fun j => match j with
 | 0 => .bs (LEN x.gcode) 1 (row GD (encI .u8) x.gcode)
 | 1 => .v (.int .i64 x.gat)
 | _ => .v (.int .i64 x.gseed)
theorem pl_encl01Source {LEN : {α : Type} → List α → Nat} {GD : {α : Type} → [Inhabited α] → List α → Nat → α} : ∀ (x : Tl01Source) (j : Nat), plainC (encl01Source LEN GD x j) = true := by
 intro x j
 unfold encl01Source
 split <;> rfl
def oncl01Source (LEN : {α : Type} → List α → Nat) (GD : {α : Type} → [Inhabited α] → List α → Nat → α) (x : Tl01Source) : Nat → AC := fun j => match j with
 | 0 => .ow (LEN x.gcode) 1 (row GD (encI .u8) x.gcode)
 | 1 => .v (.int .i64 x.gat)
 | _ => .v (.int .i64 x.gseed)
theorem rf_oncl01Source {LEN : {α : Type} → List α → Nat} {GD : {α : Type} → [Inhabited α] → List α → Nat → α} : ∀ (x : Tl01Source) (j : Nat), (oncl01Source LEN GD x j).ref = [] := by
 intro x j
 unfold oncl01Source
 split <;> rfl
theorem ln_oncl01Source {LEN : {α : Type} → List α → Nat} {GD : {α : Type} → [Inhabited α] → List α → Nat → α} : ∀ (x : Tl01Source) (j : Nat), (oncl01Source LEN GD x j).lentIn = encl01Source LEN GD x j := by
 intro x j
 unfold oncl01Source encl01Source
 split <;> rfl
theorem fl_oncl01Source {LEN : {α : Type} → List α → Nat} {GD : {α : Type} → [Inhabited α] → List α → Nat → α} : ∀ (x : Tl01Source) (j : Nat), (oncl01Source LEN GD x j).flat := by
 intro x j
 unfold oncl01Source
 split <;> first | trivial | (exact fun i _ j _ => val_v (rfl))
/-- laws.big -/
noncomputable def F_laws_big (a0 : List Int) : Option (Bool) :=
 some (std.lt 4096 (std.ofN (len a0)))
theorem run_laws_big (a0 : List Int) (r : Bool) (h : F_laws_big a0 = some r) : Fun Try.prog 44 [.c (.bs (len a0) 1 (row gd (encI .u8) a0))] [] (.c (.v (.bool r))) [] true := by
 refine Fun.of_wp (oneOf []) tok mixed Try.func44 (by kernel_rfl) rfl Try.ntmps44 rfl trivial (fun _ => ⟨trivial, trivial⟩) ?_
 unfold F_laws_big at h
 generalize hLEN : @len = LEN at *
 generalize hGD : @gd = GD at *
 generalize hA : std = A at *
 generalize hP : Try.prog = P at *
 cbv
 injection h with h
 subst h
 refine ⟨(sparse 6 [(2, .c (.v (.bool (A.lt 4096 (A.ofN (LEN a0))))))] []), ?_, ?_⟩
 ·exact le_sparse rfl ⟨lR _, trivial⟩ trivial rfl
 ·exact ⟨lR _, trivial, rfl⟩

noncomputable def L_spec_l01From_x3 (a0 : List Int) : (Int × Int) → Option ((Int × Int) ⊕ ((Int))) := fun x3 =>
 letO x3.1 fun v1 =>
 letO x3.2 fun v2 =>
 ((
    br (std.lt v1 (std.ofN (len a0)))
    (some (std.lt v1 64))
    (some false)
  ) : Option (Bool)).bind fun y15 =>
 letO y15 fun w21 =>
 br w21
 (req (std.inR v1 (len a0)) <|
 req (std.nz 2147483647) <|
 some (.inl (std.add .i64 v1 1, std.rem (std.add .i64 (std.mul .i64 v2 31) (std.conv .i64 (gd a0 (std.toN v1)))) 2147483647)))
 (some (.inr v2))
/-- spec.l01From -/
noncomputable def F_spec_l01From (a0 : List Int) : Option (Tl01Source) :=
 (whileP (σ := Int × Int) (ρ := (Int)) (L_spec_l01From_x3 a0) (0, 12345)).bind fun y4 =>
 letO y4 fun y4k0 =>
 letO y4k0 fun w26 =>
 some (Tl01Source.mk a0 0 w26)
theorem run_spec_l01From (a0 : List Int) (r : Tl01Source) (h : F_spec_l01From a0 = some r) : Fun Try.prog 113 [.c (.bs (len a0) 1 (row gd (encI .u8) a0))] [] (.c (.ptr 64000 0)) [(64000, .var [.bs (len r.gcode) 1 (row gd (encI .u8) r.gcode), .v (.int .i64 r.gat), .v (.int .i64 r.gseed)])] false := by
 refine Fun.of_wp (oneOf [3]) tok mixed Try.func113 (by kernel_rfl) rfl Try.ntmps113 rfl trivial (fun h => by cases h) ?_
 unfold F_spec_l01From at h
 unfold L_spec_l01From_x3 at h
 generalize hLEN : @len = LEN at *
 generalize hGD : @gd = GD at *
 generalize hA : std = A at *
 generalize hP : Try.prog = P at *
 cbv
 replace h := of_bind h
 obtain ⟨y4, hr5, hN6⟩ := h
 refine loop_cut hr5 (fun x => (sparse 34 [(0, .c (.bs (LEN a0) 1 (row GD (encI .u8) a0))), (3, .c (.ptr 448 0)), (4, .c (.v (.int .i64 x.1)))] [(448, .var [.bs (LEN a0) 1 (row GD (encI .u8) a0), .v (.int .i64 0), .v (.int .i64 x.2)])])) ?_ (fun y e s => (fun (w : Int) => e = .exit 0 ∧ s.le (sparse 34 [(3, .c (.ptr 448 0))] [(448, .var [.bs (LEN a0) 1 (row GD (encI .u8) a0), .v (.int .i64 0), .v (.int .i64 w)])])) y) ?_ ?_
 ·clear hr5 hN6
  show St.le _ _
  exact le_sparse rfl ⟨lR _, lR _, lR _, trivial⟩ ⟨rfl, trivial⟩ rfl
 ·clear hr5 hN6
  intro x z10 h K8 hK9 hY7
  obtain ⟨x0_, x1_⟩ := x
  replace h := of_let h
  obtain ⟨v1, hv1, h⟩ := h
  have hv1 : v1 = x0_ := hv1
  subst hv1
  replace h := of_let h
  obtain ⟨v2, hv2, h⟩ := h
  have hv2 : v2 = x1_ := hv2
  subst hv2
  cbv
  replace h := of_bind h
  obtain ⟨y15, hy16, h⟩ := h
  obtain ⟨S19, hS20⟩ : ∃ S, S = (sparse 34 [(0, .c (.bs (LEN a0) 1 (row GD (encI .u8) a0))), (3, .c (.ptr 448 0)), (4, .c (.v (.int .i64 v1))), (15, .c (.v (.bool y15)))] [(448, .var [.bs (LEN a0) 1 (row GD (encI .u8) a0), .v (.int .i64 0), .v (.int .i64 v2)])]) := ⟨_, rfl⟩
  refine ⟨S19, ?_, ?_⟩
  ·clear h
   have h := hy16
   clear hy16
   cbv
   refine fork (fun b22 => ?_) (fun b22 => ?_)
   ·replace h := of_br_t b22 h
    cbv
    injection h with h
    subst h
    subst hS20
    show St.le _ _
    exact le_sparse rfl ⟨lR _, lR _, lR _, lR _, trivial⟩ ⟨rfl, trivial⟩ rfl
   ·replace h := of_br_f b22 h
    cbv
    injection h with h
    subst h
    subst hS20
    show St.le _ _
    exact le_sparse rfl ⟨lR _, lR _, lR _, lR _, trivial⟩ ⟨rfl, trivial⟩ rfl
  ·clear hy16
   subst hS20
   replace h := of_let h
   obtain ⟨w21, hw21, h⟩ := h
   have hw21 : w21 = y15 := hw21
   subst hw21
   cbv
   refine fork (fun b25 => ?_) (fun b25 => ?_)
   ·replace h := of_br_t b25 h
    cbv
    replace h := of_req h
    obtain ⟨c23, h⟩ := h
    refine ⟨⟨c23, trivial⟩, ?_⟩
    replace h := of_req h
    obtain ⟨c24, h⟩ := h
    refine ⟨c24, ?_⟩
    injection h with h
    refine hK9 _ h.symm _ ?_
    exact le_sparse rfl ⟨lR _, lR _, lR _, trivial⟩ ⟨rfl, trivial⟩ rfl
   ·replace h := of_br_f b25 h
    cbv
    injection h with h
    refine hY7 _ h.symm _ _ (And.intro rfl ?_) (by intro hh; cases hh)
    exact le_sparse rfl ⟨lR _, trivial⟩ ⟨rfl, trivial⟩ rfl
 ·clear hr5
  have h := hN6
  clear hN6
  intro e13 s14 q12 hne
  replace h := of_let h
  obtain ⟨y4k0, hyk, h⟩ := h
  have hyk : y4k0 = y4 := hyk
  subst hyk
  obtain ⟨rfl, q12⟩ := q12
  replace h := of_let h
  obtain ⟨w26, hw26, h⟩ := h
  have hw26 : w26 = y4k0 := hw26
  subst hw26
  cbv
  refine ⟨_, q12, ?_⟩
  cbv
  injection h with h
  subst h
  refine ⟨(sparse 34 [(2, .c (.ptr 64000 0))] [(64000, .var [.bs (LEN a0) 1 (row GD (encI .u8) a0), .v (.int .i64 0), .v (.int .i64 w26)])]), ?_, ?_⟩
  ·refine St.le_trans (le_ren 448 64000 (by decide) rfl) ?_
   exact le_sparse rfl ⟨lR _, trivial⟩ ⟨rfl, trivial⟩ rfl
  ·exact ⟨lR _, ⟨rfl, trivial⟩, rfl⟩

/-- spec.l01Next -/
noncomputable def F_spec_l01Next_mPbb (a0 : Tl01Source) (a1 : Int) : Option (Int × Tl01Source) :=
 br (std.le a1 1)
 (some ((0 : Int), a0))
 (br (std.lt a0.gat (std.ofN (len a0.gcode)))
 (req (std.inR a0.gat (len a0.gcode)) <|
 br (std.lt 256 a1)
 (req (std.nz 2147483647) <|
 req (std.nz a1) <|
 some (std.rem (std.rem (std.add .i64 (std.add .i64 (std.mul .i64 a0.gseed 48271) (std.conv .i64 (gd a0.gcode (std.toN a0.gat)))) 1) 2147483647) a1, (Tl01Source.mk a0.gcode (std.add .i64 a0.gat 1) (std.rem (std.add .i64 (std.add .i64 (std.mul .i64 a0.gseed 48271) (std.conv .i64 (gd a0.gcode (std.toN a0.gat)))) 1) 2147483647))))
 (req (std.nz a1) <|
 some (std.rem (std.conv .i64 (gd a0.gcode (std.toN a0.gat))) a1, (Tl01Source.mk a0.gcode (std.add .i64 a0.gat 1) a0.gseed))))
 (req (std.nz 2147483647) <|
 req (std.nz 7) <|
 req (std.nz a1) <|
 some (std.rem (std.quo .i64 (std.rem (std.add .i64 (std.mul .i64 a0.gseed 48271) 11) 2147483647) 7) a1, (Tl01Source.mk a0.gcode a0.gat (std.rem (std.add .i64 (std.mul .i64 a0.gseed 48271) 11) 2147483647)))))
theorem run_spec_l01Next_mPbb (a0 : Tl01Source) (a1 : Int) (r : Int × Tl01Source) (h : F_spec_l01Next_mPbb a0 a1 = some r) : Fun Try.prog 175 [.c (.ptr 5 0), .c (.v (.int .i64 a1))] [(5, .var [.bs (len a0.gcode) 1 (row gd (encI .u8) a0.gcode), .v (.int .i64 a0.gat), .v (.int .i64 a0.gseed)])] (.c (.v (.int .i64 r.1))) [(5, .var [.bs (len r.2.gcode) 1 (row gd (encI .u8) r.2.gcode), .v (.int .i64 r.2.gat), .v (.int .i64 r.2.gseed)])] false := by
 refine Fun.of_wp (oneOf []) tok mixed Try.func175 (by kernel_rfl) rfl Try.ntmps175 rfl trivial (fun h => by cases h) ?_
 unfold F_spec_l01Next_mPbb at h
 generalize hLEN : @len = LEN at *
 generalize hGD : @gd = GD at *
 generalize hA : std = A at *
 generalize hP : Try.prog = P at *
 cbv
 refine fork (fun b10 => ?_) (fun b10 => ?_)
 ·replace h := of_br_t b10 h
  cbv
  injection h with h
  subst h
  refine ⟨(sparse 76 [(4, .c (.v (.int .i64 0)))] [(5, .var [.bs (LEN a0.gcode) 1 (row GD (encI .u8) a0.gcode), .v (.int .i64 a0.gat), .v (.int .i64 a0.gseed)])]), ?_, ?_⟩
  ·exact le_sparse rfl ⟨lR _, trivial⟩ ⟨rfl, trivial⟩ rfl
  ·exact ⟨lR _, ⟨rfl, trivial⟩, rfl⟩
 ·replace h := of_br_f b10 h
  cbv
  refine fork (fun b9 => ?_) (fun b9 => ?_)
  ·replace h := of_br_t b9 h
   cbv
   replace h := of_req h
   obtain ⟨c1, h⟩ := h
   refine ⟨⟨c1, trivial⟩, ?_⟩
   refine fork (fun b5 => ?_) (fun b5 => ?_)
   ·replace h := of_br_t b5 h
    cbv
    replace h := of_req h
    obtain ⟨c2, h⟩ := h
    refine ⟨c2, ?_⟩
    replace h := of_req h
    obtain ⟨c3, h⟩ := h
    refine ⟨c3, ?_⟩
    injection h with h
    subst h
    refine ⟨(sparse 76 [(4, .c (.v (.int .i64 (A.rem (A.rem (A.add .i64 (A.add .i64 (A.mul .i64 a0.gseed 48271) (A.conv .i64 (GD a0.gcode (A.toN a0.gat)))) 1) 2147483647) a1))))] [(5, .var [.bs (LEN a0.gcode) 1 (row GD (encI .u8) a0.gcode), .v (.int .i64 (A.add .i64 a0.gat 1)), .v (.int .i64 (A.rem (A.add .i64 (A.add .i64 (A.mul .i64 a0.gseed 48271) (A.conv .i64 (GD a0.gcode (A.toN a0.gat)))) 1) 2147483647))])]), ?_, ?_⟩
    ·exact le_sparse rfl ⟨lR _, trivial⟩ ⟨rfl, trivial⟩ rfl
    ·exact ⟨lR _, ⟨rfl, trivial⟩, rfl⟩
   ·replace h := of_br_f b5 h
    cbv
    replace h := of_req h
    obtain ⟨c4, h⟩ := h
    refine ⟨c4, ?_⟩
    injection h with h
    subst h
    refine ⟨(sparse 76 [(4, .c (.v (.int .i64 (A.rem (A.conv .i64 (GD a0.gcode (A.toN a0.gat))) a1))))] [(5, .var [.bs (LEN a0.gcode) 1 (row GD (encI .u8) a0.gcode), .v (.int .i64 (A.add .i64 a0.gat 1)), .v (.int .i64 a0.gseed)])]), ?_, ?_⟩
    ·exact le_sparse rfl ⟨lR _, trivial⟩ ⟨rfl, trivial⟩ rfl
    ·exact ⟨lR _, ⟨rfl, trivial⟩, rfl⟩
  ·replace h := of_br_f b9 h
   cbv
   replace h := of_req h
   obtain ⟨c6, h⟩ := h
   refine ⟨c6, ?_⟩
   replace h := of_req h
   obtain ⟨c7, h⟩ := h
   refine ⟨c7, ?_⟩
   replace h := of_req h
   obtain ⟨c8, h⟩ := h
   refine ⟨c8, ?_⟩
   injection h with h
   subst h
   refine ⟨(sparse 76 [(4, .c (.v (.int .i64 (A.rem (A.quo .i64 (A.rem (A.add .i64 (A.mul .i64 a0.gseed 48271) 11) 2147483647) 7) a1))))] [(5, .var [.bs (LEN a0.gcode) 1 (row GD (encI .u8) a0.gcode), .v (.int .i64 a0.gat), .v (.int .i64 (A.rem (A.add .i64 (A.mul .i64 a0.gseed 48271) 11) 2147483647))])]), ?_, ?_⟩
   ·exact le_sparse rfl ⟨lR _, trivial⟩ ⟨rfl, trivial⟩ rfl
   ·exact ⟨lR _, ⟨rfl, trivial⟩, rfl⟩

noncomputable def L_spec_l09DrawName_mPb_x10  : (Int × (List Int) × Int × Int × (List Int)) → Option ((Int × (List Int) × Int × Int × (List Int)) ⊕ (((List Int) × (List Int) × Int × Int))) := fun x10 =>
 letO x10.1 fun v5 =>
 letO x10.2.1 fun v6 =>
 letO x10.2.2.1 fun v7 =>
 letO x10.2.2.2.1 fun v8 =>
 letO x10.2.2.2.2 fun v9 =>
 br (std.lt 0 v5)
 ((F_spec_l01Next_mPbb (Tl01Source.mk v6 v7 v8) 10).bind fun y22 =>
 req (std.inR y22.1 (std.slen (ByteArray.mk #[97, 98, 99, 100, 120, 121, 122, 48, 49, 57]))) <|
 letO ([std.sat (ByteArray.mk #[97, 98, 99, 100, 120, 121, 122, 48, 49, 57]) (std.toN y22.1)] : List Int) fun l25 =>
 req (std.room (std.nadd (len v9) (len l25)) 1) <|
 letO (v9 ++ l25) fun l27 =>
 some (.inl (std.sub .i64 v5 1, y22.2.gcode, y22.2.gat, y22.2.gseed, l27)))
 (some (.inr (v9, v6, v7, v8)))
/-- spec.l09DrawName -/
noncomputable def F_spec_l09DrawName_mPb (a0 : Tl01Source) : Option (ByteArray × Tl01Source) :=
 letO ([] : List Int) fun l1 =>
 (F_spec_l01Next_mPbb a0 3).bind fun y3 =>
 (whileP (σ := Int × (List Int) × Int × Int × (List Int)) (ρ := ((List Int) × (List Int) × Int × Int)) L_spec_l09DrawName_mPb_x10 (std.add .i64 1 y3.1, y3.2.gcode, y3.2.gat, y3.2.gseed, l1)).bind fun y11 =>
 letO y11 fun y11k0 =>
 letO y11k0.1 fun w31 =>
 letO y11k0.2.1 fun w32 =>
 letO y11k0.2.2.1 fun w33 =>
 letO y11k0.2.2.2 fun w34 =>
 some (std.ofBytes (len w31) (fun i => gd w31 (0 + i)), (Tl01Source.mk w32 w33 w34))
theorem run_spec_l09DrawName_mPb (a0 : Tl01Source) (r : ByteArray × Tl01Source) (h : F_spec_l09DrawName_mPb a0 = some r) : Fun Try.prog 182 [.c (.ptr 5 0)] [(5, .var [.bs (len a0.gcode) 1 (row gd (encI .u8) a0.gcode), .v (.int .i64 a0.gat), .v (.int .i64 a0.gseed)])] (.c (.v (.string r.1))) [(5, .var [.bs (len r.2.gcode) 1 (row gd (encI .u8) r.2.gcode), .v (.int .i64 r.2.gat), .v (.int .i64 r.2.gseed)])] false := by
 refine Fun.of_wp (oneOf []) tok mixed Try.func182 (by kernel_rfl) rfl Try.ntmps182 rfl trivial (fun h => by cases h) ?_
 unfold F_spec_l09DrawName_mPb at h
 unfold L_spec_l09DrawName_mPb_x10 at h
 have hf_spec_l01Next_mPbb := @run_spec_l01Next_mPbb
 generalize hLEN : @len = LEN at *
 generalize hGD : @gd = GD at *
 generalize hA : std = A at *
 generalize hP : Try.prog = P at *
 cbv
 replace h := of_let h
 obtain ⟨l1, hl1, h⟩ := h
 have e2 : 0 = LEN l1 := by subst hl1 hLEN; rfl
 refine ⟨_, congrArg (fun n => AV.c (AC.os 320 0 n)) e2, _, row GD (encI .u8) l1, e2, ?_, ?_⟩
 ·intro i hi j hj
  rw [← e2] at hi
  subst hl1
  subst hGD
  omega
 cbv
 replace h := of_bind h
 obtain ⟨y3, hy4, h⟩ := h
 refine ⟨{ args := [.c (.ptr 5 0), .c (.v (.int .i64 3))], o0 := [(5, .var [.bs (LEN a0.gcode) 1 (row GD (encI .u8) a0.gcode), .v (.int .i64 a0.gat), .v (.int .i64 a0.gseed)])], r := .c (.v (.int .i64 y3.1)), o1 := [(5, .var [.bs (LEN y3.2.gcode) 1 (row GD (encI .u8) y3.2.gcode), .v (.int .i64 y3.2.gat), .v (.int .i64 y3.2.gseed)])], fl := false, σ := [(5, 5)], τ := [(5, 5)] }, hf_spec_l01Next_mPbb _ _ _ hy4, ⟨les_cons (lR _) (les_cons (lR _) (les_nil)), ⟨rfl, trivial⟩, rfl, rfl, rfl, rfl, ⟨fun _ => rfl, trivial⟩, rfl⟩, ?_⟩
 cbv
 replace h := of_bind h
 obtain ⟨y11, hr12, hN13⟩ := h
 refine loop_cut hr12 (fun x => (sparse 21 [(0, .c (.ptr 5 0)), (3, .c (.os 320 0 (LEN x.2.2.2.2))), (4, .c (.v (.int .i64 x.1)))] [(5, .var [.bs (LEN x.2.1) 1 (row GD (encI .u8) x.2.1), .v (.int .i64 x.2.2.1), .v (.int .i64 x.2.2.2.1)]), (320, .arr .rw [] (LEN x.2.2.2.2) 1 (row GD (encI .u8) x.2.2.2.2))])) ?_ (fun y e s => (fun (w : (List Int) × (List Int) × Int × Int) => e = .exit 0 ∧ s.le (sparse 21 [(3, .c (.os 320 0 (LEN w.1)))] [(320, .arr .rw [] (LEN w.1) 1 (row GD (encI .u8) w.1)), (5, .var [.bs (LEN w.2.1) 1 (row GD (encI .u8) w.2.1), .v (.int .i64 w.2.2.1), .v (.int .i64 w.2.2.2)])])) y) ?_ ?_
 ·clear hr12 hN13
  show St.le _ _
  exact le_sparse rfl ⟨lR _, lR _, lR _, trivial⟩ ⟨rfl, oS, trivial⟩ rfl
 ·clear hr12 hN13
  intro x z17 h K15 hK16 hY14
  obtain ⟨x0_, x1_, x2_, x3_, x4_⟩ := x
  replace h := of_let h
  obtain ⟨v5, hv5, h⟩ := h
  have hv5 : v5 = x0_ := hv5
  subst hv5
  replace h := of_let h
  obtain ⟨v6, hv6, h⟩ := h
  have hv6 : v6 = x1_ := hv6
  subst hv6
  replace h := of_let h
  obtain ⟨v7, hv7, h⟩ := h
  have hv7 : v7 = x2_ := hv7
  subst hv7
  replace h := of_let h
  obtain ⟨v8, hv8, h⟩ := h
  have hv8 : v8 = x3_ := hv8
  subst hv8
  replace h := of_let h
  obtain ⟨v9, hv9, h⟩ := h
  have hv9 : v9 = x4_ := hv9
  subst hv9
  cbv
  refine fork (fun b30 => ?_) (fun b30 => ?_)
  ·replace h := of_br_t b30 h
   cbv
   replace h := of_bind h
   obtain ⟨y22, hy23, h⟩ := h
   refine ⟨{ args := [.c (.ptr 5 0), .c (.v (.int .i64 10))], o0 := [(5, .var [.bs (LEN v6) 1 (row GD (encI .u8) v6), .v (.int .i64 v7), .v (.int .i64 v8)])], r := .c (.v (.int .i64 y22.1)), o1 := [(5, .var [.bs (LEN y22.2.gcode) 1 (row GD (encI .u8) y22.2.gcode), .v (.int .i64 y22.2.gat), .v (.int .i64 y22.2.gseed)])], fl := false, σ := [(5, 5)], τ := [(5, 5)] }, hf_spec_l01Next_mPbb _ _ _ hy23, ⟨les_cons (lR _) (les_cons (lR _) (les_nil)), ⟨rfl, trivial⟩, rfl, rfl, rfl, rfl, ⟨fun _ => rfl, trivial⟩, rfl⟩, ?_⟩
   cbv
   replace h := of_req h
   obtain ⟨c24, h⟩ := h
   refine ⟨c24, ?_⟩
   replace h := of_let h
   obtain ⟨l25, hl25, h⟩ := h
   have e26 : 1 = LEN l25 := by subst hl25 hLEN; rfl
   refine ⟨_, congrArg (fun n => AV.c (AC.os 1088 0 n)) e26, _, row GD (encI .u8) l25, e26, ?_, ?_⟩
   ·intro i hi j hj
    rw [← e26] at hi
    subst hl25
    subst hGD
    obtain rfl : i = 0 := (by omega)
    all_goals obtain rfl : j = 0 := by omega
    all_goals rfl
   cbv
   replace h := of_req h
   obtain ⟨c29, h⟩ := h
   replace h := of_let h
   obtain ⟨l27, hl27, h⟩ := h
   have e28 : A.nadd (LEN v9) (LEN l25) = LEN l27 := by subst hl27 hLEN hA; simp [std, len]
   refine ⟨c29, _, congrArg (fun n => AV.c (AC.os 320 0 n)) e28, _, row GD (encI .u8) l27, e28, ?_, ?_⟩
   ·subst hGD hLEN hA
    exact app_os (off := 0) (fun _ _ => rfl) hl27 (Nat.le_refl _)
   cbv
   injection h with h
   refine hK16 _ h.symm _ ?_
   exact le_sparse rfl ⟨lR _, lR _, lR _, trivial⟩ ⟨rfl, oS, trivial⟩ rfl
  ·replace h := of_br_f b30 h
   cbv
   injection h with h
   refine hY14 _ h.symm _ _ (And.intro rfl ?_) (by intro hh; cases hh)
   exact le_sparse rfl ⟨lR _, trivial⟩ ⟨oS, rfl, trivial⟩ rfl
 ·clear hr12
  have h := hN13
  clear hN13
  intro e20 s21 q19 hne
  replace h := of_let h
  obtain ⟨y11k0, hyk, h⟩ := h
  have hyk : y11k0 = y11 := hyk
  subst hyk
  obtain ⟨rfl, q19⟩ := q19
  obtain ⟨y11k0_0, y11k0_1, y11k0_2, y11k0_3⟩ := y11k0
  replace h := of_let h
  obtain ⟨w31, hw31, h⟩ := h
  have hw31 : w31 = y11k0_0 := hw31
  subst hw31
  replace h := of_let h
  obtain ⟨w32, hw32, h⟩ := h
  have hw32 : w32 = y11k0_1 := hw32
  subst hw32
  replace h := of_let h
  obtain ⟨w33, hw33, h⟩ := h
  have hw33 : w33 = y11k0_2 := hw33
  subst hw33
  replace h := of_let h
  obtain ⟨w34, hw34, h⟩ := h
  have hw34 : w34 = y11k0_3 := hw34
  subst hw34
  cbv
  refine ⟨_, q19, ?_⟩
  cbv
  refine ⟨fun _ _ => rfl, ?_⟩
  injection h with h
  subst h
  refine ⟨(sparse 21 [(2, .c (.v (.string (A.ofBytes (LEN w31) (fun i => GD w31 (0 + i))))))] [(5, .var [.bs (LEN w32) 1 (row GD (encI .u8) w32), .v (.int .i64 w33), .v (.int .i64 w34)])]), ?_, ?_⟩
  ·exact le_sparse rfl ⟨lR _, trivial⟩ ⟨rfl, trivial⟩ rfl
  ·exact ⟨lR _, ⟨rfl, trivial⟩, rfl⟩

/-- spec.l09DrawBox -/
noncomputable def F_spec_l09DrawBox_mPb (a0 : Tl01Source) : Option (TRect × Tl01Source) :=
 (F_spec_l01Next_mPbb a0 16).bind fun y1 =>
 (F_spec_l01Next_mPbb y1.2 16).bind fun y3 =>
 (F_spec_l01Next_mPbb y3.2 6).bind fun y5 =>
 (F_spec_l01Next_mPbb y5.2 6).bind fun y7 =>
 some ((TRect.mk (std.sub .i64 y1.1 8) (std.sub .i64 y3.1 8) (std.add .i64 (std.add .i64 (std.sub .i64 y1.1 8) 1) y5.1) (std.add .i64 (std.add .i64 (std.sub .i64 y3.1 8) 1) y7.1)), y7.2)
theorem run_spec_l09DrawBox_mPb (a0 : Tl01Source) (r : TRect × Tl01Source) (h : F_spec_l09DrawBox_mPb a0 = some r) : Fun Try.prog 214 [.c (.ptr 5 0)] [(5, .var [.bs (len a0.gcode) 1 (row gd (encI .u8) a0.gcode), .v (.int .i64 a0.gat), .v (.int .i64 a0.gseed)])] (.agg [.v (.int .i64 r.1.fX0), .v (.int .i64 r.1.fY0), .v (.int .i64 r.1.fX1), .v (.int .i64 r.1.fY1)]) [(5, .var [.bs (len r.2.gcode) 1 (row gd (encI .u8) r.2.gcode), .v (.int .i64 r.2.gat), .v (.int .i64 r.2.gseed)])] false := by
 refine Fun.of_wp (oneOf []) tok mixed Try.func214 (by kernel_rfl) rfl Try.ntmps214 rfl trivial (fun h => by cases h) ?_
 unfold F_spec_l09DrawBox_mPb at h
 have hf_spec_l01Next_mPbb := @run_spec_l01Next_mPbb
 generalize hLEN : @len = LEN at *
 generalize hGD : @gd = GD at *
 generalize hA : std = A at *
 generalize hP : Try.prog = P at *
 cbv
 replace h := of_bind h
 obtain ⟨y1, hy2, h⟩ := h
 refine ⟨{ args := [.c (.ptr 5 0), .c (.v (.int .i64 16))], o0 := [(5, .var [.bs (LEN a0.gcode) 1 (row GD (encI .u8) a0.gcode), .v (.int .i64 a0.gat), .v (.int .i64 a0.gseed)])], r := .c (.v (.int .i64 y1.1)), o1 := [(5, .var [.bs (LEN y1.2.gcode) 1 (row GD (encI .u8) y1.2.gcode), .v (.int .i64 y1.2.gat), .v (.int .i64 y1.2.gseed)])], fl := false, σ := [(5, 5)], τ := [(5, 5)] }, hf_spec_l01Next_mPbb _ _ _ hy2, ⟨les_cons (lR _) (les_cons (lR _) (les_nil)), ⟨rfl, trivial⟩, rfl, rfl, rfl, rfl, ⟨fun _ => rfl, trivial⟩, rfl⟩, ?_⟩
 cbv
 replace h := of_bind h
 obtain ⟨y3, hy4, h⟩ := h
 refine ⟨{ args := [.c (.ptr 5 0), .c (.v (.int .i64 16))], o0 := [(5, .var [.bs (LEN y1.2.gcode) 1 (row GD (encI .u8) y1.2.gcode), .v (.int .i64 y1.2.gat), .v (.int .i64 y1.2.gseed)])], r := .c (.v (.int .i64 y3.1)), o1 := [(5, .var [.bs (LEN y3.2.gcode) 1 (row GD (encI .u8) y3.2.gcode), .v (.int .i64 y3.2.gat), .v (.int .i64 y3.2.gseed)])], fl := false, σ := [(5, 5)], τ := [(5, 5)] }, hf_spec_l01Next_mPbb _ _ _ hy4, ⟨les_cons (lR _) (les_cons (lR _) (les_nil)), ⟨rfl, trivial⟩, rfl, rfl, rfl, rfl, ⟨fun _ => rfl, trivial⟩, rfl⟩, ?_⟩
 cbv
 replace h := of_bind h
 obtain ⟨y5, hy6, h⟩ := h
 refine ⟨{ args := [.c (.ptr 5 0), .c (.v (.int .i64 6))], o0 := [(5, .var [.bs (LEN y3.2.gcode) 1 (row GD (encI .u8) y3.2.gcode), .v (.int .i64 y3.2.gat), .v (.int .i64 y3.2.gseed)])], r := .c (.v (.int .i64 y5.1)), o1 := [(5, .var [.bs (LEN y5.2.gcode) 1 (row GD (encI .u8) y5.2.gcode), .v (.int .i64 y5.2.gat), .v (.int .i64 y5.2.gseed)])], fl := false, σ := [(5, 5)], τ := [(5, 5)] }, hf_spec_l01Next_mPbb _ _ _ hy6, ⟨les_cons (lR _) (les_cons (lR _) (les_nil)), ⟨rfl, trivial⟩, rfl, rfl, rfl, rfl, ⟨fun _ => rfl, trivial⟩, rfl⟩, ?_⟩
 cbv
 replace h := of_bind h
 obtain ⟨y7, hy8, h⟩ := h
 refine ⟨{ args := [.c (.ptr 5 0), .c (.v (.int .i64 6))], o0 := [(5, .var [.bs (LEN y5.2.gcode) 1 (row GD (encI .u8) y5.2.gcode), .v (.int .i64 y5.2.gat), .v (.int .i64 y5.2.gseed)])], r := .c (.v (.int .i64 y7.1)), o1 := [(5, .var [.bs (LEN y7.2.gcode) 1 (row GD (encI .u8) y7.2.gcode), .v (.int .i64 y7.2.gat), .v (.int .i64 y7.2.gseed)])], fl := false, σ := [(5, 5)], τ := [(5, 5)] }, hf_spec_l01Next_mPbb _ _ _ hy8, ⟨les_cons (lR _) (les_cons (lR _) (les_nil)), ⟨rfl, trivial⟩, rfl, rfl, rfl, rfl, ⟨fun _ => rfl, trivial⟩, rfl⟩, ?_⟩
 cbv
 injection h with h
 subst h
 refine ⟨(sparse 24 [(2, .c (.ptr 128 0))] [(128, .var [.v (.int .i64 (A.sub .i64 y1.1 8)), .v (.int .i64 (A.sub .i64 y3.1 8)), .v (.int .i64 (A.add .i64 (A.add .i64 (A.sub .i64 y1.1 8) 1) y5.1)), .v (.int .i64 (A.add .i64 (A.add .i64 (A.sub .i64 y3.1 8) 1) y7.1))]), (5, .var [.bs (LEN y7.2.gcode) 1 (row GD (encI .u8) y7.2.gcode), .v (.int .i64 y7.2.gat), .v (.int .i64 y7.2.gseed)])]), ?_, ?_⟩
 ·exact le_sparse rfl ⟨lR _, trivial⟩ ⟨rfl, rfl, trivial⟩ rfl
 ·exact ⟨lR _, ⟨rfl, trivial⟩, rfl⟩

/-- spec.l09DrawShape -/
noncomputable def F_spec_l09DrawShape_mPb (a0 : Tl01Source) : Option (TShape × Tl01Source) :=
 (F_spec_l01Next_mPbb a0 8).bind fun y1 =>
 (F_spec_l09DrawBox_mPb y1.2).bind fun y3 =>
 some ((TShape.mk y1.1 y3.1), y3.2)
theorem run_spec_l09DrawShape_mPb (a0 : Tl01Source) (r : TShape × Tl01Source) (h : F_spec_l09DrawShape_mPb a0 = some r) : Fun Try.prog 183 [.c (.ptr 5 0)] [(5, .var [.bs (len a0.gcode) 1 (row gd (encI .u8) a0.gcode), .v (.int .i64 a0.gat), .v (.int .i64 a0.gseed)])] (.agg [.v (.int .i64 r.1.fLayer), .v (.int .i64 r.1.fBox.fX0), .v (.int .i64 r.1.fBox.fY0), .v (.int .i64 r.1.fBox.fX1), .v (.int .i64 r.1.fBox.fY1)]) [(5, .var [.bs (len r.2.gcode) 1 (row gd (encI .u8) r.2.gcode), .v (.int .i64 r.2.gat), .v (.int .i64 r.2.gseed)])] false := by
 refine Fun.of_wp (oneOf []) tok mixed Try.func183 (by kernel_rfl) rfl Try.ntmps183 rfl trivial (fun h => by cases h) ?_
 unfold F_spec_l09DrawShape_mPb at h
 have hf_spec_l01Next_mPbb := @run_spec_l01Next_mPbb
 have hf_spec_l09DrawBox_mPb := @run_spec_l09DrawBox_mPb
 generalize hLEN : @len = LEN at *
 generalize hGD : @gd = GD at *
 generalize hA : std = A at *
 generalize hP : Try.prog = P at *
 cbv
 replace h := of_bind h
 obtain ⟨y1, hy2, h⟩ := h
 refine ⟨{ args := [.c (.ptr 5 0), .c (.v (.int .i64 8))], o0 := [(5, .var [.bs (LEN a0.gcode) 1 (row GD (encI .u8) a0.gcode), .v (.int .i64 a0.gat), .v (.int .i64 a0.gseed)])], r := .c (.v (.int .i64 y1.1)), o1 := [(5, .var [.bs (LEN y1.2.gcode) 1 (row GD (encI .u8) y1.2.gcode), .v (.int .i64 y1.2.gat), .v (.int .i64 y1.2.gseed)])], fl := false, σ := [(5, 5)], τ := [(5, 5)] }, hf_spec_l01Next_mPbb _ _ _ hy2, ⟨les_cons (lR _) (les_cons (lR _) (les_nil)), ⟨rfl, trivial⟩, rfl, rfl, rfl, rfl, ⟨fun _ => rfl, trivial⟩, rfl⟩, ?_⟩
 cbv
 replace h := of_bind h
 obtain ⟨y3, hy4, h⟩ := h
 refine ⟨{ args := [.c (.ptr 5 0)], o0 := [(5, .var [.bs (LEN y1.2.gcode) 1 (row GD (encI .u8) y1.2.gcode), .v (.int .i64 y1.2.gat), .v (.int .i64 y1.2.gseed)])], r := .agg [.v (.int .i64 y3.1.fX0), .v (.int .i64 y3.1.fY0), .v (.int .i64 y3.1.fX1), .v (.int .i64 y3.1.fY1)], o1 := [(5, .var [.bs (LEN y3.2.gcode) 1 (row GD (encI .u8) y3.2.gcode), .v (.int .i64 y3.2.gat), .v (.int .i64 y3.2.gseed)])], fl := false, σ := [(5, 5)], τ := [(5, 5)] }, hf_spec_l09DrawBox_mPb _ _ hy4, ⟨les_cons (lR _) (les_nil), ⟨rfl, trivial⟩, rfl, rfl, rfl, rfl, ⟨fun _ => rfl, trivial⟩, rfl⟩, ?_⟩
 cbv
 injection h with h
 subst h
 refine ⟨(sparse 8 [(2, .c (.ptr 128 0))] [(128, .var [.v (.int .i64 y1.1), .v (.int .i64 y3.1.fX0), .v (.int .i64 y3.1.fY0), .v (.int .i64 y3.1.fX1), .v (.int .i64 y3.1.fY1)]), (5, .var [.bs (LEN y3.2.gcode) 1 (row GD (encI .u8) y3.2.gcode), .v (.int .i64 y3.2.gat), .v (.int .i64 y3.2.gseed)])]), ?_, ?_⟩
 ·exact le_sparse rfl ⟨lR _, trivial⟩ ⟨rfl, rfl, trivial⟩ rfl
 ·exact ⟨lR _, ⟨rfl, trivial⟩, rfl⟩
end Go.Proofs.Ytnmfighfidaglaa.AM
