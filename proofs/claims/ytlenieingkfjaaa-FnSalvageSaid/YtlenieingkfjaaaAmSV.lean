/-
  What the functions that the law reaches compute, and that they do. No condition.
-/
import Derived.Test.YtlenieingkfjaaaAmT
import Derived.Test.YtlenieingkfjaaaAmE
namespace Go.Proofs.Ytlenieingkfjaaa.AM
open Go Go.Proofs Go.RowKit
set_option linter.unusedVariables false
set_option linter.unusedSimpArgs false
set_option maxRecDepth 100000

theorem mixed : Try.prog.follows .mixedOrders = true := by kernel_rfl
structure TRect where
 fX0 : Int
 fY0 : Int
 fX1 : Int
 fY1 : Int
instance : Inhabited TRect := ⟨⟨default, default, default, default⟩⟩
def encRect (x : TRect) : Nat → AC := fun j => match j with
 | 0 => .v (.int .i64 x.fX0)
 | 1 => .v (.int .i64 x.fY0)
 | 2 => .v (.int .i64 x.fX1)
 | _ => .v (.int .i64 x.fY1)
theorem pl_encRect : ∀ (x : TRect) (j : Nat), plainC (encRect x j) = true := by
 intro x j
 unfold encRect
 split <;> rfl
theorem vl_encRect : ∀ (x : TRect) (j : Nat), valC (encRect x j) = true := by
 intro x j
 unfold encRect
 split <;> rfl
structure TShape where
 fLayer : Int
 fBox : TRect
instance : Inhabited TShape := ⟨⟨default, default⟩⟩
def encShape (x : TShape) : Nat → AC := fun j => match j with
 | 0 => .v (.int .i64 x.fLayer)
 | 1 => .v (.int .i64 x.fBox.fX0)
 | 2 => .v (.int .i64 x.fBox.fY0)
 | 3 => .v (.int .i64 x.fBox.fX1)
 | _ => .v (.int .i64 x.fBox.fY1)
theorem pl_encShape : ∀ (x : TShape) (j : Nat), plainC (encShape x j) = true := by
 intro x j
 unfold encShape
 split <;> rfl
theorem vl_encShape : ∀ (x : TShape) (j : Nat), valC (encShape x j) = true := by
 intro x j
 unfold encShape
 split <;> rfl
structure TPoint where
 fX : Int
 fY : Int
instance : Inhabited TPoint := ⟨⟨default, default⟩⟩
def encPoint (x : TPoint) : Nat → AC := fun j => match j with
 | 0 => .v (.int .i64 x.fX)
 | _ => .v (.int .i64 x.fY)
theorem pl_encPoint : ∀ (x : TPoint) (j : Nat), plainC (encPoint x j) = true := by
 intro x j
 unfold encPoint
 split <;> rfl
theorem vl_encPoint : ∀ (x : TPoint) (j : Nat), valC (encPoint x j) = true := by
 intro x j
 unfold encPoint
 split <;> rfl
structure TLabel where
 fLayer : Int
 fAt : TPoint
 fName : ByteArray
instance : Inhabited TLabel := ⟨⟨default, default, default⟩⟩
def encLabel (x : TLabel) : Nat → AC := fun j => match j with
 | 0 => .v (.int .i64 x.fLayer)
 | 1 => .v (.int .i64 x.fAt.fX)
 | 2 => .v (.int .i64 x.fAt.fY)
 | _ => .v (.string x.fName)
theorem pl_encLabel : ∀ (x : TLabel) (j : Nat), plainC (encLabel x j) = true := by
 intro x j
 unfold encLabel
 split <;> rfl
theorem vl_encLabel : ∀ (x : TLabel) (j : Nat), valC (encLabel x j) = true := by
 intro x j
 unfold encLabel
 split <;> rfl
structure TTransform where
 fOrientation : Int
 fX : Int
 fY : Int
instance : Inhabited TTransform := ⟨⟨default, default, default⟩⟩
def encTransform (x : TTransform) : Nat → AC := fun j => match j with
 | 0 => .v (.int .i64 x.fOrientation)
 | 1 => .v (.int .i64 x.fX)
 | _ => .v (.int .i64 x.fY)
theorem pl_encTransform : ∀ (x : TTransform) (j : Nat), plainC (encTransform x j) = true := by
 intro x j
 unfold encTransform
 split <;> rfl
theorem vl_encTransform : ∀ (x : TTransform) (j : Nat), valC (encTransform x j) = true := by
 intro x j
 unfold encTransform
 split <;> rfl
structure TInstance where
 fCell : Int
 fPlace : TTransform
 fColumns : Int
 fRows : Int
 fStepX : Int
 fStepY : Int
instance : Inhabited TInstance := ⟨⟨default, default, default, default, default, default⟩⟩
def encInstance (x : TInstance) : Nat → AC := fun j => match j with
 | 0 => .v (.int .i64 x.fCell)
 | 1 => .v (.int .i64 x.fPlace.fOrientation)
 | 2 => .v (.int .i64 x.fPlace.fX)
 | 3 => .v (.int .i64 x.fPlace.fY)
 | 4 => .v (.int .i64 x.fColumns)
 | 5 => .v (.int .i64 x.fRows)
 | 6 => .v (.int .i64 x.fStepX)
 | _ => .v (.int .i64 x.fStepY)
theorem pl_encInstance : ∀ (x : TInstance) (j : Nat), plainC (encInstance x j) = true := by
 intro x j
 unfold encInstance
 split <;> rfl
theorem vl_encInstance : ∀ (x : TInstance) (j : Nat), valC (encInstance x j) = true := by
 intro x j
 unfold encInstance
 split <;> rfl
structure TCell where
 fName : ByteArray
 fShapes : List TShape
 fLabels : List TLabel
 fInstances : List TInstance
instance : Inhabited TCell := ⟨⟨default, default, default, default⟩⟩
def encCell (LEN : {α : Type} → List α → Nat) (GD : {α : Type} → [Inhabited α] → List α → Nat → α) (x : TCell) : Nat → AC := fun j => match j with
 | 0 => .v (.string x.fName)
 | 1 => .bs (LEN x.fShapes) 5 (row GD (encShape) x.fShapes)
 | 2 => .bs (LEN x.fLabels) 4 (row GD (encLabel) x.fLabels)
 | _ => .bs (LEN x.fInstances) 8 (row GD (encInstance) x.fInstances)
theorem pl_encCell {LEN : {α : Type} → List α → Nat} {GD : {α : Type} → [Inhabited α] → List α → Nat → α} : ∀ (x : TCell) (j : Nat), plainC (encCell LEN GD x j) = true := by
 intro x j
 unfold encCell
 split <;> rfl
def oncCell (LEN : {α : Type} → List α → Nat) (GD : {α : Type} → [Inhabited α] → List α → Nat → α) (x : TCell) : Nat → AC := fun j => match j with
 | 0 => .v (.string x.fName)
 | 1 => .ow (LEN x.fShapes) 5 (row GD (encShape) x.fShapes)
 | 2 => .ow (LEN x.fLabels) 4 (row GD (encLabel) x.fLabels)
 | _ => .ow (LEN x.fInstances) 8 (row GD (encInstance) x.fInstances)
theorem rf_oncCell {LEN : {α : Type} → List α → Nat} {GD : {α : Type} → [Inhabited α] → List α → Nat → α} : ∀ (x : TCell) (j : Nat), (oncCell LEN GD x j).ref = [] := by
 intro x j
 unfold oncCell
 split <;> rfl
theorem ln_oncCell {LEN : {α : Type} → List α → Nat} {GD : {α : Type} → [Inhabited α] → List α → Nat → α} : ∀ (x : TCell) (j : Nat), (oncCell LEN GD x j).lentIn = encCell LEN GD x j := by
 intro x j
 unfold oncCell encCell
 split <;> rfl
theorem fl_oncCell {LEN : {α : Type} → List α → Nat} {GD : {α : Type} → [Inhabited α] → List α → Nat → α} : ∀ (x : TCell) (j : Nat), (oncCell LEN GD x j).flat := by
 intro x j
 unfold oncCell
 split <;> first | trivial | (exact fun i _ j _ => val_v (vl_encShape _ _)) | (exact fun i _ j _ => val_v (vl_encLabel _ _)) | (exact fun i _ j _ => val_v (vl_encInstance _ _))
structure TLibrary where
 fCells : List TCell
instance : Inhabited TLibrary := ⟨⟨default⟩⟩
def encLibrary (LEN : {α : Type} → List α → Nat) (GD : {α : Type} → [Inhabited α] → List α → Nat → α) (x : TLibrary) : Nat → AC := fun j => match j with
 | _ => .bs (LEN x.fCells) 4 (row GD (encCell LEN GD) x.fCells)
theorem pl_encLibrary {LEN : {α : Type} → List α → Nat} {GD : {α : Type} → [Inhabited α] → List α → Nat → α} : ∀ (x : TLibrary) (j : Nat), plainC (encLibrary LEN GD x j) = true := by
 intro x j
 unfold encLibrary
 split <;> rfl
structure Tl01Source where
 gcode : List Int
 gat : Int
 gseed : Int
instance : Inhabited Tl01Source := ⟨⟨default, default, default⟩⟩
def encl01Source (LEN : {α : Type} → List α → Nat) (GD : {α : Type} → [Inhabited α] → List α → Nat → α) (x : Tl01Source) : Nat → AC := fun j => match j with
 | 0 => .bs (LEN x.gcode) 1 (row GD (encI .u8) x.gcode)
 | 1 => .v (.int .i64 x.gat)
 | _ => .v (.int .i64 x.gseed)
theorem pl_encl01Source {LEN : {α : Type} → List α → Nat} {GD : {α : Type} → [Inhabited α] → List α → Nat → α} : ∀ (x : Tl01Source) (j : Nat), plainC (encl01Source LEN GD x j) = true := by
 intro x j
 unfold encl01Source
 split <;> rfl
def oncl01Source (LEN : {α : Type} → List α → Nat) (GD : {α : Type} → [Inhabited α] → List α → Nat → α) (x : Tl01Source) : Nat → AC := fun j => match j with
 | 0 => .ow (LEN x.gcode) 1 (row GD (encI .u8) x.gcode)
 | 1 => .v (.int .i64 x.gat)
 | _ => .v (.int .i64 x.gseed)
theorem rf_oncl01Source {LEN : {α : Type} → List α → Nat} {GD : {α : Type} → [Inhabited α] → List α → Nat → α} : ∀ (x : Tl01Source) (j : Nat), (oncl01Source LEN GD x j).ref = [] := by
 intro x j
 unfold oncl01Source
 split <;> rfl
theorem ln_oncl01Source {LEN : {α : Type} → List α → Nat} {GD : {α : Type} → [Inhabited α] → List α → Nat → α} : ∀ (x : Tl01Source) (j : Nat), (oncl01Source LEN GD x j).lentIn = encl01Source LEN GD x j := by
 intro x j
 unfold oncl01Source encl01Source
 split <;> rfl
theorem fl_oncl01Source {LEN : {α : Type} → List α → Nat} {GD : {α : Type} → [Inhabited α] → List α → Nat → α} : ∀ (x : Tl01Source) (j : Nat), (oncl01Source LEN GD x j).flat := by
 intro x j
 unfold oncl01Source
 split <;> first | trivial | (exact fun i _ j _ => val_v (rfl))
structure Tdice where
 gb : List Int
 gi : Int
 gh : Int
instance : Inhabited Tdice := ⟨⟨default, default, default⟩⟩
def encdice (LEN : {α : Type} → List α → Nat) (GD : {α : Type} → [Inhabited α] → List α → Nat → α) (x : Tdice) : Nat → AC := fun j => match j with
 | 0 => .bs (LEN x.gb) 1 (row GD (encI .u8) x.gb)
 | 1 => .v (.int .i64 x.gi)
 | _ => .v (.int .u64 x.gh)
theorem pl_encdice {LEN : {α : Type} → List α → Nat} {GD : {α : Type} → [Inhabited α] → List α → Nat → α} : ∀ (x : Tdice) (j : Nat), plainC (encdice LEN GD x j) = true := by
 intro x j
 unfold encdice
 split <;> rfl
def oncdice (LEN : {α : Type} → List α → Nat) (GD : {α : Type} → [Inhabited α] → List α → Nat → α) (x : Tdice) : Nat → AC := fun j => match j with
 | 0 => .ow (LEN x.gb) 1 (row GD (encI .u8) x.gb)
 | 1 => .v (.int .i64 x.gi)
 | _ => .v (.int .u64 x.gh)
theorem rf_oncdice {LEN : {α : Type} → List α → Nat} {GD : {α : Type} → [Inhabited α] → List α → Nat → α} : ∀ (x : Tdice) (j : Nat), (oncdice LEN GD x j).ref = [] := by
 intro x j
 unfold oncdice
 split <;> rfl
theorem ln_oncdice {LEN : {α : Type} → List α → Nat} {GD : {α : Type} → [Inhabited α] → List α → Nat → α} : ∀ (x : Tdice) (j : Nat), (oncdice LEN GD x j).lentIn = encdice LEN GD x j := by
 intro x j
 unfold oncdice encdice
 split <;> rfl
theorem fl_oncdice {LEN : {α : Type} → List α → Nat} {GD : {α : Type} → [Inhabited α] → List α → Nat → α} : ∀ (x : Tdice) (j : Nat), (oncdice LEN GD x j).flat := by
 intro x j
 unfold oncdice
 split <;> first | trivial | (exact fun i _ j _ => val_v (rfl))
structure TstreamReader where
 gbegun : Bool
 gdone : Bool
 gcells : Int
 ginside : Bool
 gcell : TCell
 glib : TLibrary
instance : Inhabited TstreamReader := ⟨⟨default, default, default, default, default, default⟩⟩
def encstreamReader (LEN : {α : Type} → List α → Nat) (GD : {α : Type} → [Inhabited α] → List α → Nat → α) (x : TstreamReader) : Nat → AC := fun j => match j with
 | 0 => .v (.bool x.gbegun)
 | 1 => .v (.bool x.gdone)
 | 2 => .v (.int .i64 x.gcells)
 | 3 => .v (.bool x.ginside)
 | 4 => .v (.string x.gcell.fName)
 | 5 => .bs (LEN x.gcell.fShapes) 5 (row GD (encShape) x.gcell.fShapes)
 | 6 => .bs (LEN x.gcell.fLabels) 4 (row GD (encLabel) x.gcell.fLabels)
 | 7 => .bs (LEN x.gcell.fInstances) 8 (row GD (encInstance) x.gcell.fInstances)
 | _ => .bs (LEN x.glib.fCells) 4 (row GD (encCell LEN GD) x.glib.fCells)
theorem pl_encstreamReader {LEN : {α : Type} → List α → Nat} {GD : {α : Type} → [Inhabited α] → List α → Nat → α} : ∀ (x : TstreamReader) (j : Nat), plainC (encstreamReader LEN GD x j) = true := by
 intro x j
 unfold encstreamReader
 split <;> rfl
structure TbyteReader where
 gs : ByteArray
 gbad : Bool
instance : Inhabited TbyteReader := ⟨⟨default, default⟩⟩
def encbyteReader (x : TbyteReader) : Nat → AC := fun j => match j with
 | 0 => .v (.string x.gs)
 | _ => .v (.bool x.gbad)
theorem pl_encbyteReader : ∀ (x : TbyteReader) (j : Nat), plainC (encbyteReader x j) = true := by
 intro x j
 unfold encbyteReader
 split <;> rfl
theorem vl_encbyteReader : ∀ (x : TbyteReader) (j : Nat), valC (encbyteReader x j) = true := by
 intro x j
 unfold encbyteReader
 split <;> rfl
/-- laws.big -/
noncomputable def F_laws_big (a0 : List Int) : Option (Bool) :=
 some (std.lt 4096 (std.ofN (len a0)))
set_option maxHeartbeats 4000000 in
theorem run_laws_big (a0 : List Int) (r : Bool) (h : F_laws_big a0 = some r) : Fun Try.prog 14 [.c (.bs (len a0) 1 (row gd (encI .u8) a0))] [] (.c (.v (.bool r))) [] true := by
 refine Fun.of_wp (oneOf []) tok mixed Try.func14 (by kernel_rfl) rfl Try.ntmps14 rfl trivial (fun _ => ⟨trivial, trivial⟩) ?_
 unfold F_laws_big at h
 generalize hLEN : @len = LEN at *
 generalize hGD : @gd = GD at *
 generalize hA : std = A at *
 generalize hP : Try.prog = P at *
 cbv
 injection h with h
 subst h
 refine ⟨(sparse 6 [(2, .c (.v (.bool (A.lt 4096 (A.ofN (LEN a0))))))] []), ?_, ?_⟩
 ·exact le_sparse rfl ⟨lR _, trivial⟩ trivial rfl
 ·exact ⟨lR _, trivial, rfl⟩

noncomputable def L_spec_l01From_x3 (a0 : List Int) : (Int × Int) → Option ((Int × Int) ⊕ ((Int))) := fun x3 =>
 letO x3.1 fun v1 =>
 letO x3.2 fun v2 =>
 ((
    br (std.lt v1 (std.ofN (len a0)))
    (some (std.lt v1 64))
    (some false)
  ) : Option (Bool)).bind fun y15 =>
 letO y15 fun w21 =>
 br w21
 (req (std.inR v1 (len a0)) <|
 req (std.nz 2147483647) <|
 some (.inl (std.add .i64 v1 1, std.rem (std.add .i64 (std.mul .i64 v2 31) (std.conv .i64 (gd a0 (std.toN v1)))) 2147483647)))
 (some (.inr v2))
/-- spec.l01From -/
noncomputable def F_spec_l01From (a0 : List Int) : Option (Tl01Source) :=
 (whileP (σ := Int × Int) (ρ := (Int)) (L_spec_l01From_x3 a0) (0, 12345)).bind fun y4 =>
 letO y4 fun y4k0 =>
 letO y4k0 fun w26 =>
 some (Tl01Source.mk a0 0 w26)
set_option maxHeartbeats 4000000 in
theorem run_spec_l01From (a0 : List Int) (r : Tl01Source) (h : F_spec_l01From a0 = some r) : Fun Try.prog 60 [.c (.bs (len a0) 1 (row gd (encI .u8) a0))] [] (.c (.ptr 64000 0)) [(64000, .var [.bs (len r.gcode) 1 (row gd (encI .u8) r.gcode), .v (.int .i64 r.gat), .v (.int .i64 r.gseed)])] false := by
 refine Fun.of_wp (oneOf [3]) tok mixed Try.func60 (by kernel_rfl) rfl Try.ntmps60 rfl trivial (fun h => by cases h) ?_
 unfold F_spec_l01From at h
 unfold L_spec_l01From_x3 at h
 generalize hLEN : @len = LEN at *
 generalize hGD : @gd = GD at *
 generalize hA : std = A at *
 generalize hP : Try.prog = P at *
 cbv
 replace h := of_bind h
 obtain ⟨y4, hr5, hN6⟩ := h
 refine loop_cut hr5 (fun x => (sparse 34 [(0, .c (.bs (LEN a0) 1 (row GD (encI .u8) a0))), (3, .c (.ptr 448 0)), (4, .c (.v (.int .i64 x.1)))] [(448, .var [.bs (LEN a0) 1 (row GD (encI .u8) a0), .v (.int .i64 0), .v (.int .i64 x.2)])])) ?_ (fun y e s => (fun (w : Int) => e = .exit 0 ∧ s.le (sparse 34 [(3, .c (.ptr 448 0))] [(448, .var [.bs (LEN a0) 1 (row GD (encI .u8) a0), .v (.int .i64 0), .v (.int .i64 w)])])) y) ?_ ?_
 ·clear hr5 hN6
  show St.le _ _
  exact le_sparse rfl ⟨lR _, lR _, lR _, trivial⟩ ⟨rfl, trivial⟩ rfl
 ·clear hr5 hN6
  intro x z10 h K8 hK9 hY7
  obtain ⟨x0_, x1_⟩ := x
  replace h := of_let h
  obtain ⟨v1, hv1, h⟩ := h
  have hv1 : v1 = x0_ := hv1
  subst hv1
  replace h := of_let h
  obtain ⟨v2, hv2, h⟩ := h
  have hv2 : v2 = x1_ := hv2
  subst hv2
  cbv
  replace h := of_bind h
  obtain ⟨y15, hy16, h⟩ := h
  obtain ⟨S19, hS20⟩ : ∃ S, S = (sparse 34 [(0, .c (.bs (LEN a0) 1 (row GD (encI .u8) a0))), (3, .c (.ptr 448 0)), (4, .c (.v (.int .i64 v1))), (15, .c (.v (.bool y15)))] [(448, .var [.bs (LEN a0) 1 (row GD (encI .u8) a0), .v (.int .i64 0), .v (.int .i64 v2)])]) := ⟨_, rfl⟩
  refine ⟨S19, ?_, ?_⟩
  ·clear h
   have h := hy16
   clear hy16
   cbv
   refine fork (fun b22 => ?_) (fun b22 => ?_)
   ·replace h := of_br_t b22 h
    cbv
    injection h with h
    subst h
    subst hS20
    show St.le _ _
    exact le_sparse rfl ⟨lR _, lR _, lR _, lR _, trivial⟩ ⟨rfl, trivial⟩ rfl
   ·replace h := of_br_f b22 h
    cbv
    injection h with h
    subst h
    subst hS20
    show St.le _ _
    exact le_sparse rfl ⟨lR _, lR _, lR _, lR _, trivial⟩ ⟨rfl, trivial⟩ rfl
  ·clear hy16
   subst hS20
   replace h := of_let h
   obtain ⟨w21, hw21, h⟩ := h
   have hw21 : w21 = y15 := hw21
   subst hw21
   cbv
   refine fork (fun b25 => ?_) (fun b25 => ?_)
   ·replace h := of_br_t b25 h
    cbv
    replace h := of_req h
    obtain ⟨c23, h⟩ := h
    refine ⟨⟨c23, trivial⟩, ?_⟩
    replace h := of_req h
    obtain ⟨c24, h⟩ := h
    refine ⟨c24, ?_⟩
    injection h with h
    refine hK9 _ h.symm _ ?_
    exact le_sparse rfl ⟨lR _, lR _, lR _, trivial⟩ ⟨rfl, trivial⟩ rfl
   ·replace h := of_br_f b25 h
    cbv
    injection h with h
    refine hY7 _ h.symm _ _ (And.intro rfl ?_) (by intro hh; cases hh)
    exact le_sparse rfl ⟨lR _, trivial⟩ ⟨rfl, trivial⟩ rfl
 ·clear hr5
  have h := hN6
  clear hN6
  intro e13 s14 q12 hne
  replace h := of_let h
  obtain ⟨y4k0, hyk, h⟩ := h
  have hyk : y4k0 = y4 := hyk
  subst hyk
  obtain ⟨rfl, q12⟩ := q12
  replace h := of_let h
  obtain ⟨w26, hw26, h⟩ := h
  have hw26 : w26 = y4k0 := hw26
  subst hw26
  cbv
  refine ⟨_, q12, ?_⟩
  cbv
  injection h with h
  subst h
  refine ⟨(sparse 34 [(2, .c (.ptr 64000 0))] [(64000, .var [.bs (LEN a0) 1 (row GD (encI .u8) a0), .v (.int .i64 0), .v (.int .i64 w26)])]), ?_, ?_⟩
  ·refine St.le_trans (le_ren 448 64000 (by decide) rfl) ?_
   exact le_sparse rfl ⟨lR _, trivial⟩ ⟨rfl, trivial⟩ rfl
  ·exact ⟨lR _, ⟨rfl, trivial⟩, rfl⟩

/-- spec.l01Next -/
noncomputable def F_spec_l01Next_mPbb (a0 : Tl01Source) (a1 : Int) : Option (Int × Tl01Source) :=
 br (std.le a1 1)
 (some ((0 : Int), a0))
 (br (std.lt a0.gat (std.ofN (len a0.gcode)))
 (req (std.inR a0.gat (len a0.gcode)) <|
 br (std.lt 256 a1)
 (req (std.nz 2147483647) <|
 req (std.nz a1) <|
 some (std.rem (std.rem (std.add .i64 (std.add .i64 (std.mul .i64 a0.gseed 48271) (std.conv .i64 (gd a0.gcode (std.toN a0.gat)))) 1) 2147483647) a1, (Tl01Source.mk a0.gcode (std.add .i64 a0.gat 1) (std.rem (std.add .i64 (std.add .i64 (std.mul .i64 a0.gseed 48271) (std.conv .i64 (gd a0.gcode (std.toN a0.gat)))) 1) 2147483647))))
 (req (std.nz a1) <|
 some (std.rem (std.conv .i64 (gd a0.gcode (std.toN a0.gat))) a1, (Tl01Source.mk a0.gcode (std.add .i64 a0.gat 1) a0.gseed))))
 (req (std.nz 2147483647) <|
 req (std.nz 7) <|
 req (std.nz a1) <|
 some (std.rem (std.quo .i64 (std.rem (std.add .i64 (std.mul .i64 a0.gseed 48271) 11) 2147483647) 7) a1, (Tl01Source.mk a0.gcode a0.gat (std.rem (std.add .i64 (std.mul .i64 a0.gseed 48271) 11) 2147483647)))))
set_option maxHeartbeats 4000000 in
theorem run_spec_l01Next_mPbb (a0 : Tl01Source) (a1 : Int) (r : Int × Tl01Source) (h : F_spec_l01Next_mPbb a0 a1 = some r) : Fun Try.prog 62 [.c (.ptr 5 0), .c (.v (.int .i64 a1))] [(5, .var [.bs (len a0.gcode) 1 (row gd (encI .u8) a0.gcode), .v (.int .i64 a0.gat), .v (.int .i64 a0.gseed)])] (.c (.v (.int .i64 r.1))) [(5, .var [.bs (len r.2.gcode) 1 (row gd (encI .u8) r.2.gcode), .v (.int .i64 r.2.gat), .v (.int .i64 r.2.gseed)])] false := by
 refine Fun.of_wp (oneOf []) tok mixed Try.func62 (by kernel_rfl) rfl Try.ntmps62 rfl trivial (fun h => by cases h) ?_
 unfold F_spec_l01Next_mPbb at h
 generalize hLEN : @len = LEN at *
 generalize hGD : @gd = GD at *
 generalize hA : std = A at *
 generalize hP : Try.prog = P at *
 cbv
 refine fork (fun b10 => ?_) (fun b10 => ?_)
 ·replace h := of_br_t b10 h
  cbv
  injection h with h
  subst h
  refine ⟨(sparse 76 [(4, .c (.v (.int .i64 0)))] [(5, .var [.bs (LEN a0.gcode) 1 (row GD (encI .u8) a0.gcode), .v (.int .i64 a0.gat), .v (.int .i64 a0.gseed)])]), ?_, ?_⟩
  ·exact le_sparse rfl ⟨lR _, trivial⟩ ⟨rfl, trivial⟩ rfl
  ·exact ⟨lR _, ⟨rfl, trivial⟩, rfl⟩
 ·replace h := of_br_f b10 h
  cbv
  refine fork (fun b9 => ?_) (fun b9 => ?_)
  ·replace h := of_br_t b9 h
   cbv
   replace h := of_req h
   obtain ⟨c1, h⟩ := h
   refine ⟨⟨c1, trivial⟩, ?_⟩
   refine fork (fun b5 => ?_) (fun b5 => ?_)
   ·replace h := of_br_t b5 h
    cbv
    replace h := of_req h
    obtain ⟨c2, h⟩ := h
    refine ⟨c2, ?_⟩
    replace h := of_req h
    obtain ⟨c3, h⟩ := h
    refine ⟨c3, ?_⟩
    injection h with h
    subst h
    refine ⟨(sparse 76 [(4, .c (.v (.int .i64 (A.rem (A.rem (A.add .i64 (A.add .i64 (A.mul .i64 a0.gseed 48271) (A.conv .i64 (GD a0.gcode (A.toN a0.gat)))) 1) 2147483647) a1))))] [(5, .var [.bs (LEN a0.gcode) 1 (row GD (encI .u8) a0.gcode), .v (.int .i64 (A.add .i64 a0.gat 1)), .v (.int .i64 (A.rem (A.add .i64 (A.add .i64 (A.mul .i64 a0.gseed 48271) (A.conv .i64 (GD a0.gcode (A.toN a0.gat)))) 1) 2147483647))])]), ?_, ?_⟩
    ·exact le_sparse rfl ⟨lR _, trivial⟩ ⟨rfl, trivial⟩ rfl
    ·exact ⟨lR _, ⟨rfl, trivial⟩, rfl⟩
   ·replace h := of_br_f b5 h
    cbv
    replace h := of_req h
    obtain ⟨c4, h⟩ := h
    refine ⟨c4, ?_⟩
    injection h with h
    subst h
    refine ⟨(sparse 76 [(4, .c (.v (.int .i64 (A.rem (A.conv .i64 (GD a0.gcode (A.toN a0.gat))) a1))))] [(5, .var [.bs (LEN a0.gcode) 1 (row GD (encI .u8) a0.gcode), .v (.int .i64 (A.add .i64 a0.gat 1)), .v (.int .i64 a0.gseed)])]), ?_, ?_⟩
    ·exact le_sparse rfl ⟨lR _, trivial⟩ ⟨rfl, trivial⟩ rfl
    ·exact ⟨lR _, ⟨rfl, trivial⟩, rfl⟩
  ·replace h := of_br_f b9 h
   cbv
   replace h := of_req h
   obtain ⟨c6, h⟩ := h
   refine ⟨c6, ?_⟩
   replace h := of_req h
   obtain ⟨c7, h⟩ := h
   refine ⟨c7, ?_⟩
   replace h := of_req h
   obtain ⟨c8, h⟩ := h
   refine ⟨c8, ?_⟩
   injection h with h
   subst h
   refine ⟨(sparse 76 [(4, .c (.v (.int .i64 (A.rem (A.quo .i64 (A.rem (A.add .i64 (A.mul .i64 a0.gseed 48271) 11) 2147483647) 7) a1))))] [(5, .var [.bs (LEN a0.gcode) 1 (row GD (encI .u8) a0.gcode), .v (.int .i64 a0.gat), .v (.int .i64 (A.rem (A.add .i64 (A.mul .i64 a0.gseed 48271) 11) 2147483647))])]), ?_, ?_⟩
   ·exact le_sparse rfl ⟨lR _, trivial⟩ ⟨rfl, trivial⟩ rfl
   ·exact ⟨lR _, ⟨rfl, trivial⟩, rfl⟩

noncomputable def L_spec_l09DrawName_mPb_x10  : (Int × (List Int) × Int × Int × (List Int)) → Option ((Int × (List Int) × Int × Int × (List Int)) ⊕ (((List Int) × (List Int) × Int × Int))) := fun x10 =>
 letO x10.1 fun v5 =>
 letO x10.2.1 fun v6 =>
 letO x10.2.2.1 fun v7 =>
 letO x10.2.2.2.1 fun v8 =>
 letO x10.2.2.2.2 fun v9 =>
 br (std.lt 0 v5)
 ((F_spec_l01Next_mPbb (Tl01Source.mk v6 v7 v8) 10).bind fun y22 =>
 req (std.inR y22.1 (std.slen (ByteArray.mk #[97, 98, 99, 100, 120, 121, 122, 48, 49, 57]))) <|
 letO ([std.sat (ByteArray.mk #[97, 98, 99, 100, 120, 121, 122, 48, 49, 57]) (std.toN y22.1)] : List Int) fun l25 =>
 req (std.room (std.nadd (len v9) (len l25)) 1) <|
 letO (v9 ++ l25) fun l27 =>
 some (.inl (std.sub .i64 v5 1, y22.2.gcode, y22.2.gat, y22.2.gseed, l27)))
 (some (.inr (v9, v6, v7, v8)))
/-- spec.l09DrawName -/
noncomputable def F_spec_l09DrawName_mPb (a0 : Tl01Source) : Option (ByteArray × Tl01Source) :=
 letO ([] : List Int) fun l1 =>
 (F_spec_l01Next_mPbb a0 3).bind fun y3 =>
 (whileP (σ := Int × (List Int) × Int × Int × (List Int)) (ρ := ((List Int) × (List Int) × Int × Int)) L_spec_l09DrawName_mPb_x10 (std.add .i64 1 y3.1, y3.2.gcode, y3.2.gat, y3.2.gseed, l1)).bind fun y11 =>
 letO y11 fun y11k0 =>
 letO y11k0.1 fun w31 =>
 letO y11k0.2.1 fun w32 =>
 letO y11k0.2.2.1 fun w33 =>
 letO y11k0.2.2.2 fun w34 =>
 some (std.ofBytes (len w31) (fun i => gd w31 (0 + i)), (Tl01Source.mk w32 w33 w34))
set_option maxHeartbeats 4000000 in
theorem run_spec_l09DrawName_mPb (a0 : Tl01Source) (r : ByteArray × Tl01Source) (h : F_spec_l09DrawName_mPb a0 = some r) : Fun Try.prog 142 [.c (.ptr 5 0)] [(5, .var [.bs (len a0.gcode) 1 (row gd (encI .u8) a0.gcode), .v (.int .i64 a0.gat), .v (.int .i64 a0.gseed)])] (.c (.v (.string r.1))) [(5, .var [.bs (len r.2.gcode) 1 (row gd (encI .u8) r.2.gcode), .v (.int .i64 r.2.gat), .v (.int .i64 r.2.gseed)])] false := by
 refine Fun.of_wp (oneOf []) tok mixed Try.func142 (by kernel_rfl) rfl Try.ntmps142 rfl trivial (fun h => by cases h) ?_
 unfold F_spec_l09DrawName_mPb at h
 unfold L_spec_l09DrawName_mPb_x10 at h
 have hf_spec_l01Next_mPbb := @run_spec_l01Next_mPbb
 generalize hLEN : @len = LEN at *
 generalize hGD : @gd = GD at *
 generalize hA : std = A at *
 generalize hP : Try.prog = P at *
 cbv
 replace h := of_let h
 obtain ⟨l1, hl1, h⟩ := h
 have e2 : 0 = LEN l1 := by subst hl1 hLEN; rfl
 refine ⟨_, congrArg (fun n => AV.c (AC.os 320 0 n)) e2, _, row GD (encI .u8) l1, e2, wkOf ?_, ?_⟩
 ·intro i hi j hj
  rw [← e2] at hi
  subst hl1
  subst hGD
  omega
 cbv
 replace h := of_bind h
 obtain ⟨y3, hy4, h⟩ := h
 refine ⟨{ args := [.c (.ptr 5 0), .c (.v (.int .i64 3))], o0 := [(5, .var [.bs (LEN a0.gcode) 1 (row GD (encI .u8) a0.gcode), .v (.int .i64 a0.gat), .v (.int .i64 a0.gseed)])], r := .c (.v (.int .i64 y3.1)), o1 := [(5, .var [.bs (LEN y3.2.gcode) 1 (row GD (encI .u8) y3.2.gcode), .v (.int .i64 y3.2.gat), .v (.int .i64 y3.2.gseed)])], fl := false, σ := [(5, 5)], τ := [(5, 5)] }, hf_spec_l01Next_mPbb _ _ _ hy4, ⟨les_cons (lR _) (les_cons (lR _) (les_nil)), ⟨rfl, trivial⟩, rfl, rfl, rfl, rfl, ⟨fun _ => rfl, trivial⟩, rfl⟩, ?_⟩
 cbv
 replace h := of_bind h
 obtain ⟨y11, hr12, hN13⟩ := h
 refine loop_cut hr12 (fun x => (sparse 21 [(0, .c (.ptr 5 0)), (3, .c (.os 320 0 (LEN x.2.2.2.2))), (4, .c (.v (.int .i64 x.1)))] [(5, .var [.bs (LEN x.2.1) 1 (row GD (encI .u8) x.2.1), .v (.int .i64 x.2.2.1), .v (.int .i64 x.2.2.2.1)]), (320, .arr .rw [] (LEN x.2.2.2.2) 1 (row GD (encI .u8) x.2.2.2.2))])) ?_ (fun y e s => (fun (w : (List Int) × (List Int) × Int × Int) => e = .exit 0 ∧ s.le (sparse 21 [(3, .c (.os 320 0 (LEN w.1)))] [(320, .arr .rw [] (LEN w.1) 1 (row GD (encI .u8) w.1)), (5, .var [.bs (LEN w.2.1) 1 (row GD (encI .u8) w.2.1), .v (.int .i64 w.2.2.1), .v (.int .i64 w.2.2.2)])])) y) ?_ ?_
 ·clear hr12 hN13
  show St.le _ _
  exact le_sparse rfl ⟨lR _, lR _, lR _, trivial⟩ ⟨rfl, oS, trivial⟩ rfl
 ·clear hr12 hN13
  intro x z17 h K15 hK16 hY14
  obtain ⟨x0_, x1_, x2_, x3_, x4_⟩ := x
  replace h := of_let h
  obtain ⟨v5, hv5, h⟩ := h
  have hv5 : v5 = x0_ := hv5
  subst hv5
  replace h := of_let h
  obtain ⟨v6, hv6, h⟩ := h
  have hv6 : v6 = x1_ := hv6
  subst hv6
  replace h := of_let h
  obtain ⟨v7, hv7, h⟩ := h
  have hv7 : v7 = x2_ := hv7
  subst hv7
  replace h := of_let h
  obtain ⟨v8, hv8, h⟩ := h
  have hv8 : v8 = x3_ := hv8
  subst hv8
  replace h := of_let h
  obtain ⟨v9, hv9, h⟩ := h
  have hv9 : v9 = x4_ := hv9
  subst hv9
  cbv
  refine fork (fun b30 => ?_) (fun b30 => ?_)
  ·replace h := of_br_t b30 h
   cbv
   replace h := of_bind h
   obtain ⟨y22, hy23, h⟩ := h
   refine ⟨{ args := [.c (.ptr 5 0), .c (.v (.int .i64 10))], o0 := [(5, .var [.bs (LEN v6) 1 (row GD (encI .u8) v6), .v (.int .i64 v7), .v (.int .i64 v8)])], r := .c (.v (.int .i64 y22.1)), o1 := [(5, .var [.bs (LEN y22.2.gcode) 1 (row GD (encI .u8) y22.2.gcode), .v (.int .i64 y22.2.gat), .v (.int .i64 y22.2.gseed)])], fl := false, σ := [(5, 5)], τ := [(5, 5)] }, hf_spec_l01Next_mPbb _ _ _ hy23, ⟨les_cons (lR _) (les_cons (lR _) (les_nil)), ⟨rfl, trivial⟩, rfl, rfl, rfl, rfl, ⟨fun _ => rfl, trivial⟩, rfl⟩, ?_⟩
   cbv
   replace h := of_req h
   obtain ⟨c24, h⟩ := h
   refine ⟨c24, ?_⟩
   replace h := of_let h
   obtain ⟨l25, hl25, h⟩ := h
   have e26 : 1 = LEN l25 := by subst hl25 hLEN; rfl
   refine ⟨_, congrArg (fun n => AV.c (AC.os 1088 0 n)) e26, _, row GD (encI .u8) l25, e26, wkOf ?_, ?_⟩
   ·intro i hi j hj
    rw [← e26] at hi
    subst hl25
    subst hGD
    obtain rfl : i = 0 := (by omega)
    all_goals obtain rfl : j = 0 := by omega
    all_goals rfl
   cbv
   replace h := of_req h
   obtain ⟨c29, h⟩ := h
   replace h := of_let h
   obtain ⟨l27, hl27, h⟩ := h
   have e28 : A.nadd (LEN v9) (LEN l25) = LEN l27 := by subst hl27 hLEN hA; simp [std, len]
   refine ⟨c29, _, congrArg (fun n => AV.c (AC.os 320 0 n)) e28, _, row GD (encI .u8) l27, e28, wkOf ?_, ?_⟩
   ·subst hGD hLEN hA
    exact app_os (off := 0) (fun _ _ => rfl) hl27 (Nat.le_refl _)
   cbv
   injection h with h
   refine hK16 _ h.symm _ ?_
   exact le_sparse rfl ⟨lR _, lR _, lR _, trivial⟩ ⟨rfl, oS, trivial⟩ rfl
  ·replace h := of_br_f b30 h
   cbv
   injection h with h
   refine hY14 _ h.symm _ _ (And.intro rfl ?_) (by intro hh; cases hh)
   exact le_sparse rfl ⟨lR _, trivial⟩ ⟨oS, rfl, trivial⟩ rfl
 ·clear hr12
  have h := hN13
  clear hN13
  intro e20 s21 q19 hne
  replace h := of_let h
  obtain ⟨y11k0, hyk, h⟩ := h
  have hyk : y11k0 = y11 := hyk
  subst hyk
  obtain ⟨rfl, q19⟩ := q19
  obtain ⟨y11k0_0, y11k0_1, y11k0_2, y11k0_3⟩ := y11k0
  replace h := of_let h
  obtain ⟨w31, hw31, h⟩ := h
  have hw31 : w31 = y11k0_0 := hw31
  subst hw31
  replace h := of_let h
  obtain ⟨w32, hw32, h⟩ := h
  have hw32 : w32 = y11k0_1 := hw32
  subst hw32
  replace h := of_let h
  obtain ⟨w33, hw33, h⟩ := h
  have hw33 : w33 = y11k0_2 := hw33
  subst hw33
  replace h := of_let h
  obtain ⟨w34, hw34, h⟩ := h
  have hw34 : w34 = y11k0_3 := hw34
  subst hw34
  cbv
  refine ⟨_, q19, ?_⟩
  cbv
  refine ⟨fun _ _ => rfl, ?_⟩
  injection h with h
  subst h
  refine ⟨(sparse 21 [(2, .c (.v (.string (A.ofBytes (LEN w31) (fun i => GD w31 (0 + i))))))] [(5, .var [.bs (LEN w32) 1 (row GD (encI .u8) w32), .v (.int .i64 w33), .v (.int .i64 w34)])]), ?_, ?_⟩
  ·exact le_sparse rfl ⟨lR _, trivial⟩ ⟨rfl, trivial⟩ rfl
  ·exact ⟨lR _, ⟨rfl, trivial⟩, rfl⟩

/-- spec.l09DrawBox -/
noncomputable def F_spec_l09DrawBox_mPb (a0 : Tl01Source) : Option (TRect × Tl01Source) :=
 (F_spec_l01Next_mPbb a0 16).bind fun y1 =>
 (F_spec_l01Next_mPbb y1.2 16).bind fun y3 =>
 (F_spec_l01Next_mPbb y3.2 6).bind fun y5 =>
 (F_spec_l01Next_mPbb y5.2 6).bind fun y7 =>
 some ((TRect.mk (std.sub .i64 y1.1 8) (std.sub .i64 y3.1 8) (std.add .i64 (std.add .i64 (std.sub .i64 y1.1 8) 1) y5.1) (std.add .i64 (std.add .i64 (std.sub .i64 y3.1 8) 1) y7.1)), y7.2)
set_option maxHeartbeats 4000000 in
theorem run_spec_l09DrawBox_mPb (a0 : Tl01Source) (r : TRect × Tl01Source) (h : F_spec_l09DrawBox_mPb a0 = some r) : Fun Try.prog 197 [.c (.ptr 5 0)] [(5, .var [.bs (len a0.gcode) 1 (row gd (encI .u8) a0.gcode), .v (.int .i64 a0.gat), .v (.int .i64 a0.gseed)])] (.agg [.v (.int .i64 r.1.fX0), .v (.int .i64 r.1.fY0), .v (.int .i64 r.1.fX1), .v (.int .i64 r.1.fY1)]) [(5, .var [.bs (len r.2.gcode) 1 (row gd (encI .u8) r.2.gcode), .v (.int .i64 r.2.gat), .v (.int .i64 r.2.gseed)])] false := by
 refine Fun.of_wp (oneOf []) tok mixed Try.func197 (by kernel_rfl) rfl Try.ntmps197 rfl trivial (fun h => by cases h) ?_
 unfold F_spec_l09DrawBox_mPb at h
 have hf_spec_l01Next_mPbb := @run_spec_l01Next_mPbb
 generalize hLEN : @len = LEN at *
 generalize hGD : @gd = GD at *
 generalize hA : std = A at *
 generalize hP : Try.prog = P at *
 cbv
 replace h := of_bind h
 obtain ⟨y1, hy2, h⟩ := h
 refine ⟨{ args := [.c (.ptr 5 0), .c (.v (.int .i64 16))], o0 := [(5, .var [.bs (LEN a0.gcode) 1 (row GD (encI .u8) a0.gcode), .v (.int .i64 a0.gat), .v (.int .i64 a0.gseed)])], r := .c (.v (.int .i64 y1.1)), o1 := [(5, .var [.bs (LEN y1.2.gcode) 1 (row GD (encI .u8) y1.2.gcode), .v (.int .i64 y1.2.gat), .v (.int .i64 y1.2.gseed)])], fl := false, σ := [(5, 5)], τ := [(5, 5)] }, hf_spec_l01Next_mPbb _ _ _ hy2, ⟨les_cons (lR _) (les_cons (lR _) (les_nil)), ⟨rfl, trivial⟩, rfl, rfl, rfl, rfl, ⟨fun _ => rfl, trivial⟩, rfl⟩, ?_⟩
 cbv
 replace h := of_bind h
 obtain ⟨y3, hy4, h⟩ := h
 refine ⟨{ args := [.c (.ptr 5 0), .c (.v (.int .i64 16))], o0 := [(5, .var [.bs (LEN y1.2.gcode) 1 (row GD (encI .u8) y1.2.gcode), .v (.int .i64 y1.2.gat), .v (.int .i64 y1.2.gseed)])], r := .c (.v (.int .i64 y3.1)), o1 := [(5, .var [.bs (LEN y3.2.gcode) 1 (row GD (encI .u8) y3.2.gcode), .v (.int .i64 y3.2.gat), .v (.int .i64 y3.2.gseed)])], fl := false, σ := [(5, 5)], τ := [(5, 5)] }, hf_spec_l01Next_mPbb _ _ _ hy4, ⟨les_cons (lR _) (les_cons (lR _) (les_nil)), ⟨rfl, trivial⟩, rfl, rfl, rfl, rfl, ⟨fun _ => rfl, trivial⟩, rfl⟩, ?_⟩
 cbv
 replace h := of_bind h
 obtain ⟨y5, hy6, h⟩ := h
 refine ⟨{ args := [.c (.ptr 5 0), .c (.v (.int .i64 6))], o0 := [(5, .var [.bs (LEN y3.2.gcode) 1 (row GD (encI .u8) y3.2.gcode), .v (.int .i64 y3.2.gat), .v (.int .i64 y3.2.gseed)])], r := .c (.v (.int .i64 y5.1)), o1 := [(5, .var [.bs (LEN y5.2.gcode) 1 (row GD (encI .u8) y5.2.gcode), .v (.int .i64 y5.2.gat), .v (.int .i64 y5.2.gseed)])], fl := false, σ := [(5, 5)], τ := [(5, 5)] }, hf_spec_l01Next_mPbb _ _ _ hy6, ⟨les_cons (lR _) (les_cons (lR _) (les_nil)), ⟨rfl, trivial⟩, rfl, rfl, rfl, rfl, ⟨fun _ => rfl, trivial⟩, rfl⟩, ?_⟩
 cbv
 replace h := of_bind h
 obtain ⟨y7, hy8, h⟩ := h
 refine ⟨{ args := [.c (.ptr 5 0), .c (.v (.int .i64 6))], o0 := [(5, .var [.bs (LEN y5.2.gcode) 1 (row GD (encI .u8) y5.2.gcode), .v (.int .i64 y5.2.gat), .v (.int .i64 y5.2.gseed)])], r := .c (.v (.int .i64 y7.1)), o1 := [(5, .var [.bs (LEN y7.2.gcode) 1 (row GD (encI .u8) y7.2.gcode), .v (.int .i64 y7.2.gat), .v (.int .i64 y7.2.gseed)])], fl := false, σ := [(5, 5)], τ := [(5, 5)] }, hf_spec_l01Next_mPbb _ _ _ hy8, ⟨les_cons (lR _) (les_cons (lR _) (les_nil)), ⟨rfl, trivial⟩, rfl, rfl, rfl, rfl, ⟨fun _ => rfl, trivial⟩, rfl⟩, ?_⟩
 cbv
 injection h with h
 subst h
 refine ⟨(sparse 24 [(2, .c (.ptr 128 0))] [(128, .var [.v (.int .i64 (A.sub .i64 y1.1 8)), .v (.int .i64 (A.sub .i64 y3.1 8)), .v (.int .i64 (A.add .i64 (A.add .i64 (A.sub .i64 y1.1 8) 1) y5.1)), .v (.int .i64 (A.add .i64 (A.add .i64 (A.sub .i64 y3.1 8) 1) y7.1))]), (5, .var [.bs (LEN y7.2.gcode) 1 (row GD (encI .u8) y7.2.gcode), .v (.int .i64 y7.2.gat), .v (.int .i64 y7.2.gseed)])]), ?_, ?_⟩
 ·exact le_sparse rfl ⟨lR _, trivial⟩ ⟨rfl, rfl, trivial⟩ rfl
 ·exact ⟨lR _, ⟨rfl, trivial⟩, rfl⟩

/-- spec.l09DrawShape -/
noncomputable def F_spec_l09DrawShape_mPb (a0 : Tl01Source) : Option (TShape × Tl01Source) :=
 (F_spec_l01Next_mPbb a0 8).bind fun y1 =>
 (F_spec_l09DrawBox_mPb y1.2).bind fun y3 =>
 some ((TShape.mk y1.1 y3.1), y3.2)
set_option maxHeartbeats 4000000 in
theorem run_spec_l09DrawShape_mPb (a0 : Tl01Source) (r : TShape × Tl01Source) (h : F_spec_l09DrawShape_mPb a0 = some r) : Fun Try.prog 143 [.c (.ptr 5 0)] [(5, .var [.bs (len a0.gcode) 1 (row gd (encI .u8) a0.gcode), .v (.int .i64 a0.gat), .v (.int .i64 a0.gseed)])] (.agg [.v (.int .i64 r.1.fLayer), .v (.int .i64 r.1.fBox.fX0), .v (.int .i64 r.1.fBox.fY0), .v (.int .i64 r.1.fBox.fX1), .v (.int .i64 r.1.fBox.fY1)]) [(5, .var [.bs (len r.2.gcode) 1 (row gd (encI .u8) r.2.gcode), .v (.int .i64 r.2.gat), .v (.int .i64 r.2.gseed)])] false := by
 refine Fun.of_wp (oneOf []) tok mixed Try.func143 (by kernel_rfl) rfl Try.ntmps143 rfl trivial (fun h => by cases h) ?_
 unfold F_spec_l09DrawShape_mPb at h
 have hf_spec_l01Next_mPbb := @run_spec_l01Next_mPbb
 have hf_spec_l09DrawBox_mPb := @run_spec_l09DrawBox_mPb
 generalize hLEN : @len = LEN at *
 generalize hGD : @gd = GD at *
 generalize hA : std = A at *
 generalize hP : Try.prog = P at *
 cbv
 replace h := of_bind h
 obtain ⟨y1, hy2, h⟩ := h
 refine ⟨{ args := [.c (.ptr 5 0), .c (.v (.int .i64 8))], o0 := [(5, .var [.bs (LEN a0.gcode) 1 (row GD (encI .u8) a0.gcode), .v (.int .i64 a0.gat), .v (.int .i64 a0.gseed)])], r := .c (.v (.int .i64 y1.1)), o1 := [(5, .var [.bs (LEN y1.2.gcode) 1 (row GD (encI .u8) y1.2.gcode), .v (.int .i64 y1.2.gat), .v (.int .i64 y1.2.gseed)])], fl := false, σ := [(5, 5)], τ := [(5, 5)] }, hf_spec_l01Next_mPbb _ _ _ hy2, ⟨les_cons (lR _) (les_cons (lR _) (les_nil)), ⟨rfl, trivial⟩, rfl, rfl, rfl, rfl, ⟨fun _ => rfl, trivial⟩, rfl⟩, ?_⟩
 cbv
 replace h := of_bind h
 obtain ⟨y3, hy4, h⟩ := h
 refine ⟨{ args := [.c (.ptr 5 0)], o0 := [(5, .var [.bs (LEN y1.2.gcode) 1 (row GD (encI .u8) y1.2.gcode), .v (.int .i64 y1.2.gat), .v (.int .i64 y1.2.gseed)])], r := .agg [.v (.int .i64 y3.1.fX0), .v (.int .i64 y3.1.fY0), .v (.int .i64 y3.1.fX1), .v (.int .i64 y3.1.fY1)], o1 := [(5, .var [.bs (LEN y3.2.gcode) 1 (row GD (encI .u8) y3.2.gcode), .v (.int .i64 y3.2.gat), .v (.int .i64 y3.2.gseed)])], fl := false, σ := [(5, 5)], τ := [(5, 5)] }, hf_spec_l09DrawBox_mPb _ _ hy4, ⟨les_cons (lR _) (les_nil), ⟨rfl, trivial⟩, rfl, rfl, rfl, rfl, ⟨fun _ => rfl, trivial⟩, rfl⟩, ?_⟩
 cbv
 injection h with h
 subst h
 refine ⟨(sparse 8 [(2, .c (.ptr 128 0))] [(128, .var [.v (.int .i64 y1.1), .v (.int .i64 y3.1.fX0), .v (.int .i64 y3.1.fY0), .v (.int .i64 y3.1.fX1), .v (.int .i64 y3.1.fY1)]), (5, .var [.bs (LEN y3.2.gcode) 1 (row GD (encI .u8) y3.2.gcode), .v (.int .i64 y3.2.gat), .v (.int .i64 y3.2.gseed)])]), ?_, ?_⟩
 ·exact le_sparse rfl ⟨lR _, trivial⟩ ⟨rfl, rfl, trivial⟩ rfl
 ·exact ⟨lR _, ⟨rfl, trivial⟩, rfl⟩
/-- spec.l09DrawLabel -/
noncomputable def F_spec_l09DrawLabel_mPb (a0 : Tl01Source) : Option (TLabel × Tl01Source) :=
 (F_spec_l01Next_mPbb a0 8).bind fun y1 =>
 (F_spec_l01Next_mPbb y1.2 16).bind fun y3 =>
 (F_spec_l01Next_mPbb y3.2 16).bind fun y5 =>
 (F_spec_l09DrawName_mPb y5.2).bind fun y7 =>
 some ((TLabel.mk y1.1 (TPoint.mk (std.sub .i64 y3.1 8) (std.sub .i64 y5.1 8)) y7.1), y7.2)
set_option maxHeartbeats 4000000 in
theorem run_spec_l09DrawLabel_mPb (a0 : Tl01Source) (r : TLabel × Tl01Source) (h : F_spec_l09DrawLabel_mPb a0 = some r) : Fun Try.prog 196 [.c (.ptr 5 0)] [(5, .var [.bs (len a0.gcode) 1 (row gd (encI .u8) a0.gcode), .v (.int .i64 a0.gat), .v (.int .i64 a0.gseed)])] (.agg [.v (.int .i64 r.1.fLayer), .v (.int .i64 r.1.fAt.fX), .v (.int .i64 r.1.fAt.fY), .v (.string r.1.fName)]) [(5, .var [.bs (len r.2.gcode) 1 (row gd (encI .u8) r.2.gcode), .v (.int .i64 r.2.gat), .v (.int .i64 r.2.gseed)])] false := by
 refine Fun.of_wp (oneOf []) tok mixed Try.func196 (by kernel_rfl) rfl Try.ntmps196 rfl trivial (fun h => by cases h) ?_
 unfold F_spec_l09DrawLabel_mPb at h
 have hf_spec_l01Next_mPbb := @run_spec_l01Next_mPbb
 have hf_spec_l09DrawName_mPb := @run_spec_l09DrawName_mPb
 generalize hLEN : @len = LEN at *
 generalize hGD : @gd = GD at *
 generalize hA : std = A at *
 generalize hP : Try.prog = P at *
 cbv
 replace h := of_bind h
 obtain ⟨y1, hy2, h⟩ := h
 refine ⟨{ args := [.c (.ptr 5 0), .c (.v (.int .i64 8))], o0 := [(5, .var [.bs (LEN a0.gcode) 1 (row GD (encI .u8) a0.gcode), .v (.int .i64 a0.gat), .v (.int .i64 a0.gseed)])], r := .c (.v (.int .i64 y1.1)), o1 := [(5, .var [.bs (LEN y1.2.gcode) 1 (row GD (encI .u8) y1.2.gcode), .v (.int .i64 y1.2.gat), .v (.int .i64 y1.2.gseed)])], fl := false, σ := [(5, 5)], τ := [(5, 5)] }, hf_spec_l01Next_mPbb _ _ _ hy2, ⟨les_cons (lR _) (les_cons (lR _) (les_nil)), ⟨rfl, trivial⟩, rfl, rfl, rfl, rfl, ⟨fun _ => rfl, trivial⟩, rfl⟩, ?_⟩
 cbv
 replace h := of_bind h
 obtain ⟨y3, hy4, h⟩ := h
 refine ⟨{ args := [.c (.ptr 5 0), .c (.v (.int .i64 16))], o0 := [(5, .var [.bs (LEN y1.2.gcode) 1 (row GD (encI .u8) y1.2.gcode), .v (.int .i64 y1.2.gat), .v (.int .i64 y1.2.gseed)])], r := .c (.v (.int .i64 y3.1)), o1 := [(5, .var [.bs (LEN y3.2.gcode) 1 (row GD (encI .u8) y3.2.gcode), .v (.int .i64 y3.2.gat), .v (.int .i64 y3.2.gseed)])], fl := false, σ := [(5, 5)], τ := [(5, 5)] }, hf_spec_l01Next_mPbb _ _ _ hy4, ⟨les_cons (lR _) (les_cons (lR _) (les_nil)), ⟨rfl, trivial⟩, rfl, rfl, rfl, rfl, ⟨fun _ => rfl, trivial⟩, rfl⟩, ?_⟩
 cbv
 replace h := of_bind h
 obtain ⟨y5, hy6, h⟩ := h
 refine ⟨{ args := [.c (.ptr 5 0), .c (.v (.int .i64 16))], o0 := [(5, .var [.bs (LEN y3.2.gcode) 1 (row GD (encI .u8) y3.2.gcode), .v (.int .i64 y3.2.gat), .v (.int .i64 y3.2.gseed)])], r := .c (.v (.int .i64 y5.1)), o1 := [(5, .var [.bs (LEN y5.2.gcode) 1 (row GD (encI .u8) y5.2.gcode), .v (.int .i64 y5.2.gat), .v (.int .i64 y5.2.gseed)])], fl := false, σ := [(5, 5)], τ := [(5, 5)] }, hf_spec_l01Next_mPbb _ _ _ hy6, ⟨les_cons (lR _) (les_cons (lR _) (les_nil)), ⟨rfl, trivial⟩, rfl, rfl, rfl, rfl, ⟨fun _ => rfl, trivial⟩, rfl⟩, ?_⟩
 cbv
 replace h := of_bind h
 obtain ⟨y7, hy8, h⟩ := h
 refine ⟨{ args := [.c (.ptr 5 0)], o0 := [(5, .var [.bs (LEN y5.2.gcode) 1 (row GD (encI .u8) y5.2.gcode), .v (.int .i64 y5.2.gat), .v (.int .i64 y5.2.gseed)])], r := .c (.v (.string y7.1)), o1 := [(5, .var [.bs (LEN y7.2.gcode) 1 (row GD (encI .u8) y7.2.gcode), .v (.int .i64 y7.2.gat), .v (.int .i64 y7.2.gseed)])], fl := false, σ := [(5, 5)], τ := [(5, 5)] }, hf_spec_l09DrawName_mPb _ _ hy8, ⟨les_cons (lR _) (les_nil), ⟨rfl, trivial⟩, rfl, rfl, rfl, rfl, ⟨fun _ => rfl, trivial⟩, rfl⟩, ?_⟩
 cbv
 injection h with h
 subst h
 refine ⟨(sparse 15 [(2, .c (.ptr 128 0))] [(128, .var [.v (.int .i64 y1.1), .v (.int .i64 (A.sub .i64 y3.1 8)), .v (.int .i64 (A.sub .i64 y5.1 8)), .v (.string y7.1)]), (5, .var [.bs (LEN y7.2.gcode) 1 (row GD (encI .u8) y7.2.gcode), .v (.int .i64 y7.2.gat), .v (.int .i64 y7.2.gseed)])]), ?_, ?_⟩
 ·exact le_sparse rfl ⟨lR _, trivial⟩ ⟨rfl, rfl, trivial⟩ rfl
 ·exact ⟨lR _, ⟨rfl, trivial⟩, rfl⟩

/-- spec.l09DrawInstance -/
noncomputable def F_spec_l09DrawInstance_mPbb (a0 : Tl01Source) (a1 : Int) : Option (TInstance × Tl01Source) :=
 (F_spec_l01Next_mPbb a0 a1).bind fun y1 =>
 (F_spec_l01Next_mPbb y1.2 8).bind fun y3 =>
 (F_spec_l01Next_mPbb y3.2 24).bind fun y5 =>
 (F_spec_l01Next_mPbb y5.2 24).bind fun y7 =>
 (F_spec_l01Next_mPbb y7.2 3).bind fun y9 =>
 ((
    br (std.eq y9.1 0)
    ((F_spec_l01Next_mPbb y9.2 2).bind fun y22 =>
    (F_spec_l01Next_mPbb y22.2 15).bind fun y24 =>
    some (y24.2.gcode, y24.2.gat, y24.2.gseed, std.add .i64 2 y22.1, std.sub .i64 y24.1 7))
    (some (y9.2.gcode, y9.2.gat, y9.2.gseed, 1, 0))
  ) : Option ((List Int) × Int × Int × Int × Int)).bind fun y11 =>
 letO y11.1 fun w17 =>
 letO y11.2.1 fun w18 =>
 letO y11.2.2.1 fun w19 =>
 letO y11.2.2.2.1 fun w20 =>
 letO y11.2.2.2.2 fun w21 =>
 (F_spec_l01Next_mPbb (Tl01Source.mk w17 w18 w19) 4).bind fun y27 =>
 ((
    br (std.eq y27.1 0)
    ((F_spec_l01Next_mPbb y27.2 15).bind fun y40 =>
    some (y40.2.gcode, y40.2.gat, y40.2.gseed, 2, std.sub .i64 y40.1 7))
    (some (y27.2.gcode, y27.2.gat, y27.2.gseed, 1, 0))
  ) : Option ((List Int) × Int × Int × Int × Int)).bind fun y29 =>
 letO y29.1 fun w35 =>
 letO y29.2.1 fun w36 =>
 letO y29.2.2.1 fun w37 =>
 letO y29.2.2.2.1 fun w38 =>
 letO y29.2.2.2.2 fun w39 =>
 (F_spec_l01Next_mPbb (Tl01Source.mk w35 w36 w37) 24).bind fun y43 =>
 ((
    br (std.eq y43.1 0)
    (some (std.mul .i64 (std.sub .i64 y5.1 12) 6))
    (some (std.sub .i64 y5.1 12))
  ) : Option (Int)).bind fun y45 =>
 letO y45 fun w51 =>
 some ((TInstance.mk y1.1 (TTransform.mk y3.1 w51 (std.sub .i64 y7.1 12)) w20 w38 w21 w39), y43.2)
set_option maxHeartbeats 4000000 in
theorem run_spec_l09DrawInstance_mPbb (a0 : Tl01Source) (a1 : Int) (r : TInstance × Tl01Source) (h : F_spec_l09DrawInstance_mPbb a0 a1 = some r) : Fun Try.prog 141 [.c (.ptr 5 0), .c (.v (.int .i64 a1))] [(5, .var [.bs (len a0.gcode) 1 (row gd (encI .u8) a0.gcode), .v (.int .i64 a0.gat), .v (.int .i64 a0.gseed)])] (.agg [.v (.int .i64 r.1.fCell), .v (.int .i64 r.1.fPlace.fOrientation), .v (.int .i64 r.1.fPlace.fX), .v (.int .i64 r.1.fPlace.fY), .v (.int .i64 r.1.fColumns), .v (.int .i64 r.1.fRows), .v (.int .i64 r.1.fStepX), .v (.int .i64 r.1.fStepY)]) [(5, .var [.bs (len r.2.gcode) 1 (row gd (encI .u8) r.2.gcode), .v (.int .i64 r.2.gat), .v (.int .i64 r.2.gseed)])] false := by
 refine Fun.of_wp (oneOf [100021, 100032, 100040]) tok mixed Try.func141 (by kernel_rfl) rfl Try.ntmps141 rfl trivial (fun h => by cases h) ?_
 unfold F_spec_l09DrawInstance_mPbb at h
 have hf_spec_l01Next_mPbb := @run_spec_l01Next_mPbb
 generalize hLEN : @len = LEN at *
 generalize hGD : @gd = GD at *
 generalize hA : std = A at *
 generalize hP : Try.prog = P at *
 cbv
 replace h := of_bind h
 obtain ⟨y1, hy2, h⟩ := h
 refine ⟨{ args := [.c (.ptr 5 0), .c (.v (.int .i64 a1))], o0 := [(5, .var [.bs (LEN a0.gcode) 1 (row GD (encI .u8) a0.gcode), .v (.int .i64 a0.gat), .v (.int .i64 a0.gseed)])], r := .c (.v (.int .i64 y1.1)), o1 := [(5, .var [.bs (LEN y1.2.gcode) 1 (row GD (encI .u8) y1.2.gcode), .v (.int .i64 y1.2.gat), .v (.int .i64 y1.2.gseed)])], fl := false, σ := [(5, 5)], τ := [(5, 5)] }, hf_spec_l01Next_mPbb _ _ _ hy2, ⟨les_cons (lR _) (les_cons (lR _) (les_nil)), ⟨rfl, trivial⟩, rfl, rfl, rfl, rfl, ⟨fun _ => rfl, trivial⟩, rfl⟩, ?_⟩
 cbv
 replace h := of_bind h
 obtain ⟨y3, hy4, h⟩ := h
 refine ⟨{ args := [.c (.ptr 5 0), .c (.v (.int .i64 8))], o0 := [(5, .var [.bs (LEN y1.2.gcode) 1 (row GD (encI .u8) y1.2.gcode), .v (.int .i64 y1.2.gat), .v (.int .i64 y1.2.gseed)])], r := .c (.v (.int .i64 y3.1)), o1 := [(5, .var [.bs (LEN y3.2.gcode) 1 (row GD (encI .u8) y3.2.gcode), .v (.int .i64 y3.2.gat), .v (.int .i64 y3.2.gseed)])], fl := false, σ := [(5, 5)], τ := [(5, 5)] }, hf_spec_l01Next_mPbb _ _ _ hy4, ⟨les_cons (lR _) (les_cons (lR _) (les_nil)), ⟨rfl, trivial⟩, rfl, rfl, rfl, rfl, ⟨fun _ => rfl, trivial⟩, rfl⟩, ?_⟩
 cbv
 replace h := of_bind h
 obtain ⟨y5, hy6, h⟩ := h
 refine ⟨{ args := [.c (.ptr 5 0), .c (.v (.int .i64 24))], o0 := [(5, .var [.bs (LEN y3.2.gcode) 1 (row GD (encI .u8) y3.2.gcode), .v (.int .i64 y3.2.gat), .v (.int .i64 y3.2.gseed)])], r := .c (.v (.int .i64 y5.1)), o1 := [(5, .var [.bs (LEN y5.2.gcode) 1 (row GD (encI .u8) y5.2.gcode), .v (.int .i64 y5.2.gat), .v (.int .i64 y5.2.gseed)])], fl := false, σ := [(5, 5)], τ := [(5, 5)] }, hf_spec_l01Next_mPbb _ _ _ hy6, ⟨les_cons (lR _) (les_cons (lR _) (les_nil)), ⟨rfl, trivial⟩, rfl, rfl, rfl, rfl, ⟨fun _ => rfl, trivial⟩, rfl⟩, ?_⟩
 cbv
 replace h := of_bind h
 obtain ⟨y7, hy8, h⟩ := h
 refine ⟨{ args := [.c (.ptr 5 0), .c (.v (.int .i64 24))], o0 := [(5, .var [.bs (LEN y5.2.gcode) 1 (row GD (encI .u8) y5.2.gcode), .v (.int .i64 y5.2.gat), .v (.int .i64 y5.2.gseed)])], r := .c (.v (.int .i64 y7.1)), o1 := [(5, .var [.bs (LEN y7.2.gcode) 1 (row GD (encI .u8) y7.2.gcode), .v (.int .i64 y7.2.gat), .v (.int .i64 y7.2.gseed)])], fl := false, σ := [(5, 5)], τ := [(5, 5)] }, hf_spec_l01Next_mPbb _ _ _ hy8, ⟨les_cons (lR _) (les_cons (lR _) (les_nil)), ⟨rfl, trivial⟩, rfl, rfl, rfl, rfl, ⟨fun _ => rfl, trivial⟩, rfl⟩, ?_⟩
 cbv
 replace h := of_bind h
 obtain ⟨y9, hy10, h⟩ := h
 refine ⟨{ args := [.c (.ptr 5 0), .c (.v (.int .i64 3))], o0 := [(5, .var [.bs (LEN y7.2.gcode) 1 (row GD (encI .u8) y7.2.gcode), .v (.int .i64 y7.2.gat), .v (.int .i64 y7.2.gseed)])], r := .c (.v (.int .i64 y9.1)), o1 := [(5, .var [.bs (LEN y9.2.gcode) 1 (row GD (encI .u8) y9.2.gcode), .v (.int .i64 y9.2.gat), .v (.int .i64 y9.2.gseed)])], fl := false, σ := [(5, 5)], τ := [(5, 5)] }, hf_spec_l01Next_mPbb _ _ _ hy10, ⟨les_cons (lR _) (les_cons (lR _) (les_nil)), ⟨rfl, trivial⟩, rfl, rfl, rfl, rfl, ⟨fun _ => rfl, trivial⟩, rfl⟩, ?_⟩
 cbv
 replace h := of_bind h
 obtain ⟨y11, hy12, h⟩ := h
 obtain ⟨S15, hS16⟩ : ∃ S, S = some (sparse 48 [(0, .c (.ptr 5 0)), (4, .c (.ptr 256 0)), (5, .c (.ptr 320 0))] [(5, .var [.bs (LEN y11.1) 1 (row GD (encI .u8) y11.1), .v (.int .i64 y11.2.1), .v (.int .i64 y11.2.2.1)]), (256, .var [.v (.int .i64 0), .v (.int .i64 0), .v (.int .i64 0), .v (.int .i64 0), .v (.int .i64 0), .v (.int .i64 0), .v (.int .i64 0), .v (.int .i64 0)]), (320, .var [.v (.int .i64 y1.1), .v (.int .i64 y3.1), .v (.int .i64 (A.sub .i64 y5.1 12)), .v (.int .i64 (A.sub .i64 y7.1 12)), .v (.int .i64 y11.2.2.2.1), .v (.int .i64 1), .v (.int .i64 y11.2.2.2.2), .v (.int .i64 0)])]) := ⟨_, rfl⟩
 refine ⟨S15, ?_, ?_⟩
 ·clear h
  have h := hy12
  clear hy12
  cbv
  refine fork (fun b26 => ?_) (fun b26 => ?_)
  ·replace h := of_br_t b26 h
   cbv
   replace h := of_bind h
   obtain ⟨y22, hy23, h⟩ := h
   refine ⟨{ args := [.c (.ptr 5 0), .c (.v (.int .i64 2))], o0 := [(5, .var [.bs (LEN y9.2.gcode) 1 (row GD (encI .u8) y9.2.gcode), .v (.int .i64 y9.2.gat), .v (.int .i64 y9.2.gseed)])], r := .c (.v (.int .i64 y22.1)), o1 := [(5, .var [.bs (LEN y22.2.gcode) 1 (row GD (encI .u8) y22.2.gcode), .v (.int .i64 y22.2.gat), .v (.int .i64 y22.2.gseed)])], fl := false, σ := [(5, 5)], τ := [(5, 5)] }, hf_spec_l01Next_mPbb _ _ _ hy23, ⟨les_cons (lR _) (les_cons (lR _) (les_nil)), ⟨rfl, trivial⟩, rfl, rfl, rfl, rfl, ⟨fun _ => rfl, trivial⟩, rfl⟩, ?_⟩
   cbv
   replace h := of_bind h
   obtain ⟨y24, hy25, h⟩ := h
   refine ⟨{ args := [.c (.ptr 5 0), .c (.v (.int .i64 15))], o0 := [(5, .var [.bs (LEN y22.2.gcode) 1 (row GD (encI .u8) y22.2.gcode), .v (.int .i64 y22.2.gat), .v (.int .i64 y22.2.gseed)])], r := .c (.v (.int .i64 y24.1)), o1 := [(5, .var [.bs (LEN y24.2.gcode) 1 (row GD (encI .u8) y24.2.gcode), .v (.int .i64 y24.2.gat), .v (.int .i64 y24.2.gseed)])], fl := false, σ := [(5, 5)], τ := [(5, 5)] }, hf_spec_l01Next_mPbb _ _ _ hy25, ⟨les_cons (lR _) (les_cons (lR _) (les_nil)), ⟨rfl, trivial⟩, rfl, rfl, rfl, rfl, ⟨fun _ => rfl, trivial⟩, rfl⟩, ?_⟩
   cbv
   injection h with h
   subst h
   subst hS16
   show St.le _ _
   exact le_sparse rfl ⟨lR _, lR _, lR _, trivial⟩ ⟨rfl, rfl, rfl, trivial⟩ rfl
  ·replace h := of_br_f b26 h
   cbv
   injection h with h
   subst h
   subst hS16
   show St.le _ _
   exact le_sparse rfl ⟨lR _, lR _, lR _, trivial⟩ ⟨rfl, rfl, rfl, trivial⟩ rfl
 ·clear hy12
  subst hS16
  obtain ⟨y11_0, y11_1, y11_2, y11_3, y11_4⟩ := y11
  replace h := of_let h
  obtain ⟨w17, hw17, h⟩ := h
  have hw17 : w17 = y11_0 := hw17
  subst hw17
  replace h := of_let h
  obtain ⟨w18, hw18, h⟩ := h
  have hw18 : w18 = y11_1 := hw18
  subst hw18
  replace h := of_let h
  obtain ⟨w19, hw19, h⟩ := h
  have hw19 : w19 = y11_2 := hw19
  subst hw19
  replace h := of_let h
  obtain ⟨w20, hw20, h⟩ := h
  have hw20 : w20 = y11_3 := hw20
  subst hw20
  replace h := of_let h
  obtain ⟨w21, hw21, h⟩ := h
  have hw21 : w21 = y11_4 := hw21
  subst hw21
  cbv
  replace h := of_bind h
  obtain ⟨y27, hy28, h⟩ := h
  refine ⟨{ args := [.c (.ptr 5 0), .c (.v (.int .i64 4))], o0 := [(5, .var [.bs (LEN w17) 1 (row GD (encI .u8) w17), .v (.int .i64 w18), .v (.int .i64 w19)])], r := .c (.v (.int .i64 y27.1)), o1 := [(5, .var [.bs (LEN y27.2.gcode) 1 (row GD (encI .u8) y27.2.gcode), .v (.int .i64 y27.2.gat), .v (.int .i64 y27.2.gseed)])], fl := false, σ := [(5, 5)], τ := [(5, 5)] }, hf_spec_l01Next_mPbb _ _ _ hy28, ⟨les_cons (lR _) (les_cons (lR _) (les_nil)), ⟨rfl, trivial⟩, rfl, rfl, rfl, rfl, ⟨fun _ => rfl, trivial⟩, rfl⟩, ?_⟩
  cbv
  replace h := of_bind h
  obtain ⟨y29, hy30, h⟩ := h
  obtain ⟨S33, hS34⟩ : ∃ S, S = some (sparse 48 [(0, .c (.ptr 5 0)), (4, .c (.ptr 256 0)), (5, .c (.ptr 320 0))] [(5, .var [.bs (LEN y29.1) 1 (row GD (encI .u8) y29.1), .v (.int .i64 y29.2.1), .v (.int .i64 y29.2.2.1)]), (256, .var [.v (.int .i64 0), .v (.int .i64 0), .v (.int .i64 0), .v (.int .i64 0), .v (.int .i64 0), .v (.int .i64 0), .v (.int .i64 0), .v (.int .i64 0)]), (320, .var [.v (.int .i64 y1.1), .v (.int .i64 y3.1), .v (.int .i64 (A.sub .i64 y5.1 12)), .v (.int .i64 (A.sub .i64 y7.1 12)), .v (.int .i64 w20), .v (.int .i64 y29.2.2.2.1), .v (.int .i64 w21), .v (.int .i64 y29.2.2.2.2)])]) := ⟨_, rfl⟩
  refine ⟨S33, ?_, ?_⟩
  ·clear h
   have h := hy30
   clear hy30
   cbv
   refine fork (fun b42 => ?_) (fun b42 => ?_)
   ·replace h := of_br_t b42 h
    cbv
    replace h := of_bind h
    obtain ⟨y40, hy41, h⟩ := h
    refine ⟨{ args := [.c (.ptr 5 0), .c (.v (.int .i64 15))], o0 := [(5, .var [.bs (LEN y27.2.gcode) 1 (row GD (encI .u8) y27.2.gcode), .v (.int .i64 y27.2.gat), .v (.int .i64 y27.2.gseed)])], r := .c (.v (.int .i64 y40.1)), o1 := [(5, .var [.bs (LEN y40.2.gcode) 1 (row GD (encI .u8) y40.2.gcode), .v (.int .i64 y40.2.gat), .v (.int .i64 y40.2.gseed)])], fl := false, σ := [(5, 5)], τ := [(5, 5)] }, hf_spec_l01Next_mPbb _ _ _ hy41, ⟨les_cons (lR _) (les_cons (lR _) (les_nil)), ⟨rfl, trivial⟩, rfl, rfl, rfl, rfl, ⟨fun _ => rfl, trivial⟩, rfl⟩, ?_⟩
    cbv
    injection h with h
    subst h
    subst hS34
    show St.le _ _
    exact le_sparse rfl ⟨lR _, lR _, lR _, trivial⟩ ⟨rfl, rfl, rfl, trivial⟩ rfl
   ·replace h := of_br_f b42 h
    cbv
    injection h with h
    subst h
    subst hS34
    show St.le _ _
    exact le_sparse rfl ⟨lR _, lR _, lR _, trivial⟩ ⟨rfl, rfl, rfl, trivial⟩ rfl
  ·clear hy30
   subst hS34
   obtain ⟨y29_0, y29_1, y29_2, y29_3, y29_4⟩ := y29
   replace h := of_let h
   obtain ⟨w35, hw35, h⟩ := h
   have hw35 : w35 = y29_0 := hw35
   subst hw35
   replace h := of_let h
   obtain ⟨w36, hw36, h⟩ := h
   have hw36 : w36 = y29_1 := hw36
   subst hw36
   replace h := of_let h
   obtain ⟨w37, hw37, h⟩ := h
   have hw37 : w37 = y29_2 := hw37
   subst hw37
   replace h := of_let h
   obtain ⟨w38, hw38, h⟩ := h
   have hw38 : w38 = y29_3 := hw38
   subst hw38
   replace h := of_let h
   obtain ⟨w39, hw39, h⟩ := h
   have hw39 : w39 = y29_4 := hw39
   subst hw39
   cbv
   replace h := of_bind h
   obtain ⟨y43, hy44, h⟩ := h
   refine ⟨{ args := [.c (.ptr 5 0), .c (.v (.int .i64 24))], o0 := [(5, .var [.bs (LEN w35) 1 (row GD (encI .u8) w35), .v (.int .i64 w36), .v (.int .i64 w37)])], r := .c (.v (.int .i64 y43.1)), o1 := [(5, .var [.bs (LEN y43.2.gcode) 1 (row GD (encI .u8) y43.2.gcode), .v (.int .i64 y43.2.gat), .v (.int .i64 y43.2.gseed)])], fl := false, σ := [(5, 5)], τ := [(5, 5)] }, hf_spec_l01Next_mPbb _ _ _ hy44, ⟨les_cons (lR _) (les_cons (lR _) (les_nil)), ⟨rfl, trivial⟩, rfl, rfl, rfl, rfl, ⟨fun _ => rfl, trivial⟩, rfl⟩, ?_⟩
   cbv
   replace h := of_bind h
   obtain ⟨y45, hy46, h⟩ := h
   obtain ⟨S49, hS50⟩ : ∃ S, S = some (sparse 48 [(4, .c (.ptr 256 0)), (5, .c (.ptr 320 0))] [(256, .var [.v (.int .i64 0), .v (.int .i64 0), .v (.int .i64 0), .v (.int .i64 0), .v (.int .i64 0), .v (.int .i64 0), .v (.int .i64 0), .v (.int .i64 0)]), (320, .var [.v (.int .i64 y1.1), .v (.int .i64 y3.1), .v (.int .i64 y45), .v (.int .i64 (A.sub .i64 y7.1 12)), .v (.int .i64 w20), .v (.int .i64 w38), .v (.int .i64 w21), .v (.int .i64 w39)]), (5, .var [.bs (LEN y43.2.gcode) 1 (row GD (encI .u8) y43.2.gcode), .v (.int .i64 y43.2.gat), .v (.int .i64 y43.2.gseed)])]) := ⟨_, rfl⟩
   refine ⟨S49, ?_, ?_⟩
   ·clear h
    have h := hy46
    clear hy46
    cbv
    refine fork (fun b52 => ?_) (fun b52 => ?_)
    ·replace h := of_br_t b52 h
     cbv
     injection h with h
     subst h
     subst hS50
     show St.le _ _
     exact le_sparse rfl ⟨lR _, lR _, trivial⟩ ⟨rfl, rfl, rfl, trivial⟩ rfl
    ·replace h := of_br_f b52 h
     cbv
     injection h with h
     subst h
     subst hS50
     show St.le _ _
     exact le_sparse rfl ⟨lR _, lR _, trivial⟩ ⟨rfl, rfl, rfl, trivial⟩ rfl
   ·clear hy46
    subst hS50
    replace h := of_let h
    obtain ⟨w51, hw51, h⟩ := h
    have hw51 : w51 = y45 := hw51
    subst hw51
    cbv
    injection h with h
    subst h
    refine ⟨(sparse 48 [(4, .c (.ptr 256 0))] [(256, .var [.v (.int .i64 y1.1), .v (.int .i64 y3.1), .v (.int .i64 w51), .v (.int .i64 (A.sub .i64 y7.1 12)), .v (.int .i64 w20), .v (.int .i64 w38), .v (.int .i64 w21), .v (.int .i64 w39)]), (5, .var [.bs (LEN y43.2.gcode) 1 (row GD (encI .u8) y43.2.gcode), .v (.int .i64 y43.2.gat), .v (.int .i64 y43.2.gseed)])]), ?_, ?_⟩
    ·exact le_sparse rfl ⟨lR _, trivial⟩ ⟨rfl, rfl, trivial⟩ rfl
    ·exact ⟨lR _, ⟨rfl, trivial⟩, rfl⟩

noncomputable def L_spec_l09DrawLibrary_mPb_x94 (v3 : Int) : (Int × (List Int) × Int × Int × (List TInstance)) → Option ((Int × (List Int) × Int × Int × (List TInstance)) ⊕ (((List Int) × Int × Int × (List TInstance)))) := fun x94 =>
 letO x94.1 fun v89 =>
 letO x94.2.1 fun v90 =>
 letO x94.2.2.1 fun v91 =>
 letO x94.2.2.2.1 fun v92 =>
 letO x94.2.2.2.2 fun v93 =>
 ((
    br (std.lt 0 v89)
    (some (std.lt 0 v3))
    (some false)
  ) : Option (Bool)).bind fun y106 =>
 letO y106 fun w112 =>
 br w112
 ((F_spec_l09DrawInstance_mPbb (Tl01Source.mk v90 v91 v92) v3).bind fun y114 =>
 letO ([y114.1] : List TInstance) fun l116 =>
 req (std.room (std.nadd (len v93) (len l116)) 64) <|
 letO (v93 ++ l116) fun l118 =>
 some (.inl (std.sub .i64 v89 1, y114.2.gcode, y114.2.gat, y114.2.gseed, l118)))
 (some (.inr (v90, v91, v92, v93)))
noncomputable def L_spec_l09DrawLibrary_mPb_x63  : (Int × (List Int) × Int × Int × (List TLabel)) → Option ((Int × (List Int) × Int × Int × (List TLabel)) ⊕ (((List Int) × Int × Int × (List TLabel)))) := fun x63 =>
 letO x63.1 fun v58 =>
 letO x63.2.1 fun v59 =>
 letO x63.2.2.1 fun v60 =>
 letO x63.2.2.2.1 fun v61 =>
 letO x63.2.2.2.2 fun v62 =>
 br (std.lt 0 v58)
 ((F_spec_l09DrawLabel_mPb (Tl01Source.mk v59 v60 v61)).bind fun y75 =>
 letO ([y75.1] : List TLabel) fun l77 =>
 req (std.room (std.nadd (len v62) (len l77)) 40) <|
 letO (v62 ++ l77) fun l79 =>
 some (.inl (std.sub .i64 v58 1, y75.2.gcode, y75.2.gat, y75.2.gseed, l79)))
 (some (.inr (v59, v60, v61, v62)))
noncomputable def L_spec_l09DrawLibrary_mPb_x32  : (Int × (List Int) × Int × Int × (List TShape)) → Option ((Int × (List Int) × Int × Int × (List TShape)) ⊕ (((List Int) × Int × Int × (List TShape)))) := fun x32 =>
 letO x32.1 fun v27 =>
 letO x32.2.1 fun v28 =>
 letO x32.2.2.1 fun v29 =>
 letO x32.2.2.2.1 fun v30 =>
 letO x32.2.2.2.2 fun v31 =>
 br (std.lt 0 v27)
 ((F_spec_l09DrawShape_mPb (Tl01Source.mk v28 v29 v30)).bind fun y44 =>
 letO ([y44.1] : List TShape) fun l46 =>
 req (std.room (std.nadd (len v31) (len l46)) 40) <|
 letO (v31 ++ l46) fun l48 =>
 some (.inl (std.sub .i64 v27 1, y44.2.gcode, y44.2.gat, y44.2.gseed, l48)))
 (some (.inr (v28, v29, v30, v31)))
noncomputable def L_spec_l09DrawLibrary_mPb_x8 (y1 : Int × Tl01Source) : (Int × (List Int) × Int × Int × (List TCell)) → Option ((Int × (List Int) × Int × Int × (List TCell)) ⊕ (((List Int) × Int × Int × (List TCell)))) := fun x8 =>
 letO x8.1 fun v3 =>
 letO x8.2.1 fun v4 =>
 letO x8.2.2.1 fun v5 =>
 letO x8.2.2.2.1 fun v6 =>
 letO x8.2.2.2.2 fun v7 =>
 br (std.lt v3 (std.add .i64 1 y1.1))
 (letO ([std.conv .u8 (std.add .i64 97 v3)] : List Int) fun l20 =>
 (F_spec_l09DrawName_mPb (Tl01Source.mk v4 v5 v6)).bind fun y22 =>
 req (std.room (std.nadd (std.slen (std.ofBytes (len l20) (fun i => gd l20 (0 + i)))) (std.slen y22.1)) 1) <|
 (F_spec_l01Next_mPbb y22.2 4).bind fun y25 =>
 (whileP (σ := Int × (List Int) × Int × Int × (List TShape)) (ρ := ((List Int) × Int × Int × (List TShape))) L_spec_l09DrawLibrary_mPb_x32 (y25.1, y25.2.gcode, y25.2.gat, y25.2.gseed, ([] : List TShape))).bind fun y33 =>
 letO y33 fun y33k0 =>
 letO y33k0.1 fun w52 =>
 letO y33k0.2.1 fun w53 =>
 letO y33k0.2.2.1 fun w54 =>
 letO y33k0.2.2.2 fun w55 =>
 (F_spec_l01Next_mPbb (Tl01Source.mk w52 w53 w54) 3).bind fun y56 =>
 (whileP (σ := Int × (List Int) × Int × Int × (List TLabel)) (ρ := ((List Int) × Int × Int × (List TLabel))) L_spec_l09DrawLibrary_mPb_x63 (y56.1, y56.2.gcode, y56.2.gat, y56.2.gseed, ([] : List TLabel))).bind fun y64 =>
 letO y64 fun y64k0 =>
 letO y64k0.1 fun w83 =>
 letO y64k0.2.1 fun w84 =>
 letO y64k0.2.2.1 fun w85 =>
 letO y64k0.2.2.2 fun w86 =>
 (F_spec_l01Next_mPbb (Tl01Source.mk w83 w84 w85) 3).bind fun y87 =>
 (whileP (σ := Int × (List Int) × Int × Int × (List TInstance)) (ρ := ((List Int) × Int × Int × (List TInstance))) (L_spec_l09DrawLibrary_mPb_x94 v3) (y87.1, y87.2.gcode, y87.2.gat, y87.2.gseed, ([] : List TInstance))).bind fun y95 =>
 letO y95 fun y95k0 =>
 letO y95k0.1 fun w122 =>
 letO y95k0.2.1 fun w123 =>
 letO y95k0.2.2.1 fun w124 =>
 letO y95k0.2.2.2 fun w125 =>
 ((
    letO ([(TCell.mk (std.scat (std.ofBytes (len l20) (fun i => gd l20 (0 + i))) y22.1) w55 w86 w125)] : List TCell) fun l133 =>
    req (std.room (std.nadd (len v7) (len l133)) 88) <|
    letO (v7 ++ l133) fun l135 =>
    some l135
  ) : Option ((List TCell))).bind fun y126 =>
 letO y126 fun w132 =>
 some (.inl (std.add .i64 v3 1, w122, w123, w124, w132)))
 (some (.inr (v4, v5, v6, v7)))
/-- spec.l09DrawLibrary -/
noncomputable def F_spec_l09DrawLibrary_mPb (a0 : Tl01Source) : Option (TLibrary × Tl01Source) :=
 (F_spec_l01Next_mPbb a0 4).bind fun y1 =>
 (whileP (σ := Int × (List Int) × Int × Int × (List TCell)) (ρ := ((List Int) × Int × Int × (List TCell))) (L_spec_l09DrawLibrary_mPb_x8 y1) (0, y1.2.gcode, y1.2.gat, y1.2.gseed, ([] : List TCell))).bind fun y9 =>
 letO y9 fun y9k0 =>
 letO y9k0.1 fun w139 =>
 letO y9k0.2.1 fun w140 =>
 letO y9k0.2.2.1 fun w141 =>
 letO y9k0.2.2.2 fun w142 =>
 some ((TLibrary.mk w142), (Tl01Source.mk w139 w140 w141))
set_option maxHeartbeats 4000000 in
theorem run_spec_l09DrawLibrary_mPb (a0 : Tl01Source) (r : TLibrary × Tl01Source) (h : F_spec_l09DrawLibrary_mPb a0 = some r) : Fun Try.prog 140 [.c (.ptr 5 0)] [(5, .var [.bs (len a0.gcode) 1 (row gd (encI .u8) a0.gcode), .v (.int .i64 a0.gat), .v (.int .i64 a0.gseed)])] (.agg [.os 64000 0 (len r.1.fCells)]) [(64000, .arr .rw [] (len r.1.fCells) 4 (row gd (oncCell len gd) r.1.fCells)), (5, .var [.bs (len r.2.gcode) 1 (row gd (encI .u8) r.2.gcode), .v (.int .i64 r.2.gat), .v (.int .i64 r.2.gseed)])] false := by
 refine Fun.of_wp (oneOf [16, 19]) tok mixed Try.func140 (by kernel_rfl) rfl Try.ntmps140 rfl trivial (fun h => by cases h) ?_
 unfold F_spec_l09DrawLibrary_mPb at h
 unfold L_spec_l09DrawLibrary_mPb_x8 at h
 unfold L_spec_l09DrawLibrary_mPb_x32 at h
 unfold L_spec_l09DrawLibrary_mPb_x63 at h
 unfold L_spec_l09DrawLibrary_mPb_x94 at h
 have hf_spec_l01Next_mPbb := @run_spec_l01Next_mPbb
 have hf_spec_l09DrawInstance_mPbb := @run_spec_l09DrawInstance_mPbb
 have hf_spec_l09DrawLabel_mPb := @run_spec_l09DrawLabel_mPb
 have hf_spec_l09DrawName_mPb := @run_spec_l09DrawName_mPb
 have hf_spec_l09DrawShape_mPb := @run_spec_l09DrawShape_mPb
 generalize hLEN : @len = LEN at *
 generalize hGD : @gd = GD at *
 generalize hA : std = A at *
 generalize hP : Try.prog = P at *
 cbv
 replace h := of_bind h
 obtain ⟨y1, hy2, h⟩ := h
 refine ⟨{ args := [.c (.ptr 5 0), .c (.v (.int .i64 4))], o0 := [(5, .var [.bs (LEN a0.gcode) 1 (row GD (encI .u8) a0.gcode), .v (.int .i64 a0.gat), .v (.int .i64 a0.gseed)])], r := .c (.v (.int .i64 y1.1)), o1 := [(5, .var [.bs (LEN y1.2.gcode) 1 (row GD (encI .u8) y1.2.gcode), .v (.int .i64 y1.2.gat), .v (.int .i64 y1.2.gseed)])], fl := false, σ := [(5, 5)], τ := [(5, 5)] }, hf_spec_l01Next_mPbb _ _ _ hy2, ⟨les_cons (lR _) (les_cons (lR _) (les_nil)), ⟨rfl, trivial⟩, rfl, rfl, rfl, rfl, ⟨fun _ => rfl, trivial⟩, rfl⟩, ?_⟩
 cbv
 replace h := of_bind h
 obtain ⟨y9, hr10, hN11⟩ := h
 refine loop_cut hr10 (fun x => (sparse 79 [(0, .c (.ptr 5 0)), (2, .c (.ptr 128 0)), (3, .c (.ptr 192 0)), (4, .c (.v (.int .i64 (A.add .i64 1 y1.1)))), (5, .c (.v (.int .i64 x.1)))] [(5, .var [.bs (LEN x.2.1) 1 (row GD (encI .u8) x.2.1), .v (.int .i64 x.2.2.1), .v (.int .i64 x.2.2.2.1)]), (128, .var [.v (.slice none 0 0)]), (192, .var [.os 4864 0 (LEN x.2.2.2.2)]), (4864, .arr .rw [] (LEN x.2.2.2.2) 4 (row GD (oncCell LEN GD) x.2.2.2.2))])) ?_ (fun y e s => (fun (w : (List Int) × Int × Int × (List TCell)) => e = .exit 0 ∧ s.le (sparse 79 [(2, .c (.ptr 128 0)), (3, .c (.ptr 192 0))] [(128, .var [.v (.slice none 0 0)]), (192, .var [.os 4864 0 (LEN w.2.2.2)]), (5, .var [.bs (LEN w.1) 1 (row GD (encI .u8) w.1), .v (.int .i64 w.2.1), .v (.int .i64 w.2.2.1)]), (4864, .arr .rw [] (LEN w.2.2.2) 4 (row GD (oncCell LEN GD) w.2.2.2))])) y) ?_ ?_
 ·clear hr10 hN11
  show St.le _ _
  refine St.le_trans (le_nilV 192 0 4864 4 (row GD (oncCell LEN GD) ([] : List TCell)) (by decide) (by decide) rfl rfl) ?_
  subst hLEN
  exact le_sparse rfl ⟨lR _, lR _, lR _, lR _, lR _, trivial⟩ ⟨rfl, rfl, rfl, oS, trivial⟩ rfl
 ·clear hr10 hN11
  intro x z15 h K13 hK14 hY12
  obtain ⟨x0_, x1_, x2_, x3_, x4_⟩ := x
  replace h := of_let h
  obtain ⟨v3, hv3, h⟩ := h
  have hv3 : v3 = x0_ := hv3
  subst hv3
  replace h := of_let h
  obtain ⟨v4, hv4, h⟩ := h
  have hv4 : v4 = x1_ := hv4
  subst hv4
  replace h := of_let h
  obtain ⟨v5, hv5, h⟩ := h
  have hv5 : v5 = x2_ := hv5
  subst hv5
  replace h := of_let h
  obtain ⟨v6, hv6, h⟩ := h
  have hv6 : v6 = x3_ := hv6
  subst hv6
  replace h := of_let h
  obtain ⟨v7, hv7, h⟩ := h
  have hv7 : v7 = x4_ := hv7
  subst hv7
  cbv
  refine fork (fun b138 => ?_) (fun b138 => ?_)
  ·replace h := of_br_t b138 h
   cbv
   replace h := of_let h
   obtain ⟨l20, hl20, h⟩ := h
   have e21 : 1 = LEN l20 := by subst hl20 hLEN; rfl
   refine ⟨_, congrArg (fun n => AV.c (AC.os 1408 0 n)) e21, _, row GD (encI .u8) l20, e21, wkOf ?_, ?_⟩
   ·intro i hi j hj
    rw [← e21] at hi
    subst hl20
    subst hGD
    obtain rfl : i = 0 := (by omega)
    all_goals obtain rfl : j = 0 := by omega
    all_goals rfl
   cbv
   refine ⟨fun _ _ => rfl, ?_⟩
   replace h := of_bind h
   obtain ⟨y22, hy23, h⟩ := h
   refine ⟨{ args := [.c (.ptr 5 0)], o0 := [(5, .var [.bs (LEN v4) 1 (row GD (encI .u8) v4), .v (.int .i64 v5), .v (.int .i64 v6)])], r := .c (.v (.string y22.1)), o1 := [(5, .var [.bs (LEN y22.2.gcode) 1 (row GD (encI .u8) y22.2.gcode), .v (.int .i64 y22.2.gat), .v (.int .i64 y22.2.gseed)])], fl := false, σ := [(5, 5)], τ := [(5, 5)] }, hf_spec_l09DrawName_mPb _ _ hy23, ⟨les_cons (lR _) (les_nil), ⟨rfl, trivial⟩, rfl, rfl, rfl, rfl, ⟨fun _ => rfl, trivial⟩, rfl⟩, ?_⟩
   cbv
   replace h := of_req h
   obtain ⟨c24, h⟩ := h
   refine ⟨c24, ?_⟩
   replace h := of_bind h
   obtain ⟨y25, hy26, h⟩ := h
   refine ⟨{ args := [.c (.ptr 5 0), .c (.v (.int .i64 4))], o0 := [(5, .var [.bs (LEN y22.2.gcode) 1 (row GD (encI .u8) y22.2.gcode), .v (.int .i64 y22.2.gat), .v (.int .i64 y22.2.gseed)])], r := .c (.v (.int .i64 y25.1)), o1 := [(5, .var [.bs (LEN y25.2.gcode) 1 (row GD (encI .u8) y25.2.gcode), .v (.int .i64 y25.2.gat), .v (.int .i64 y25.2.gseed)])], fl := false, σ := [(5, 5)], τ := [(5, 5)] }, hf_spec_l01Next_mPbb _ _ _ hy26, ⟨les_cons (lR _) (les_cons (lR _) (les_nil)), ⟨rfl, trivial⟩, rfl, rfl, rfl, rfl, ⟨fun _ => rfl, trivial⟩, rfl⟩, ?_⟩
   cbv
   replace h := of_bind h
   obtain ⟨y33, hr34, hN35⟩ := h
   refine loop_cut hr34 (fun x => (sparse 79 [(0, .c (.ptr 5 0)), (2, .c (.ptr 128 0)), (3, .c (.ptr 192 0)), (4, .c (.v (.int .i64 (A.add .i64 1 y1.1)))), (5, .c (.v (.int .i64 v3))), (6, .c (.ptr 384 0)), (7, .c (.v (.int .i64 x.1)))] [(5, .var [.bs (LEN x.2.1) 1 (row GD (encI .u8) x.2.1), .v (.int .i64 x.2.2.1), .v (.int .i64 x.2.2.2.1)]), (128, .var [.v (.slice none 0 0)]), (192, .var [.os 4864 0 (LEN v7)]), (384, .var [.v (.string (A.scat (A.ofBytes (LEN l20) (fun i => GD l20 (0 + i))) y22.1)), .os 2496 0 (LEN x.2.2.2.2), .v (.slice none 0 0), .v (.slice none 0 0)]), (4864, .arr .rw [] (LEN v7) 4 (row GD (oncCell LEN GD) v7)), (2496, .arr .rw [] (LEN x.2.2.2.2) 5 (row GD (encShape) x.2.2.2.2))])) ?_ (fun y e s => (fun (w : (List Int) × Int × Int × (List TShape)) => e = .exit 2 ∧ s.le (sparse 79 [(0, .c (.ptr 5 0)), (2, .c (.ptr 128 0)), (3, .c (.ptr 192 0)), (4, .c (.v (.int .i64 (A.add .i64 1 y1.1)))), (5, .c (.v (.int .i64 v3))), (6, .c (.ptr 384 0))] [(5, .var [.bs (LEN w.1) 1 (row GD (encI .u8) w.1), .v (.int .i64 w.2.1), .v (.int .i64 w.2.2.1)]), (128, .var [.v (.slice none 0 0)]), (192, .var [.os 4864 0 (LEN v7)]), (384, .var [.v (.string (A.scat (A.ofBytes (LEN l20) (fun i => GD l20 (0 + i))) y22.1)), .os 2496 0 (LEN w.2.2.2), .v (.slice none 0 0), .v (.slice none 0 0)]), (4864, .arr .rw [] (LEN v7) 4 (row GD (oncCell LEN GD) v7)), (2496, .arr .rw [] (LEN w.2.2.2) 5 (row GD (encShape) w.2.2.2))])) y) ?_ ?_
   ·clear hr34 hN35
    show St.le _ _
    refine St.le_trans (le_nilV 384 1 2496 5 (row GD (encShape) ([] : List TShape)) (by decide) (by decide) rfl rfl) ?_
    subst hLEN
    exact le_sparse rfl ⟨lR _, lR _, lR _, lR _, lR _, lR _, lR _, trivial⟩ ⟨rfl, rfl, rfl, rfl, oS, oS, trivial⟩ rfl
   ·clear hr34 hN35
    intro x z39 h K37 hK38 hY36
    obtain ⟨x0_, x1_, x2_, x3_, x4_⟩ := x
    replace h := of_let h
    obtain ⟨v27, hv27, h⟩ := h
    have hv27 : v27 = x0_ := hv27
    subst hv27
    replace h := of_let h
    obtain ⟨v28, hv28, h⟩ := h
    have hv28 : v28 = x1_ := hv28
    subst hv28
    replace h := of_let h
    obtain ⟨v29, hv29, h⟩ := h
    have hv29 : v29 = x2_ := hv29
    subst hv29
    replace h := of_let h
    obtain ⟨v30, hv30, h⟩ := h
    have hv30 : v30 = x3_ := hv30
    subst hv30
    replace h := of_let h
    obtain ⟨v31, hv31, h⟩ := h
    have hv31 : v31 = x4_ := hv31
    subst hv31
    cbv
    refine fork (fun b51 => ?_) (fun b51 => ?_)
    ·replace h := of_br_t b51 h
     cbv
     replace h := of_bind h
     obtain ⟨y44, hy45, h⟩ := h
     refine ⟨{ args := [.c (.ptr 5 0)], o0 := [(5, .var [.bs (LEN v28) 1 (row GD (encI .u8) v28), .v (.int .i64 v29), .v (.int .i64 v30)])], r := .agg [.v (.int .i64 y44.1.fLayer), .v (.int .i64 y44.1.fBox.fX0), .v (.int .i64 y44.1.fBox.fY0), .v (.int .i64 y44.1.fBox.fX1), .v (.int .i64 y44.1.fBox.fY1)], o1 := [(5, .var [.bs (LEN y44.2.gcode) 1 (row GD (encI .u8) y44.2.gcode), .v (.int .i64 y44.2.gat), .v (.int .i64 y44.2.gseed)])], fl := false, σ := [(5, 5)], τ := [(5, 5)] }, hf_spec_l09DrawShape_mPb _ _ hy45, ⟨les_cons (lR _) (les_nil), ⟨rfl, trivial⟩, rfl, rfl, rfl, rfl, ⟨fun _ => rfl, trivial⟩, rfl⟩, ?_⟩
     cbv
     replace h := of_let h
     obtain ⟨l46, hl46, h⟩ := h
     have e47 : 1 = LEN l46 := by subst hl46 hLEN; rfl
     refine ⟨_, congrArg (fun n => AV.c (AC.os 2432 0 n)) e47, _, row GD (encShape) l46, e47, wkOf ?_, ?_⟩
     ·intro i hi j hj
      rw [← e47] at hi
      subst hl46
      subst hGD
      obtain rfl : i = 0 := (by omega) <;> obtain rfl | rfl | rfl | rfl | rfl : j = 0 ∨ j = 1 ∨ j = 2 ∨ j = 3 ∨ j = 4 := (by omega)
      all_goals rfl
     cbv
     replace h := of_req h
     obtain ⟨c50, h⟩ := h
     replace h := of_let h
     obtain ⟨l48, hl48, h⟩ := h
     have e49 : A.nadd (LEN v31) (LEN l46) = LEN l48 := by subst hl48 hLEN hA; simp [std, len]
     refine ⟨c50, _, congrArg (fun n => AV.c (AC.os 2496 0 n)) e49, _, row GD (encShape) l48, e49, wkOf ?_, ?_⟩
     ·subst hGD hLEN hA
      exact app_os (off := 0) (pl_encShape) hl48 (Nat.le_refl _)
     cbv
     injection h with h
     refine hK38 _ h.symm _ ?_
     exact le_sparse rfl ⟨lR _, lR _, lR _, lR _, lR _, lR _, lR _, trivial⟩ ⟨rfl, rfl, rfl, rfl, oS, oS, trivial⟩ rfl
    ·replace h := of_br_f b51 h
     cbv
     injection h with h
     refine hY36 _ h.symm _ _ (And.intro rfl ?_) (by intro hh; cases hh)
     exact le_sparse rfl ⟨lR _, lR _, lR _, lR _, lR _, lR _, trivial⟩ ⟨rfl, rfl, rfl, rfl, oS, oS, trivial⟩ rfl
   ·clear hr34
    have h := hN35
    clear hN35
    intro e42 s43 q41 hne
    replace h := of_let h
    obtain ⟨y33k0, hyk, h⟩ := h
    have hyk : y33k0 = y33 := hyk
    subst hyk
    obtain ⟨rfl, q41⟩ := q41
    obtain ⟨y33k0_0, y33k0_1, y33k0_2, y33k0_3⟩ := y33k0
    replace h := of_let h
    obtain ⟨w52, hw52, h⟩ := h
    have hw52 : w52 = y33k0_0 := hw52
    subst hw52
    replace h := of_let h
    obtain ⟨w53, hw53, h⟩ := h
    have hw53 : w53 = y33k0_1 := hw53
    subst hw53
    replace h := of_let h
    obtain ⟨w54, hw54, h⟩ := h
    have hw54 : w54 = y33k0_2 := hw54
    subst hw54
    replace h := of_let h
    obtain ⟨w55, hw55, h⟩ := h
    have hw55 : w55 = y33k0_3 := hw55
    subst hw55
    cbv
    refine ⟨_, q41, ?_⟩
    cbv
    replace h := of_bind h
    obtain ⟨y56, hy57, h⟩ := h
    refine ⟨{ args := [.c (.ptr 5 0), .c (.v (.int .i64 3))], o0 := [(5, .var [.bs (LEN w52) 1 (row GD (encI .u8) w52), .v (.int .i64 w53), .v (.int .i64 w54)])], r := .c (.v (.int .i64 y56.1)), o1 := [(5, .var [.bs (LEN y56.2.gcode) 1 (row GD (encI .u8) y56.2.gcode), .v (.int .i64 y56.2.gat), .v (.int .i64 y56.2.gseed)])], fl := false, σ := [(5, 5)], τ := [(5, 5)] }, hf_spec_l01Next_mPbb _ _ _ hy57, ⟨les_cons (lR _) (les_cons (lR _) (les_nil)), ⟨rfl, trivial⟩, rfl, rfl, rfl, rfl, ⟨fun _ => rfl, trivial⟩, rfl⟩, ?_⟩
    cbv
    replace h := of_bind h
    obtain ⟨y64, hr65, hN66⟩ := h
    refine loop_cut hr65 (fun x => (sparse 79 [(0, .c (.ptr 5 0)), (2, .c (.ptr 128 0)), (3, .c (.ptr 192 0)), (4, .c (.v (.int .i64 (A.add .i64 1 y1.1)))), (5, .c (.v (.int .i64 v3))), (6, .c (.ptr 384 0)), (8, .c (.v (.int .i64 x.1)))] [(5, .var [.bs (LEN x.2.1) 1 (row GD (encI .u8) x.2.1), .v (.int .i64 x.2.2.1), .v (.int .i64 x.2.2.2.1)]), (128, .var [.v (.slice none 0 0)]), (192, .var [.os 4864 0 (LEN v7)]), (384, .var [.v (.string (A.scat (A.ofBytes (LEN l20) (fun i => GD l20 (0 + i))) y22.1)), .os 2496 0 (LEN w55), .os 3328 0 (LEN x.2.2.2.2), .v (.slice none 0 0)]), (4864, .arr .rw [] (LEN v7) 4 (row GD (oncCell LEN GD) v7)), (2496, .arr .rw [] (LEN w55) 5 (row GD (encShape) w55)), (3328, .arr .rw [] (LEN x.2.2.2.2) 4 (row GD (encLabel) x.2.2.2.2))])) ?_ (fun y e s => (fun (w : (List Int) × Int × Int × (List TLabel)) => e = .exit 4 ∧ s.le (sparse 79 [(0, .c (.ptr 5 0)), (2, .c (.ptr 128 0)), (3, .c (.ptr 192 0)), (4, .c (.v (.int .i64 (A.add .i64 1 y1.1)))), (5, .c (.v (.int .i64 v3))), (6, .c (.ptr 384 0))] [(5, .var [.bs (LEN w.1) 1 (row GD (encI .u8) w.1), .v (.int .i64 w.2.1), .v (.int .i64 w.2.2.1)]), (128, .var [.v (.slice none 0 0)]), (192, .var [.os 4864 0 (LEN v7)]), (384, .var [.v (.string (A.scat (A.ofBytes (LEN l20) (fun i => GD l20 (0 + i))) y22.1)), .os 2496 0 (LEN w55), .os 3328 0 (LEN w.2.2.2), .v (.slice none 0 0)]), (4864, .arr .rw [] (LEN v7) 4 (row GD (oncCell LEN GD) v7)), (2496, .arr .rw [] (LEN w55) 5 (row GD (encShape) w55)), (3328, .arr .rw [] (LEN w.2.2.2) 4 (row GD (encLabel) w.2.2.2))])) y) ?_ ?_
    ·clear hr65 hN66
     show St.le _ _
     refine St.le_trans (le_nilV 384 2 3328 4 (row GD (encLabel) ([] : List TLabel)) (by decide) (by decide) rfl rfl) ?_
     subst hLEN
     exact le_sparse rfl ⟨lR _, lR _, lR _, lR _, lR _, lR _, lR _, trivial⟩ ⟨rfl, rfl, rfl, rfl, oS, oS, oS, trivial⟩ rfl
    ·clear hr65 hN66
     intro x z70 h K68 hK69 hY67
     obtain ⟨x0_, x1_, x2_, x3_, x4_⟩ := x
     replace h := of_let h
     obtain ⟨v58, hv58, h⟩ := h
     have hv58 : v58 = x0_ := hv58
     subst hv58
     replace h := of_let h
     obtain ⟨v59, hv59, h⟩ := h
     have hv59 : v59 = x1_ := hv59
     subst hv59
     replace h := of_let h
     obtain ⟨v60, hv60, h⟩ := h
     have hv60 : v60 = x2_ := hv60
     subst hv60
     replace h := of_let h
     obtain ⟨v61, hv61, h⟩ := h
     have hv61 : v61 = x3_ := hv61
     subst hv61
     replace h := of_let h
     obtain ⟨v62, hv62, h⟩ := h
     have hv62 : v62 = x4_ := hv62
     subst hv62
     cbv
     refine fork (fun b82 => ?_) (fun b82 => ?_)
     ·replace h := of_br_t b82 h
      cbv
      replace h := of_bind h
      obtain ⟨y75, hy76, h⟩ := h
      refine ⟨{ args := [.c (.ptr 5 0)], o0 := [(5, .var [.bs (LEN v59) 1 (row GD (encI .u8) v59), .v (.int .i64 v60), .v (.int .i64 v61)])], r := .agg [.v (.int .i64 y75.1.fLayer), .v (.int .i64 y75.1.fAt.fX), .v (.int .i64 y75.1.fAt.fY), .v (.string y75.1.fName)], o1 := [(5, .var [.bs (LEN y75.2.gcode) 1 (row GD (encI .u8) y75.2.gcode), .v (.int .i64 y75.2.gat), .v (.int .i64 y75.2.gseed)])], fl := false, σ := [(5, 5)], τ := [(5, 5)] }, hf_spec_l09DrawLabel_mPb _ _ hy76, ⟨les_cons (lR _) (les_nil), ⟨rfl, trivial⟩, rfl, rfl, rfl, rfl, ⟨fun _ => rfl, trivial⟩, rfl⟩, ?_⟩
      cbv
      replace h := of_let h
      obtain ⟨l77, hl77, h⟩ := h
      have e78 : 1 = LEN l77 := by subst hl77 hLEN; rfl
      refine ⟨_, congrArg (fun n => AV.c (AC.os 3264 0 n)) e78, _, row GD (encLabel) l77, e78, wkOf ?_, ?_⟩
      ·intro i hi j hj
       rw [← e78] at hi
       subst hl77
       subst hGD
       obtain rfl : i = 0 := (by omega) <;> obtain rfl | rfl | rfl | rfl : j = 0 ∨ j = 1 ∨ j = 2 ∨ j = 3 := (by omega)
       all_goals rfl
      cbv
      replace h := of_req h
      obtain ⟨c81, h⟩ := h
      replace h := of_let h
      obtain ⟨l79, hl79, h⟩ := h
      have e80 : A.nadd (LEN v62) (LEN l77) = LEN l79 := by subst hl79 hLEN hA; simp [std, len]
      refine ⟨c81, _, congrArg (fun n => AV.c (AC.os 3328 0 n)) e80, _, row GD (encLabel) l79, e80, wkOf ?_, ?_⟩
      ·subst hGD hLEN hA
       exact app_os (off := 0) (pl_encLabel) hl79 (Nat.le_refl _)
      cbv
      injection h with h
      refine hK69 _ h.symm _ ?_
      exact le_sparse rfl ⟨lR _, lR _, lR _, lR _, lR _, lR _, lR _, trivial⟩ ⟨rfl, rfl, rfl, rfl, oS, oS, oS, trivial⟩ rfl
     ·replace h := of_br_f b82 h
      cbv
      injection h with h
      refine hY67 _ h.symm _ _ (And.intro rfl ?_) (by intro hh; cases hh)
      exact le_sparse rfl ⟨lR _, lR _, lR _, lR _, lR _, lR _, trivial⟩ ⟨rfl, rfl, rfl, rfl, oS, oS, oS, trivial⟩ rfl
    ·clear hr65
     have h := hN66
     clear hN66
     intro e73 s74 q72 hne
     replace h := of_let h
     obtain ⟨y64k0, hyk, h⟩ := h
     have hyk : y64k0 = y64 := hyk
     subst hyk
     obtain ⟨rfl, q72⟩ := q72
     obtain ⟨y64k0_0, y64k0_1, y64k0_2, y64k0_3⟩ := y64k0
     replace h := of_let h
     obtain ⟨w83, hw83, h⟩ := h
     have hw83 : w83 = y64k0_0 := hw83
     subst hw83
     replace h := of_let h
     obtain ⟨w84, hw84, h⟩ := h
     have hw84 : w84 = y64k0_1 := hw84
     subst hw84
     replace h := of_let h
     obtain ⟨w85, hw85, h⟩ := h
     have hw85 : w85 = y64k0_2 := hw85
     subst hw85
     replace h := of_let h
     obtain ⟨w86, hw86, h⟩ := h
     have hw86 : w86 = y64k0_3 := hw86
     subst hw86
     cbv
     refine ⟨_, q72, ?_⟩
     cbv
     replace h := of_bind h
     obtain ⟨y87, hy88, h⟩ := h
     refine ⟨{ args := [.c (.ptr 5 0), .c (.v (.int .i64 3))], o0 := [(5, .var [.bs (LEN w83) 1 (row GD (encI .u8) w83), .v (.int .i64 w84), .v (.int .i64 w85)])], r := .c (.v (.int .i64 y87.1)), o1 := [(5, .var [.bs (LEN y87.2.gcode) 1 (row GD (encI .u8) y87.2.gcode), .v (.int .i64 y87.2.gat), .v (.int .i64 y87.2.gseed)])], fl := false, σ := [(5, 5)], τ := [(5, 5)] }, hf_spec_l01Next_mPbb _ _ _ hy88, ⟨les_cons (lR _) (les_cons (lR _) (les_nil)), ⟨rfl, trivial⟩, rfl, rfl, rfl, rfl, ⟨fun _ => rfl, trivial⟩, rfl⟩, ?_⟩
     cbv
     replace h := of_bind h
     obtain ⟨y95, hr96, hN97⟩ := h
     refine loop_cut hr96 (fun x => (sparse 79 [(0, .c (.ptr 5 0)), (2, .c (.ptr 128 0)), (3, .c (.ptr 192 0)), (4, .c (.v (.int .i64 (A.add .i64 1 y1.1)))), (5, .c (.v (.int .i64 v3))), (6, .c (.ptr 384 0)), (9, .c (.v (.int .i64 x.1)))] [(5, .var [.bs (LEN x.2.1) 1 (row GD (encI .u8) x.2.1), .v (.int .i64 x.2.2.1), .v (.int .i64 x.2.2.2.1)]), (128, .var [.v (.slice none 0 0)]), (192, .var [.os 4864 0 (LEN v7)]), (384, .var [.v (.string (A.scat (A.ofBytes (LEN l20) (fun i => GD l20 (0 + i))) y22.1)), .os 2496 0 (LEN w55), .os 3328 0 (LEN w86), .os 4480 0 (LEN x.2.2.2.2)]), (4864, .arr .rw [] (LEN v7) 4 (row GD (oncCell LEN GD) v7)), (2496, .arr .rw [] (LEN w55) 5 (row GD (encShape) w55)), (3328, .arr .rw [] (LEN w86) 4 (row GD (encLabel) w86)), (4480, .arr .rw [] (LEN x.2.2.2.2) 8 (row GD (encInstance) x.2.2.2.2))])) ?_ (fun y e s => (fun (w : (List Int) × Int × Int × (List TInstance)) => e = .exit 6 ∧ s.le (sparse 79 [(0, .c (.ptr 5 0)), (2, .c (.ptr 128 0)), (3, .c (.ptr 192 0)), (4, .c (.v (.int .i64 (A.add .i64 1 y1.1)))), (5, .c (.v (.int .i64 v3))), (6, .c (.ptr 384 0))] [(5, .var [.bs (LEN w.1) 1 (row GD (encI .u8) w.1), .v (.int .i64 w.2.1), .v (.int .i64 w.2.2.1)]), (128, .var [.v (.slice none 0 0)]), (192, .var [.os 4864 0 (LEN v7)]), (384, .var [.v (.string (A.scat (A.ofBytes (LEN l20) (fun i => GD l20 (0 + i))) y22.1)), .os 2496 0 (LEN w55), .os 3328 0 (LEN w86), .os 4480 0 (LEN w.2.2.2)]), (4864, .arr .rw [] (LEN v7) 4 (row GD (oncCell LEN GD) v7)), (2496, .arr .rw [] (LEN w55) 5 (row GD (encShape) w55)), (3328, .arr .rw [] (LEN w86) 4 (row GD (encLabel) w86)), (4480, .arr .rw [] (LEN w.2.2.2) 8 (row GD (encInstance) w.2.2.2))])) y) ?_ ?_
     ·clear hr96 hN97
      show St.le _ _
      refine St.le_trans (le_nilV 384 3 4480 8 (row GD (encInstance) ([] : List TInstance)) (by decide) (by decide) rfl rfl) ?_
      subst hLEN
      exact le_sparse rfl ⟨lR _, lR _, lR _, lR _, lR _, lR _, lR _, trivial⟩ ⟨rfl, rfl, rfl, rfl, oS, oS, oS, oS, trivial⟩ rfl
     ·clear hr96 hN97
      intro x z101 h K99 hK100 hY98
      obtain ⟨x0_, x1_, x2_, x3_, x4_⟩ := x
      replace h := of_let h
      obtain ⟨v89, hv89, h⟩ := h
      have hv89 : v89 = x0_ := hv89
      subst hv89
      replace h := of_let h
      obtain ⟨v90, hv90, h⟩ := h
      have hv90 : v90 = x1_ := hv90
      subst hv90
      replace h := of_let h
      obtain ⟨v91, hv91, h⟩ := h
      have hv91 : v91 = x2_ := hv91
      subst hv91
      replace h := of_let h
      obtain ⟨v92, hv92, h⟩ := h
      have hv92 : v92 = x3_ := hv92
      subst hv92
      replace h := of_let h
      obtain ⟨v93, hv93, h⟩ := h
      have hv93 : v93 = x4_ := hv93
      subst hv93
      cbv
      replace h := of_bind h
      obtain ⟨y106, hy107, h⟩ := h
      obtain ⟨S110, hS111⟩ : ∃ S, S = (sparse 79 [(0, .c (.ptr 5 0)), (2, .c (.ptr 128 0)), (3, .c (.ptr 192 0)), (4, .c (.v (.int .i64 (A.add .i64 1 y1.1)))), (5, .c (.v (.int .i64 v3))), (6, .c (.ptr 384 0)), (9, .c (.v (.int .i64 v89))), (61, .c (.v (.bool y106)))] [(5, .var [.bs (LEN v90) 1 (row GD (encI .u8) v90), .v (.int .i64 v91), .v (.int .i64 v92)]), (128, .var [.v (.slice none 0 0)]), (192, .var [.os 4864 0 (LEN v7)]), (384, .var [.v (.string (A.scat (A.ofBytes (LEN l20) (fun i => GD l20 (0 + i))) y22.1)), .os 2496 0 (LEN w55), .os 3328 0 (LEN w86), .os 4480 0 (LEN v93)]), (4864, .arr .rw [] (LEN v7) 4 (row GD (oncCell LEN GD) v7)), (2496, .arr .rw [] (LEN w55) 5 (row GD (encShape) w55)), (3328, .arr .rw [] (LEN w86) 4 (row GD (encLabel) w86)), (4480, .arr .rw [] (LEN v93) 8 (row GD (encInstance) v93))]) := ⟨_, rfl⟩
      refine ⟨S110, ?_, ?_⟩
      ·clear h
       have h := hy107
       clear hy107
       cbv
       refine fork (fun b113 => ?_) (fun b113 => ?_)
       ·replace h := of_br_t b113 h
        cbv
        injection h with h
        subst h
        subst hS111
        show St.le _ _
        exact le_sparse rfl ⟨lR _, lR _, lR _, lR _, lR _, lR _, lR _, lR _, trivial⟩ ⟨rfl, rfl, rfl, rfl, oS, oS, oS, oS, trivial⟩ rfl
       ·replace h := of_br_f b113 h
        cbv
        injection h with h
        subst h
        subst hS111
        show St.le _ _
        exact le_sparse rfl ⟨lR _, lR _, lR _, lR _, lR _, lR _, lR _, lR _, trivial⟩ ⟨rfl, rfl, rfl, rfl, oS, oS, oS, oS, trivial⟩ rfl
      ·clear hy107
       subst hS111
       replace h := of_let h
       obtain ⟨w112, hw112, h⟩ := h
       have hw112 : w112 = y106 := hw112
       subst hw112
       cbv
       refine fork (fun b121 => ?_) (fun b121 => ?_)
       ·replace h := of_br_t b121 h
        cbv
        replace h := of_bind h
        obtain ⟨y114, hy115, h⟩ := h
        refine ⟨{ args := [.c (.ptr 5 0), .c (.v (.int .i64 v3))], o0 := [(5, .var [.bs (LEN v90) 1 (row GD (encI .u8) v90), .v (.int .i64 v91), .v (.int .i64 v92)])], r := .agg [.v (.int .i64 y114.1.fCell), .v (.int .i64 y114.1.fPlace.fOrientation), .v (.int .i64 y114.1.fPlace.fX), .v (.int .i64 y114.1.fPlace.fY), .v (.int .i64 y114.1.fColumns), .v (.int .i64 y114.1.fRows), .v (.int .i64 y114.1.fStepX), .v (.int .i64 y114.1.fStepY)], o1 := [(5, .var [.bs (LEN y114.2.gcode) 1 (row GD (encI .u8) y114.2.gcode), .v (.int .i64 y114.2.gat), .v (.int .i64 y114.2.gseed)])], fl := false, σ := [(5, 5)], τ := [(5, 5)] }, hf_spec_l09DrawInstance_mPbb _ _ _ hy115, ⟨les_cons (lR _) (les_cons (lR _) (les_nil)), ⟨rfl, trivial⟩, rfl, rfl, rfl, rfl, ⟨fun _ => rfl, trivial⟩, rfl⟩, ?_⟩
        cbv
        replace h := of_let h
        obtain ⟨l116, hl116, h⟩ := h
        have e117 : 1 = LEN l116 := by subst hl116 hLEN; rfl
        refine ⟨_, congrArg (fun n => AV.c (AC.os 4416 0 n)) e117, _, row GD (encInstance) l116, e117, wkOf ?_, ?_⟩
        ·intro i hi j hj
         rw [← e117] at hi
         subst hl116
         subst hGD
         obtain rfl : i = 0 := (by omega) <;> obtain rfl | rfl | rfl | rfl | rfl | rfl | rfl | rfl : j = 0 ∨ j = 1 ∨ j = 2 ∨ j = 3 ∨ j = 4 ∨ j = 5 ∨ j = 6 ∨ j = 7 := (by omega)
         all_goals rfl
        cbv
        replace h := of_req h
        obtain ⟨c120, h⟩ := h
        replace h := of_let h
        obtain ⟨l118, hl118, h⟩ := h
        have e119 : A.nadd (LEN v93) (LEN l116) = LEN l118 := by subst hl118 hLEN hA; simp [std, len]
        refine ⟨c120, _, congrArg (fun n => AV.c (AC.os 4480 0 n)) e119, _, row GD (encInstance) l118, e119, wkOf ?_, ?_⟩
        ·subst hGD hLEN hA
         exact app_os (off := 0) (pl_encInstance) hl118 (Nat.le_refl _)
        cbv
        injection h with h
        refine hK100 _ h.symm _ ?_
        exact le_sparse rfl ⟨lR _, lR _, lR _, lR _, lR _, lR _, lR _, trivial⟩ ⟨rfl, rfl, rfl, rfl, oS, oS, oS, oS, trivial⟩ rfl
       ·replace h := of_br_f b121 h
        cbv
        injection h with h
        refine hY98 _ h.symm _ _ (And.intro rfl ?_) (by intro hh; cases hh)
        exact le_sparse rfl ⟨lR _, lR _, lR _, lR _, lR _, lR _, trivial⟩ ⟨rfl, rfl, rfl, rfl, oS, oS, oS, oS, trivial⟩ rfl
     ·clear hr96
      have h := hN97
      clear hN97
      intro e104 s105 q103 hne
      replace h := of_let h
      obtain ⟨y95k0, hyk, h⟩ := h
      have hyk : y95k0 = y95 := hyk
      subst hyk
      obtain ⟨rfl, q103⟩ := q103
      obtain ⟨y95k0_0, y95k0_1, y95k0_2, y95k0_3⟩ := y95k0
      replace h := of_let h
      obtain ⟨w122, hw122, h⟩ := h
      have hw122 : w122 = y95k0_0 := hw122
      subst hw122
      replace h := of_let h
      obtain ⟨w123, hw123, h⟩ := h
      have hw123 : w123 = y95k0_1 := hw123
      subst hw123
      replace h := of_let h
      obtain ⟨w124, hw124, h⟩ := h
      have hw124 : w124 = y95k0_2 := hw124
      subst hw124
      replace h := of_let h
      obtain ⟨w125, hw125, h⟩ := h
      have hw125 : w125 = y95k0_3 := hw125
      subst hw125
      cbv
      refine ⟨_, q103, ?_⟩
      cbv
      replace h := of_bind h
      obtain ⟨y126, hy127, h⟩ := h
      obtain ⟨S130, hS131⟩ : ∃ S, S = (sparse 79 [(0, .c (.ptr 5 0)), (2, .c (.ptr 128 0)), (3, .c (.ptr 192 0)), (4, .c (.v (.int .i64 (A.add .i64 1 y1.1)))), (5, .c (.v (.int .i64 v3)))] [(5, .var [.bs (LEN w122) 1 (row GD (encI .u8) w122), .v (.int .i64 w123), .v (.int .i64 w124)]), (128, .var [.v (.slice none 0 0)]), (192, .var [.os 4864 0 (LEN y126)]), (4864, .arr .rw [] (LEN y126) 4 (row GD (oncCell LEN GD) y126))]) := ⟨_, rfl⟩
      refine ⟨S130, ?_, ?_⟩
      ·clear h
       have h := hy127
       clear hy127
       cbv
       replace h := of_let h
       obtain ⟨l133, hl133, h⟩ := h
       have e134 : 1 = LEN l133 := by subst hl133 hLEN; rfl
       refine ⟨_, congrArg (fun n => AV.c (AC.os 4800 0 n)) e134, _, (patchC (fun _ _ => AC.junk) 0 [.v (.string (A.scat (A.ofBytes (LEN l20) (fun i => GD l20 (0 + i))) y22.1)), .os 2496 0 (LEN w55), .os 3328 0 (LEN w86), .os 4480 0 (LEN w125)]), e134, wkOf ?_, ?_⟩
       ·refine patch_one (by subst hl133 hLEN; rfl) ?_
        intro j hj
        match j, hj with | 0, _ => (rfl) | 1, _ => (rfl) | 2, _ => (rfl) | 3, _ => (rfl) | (j_ + 4), h_ => exact absurd h_ (by omega)
       cbv
       replace h := of_req h
       obtain ⟨c137, h⟩ := h
       replace h := of_let h
       obtain ⟨l135, hl135, h⟩ := h
       have e136 : A.nadd (LEN v7) (LEN l133) = LEN l135 := by subst hl135 hLEN hA; simp [std, len]
       refine ⟨c137, _, congrArg (fun n => AV.c (AC.os 4864 0 n)) e136, _, (patchC (row GD (oncCell LEN GD) v7) (LEN v7) [.v (.string (A.scat (A.ofBytes (LEN l20) (fun i => GD l20 (0 + i))) y22.1)), .os 2496 0 (LEN w55), .os 3328 0 (LEN w86), .os 4480 0 (LEN w125)]), e136, wkOf ?_, ?_⟩
       ·subst hLEN hA
        refine patch_joinG (by first | (rw [hl135]; simp [len]; done) | (rw [hl135]; simp [len]; omega) | (subst_vars; simp [len])) ?_
        intro j hj
        match j, hj with | 0, _ => (rfl) | 1, _ => (rfl) | 2, _ => (rfl) | 3, _ => (rfl) | (j_ + 4), h_ => exact absurd h_ (by omega)
       cbv
       rw [hl133] at hl135
       injection h with h
       subst h
       subst hS131
       show St.le _ _
       refine St.le_trans (le_foldP 4864 1 2496 rfl rfl rfl (by decide) (by subst hLEN; exact app_lt hl135) (by decide) rfl (fun _ _ => rf_oncCell _ _)) ?_
       refine St.le_trans (le_foldP 4864 2 3328 rfl rfl rfl (by decide) (by subst hLEN; exact app_lt hl135) (by decide) rfl (fun _ _ => rf_oncCell _ _)) ?_
       refine St.le_trans (le_foldP 4864 3 4480 rfl rfl rfl (by decide) (by subst hLEN; exact app_lt hl135) (by decide) rfl (fun _ _ => rf_oncCell _ _)) ?_
       exact le_sparse rfl ⟨lR _, lR _, lR _, lR _, lR _, trivial⟩ ⟨rfl, rfl, rfl, ⟨fun hw => hw, fun c hc => (by cases hc), .inr (fun i _ j _ z hz => (noref (rf_oncCell _ _) hz).elim), rfl, rfl, (by subst hGD hLEN hA; exact patch_app hl135 (Nat.le_refl _) (by intro j hj; match j, hj with | 0, _ => rfl | 1, _ => rfl | 2, _ => rfl | 3, _ => rfl | (j_ + 4), h_ => exact absurd h_ (by omega)))⟩, trivial⟩ rfl
      ·clear hy127
       subst hS131
       replace h := of_let h
       obtain ⟨w132, hw132, h⟩ := h
       have hw132 : w132 = y126 := hw132
       subst hw132
       cbv
       injection h with h
       refine hK14 _ h.symm _ ?_
       exact le_sparse rfl ⟨lR _, lR _, lR _, lR _, lR _, trivial⟩ ⟨rfl, rfl, rfl, oS, trivial⟩ rfl
  ·replace h := of_br_f b138 h
   cbv
   injection h with h
   refine hY12 _ h.symm _ _ (And.intro rfl ?_) (by intro hh; cases hh)
   exact le_sparse rfl ⟨lR _, lR _, trivial⟩ ⟨rfl, rfl, rfl, oS, trivial⟩ rfl
 ·clear hr10
  have h := hN11
  clear hN11
  intro e18 s19 q17 hne
  replace h := of_let h
  obtain ⟨y9k0, hyk, h⟩ := h
  have hyk : y9k0 = y9 := hyk
  subst hyk
  obtain ⟨rfl, q17⟩ := q17
  obtain ⟨y9k0_0, y9k0_1, y9k0_2, y9k0_3⟩ := y9k0
  replace h := of_let h
  obtain ⟨w139, hw139, h⟩ := h
  have hw139 : w139 = y9k0_0 := hw139
  subst hw139
  replace h := of_let h
  obtain ⟨w140, hw140, h⟩ := h
  have hw140 : w140 = y9k0_1 := hw140
  subst hw140
  replace h := of_let h
  obtain ⟨w141, hw141, h⟩ := h
  have hw141 : w141 = y9k0_2 := hw141
  subst hw141
  replace h := of_let h
  obtain ⟨w142, hw142, h⟩ := h
  have hw142 : w142 = y9k0_3 := hw142
  subst hw142
  cbv
  refine ⟨_, q17, ?_⟩
  cbv
  injection h with h
  subst h
  refine ⟨(sparse 79 [(2, .c (.ptr 128 0))] [(128, .var [.os 64000 0 (LEN w142)]), (5, .var [.bs (LEN w139) 1 (row GD (encI .u8) w139), .v (.int .i64 w140), .v (.int .i64 w141)]), (64000, .arr .rw [] (LEN w142) 4 (row GD (oncCell LEN GD) w142))]), ?_, ?_⟩
  ·refine St.le_trans (le_ren 4864 64000 (by decide) rfl) ?_
   exact le_sparse rfl ⟨lR _, trivial⟩ ⟨rfl, rfl, oS, trivial⟩ rfl
  ·exact ⟨lR _, ⟨oS, rfl, trivial⟩, rfl⟩

noncomputable def L_spec_l09DrawAny_mPb_x167 (y1 : TLibrary × Tl01Source) (y3 : Int × Tl01Source) : (Int × (List Int) × Int × Int × (List TCell)) → Option ((Int × (List Int) × Int × Int × (List TCell)) ⊕ (((List Int) × Int × Int × (List TCell)))) := fun x167 =>
 letO x167.1 fun v162 =>
 letO x167.2.1 fun v163 =>
 letO x167.2.2.1 fun v164 =>
 letO x167.2.2.2.1 fun v165 =>
 letO x167.2.2.2.2 fun v166 =>
 br (std.lt v162 25)
 (((
    (F_spec_l09DrawShape_mPb (Tl01Source.mk v163 v164 v165)).bind fun y189 =>
    letO ([y189.1] : List TShape) fun l191 =>
    req (std.room (std.nadd (len (gd v166 (std.nadd 0 (std.toN y3.1))).fShapes) (len l191)) 40) <|
    letO ((gd v166 (std.nadd 0 (std.toN y3.1))).fShapes ++ l191) fun l193 =>
    req (len y1.1.fCells = len v166) <|
    letO (List.set v166 (std.nadd 0 (std.toN y3.1)) (TCell.mk (gd v166 (std.nadd 0 (std.toN y3.1))).fName l193 (gd v166 (std.nadd 0 (std.toN y3.1))).fLabels (gd v166 (std.nadd 0 (std.toN y3.1))).fInstances)) fun l196 =>
    some (y189.2.gcode, y189.2.gat, y189.2.gseed, l196)
  ) : Option ((List Int) × Int × Int × (List TCell))).bind fun y179 =>
 letO y179.1 fun w185 =>
 letO y179.2.1 fun w186 =>
 letO y179.2.2.1 fun w187 =>
 letO y179.2.2.2 fun w188 =>
 some (.inl (std.add .i64 v162 1, w185, w186, w187, w188)))
 (some (.inr (v163, v164, v165, v166)))
/-- spec.l09DrawAny -/
noncomputable def F_spec_l09DrawAny_mPb (a0 : Tl01Source) : Option (TLibrary × Tl01Source) :=
 (F_spec_l09DrawLibrary_mPb a0).bind fun y1 =>
 (F_spec_l01Next_mPbb y1.2 (std.ofN (len y1.1.fCells))).bind fun y3 =>
 req (std.inR y3.1 (len y1.1.fCells)) <|
 (F_spec_l01Next_mPbb y3.2 16).bind fun y6 =>
 ((
    br (std.eq y6.1 0)
    (((
       req (std.inR 0 (len y1.1.fCells)) <|
       letO (List.set y1.1.fCells (std.nadd 0 (std.toN y3.1)) (TCell.mk (gd y1.1.fCells (std.nadd 0 (std.toN 0))).fName (gd y1.1.fCells (std.nadd 0 (std.toN y3.1))).fShapes (gd y1.1.fCells (std.nadd 0 (std.toN y3.1))).fLabels (gd y1.1.fCells (std.nadd 0 (std.toN y3.1))).fInstances)) fun l26 =>
       some l26
     ) : Option ((List TCell))).bind fun y18 =>
    letO y18 fun w24 =>
    some (w24, y6.2.gcode, y6.2.gat, y6.2.gseed))
    (((
       br (std.eq y6.1 1)
       (((
          letO ([(ByteArray.mk #[]), (ByteArray.mk #[65]), (ByteArray.mk #[97, 98, 99, 100, 101, 102, 103, 104, 105]), (ByteArray.mk #[97, 32, 98])] : List ByteArray) fun l47 =>
          (F_spec_l01Next_mPbb y6.2 4).bind fun y49 =>
          req (std.inR y49.1 (len l47)) <|
          letO (List.set y1.1.fCells (std.nadd 0 (std.toN y3.1)) (TCell.mk (gd l47 (std.nadd 0 (std.toN y49.1))) (gd y1.1.fCells (std.nadd 0 (std.toN y3.1))).fShapes (gd y1.1.fCells (std.nadd 0 (std.toN y3.1))).fLabels (gd y1.1.fCells (std.nadd 0 (std.toN y3.1))).fInstances)) fun l52 =>
          some (y49.2.gcode, y49.2.gat, y49.2.gseed, l52)
        ) : Option ((List Int) × Int × Int × (List TCell))).bind fun y37 =>
       letO y37.1 fun w43 =>
       letO y37.2.1 fun w44 =>
       letO y37.2.2.1 fun w45 =>
       letO y37.2.2.2 fun w46 =>
       some (w43, w44, w45, w46))
       (((
          br (std.eq y6.1 2)
          (((
             (F_spec_l01Next_mPbb y6.2 12).bind fun y73 =>
             (F_spec_l01Next_mPbb y73.2 90).bind fun y75 =>
             (F_spec_l01Next_mPbb y75.2 90).bind fun y77 =>
             (F_spec_l01Next_mPbb y77.2 90).bind fun y79 =>
             (F_spec_l01Next_mPbb y79.2 90).bind fun y81 =>
             letO ([(TShape.mk (std.sub .i64 y73.1 2) (TRect.mk (std.sub .i64 y75.1 45) (std.sub .i64 y77.1 45) (std.sub .i64 y79.1 45) (std.sub .i64 y81.1 45)))] : List TShape) fun l83 =>
             req (std.room (std.nadd (len (gd y1.1.fCells (std.nadd 0 (std.toN y3.1))).fShapes) (len l83)) 40) <|
             letO ((gd y1.1.fCells (std.nadd 0 (std.toN y3.1))).fShapes ++ l83) fun l85 =>
             letO (List.set y1.1.fCells (std.nadd 0 (std.toN y3.1)) (TCell.mk (gd y1.1.fCells (std.nadd 0 (std.toN y3.1))).fName l85 (gd y1.1.fCells (std.nadd 0 (std.toN y3.1))).fLabels (gd y1.1.fCells (std.nadd 0 (std.toN y3.1))).fInstances)) fun l88 =>
             some (y81.2.gcode, y81.2.gat, y81.2.gseed, l88)
           ) : Option ((List Int) × Int × Int × (List TCell))).bind fun y63 =>
          letO y63.1 fun w69 =>
          letO y63.2.1 fun w70 =>
          letO y63.2.2.1 fun w71 =>
          letO y63.2.2.2 fun w72 =>
          some (w69, w70, w71, w72))
          (((
             br (std.eq y6.1 3)
             ((F_spec_l09DrawInstance_mPbb y6.2 (std.add .i64 y3.1 1)).bind fun y99 =>
             (F_spec_l01Next_mPbb y99.2 6).bind fun y101 =>
             (F_spec_l01Next_mPbb y101.2 200).bind fun y103 =>
             ((
                letO ([(TInstance.mk y99.1.fCell y99.1.fPlace y99.1.fColumns y101.1 y99.1.fStepX (std.sub .i64 y103.1 100))] : List TInstance) fun l112 =>
                req (std.room (std.nadd (len (gd y1.1.fCells (std.nadd 0 (std.toN y3.1))).fInstances) (len l112)) 64) <|
                letO ((gd y1.1.fCells (std.nadd 0 (std.toN y3.1))).fInstances ++ l112) fun l114 =>
                letO (List.set y1.1.fCells (std.nadd 0 (std.toN y3.1)) (TCell.mk (gd y1.1.fCells (std.nadd 0 (std.toN y3.1))).fName (gd y1.1.fCells (std.nadd 0 (std.toN y3.1))).fShapes (gd y1.1.fCells (std.nadd 0 (std.toN y3.1))).fLabels l114)) fun l117 =>
                some l117
              ) : Option ((List TCell))).bind fun y105 =>
             letO y105 fun w111 =>
             some (y103.2.gcode, y103.2.gat, y103.2.gseed, w111))
             (((
                br (std.eq y6.1 4)
                (((
                   (F_spec_l01Next_mPbb y6.2 10).bind fun y138 =>
                   (F_spec_l01Next_mPbb y138.2 90).bind fun y140 =>
                   (F_spec_l01Next_mPbb y140.2 90).bind fun y142 =>
                   (F_spec_l09DrawName_mPb y142.2).bind fun y144 =>
                   letO ([(TLabel.mk (std.sub .i64 y138.1 1) (TPoint.mk (std.sub .i64 y140.1 45) (std.sub .i64 y142.1 45)) y144.1)] : List TLabel) fun l146 =>
                   req (std.room (std.nadd (len (gd y1.1.fCells (std.nadd 0 (std.toN y3.1))).fLabels) (len l146)) 40) <|
                   letO ((gd y1.1.fCells (std.nadd 0 (std.toN y3.1))).fLabels ++ l146) fun l148 =>
                   letO (List.set y1.1.fCells (std.nadd 0 (std.toN y3.1)) (TCell.mk (gd y1.1.fCells (std.nadd 0 (std.toN y3.1))).fName (gd y1.1.fCells (std.nadd 0 (std.toN y3.1))).fShapes l148 (gd y1.1.fCells (std.nadd 0 (std.toN y3.1))).fInstances)) fun l151 =>
                   some (y144.2.gcode, y144.2.gat, y144.2.gseed, l151)
                 ) : Option ((List Int) × Int × Int × (List TCell))).bind fun y128 =>
                letO y128.1 fun w134 =>
                letO y128.2.1 fun w135 =>
                letO y128.2.2.1 fun w136 =>
                letO y128.2.2.2 fun w137 =>
                some (w134, w135, w136, w137))
                (((
                   br (std.eq y6.1 5)
                   ((whileP (σ := Int × (List Int) × Int × Int × (List TCell)) (ρ := ((List Int) × Int × Int × (List TCell))) (L_spec_l09DrawAny_mPb_x167 y1 y3) (0, y6.2.gcode, y6.2.gat, y6.2.gseed, y1.1.fCells)).bind fun y168 =>
                   letO y168 fun y168k0 =>
                   letO y168k0.1 fun w199 =>
                   letO y168k0.2.1 fun w200 =>
                   letO y168k0.2.2.1 fun w201 =>
                   letO y168k0.2.2.2 fun w202 =>
                   some (w199, w200, w201, w202))
                   (some (y6.2.gcode, y6.2.gat, y6.2.gseed, y1.1.fCells))
                 ) : Option ((List Int) × Int × Int × (List TCell))).bind fun y152 =>
                letO y152.1 fun w158 =>
                letO y152.2.1 fun w159 =>
                letO y152.2.2.1 fun w160 =>
                letO y152.2.2.2 fun w161 =>
                some (w158, w159, w160, w161))
              ) : Option ((List Int) × Int × Int × (List TCell))).bind fun y118 =>
             letO y118.1 fun w124 =>
             letO y118.2.1 fun w125 =>
             letO y118.2.2.1 fun w126 =>
             letO y118.2.2.2 fun w127 =>
             some (w124, w125, w126, w127))
           ) : Option ((List Int) × Int × Int × (List TCell))).bind fun y89 =>
          letO y89.1 fun w95 =>
          letO y89.2.1 fun w96 =>
          letO y89.2.2.1 fun w97 =>
          letO y89.2.2.2 fun w98 =>
          some (w95, w96, w97, w98))
        ) : Option ((List Int) × Int × Int × (List TCell))).bind fun y53 =>
       letO y53.1 fun w59 =>
       letO y53.2.1 fun w60 =>
       letO y53.2.2.1 fun w61 =>
       letO y53.2.2.2 fun w62 =>
       some (w59, w60, w61, w62))
     ) : Option ((List Int) × Int × Int × (List TCell))).bind fun y27 =>
    letO y27.1 fun w33 =>
    letO y27.2.1 fun w34 =>
    letO y27.2.2.1 fun w35 =>
    letO y27.2.2.2 fun w36 =>
    some (w36, w33, w34, w35))
  ) : Option ((List TCell) × (List Int) × Int × Int)).bind fun y8 =>
 letO y8.1 fun w14 =>
 letO y8.2.1 fun w15 =>
 letO y8.2.2.1 fun w16 =>
 letO y8.2.2.2 fun w17 =>
 req (len y1.1.fCells = len w14) <|
 some ((TLibrary.mk w14), (Tl01Source.mk w15 w16 w17))
set_option maxHeartbeats 4000000 in
theorem run_spec_l09DrawAny_mPb (a0 : Tl01Source) (r : TLibrary × Tl01Source) (h : F_spec_l09DrawAny_mPb a0 = some r) : Fun Try.prog 93 [.c (.ptr 5 0)] [(5, .var [.bs (len a0.gcode) 1 (row gd (encI .u8) a0.gcode), .v (.int .i64 a0.gat), .v (.int .i64 a0.gseed)])] (.agg [.os 64000 0 (len r.1.fCells)]) [(64000, .arr .rw [] (len r.1.fCells) 4 (row gd (oncCell len gd) r.1.fCells)), (5, .var [.bs (len r.2.gcode) 1 (row gd (encI .u8) r.2.gcode), .v (.int .i64 r.2.gat), .v (.int .i64 r.2.gseed)])] false := by
 refine Fun.of_wp (oneOf [6, 8, 10, 15, 17, 22, 100021, 100031, 100041, 100069, 100092, 100116]) tok mixed Try.func93 (by kernel_rfl) rfl Try.ntmps93 rfl trivial (fun h => by cases h) ?_
 unfold F_spec_l09DrawAny_mPb at h
 unfold L_spec_l09DrawAny_mPb_x167 at h
 have hf_spec_l01Next_mPbb := @run_spec_l01Next_mPbb
 have hf_spec_l09DrawInstance_mPbb := @run_spec_l09DrawInstance_mPbb
 have hf_spec_l09DrawLibrary_mPb := @run_spec_l09DrawLibrary_mPb
 have hf_spec_l09DrawName_mPb := @run_spec_l09DrawName_mPb
 have hf_spec_l09DrawShape_mPb := @run_spec_l09DrawShape_mPb
 generalize hLEN : @len = LEN at *
 generalize hGD : @gd = GD at *
 generalize hA : std = A at *
 generalize hP : Try.prog = P at *
 cbv
 replace h := of_bind h
 obtain ⟨y1, hy2, h⟩ := h
 refine ⟨{ args := [.c (.ptr 5 0)], o0 := [(5, .var [.bs (LEN a0.gcode) 1 (row GD (encI .u8) a0.gcode), .v (.int .i64 a0.gat), .v (.int .i64 a0.gseed)])], r := .agg [.os 64000 0 (LEN y1.1.fCells)], o1 := [(64000, .arr .rw [] (LEN y1.1.fCells) 4 (row GD (oncCell LEN GD) y1.1.fCells)), (5, .var [.bs (LEN y1.2.gcode) 1 (row GD (encI .u8) y1.2.gcode), .v (.int .i64 y1.2.gat), .v (.int .i64 y1.2.gseed)])], fl := false, σ := [(5, 5)], τ := [(64000, 576), (5, 5)] }, hf_spec_l09DrawLibrary_mPb _ _ hy2, ⟨les_cons (lR _) (les_nil), ⟨rfl, trivial⟩, rfl, rfl, rfl, rfl, ⟨fun h => absurd (show (64000 : Nat) % 2 = 1 from h) (by decide), fun _ => rfl, trivial⟩, rfl⟩, _, rfl, _, _, rfl, fun _ _ _ _ => .refl _, ?_⟩
 cbv
 replace h := of_bind h
 obtain ⟨y3, hy4, h⟩ := h
 refine ⟨{ args := [.c (.ptr 5 0), .c (.v (.int .i64 (A.ofN (LEN y1.1.fCells))))], o0 := [(5, .var [.bs (LEN y1.2.gcode) 1 (row GD (encI .u8) y1.2.gcode), .v (.int .i64 y1.2.gat), .v (.int .i64 y1.2.gseed)])], r := .c (.v (.int .i64 y3.1)), o1 := [(5, .var [.bs (LEN y3.2.gcode) 1 (row GD (encI .u8) y3.2.gcode), .v (.int .i64 y3.2.gat), .v (.int .i64 y3.2.gseed)])], fl := false, σ := [(5, 5)], τ := [(5, 5)] }, hf_spec_l01Next_mPbb _ _ _ hy4, ⟨les_cons (lR _) (les_cons (lR _) (les_nil)), ⟨rfl, trivial⟩, rfl, rfl, rfl, rfl, ⟨fun _ => rfl, trivial⟩, rfl⟩, ?_⟩
 cbv
 replace h := of_req h
 obtain ⟨c5, h⟩ := h
 refine ⟨⟨c5, trivial⟩, ?_⟩
 replace h := of_bind h
 obtain ⟨y6, hy7, h⟩ := h
 refine ⟨{ args := [.c (.ptr 5 0), .c (.v (.int .i64 16))], o0 := [(5, .var [.bs (LEN y3.2.gcode) 1 (row GD (encI .u8) y3.2.gcode), .v (.int .i64 y3.2.gat), .v (.int .i64 y3.2.gseed)])], r := .c (.v (.int .i64 y6.1)), o1 := [(5, .var [.bs (LEN y6.2.gcode) 1 (row GD (encI .u8) y6.2.gcode), .v (.int .i64 y6.2.gat), .v (.int .i64 y6.2.gseed)])], fl := false, σ := [(5, 5)], τ := [(5, 5)] }, hf_spec_l01Next_mPbb _ _ _ hy7, ⟨les_cons (lR _) (les_cons (lR _) (les_nil)), ⟨rfl, trivial⟩, rfl, rfl, rfl, rfl, ⟨fun _ => rfl, trivial⟩, rfl⟩, ?_⟩
 cbv
 replace h := of_bind h
 obtain ⟨y8, hy9, h⟩ := h
 obtain ⟨S12, hS13⟩ : ∃ S, S = some (sparse 134 [(2, .c (.ptr 128 0)), (3, .c (.ptr 192 0))] [(128, .var [.v (.slice none 0 0)]), (192, .var [.os 576 0 (LEN y1.1.fCells)]), (5, .var [.bs (LEN y8.2.1) 1 (row GD (encI .u8) y8.2.1), .v (.int .i64 y8.2.2.1), .v (.int .i64 y8.2.2.2)]), (576, .arr .rw [] (LEN y1.1.fCells) 4 (row GD (oncCell LEN GD) y8.1))]) := ⟨_, rfl⟩
 refine ⟨S12, ?_, ?_⟩
 ·clear h
  have h := hy9
  clear hy9
  cbv
  refine fork (fun b208 => ?_) (fun b208 => ?_)
  ·replace h := of_br_t b208 h
   cbv
   replace h := of_bind h
   obtain ⟨y18, hy19, h⟩ := h
   obtain ⟨S22, hS23⟩ : ∃ S, S = (sparse 134 [(2, .c (.ptr 128 0)), (3, .c (.ptr 192 0))] [(128, .var [.v (.slice none 0 0)]), (192, .var [.os 576 0 (LEN y1.1.fCells)]), (5, .var [.bs (LEN y6.2.gcode) 1 (row GD (encI .u8) y6.2.gcode), .v (.int .i64 y6.2.gat), .v (.int .i64 y6.2.gseed)]), (576, .arr .rw [] (LEN y1.1.fCells) 4 (row GD (oncCell LEN GD) y18))]) := ⟨_, rfl⟩
   refine ⟨S22, ?_, ?_⟩
   ·clear h
    have h := hy19
    clear hy19
    cbv
    replace h := of_req h
    obtain ⟨c25, h⟩ := h
    refine ⟨⟨c25, trivial⟩, ?_⟩
    refine And.intro (by first | exact (by subst hA; exact idx_lt c25) | (refine And.intro (by subst hA; exact idx_lt c25) ?_; first | trivial | exact ⟨trivial, trivial⟩)) ?_
    refine And.intro (by first | exact (by subst hA; exact idx_lt c5) | (refine And.intro (by subst hA; exact idx_lt c5) ?_; first | trivial | exact ⟨trivial, trivial⟩)) ?_
    refine ⟨_, rfl, _, (patchC (row GD (oncCell LEN GD) y1.1.fCells) (A.nadd 0 (A.toN y3.1)) [.v (.string (GD y1.1.fCells (A.nadd 0 (A.toN 0))).fName), .ow (LEN (GD y1.1.fCells (A.nadd 0 (A.toN y3.1))).fShapes) 5 (row GD (encShape) (GD y1.1.fCells (A.nadd 0 (A.toN y3.1))).fShapes), .ow (LEN (GD y1.1.fCells (A.nadd 0 (A.toN y3.1))).fLabels) 4 (row GD (encLabel) (GD y1.1.fCells (A.nadd 0 (A.toN y3.1))).fLabels), .ow (LEN (GD y1.1.fCells (A.nadd 0 (A.toN y3.1))).fInstances) 8 (row GD (encInstance) (GD y1.1.fCells (A.nadd 0 (A.toN y3.1))).fInstances)]), rfl, wkOf ?_, ?_⟩
    ·refine patch_of ?_
     intro j hj
     match j, hj with | 0, _ => (rfl) | 1, _ => (rfl) | 2, _ => (rfl) | 3, _ => (rfl) | (j_ + 4), h_ => exact absurd h_ (by omega)
    cbv
    replace h := of_let h
    obtain ⟨l26, hl26, h⟩ := h
    injection h with h
    subst h
    subst hS23
    show St.le _ _
    exact le_sparse rfl ⟨lR _, lR _, trivial⟩ ⟨rfl, rfl, rfl, ⟨fun hw => hw, fun c hc => (by cases hc), .inr (fun i _ j _ z hz => (noref (rf_oncCell _ _) hz).elim), rfl, rfl, (by subst hGD hLEN hA; exact patch_set hl26 (idx_lt c5) (by intro j hj; match j, hj with | 0, _ => rfl | 1, _ => rfl | 2, _ => rfl | 3, _ => rfl | (j_ + 4), h_ => exact absurd h_ (by omega)))⟩, trivial⟩ rfl
   ·clear hy19
    subst hS23
    replace h := of_let h
    obtain ⟨w24, hw24, h⟩ := h
    have hw24 : w24 = y18 := hw24
    subst hw24
    cbv
    injection h with h
    subst h
    subst hS13
    show St.le _ _
    exact le_sparse rfl ⟨lR _, lR _, trivial⟩ ⟨rfl, rfl, rfl, oS, trivial⟩ rfl
  ·replace h := of_br_f b208 h
   cbv
   replace h := of_bind h
   obtain ⟨y27, hy28, h⟩ := h
   obtain ⟨S31, hS32⟩ : ∃ S, S = some (sparse 134 [(2, .c (.ptr 128 0)), (3, .c (.ptr 192 0))] [(128, .var [.v (.slice none 0 0)]), (192, .var [.os 576 0 (LEN y1.1.fCells)]), (5, .var [.bs (LEN y27.1) 1 (row GD (encI .u8) y27.1), .v (.int .i64 y27.2.1), .v (.int .i64 y27.2.2.1)]), (576, .arr .rw [] (LEN y1.1.fCells) 4 (row GD (oncCell LEN GD) y27.2.2.2))]) := ⟨_, rfl⟩
   refine ⟨S31, ?_, ?_⟩
   ·clear h
    have h := hy28
    clear hy28
    cbv
    refine fork (fun b207 => ?_) (fun b207 => ?_)
    ·replace h := of_br_t b207 h
     cbv
     replace h := of_bind h
     obtain ⟨y37, hy38, h⟩ := h
     obtain ⟨S41, hS42⟩ : ∃ S, S = (sparse 134 [(2, .c (.ptr 128 0)), (3, .c (.ptr 192 0))] [(128, .var [.v (.slice none 0 0)]), (192, .var [.os 576 0 (LEN y1.1.fCells)]), (5, .var [.bs (LEN y37.1) 1 (row GD (encI .u8) y37.1), .v (.int .i64 y37.2.1), .v (.int .i64 y37.2.2.1)]), (576, .arr .rw [] (LEN y1.1.fCells) 4 (row GD (oncCell LEN GD) y37.2.2.2))]) := ⟨_, rfl⟩
     refine ⟨S41, ?_, ?_⟩
     ·clear h
      have h := hy38
      clear hy38
      cbv
      replace h := of_let h
      obtain ⟨l47, hl47, h⟩ := h
      have e48 : 4 = LEN l47 := by subst hl47 hLEN; rfl
      refine ⟨_, congrArg (fun n => AV.c (AC.os 2176 0 n)) e48, _, row GD (encS) l47, e48, wkOf ?_, ?_⟩
      ·intro i hi j hj
       rw [← e48] at hi
       subst hl47
       subst hGD
       obtain rfl | rfl | rfl | rfl : i = 0 ∨ i = 1 ∨ i = 2 ∨ i = 3 := (by omega)
       all_goals obtain rfl : j = 0 := by omega
       all_goals rfl
      cbv
      replace h := of_bind h
      obtain ⟨y49, hy50, h⟩ := h
      refine ⟨{ args := [.c (.ptr 5 0), .c (.v (.int .i64 4))], o0 := [(5, .var [.bs (LEN y6.2.gcode) 1 (row GD (encI .u8) y6.2.gcode), .v (.int .i64 y6.2.gat), .v (.int .i64 y6.2.gseed)])], r := .c (.v (.int .i64 y49.1)), o1 := [(5, .var [.bs (LEN y49.2.gcode) 1 (row GD (encI .u8) y49.2.gcode), .v (.int .i64 y49.2.gat), .v (.int .i64 y49.2.gseed)])], fl := false, σ := [(5, 5)], τ := [(5, 5)] }, hf_spec_l01Next_mPbb _ _ _ hy50, ⟨les_cons (lR _) (les_cons (lR _) (les_nil)), ⟨rfl, trivial⟩, rfl, rfl, rfl, rfl, ⟨fun _ => rfl, trivial⟩, rfl⟩, ?_⟩
      cbv
      replace h := of_req h
      obtain ⟨c51, h⟩ := h
      refine ⟨⟨c51, trivial⟩, ?_⟩
      refine And.intro (by first | exact (by subst hA; exact idx_lt c51) | (refine And.intro (by subst hA; exact idx_lt c51) ?_; first | trivial | exact ⟨trivial, trivial⟩)) ?_
      refine And.intro (by first | exact (by subst hA; exact idx_lt c5) | (refine And.intro (by subst hA; exact idx_lt c5) ?_; first | trivial | exact ⟨trivial, trivial⟩)) ?_
      refine ⟨_, rfl, _, (patchC (row GD (oncCell LEN GD) y1.1.fCells) (A.nadd 0 (A.toN y3.1)) [.v (.string (GD l47 (A.nadd 0 (A.toN y49.1)))), .ow (LEN (GD y1.1.fCells (A.nadd 0 (A.toN y3.1))).fShapes) 5 (row GD (encShape) (GD y1.1.fCells (A.nadd 0 (A.toN y3.1))).fShapes), .ow (LEN (GD y1.1.fCells (A.nadd 0 (A.toN y3.1))).fLabels) 4 (row GD (encLabel) (GD y1.1.fCells (A.nadd 0 (A.toN y3.1))).fLabels), .ow (LEN (GD y1.1.fCells (A.nadd 0 (A.toN y3.1))).fInstances) 8 (row GD (encInstance) (GD y1.1.fCells (A.nadd 0 (A.toN y3.1))).fInstances)]), rfl, wkOf ?_, ?_⟩
      ·refine patch_of ?_
       intro j hj
       match j, hj with | 0, _ => (rfl) | 1, _ => (rfl) | 2, _ => (rfl) | 3, _ => (rfl) | (j_ + 4), h_ => exact absurd h_ (by omega)
      cbv
      replace h := of_let h
      obtain ⟨l52, hl52, h⟩ := h
      injection h with h
      subst h
      subst hS42
      show St.le _ _
      exact le_sparse rfl ⟨lR _, lR _, trivial⟩ ⟨rfl, rfl, rfl, ⟨fun hw => hw, fun c hc => (by cases hc), .inr (fun i _ j _ z hz => (noref (rf_oncCell _ _) hz).elim), rfl, rfl, (by subst hGD hLEN hA; exact patch_set hl52 (idx_lt c5) (by intro j hj; match j, hj with | 0, _ => rfl | 1, _ => rfl | 2, _ => rfl | 3, _ => rfl | (j_ + 4), h_ => exact absurd h_ (by omega)))⟩, trivial⟩ rfl
     ·clear hy38
      subst hS42
      obtain ⟨y37_0, y37_1, y37_2, y37_3⟩ := y37
      replace h := of_let h
      obtain ⟨w43, hw43, h⟩ := h
      have hw43 : w43 = y37_0 := hw43
      subst hw43
      replace h := of_let h
      obtain ⟨w44, hw44, h⟩ := h
      have hw44 : w44 = y37_1 := hw44
      subst hw44
      replace h := of_let h
      obtain ⟨w45, hw45, h⟩ := h
      have hw45 : w45 = y37_2 := hw45
      subst hw45
      replace h := of_let h
      obtain ⟨w46, hw46, h⟩ := h
      have hw46 : w46 = y37_3 := hw46
      subst hw46
      cbv
      injection h with h
      subst h
      subst hS32
      show St.le _ _
      exact le_sparse rfl ⟨lR _, lR _, trivial⟩ ⟨rfl, rfl, rfl, oS, trivial⟩ rfl
    ·replace h := of_br_f b207 h
     cbv
     replace h := of_bind h
     obtain ⟨y53, hy54, h⟩ := h
     obtain ⟨S57, hS58⟩ : ∃ S, S = some (sparse 134 [(2, .c (.ptr 128 0)), (3, .c (.ptr 192 0))] [(128, .var [.v (.slice none 0 0)]), (192, .var [.os 576 0 (LEN y1.1.fCells)]), (5, .var [.bs (LEN y53.1) 1 (row GD (encI .u8) y53.1), .v (.int .i64 y53.2.1), .v (.int .i64 y53.2.2.1)]), (576, .arr .rw [] (LEN y1.1.fCells) 4 (row GD (oncCell LEN GD) y53.2.2.2))]) := ⟨_, rfl⟩
     refine ⟨S57, ?_, ?_⟩
     ·clear h
      have h := hy54
      clear hy54
      cbv
      refine fork (fun b206 => ?_) (fun b206 => ?_)
      ·replace h := of_br_t b206 h
       cbv
       replace h := of_bind h
       obtain ⟨y63, hy64, h⟩ := h
       obtain ⟨S67, hS68⟩ : ∃ S, S = (sparse 134 [(2, .c (.ptr 128 0)), (3, .c (.ptr 192 0))] [(128, .var [.v (.slice none 0 0)]), (192, .var [.os 576 0 (LEN y1.1.fCells)]), (5, .var [.bs (LEN y63.1) 1 (row GD (encI .u8) y63.1), .v (.int .i64 y63.2.1), .v (.int .i64 y63.2.2.1)]), (576, .arr .rw [] (LEN y1.1.fCells) 4 (row GD (oncCell LEN GD) y63.2.2.2))]) := ⟨_, rfl⟩
       refine ⟨S67, ?_, ?_⟩
       ·clear h
        have h := hy64
        clear hy64
        cbv
        refine And.intro (by first | exact (by subst hA; exact idx_lt c5) | (refine And.intro (by subst hA; exact idx_lt c5) ?_; first | trivial | exact ⟨trivial, trivial⟩)) ?_
        refine ⟨_, rfl, _, (patchC (row GD (oncCell LEN GD) y1.1.fCells) (A.nadd 0 (A.toN y3.1)) [.v (.string (GD y1.1.fCells (A.nadd 0 (A.toN y3.1))).fName), .os 3010 0 (LEN (GD y1.1.fCells (A.nadd 0 (A.toN y3.1))).fShapes), .ow (LEN (GD y1.1.fCells (A.nadd 0 (A.toN y3.1))).fLabels) 4 (row GD (encLabel) (GD y1.1.fCells (A.nadd 0 (A.toN y3.1))).fLabels), .ow (LEN (GD y1.1.fCells (A.nadd 0 (A.toN y3.1))).fInstances) 8 (row GD (encInstance) (GD y1.1.fCells (A.nadd 0 (A.toN y3.1))).fInstances)]), rfl, wkOf ?_, ?_⟩
        ·refine patch_of ?_
         intro j hj
         match j, hj with | 0, _ => (rfl) | 1, _ => (rfl) | 2, _ => (rfl) | 3, _ => (rfl) | (j_ + 4), h_ => exact absurd h_ (by omega)
        refine ⟨_, row GD (encShape) (GD y1.1.fCells (A.nadd 0 (A.toN y3.1))).fShapes, rfl, wkOf ?_, ?_⟩
        ·exact fun i _ j _ => plain_cp (pl_encShape _ _)
        cbv
        replace h := of_bind h
        obtain ⟨y73, hy74, h⟩ := h
        refine ⟨{ args := [.c (.ptr 5 0), .c (.v (.int .i64 12))], o0 := [(5, .var [.bs (LEN y6.2.gcode) 1 (row GD (encI .u8) y6.2.gcode), .v (.int .i64 y6.2.gat), .v (.int .i64 y6.2.gseed)])], r := .c (.v (.int .i64 y73.1)), o1 := [(5, .var [.bs (LEN y73.2.gcode) 1 (row GD (encI .u8) y73.2.gcode), .v (.int .i64 y73.2.gat), .v (.int .i64 y73.2.gseed)])], fl := false, σ := [(5, 5)], τ := [(5, 5)] }, hf_spec_l01Next_mPbb _ _ _ hy74, ⟨les_cons (lR _) (les_cons (lR _) (les_nil)), ⟨rfl, trivial⟩, rfl, rfl, rfl, rfl, ⟨fun _ => rfl, trivial⟩, rfl⟩, ?_⟩
        cbv
        replace h := of_bind h
        obtain ⟨y75, hy76, h⟩ := h
        refine ⟨{ args := [.c (.ptr 5 0), .c (.v (.int .i64 90))], o0 := [(5, .var [.bs (LEN y73.2.gcode) 1 (row GD (encI .u8) y73.2.gcode), .v (.int .i64 y73.2.gat), .v (.int .i64 y73.2.gseed)])], r := .c (.v (.int .i64 y75.1)), o1 := [(5, .var [.bs (LEN y75.2.gcode) 1 (row GD (encI .u8) y75.2.gcode), .v (.int .i64 y75.2.gat), .v (.int .i64 y75.2.gseed)])], fl := false, σ := [(5, 5)], τ := [(5, 5)] }, hf_spec_l01Next_mPbb _ _ _ hy76, ⟨les_cons (lR _) (les_cons (lR _) (les_nil)), ⟨rfl, trivial⟩, rfl, rfl, rfl, rfl, ⟨fun _ => rfl, trivial⟩, rfl⟩, ?_⟩
        cbv
        replace h := of_bind h
        obtain ⟨y77, hy78, h⟩ := h
        refine ⟨{ args := [.c (.ptr 5 0), .c (.v (.int .i64 90))], o0 := [(5, .var [.bs (LEN y75.2.gcode) 1 (row GD (encI .u8) y75.2.gcode), .v (.int .i64 y75.2.gat), .v (.int .i64 y75.2.gseed)])], r := .c (.v (.int .i64 y77.1)), o1 := [(5, .var [.bs (LEN y77.2.gcode) 1 (row GD (encI .u8) y77.2.gcode), .v (.int .i64 y77.2.gat), .v (.int .i64 y77.2.gseed)])], fl := false, σ := [(5, 5)], τ := [(5, 5)] }, hf_spec_l01Next_mPbb _ _ _ hy78, ⟨les_cons (lR _) (les_cons (lR _) (les_nil)), ⟨rfl, trivial⟩, rfl, rfl, rfl, rfl, ⟨fun _ => rfl, trivial⟩, rfl⟩, ?_⟩
        cbv
        replace h := of_bind h
        obtain ⟨y79, hy80, h⟩ := h
        refine ⟨{ args := [.c (.ptr 5 0), .c (.v (.int .i64 90))], o0 := [(5, .var [.bs (LEN y77.2.gcode) 1 (row GD (encI .u8) y77.2.gcode), .v (.int .i64 y77.2.gat), .v (.int .i64 y77.2.gseed)])], r := .c (.v (.int .i64 y79.1)), o1 := [(5, .var [.bs (LEN y79.2.gcode) 1 (row GD (encI .u8) y79.2.gcode), .v (.int .i64 y79.2.gat), .v (.int .i64 y79.2.gseed)])], fl := false, σ := [(5, 5)], τ := [(5, 5)] }, hf_spec_l01Next_mPbb _ _ _ hy80, ⟨les_cons (lR _) (les_cons (lR _) (les_nil)), ⟨rfl, trivial⟩, rfl, rfl, rfl, rfl, ⟨fun _ => rfl, trivial⟩, rfl⟩, ?_⟩
        cbv
        replace h := of_bind h
        obtain ⟨y81, hy82, h⟩ := h
        refine ⟨{ args := [.c (.ptr 5 0), .c (.v (.int .i64 90))], o0 := [(5, .var [.bs (LEN y79.2.gcode) 1 (row GD (encI .u8) y79.2.gcode), .v (.int .i64 y79.2.gat), .v (.int .i64 y79.2.gseed)])], r := .c (.v (.int .i64 y81.1)), o1 := [(5, .var [.bs (LEN y81.2.gcode) 1 (row GD (encI .u8) y81.2.gcode), .v (.int .i64 y81.2.gat), .v (.int .i64 y81.2.gseed)])], fl := false, σ := [(5, 5)], τ := [(5, 5)] }, hf_spec_l01Next_mPbb _ _ _ hy82, ⟨les_cons (lR _) (les_cons (lR _) (les_nil)), ⟨rfl, trivial⟩, rfl, rfl, rfl, rfl, ⟨fun _ => rfl, trivial⟩, rfl⟩, ?_⟩
        cbv
        replace h := of_let h
        obtain ⟨l83, hl83, h⟩ := h
        have e84 : 1 = LEN l83 := by subst hl83 hLEN; rfl
        refine ⟨_, congrArg (fun n => AV.c (AC.os 4160 0 n)) e84, _, row GD (encShape) l83, e84, wkOf ?_, ?_⟩
        ·intro i hi j hj
         rw [← e84] at hi
         subst hl83
         subst hGD
         obtain rfl : i = 0 := (by omega) <;> obtain rfl | rfl | rfl | rfl | rfl : j = 0 ∨ j = 1 ∨ j = 2 ∨ j = 3 ∨ j = 4 := (by omega)
         all_goals rfl
        cbv
        replace h := of_req h
        obtain ⟨c87, h⟩ := h
        replace h := of_let h
        obtain ⟨l85, hl85, h⟩ := h
        have e86 : A.nadd (LEN (GD y1.1.fCells (A.nadd 0 (A.toN y3.1))).fShapes) (LEN l83) = LEN l85 := by subst hl85 hLEN hA; simp [std, len]
        refine ⟨c87, _, congrArg (fun n => AV.c (AC.os 3010 0 n)) e86, _, row GD (encShape) l85, e86, wkOf ?_, ?_⟩
        ·subst hGD hLEN hA
         exact app_os (off := 0) (pl_encShape) hl85 (Nat.le_refl _)
        cbv
        refine And.intro (by first | exact (by subst hA; exact idx_lt c5) | (refine And.intro (by subst hA; exact idx_lt c5) ?_; first | trivial | exact ⟨trivial, trivial⟩)) ?_
        refine ⟨_, rfl, _, (patchC (row GD (oncCell LEN GD) y1.1.fCells) (A.nadd 0 (A.toN y3.1)) [.v (.string (GD y1.1.fCells (A.nadd 0 (A.toN y3.1))).fName), .os 3010 0 (LEN l85), .ow (LEN (GD y1.1.fCells (A.nadd 0 (A.toN y3.1))).fLabels) 4 (row GD (encLabel) (GD y1.1.fCells (A.nadd 0 (A.toN y3.1))).fLabels), .ow (LEN (GD y1.1.fCells (A.nadd 0 (A.toN y3.1))).fInstances) 8 (row GD (encInstance) (GD y1.1.fCells (A.nadd 0 (A.toN y3.1))).fInstances)]), rfl, wkOf ?_, ?_⟩
        ·first | refine patch_of2 ?_ | refine patch_of2K (fun _ _ => rf_oncCell _ _) ?_
         intro j hj
         match j, hj with | 0, _ => (rfl) | 1, _ => (rfl) | 2, _ => (rfl) | 3, _ => (rfl) | (j_ + 4), h_ => exact absurd h_ (by omega)
        cbv
        replace h := of_let h
        obtain ⟨l88, hl88, h⟩ := h
        injection h with h
        subst h
        subst hS68
        show St.le _ _
        refine St.le_trans (le_foldP 576 1 3010 rfl rfl rfl (by decide) (by subst hA; exact idx_lt c5) (by decide) rfl (fun _ _ => rf_oncCell _ _)) ?_
        exact le_sparse rfl ⟨lR _, lR _, trivial⟩ ⟨rfl, rfl, rfl, ⟨fun hw => hw, fun c hc => (by cases hc), .inr (fun i _ j _ z hz => (noref (rf_oncCell _ _) hz).elim), rfl, rfl, (by subst hGD hLEN hA; exact patch_set hl88 (idx_lt c5) (by intro j hj; match j, hj with | 0, _ => rfl | 1, _ => rfl | 2, _ => rfl | 3, _ => rfl | (j_ + 4), h_ => exact absurd h_ (by omega)))⟩, trivial⟩ rfl
       ·clear hy64
        subst hS68
        obtain ⟨y63_0, y63_1, y63_2, y63_3⟩ := y63
        replace h := of_let h
        obtain ⟨w69, hw69, h⟩ := h
        have hw69 : w69 = y63_0 := hw69
        subst hw69
        replace h := of_let h
        obtain ⟨w70, hw70, h⟩ := h
        have hw70 : w70 = y63_1 := hw70
        subst hw70
        replace h := of_let h
        obtain ⟨w71, hw71, h⟩ := h
        have hw71 : w71 = y63_2 := hw71
        subst hw71
        replace h := of_let h
        obtain ⟨w72, hw72, h⟩ := h
        have hw72 : w72 = y63_3 := hw72
        subst hw72
        cbv
        injection h with h
        subst h
        subst hS58
        show St.le _ _
        exact le_sparse rfl ⟨lR _, lR _, trivial⟩ ⟨rfl, rfl, rfl, oS, trivial⟩ rfl
      ·replace h := of_br_f b206 h
       cbv
       replace h := of_bind h
       obtain ⟨y89, hy90, h⟩ := h
       obtain ⟨S93, hS94⟩ : ∃ S, S = some (sparse 134 [(2, .c (.ptr 128 0)), (3, .c (.ptr 192 0))] [(128, .var [.v (.slice none 0 0)]), (192, .var [.os 576 0 (LEN y1.1.fCells)]), (5, .var [.bs (LEN y89.1) 1 (row GD (encI .u8) y89.1), .v (.int .i64 y89.2.1), .v (.int .i64 y89.2.2.1)]), (576, .arr .rw [] (LEN y1.1.fCells) 4 (row GD (oncCell LEN GD) y89.2.2.2))]) := ⟨_, rfl⟩
       refine ⟨S93, ?_, ?_⟩
       ·clear h
        have h := hy90
        clear hy90
        cbv
        refine fork (fun b205 => ?_) (fun b205 => ?_)
        ·replace h := of_br_t b205 h
         cbv
         replace h := of_bind h
         obtain ⟨y99, hy100, h⟩ := h
         refine ⟨{ args := [.c (.ptr 5 0), .c (.v (.int .i64 (A.add .i64 y3.1 1)))], o0 := [(5, .var [.bs (LEN y6.2.gcode) 1 (row GD (encI .u8) y6.2.gcode), .v (.int .i64 y6.2.gat), .v (.int .i64 y6.2.gseed)])], r := .agg [.v (.int .i64 y99.1.fCell), .v (.int .i64 y99.1.fPlace.fOrientation), .v (.int .i64 y99.1.fPlace.fX), .v (.int .i64 y99.1.fPlace.fY), .v (.int .i64 y99.1.fColumns), .v (.int .i64 y99.1.fRows), .v (.int .i64 y99.1.fStepX), .v (.int .i64 y99.1.fStepY)], o1 := [(5, .var [.bs (LEN y99.2.gcode) 1 (row GD (encI .u8) y99.2.gcode), .v (.int .i64 y99.2.gat), .v (.int .i64 y99.2.gseed)])], fl := false, σ := [(5, 5)], τ := [(5, 5)] }, hf_spec_l09DrawInstance_mPbb _ _ _ hy100, ⟨les_cons (lR _) (les_cons (lR _) (les_nil)), ⟨rfl, trivial⟩, rfl, rfl, rfl, rfl, ⟨fun _ => rfl, trivial⟩, rfl⟩, ?_⟩
         cbv
         replace h := of_bind h
         obtain ⟨y101, hy102, h⟩ := h
         refine ⟨{ args := [.c (.ptr 5 0), .c (.v (.int .i64 6))], o0 := [(5, .var [.bs (LEN y99.2.gcode) 1 (row GD (encI .u8) y99.2.gcode), .v (.int .i64 y99.2.gat), .v (.int .i64 y99.2.gseed)])], r := .c (.v (.int .i64 y101.1)), o1 := [(5, .var [.bs (LEN y101.2.gcode) 1 (row GD (encI .u8) y101.2.gcode), .v (.int .i64 y101.2.gat), .v (.int .i64 y101.2.gseed)])], fl := false, σ := [(5, 5)], τ := [(5, 5)] }, hf_spec_l01Next_mPbb _ _ _ hy102, ⟨les_cons (lR _) (les_cons (lR _) (les_nil)), ⟨rfl, trivial⟩, rfl, rfl, rfl, rfl, ⟨fun _ => rfl, trivial⟩, rfl⟩, ?_⟩
         cbv
         replace h := of_bind h
         obtain ⟨y103, hy104, h⟩ := h
         refine ⟨{ args := [.c (.ptr 5 0), .c (.v (.int .i64 200))], o0 := [(5, .var [.bs (LEN y101.2.gcode) 1 (row GD (encI .u8) y101.2.gcode), .v (.int .i64 y101.2.gat), .v (.int .i64 y101.2.gseed)])], r := .c (.v (.int .i64 y103.1)), o1 := [(5, .var [.bs (LEN y103.2.gcode) 1 (row GD (encI .u8) y103.2.gcode), .v (.int .i64 y103.2.gat), .v (.int .i64 y103.2.gseed)])], fl := false, σ := [(5, 5)], τ := [(5, 5)] }, hf_spec_l01Next_mPbb _ _ _ hy104, ⟨les_cons (lR _) (les_cons (lR _) (les_nil)), ⟨rfl, trivial⟩, rfl, rfl, rfl, rfl, ⟨fun _ => rfl, trivial⟩, rfl⟩, ?_⟩
         cbv
         replace h := of_bind h
         obtain ⟨y105, hy106, h⟩ := h
         obtain ⟨S109, hS110⟩ : ∃ S, S = (sparse 134 [(2, .c (.ptr 128 0)), (3, .c (.ptr 192 0))] [(128, .var [.v (.slice none 0 0)]), (192, .var [.os 576 0 (LEN y1.1.fCells)]), (5, .var [.bs (LEN y103.2.gcode) 1 (row GD (encI .u8) y103.2.gcode), .v (.int .i64 y103.2.gat), .v (.int .i64 y103.2.gseed)]), (576, .arr .rw [] (LEN y1.1.fCells) 4 (row GD (oncCell LEN GD) y105))]) := ⟨_, rfl⟩
         refine ⟨S109, ?_, ?_⟩
         ·clear h
          have h := hy106
          clear hy106
          cbv
          refine And.intro (by first | exact (by subst hA; exact idx_lt c5) | (refine And.intro (by subst hA; exact idx_lt c5) ?_; first | trivial | exact ⟨trivial, trivial⟩)) ?_
          refine ⟨_, rfl, _, (patchC (row GD (oncCell LEN GD) y1.1.fCells) (A.nadd 0 (A.toN y3.1)) [.v (.string (GD y1.1.fCells (A.nadd 0 (A.toN y3.1))).fName), .ow (LEN (GD y1.1.fCells (A.nadd 0 (A.toN y3.1))).fShapes) 5 (row GD (encShape) (GD y1.1.fCells (A.nadd 0 (A.toN y3.1))).fShapes), .ow (LEN (GD y1.1.fCells (A.nadd 0 (A.toN y3.1))).fLabels) 4 (row GD (encLabel) (GD y1.1.fCells (A.nadd 0 (A.toN y3.1))).fLabels), .os 5506 0 (LEN (GD y1.1.fCells (A.nadd 0 (A.toN y3.1))).fInstances)]), rfl, wkOf ?_, ?_⟩
          ·refine patch_of ?_
           intro j hj
           match j, hj with | 0, _ => (rfl) | 1, _ => (rfl) | 2, _ => (rfl) | 3, _ => (rfl) | (j_ + 4), h_ => exact absurd h_ (by omega)
          refine ⟨_, row GD (encInstance) (GD y1.1.fCells (A.nadd 0 (A.toN y3.1))).fInstances, rfl, wkOf ?_, ?_⟩
          ·exact fun i _ j _ => plain_cp (pl_encInstance _ _)
          cbv
          replace h := of_let h
          obtain ⟨l112, hl112, h⟩ := h
          have e113 : 1 = LEN l112 := by subst hl112 hLEN; rfl
          refine ⟨_, congrArg (fun n => AV.c (AC.os 5632 0 n)) e113, _, row GD (encInstance) l112, e113, wkOf ?_, ?_⟩
          ·intro i hi j hj
           rw [← e113] at hi
           subst hl112
           subst hGD
           obtain rfl : i = 0 := (by omega) <;> obtain rfl | rfl | rfl | rfl | rfl | rfl | rfl | rfl : j = 0 ∨ j = 1 ∨ j = 2 ∨ j = 3 ∨ j = 4 ∨ j = 5 ∨ j = 6 ∨ j = 7 := (by omega)
           all_goals rfl
          cbv
          replace h := of_req h
          obtain ⟨c116, h⟩ := h
          replace h := of_let h
          obtain ⟨l114, hl114, h⟩ := h
          have e115 : A.nadd (LEN (GD y1.1.fCells (A.nadd 0 (A.toN y3.1))).fInstances) (LEN l112) = LEN l114 := by subst hl114 hLEN hA; simp [std, len]
          refine ⟨c116, _, congrArg (fun n => AV.c (AC.os 5506 0 n)) e115, _, row GD (encInstance) l114, e115, wkOf ?_, ?_⟩
          ·subst hGD hLEN hA
           exact app_os (off := 0) (pl_encInstance) hl114 (Nat.le_refl _)
          cbv
          refine And.intro (by first | exact (by subst hA; exact idx_lt c5) | (refine And.intro (by subst hA; exact idx_lt c5) ?_; first | trivial | exact ⟨trivial, trivial⟩)) ?_
          refine ⟨_, rfl, _, (patchC (row GD (oncCell LEN GD) y1.1.fCells) (A.nadd 0 (A.toN y3.1)) [.v (.string (GD y1.1.fCells (A.nadd 0 (A.toN y3.1))).fName), .ow (LEN (GD y1.1.fCells (A.nadd 0 (A.toN y3.1))).fShapes) 5 (row GD (encShape) (GD y1.1.fCells (A.nadd 0 (A.toN y3.1))).fShapes), .ow (LEN (GD y1.1.fCells (A.nadd 0 (A.toN y3.1))).fLabels) 4 (row GD (encLabel) (GD y1.1.fCells (A.nadd 0 (A.toN y3.1))).fLabels), .os 5506 0 (LEN l114)]), rfl, wkOf ?_, ?_⟩
          ·first | refine patch_of2 ?_ | refine patch_of2K (fun _ _ => rf_oncCell _ _) ?_
           intro j hj
           match j, hj with | 0, _ => (rfl) | 1, _ => (rfl) | 2, _ => (rfl) | 3, _ => (rfl) | (j_ + 4), h_ => exact absurd h_ (by omega)
          cbv
          replace h := of_let h
          obtain ⟨l117, hl117, h⟩ := h
          injection h with h
          subst h
          subst hS110
          show St.le _ _
          refine St.le_trans (le_foldP 576 3 5506 rfl rfl rfl (by decide) (by subst hA; exact idx_lt c5) (by decide) rfl (fun _ _ => rf_oncCell _ _)) ?_
          exact le_sparse rfl ⟨lR _, lR _, trivial⟩ ⟨rfl, rfl, rfl, ⟨fun hw => hw, fun c hc => (by cases hc), .inr (fun i _ j _ z hz => (noref (rf_oncCell _ _) hz).elim), rfl, rfl, (by subst hGD hLEN hA; exact patch_set hl117 (idx_lt c5) (by intro j hj; match j, hj with | 0, _ => rfl | 1, _ => rfl | 2, _ => rfl | 3, _ => rfl | (j_ + 4), h_ => exact absurd h_ (by omega)))⟩, trivial⟩ rfl
         ·clear hy106
          subst hS110
          replace h := of_let h
          obtain ⟨w111, hw111, h⟩ := h
          have hw111 : w111 = y105 := hw111
          subst hw111
          cbv
          injection h with h
          subst h
          subst hS94
          show St.le _ _
          exact le_sparse rfl ⟨lR _, lR _, trivial⟩ ⟨rfl, rfl, rfl, oS, trivial⟩ rfl
        ·replace h := of_br_f b205 h
         cbv
         replace h := of_bind h
         obtain ⟨y118, hy119, h⟩ := h
         obtain ⟨S122, hS123⟩ : ∃ S, S = some (sparse 134 [(2, .c (.ptr 128 0)), (3, .c (.ptr 192 0))] [(128, .var [.v (.slice none 0 0)]), (192, .var [.os 576 0 (LEN y1.1.fCells)]), (5, .var [.bs (LEN y118.1) 1 (row GD (encI .u8) y118.1), .v (.int .i64 y118.2.1), .v (.int .i64 y118.2.2.1)]), (576, .arr .rw [] (LEN y1.1.fCells) 4 (row GD (oncCell LEN GD) y118.2.2.2))]) := ⟨_, rfl⟩
         refine ⟨S122, ?_, ?_⟩
         ·clear h
          have h := hy119
          clear hy119
          cbv
          refine fork (fun b204 => ?_) (fun b204 => ?_)
          ·replace h := of_br_t b204 h
           cbv
           replace h := of_bind h
           obtain ⟨y128, hy129, h⟩ := h
           obtain ⟨S132, hS133⟩ : ∃ S, S = (sparse 134 [(2, .c (.ptr 128 0)), (3, .c (.ptr 192 0))] [(128, .var [.v (.slice none 0 0)]), (192, .var [.os 576 0 (LEN y1.1.fCells)]), (5, .var [.bs (LEN y128.1) 1 (row GD (encI .u8) y128.1), .v (.int .i64 y128.2.1), .v (.int .i64 y128.2.2.1)]), (576, .arr .rw [] (LEN y1.1.fCells) 4 (row GD (oncCell LEN GD) y128.2.2.2))]) := ⟨_, rfl⟩
           refine ⟨S132, ?_, ?_⟩
           ·clear h
            have h := hy129
            clear hy129
            cbv
            refine And.intro (by first | exact (by subst hA; exact idx_lt c5) | (refine And.intro (by subst hA; exact idx_lt c5) ?_; first | trivial | exact ⟨trivial, trivial⟩)) ?_
            refine ⟨_, rfl, _, (patchC (row GD (oncCell LEN GD) y1.1.fCells) (A.nadd 0 (A.toN y3.1)) [.v (.string (GD y1.1.fCells (A.nadd 0 (A.toN y3.1))).fName), .ow (LEN (GD y1.1.fCells (A.nadd 0 (A.toN y3.1))).fShapes) 5 (row GD (encShape) (GD y1.1.fCells (A.nadd 0 (A.toN y3.1))).fShapes), .os 6274 0 (LEN (GD y1.1.fCells (A.nadd 0 (A.toN y3.1))).fLabels), .ow (LEN (GD y1.1.fCells (A.nadd 0 (A.toN y3.1))).fInstances) 8 (row GD (encInstance) (GD y1.1.fCells (A.nadd 0 (A.toN y3.1))).fInstances)]), rfl, wkOf ?_, ?_⟩
            ·refine patch_of ?_
             intro j hj
             match j, hj with | 0, _ => (rfl) | 1, _ => (rfl) | 2, _ => (rfl) | 3, _ => (rfl) | (j_ + 4), h_ => exact absurd h_ (by omega)
            refine ⟨_, row GD (encLabel) (GD y1.1.fCells (A.nadd 0 (A.toN y3.1))).fLabels, rfl, wkOf ?_, ?_⟩
            ·exact fun i _ j _ => plain_cp (pl_encLabel _ _)
            cbv
            replace h := of_bind h
            obtain ⟨y138, hy139, h⟩ := h
            refine ⟨{ args := [.c (.ptr 5 0), .c (.v (.int .i64 10))], o0 := [(5, .var [.bs (LEN y6.2.gcode) 1 (row GD (encI .u8) y6.2.gcode), .v (.int .i64 y6.2.gat), .v (.int .i64 y6.2.gseed)])], r := .c (.v (.int .i64 y138.1)), o1 := [(5, .var [.bs (LEN y138.2.gcode) 1 (row GD (encI .u8) y138.2.gcode), .v (.int .i64 y138.2.gat), .v (.int .i64 y138.2.gseed)])], fl := false, σ := [(5, 5)], τ := [(5, 5)] }, hf_spec_l01Next_mPbb _ _ _ hy139, ⟨les_cons (lR _) (les_cons (lR _) (les_nil)), ⟨rfl, trivial⟩, rfl, rfl, rfl, rfl, ⟨fun _ => rfl, trivial⟩, rfl⟩, ?_⟩
            cbv
            replace h := of_bind h
            obtain ⟨y140, hy141, h⟩ := h
            refine ⟨{ args := [.c (.ptr 5 0), .c (.v (.int .i64 90))], o0 := [(5, .var [.bs (LEN y138.2.gcode) 1 (row GD (encI .u8) y138.2.gcode), .v (.int .i64 y138.2.gat), .v (.int .i64 y138.2.gseed)])], r := .c (.v (.int .i64 y140.1)), o1 := [(5, .var [.bs (LEN y140.2.gcode) 1 (row GD (encI .u8) y140.2.gcode), .v (.int .i64 y140.2.gat), .v (.int .i64 y140.2.gseed)])], fl := false, σ := [(5, 5)], τ := [(5, 5)] }, hf_spec_l01Next_mPbb _ _ _ hy141, ⟨les_cons (lR _) (les_cons (lR _) (les_nil)), ⟨rfl, trivial⟩, rfl, rfl, rfl, rfl, ⟨fun _ => rfl, trivial⟩, rfl⟩, ?_⟩
            cbv
            replace h := of_bind h
            obtain ⟨y142, hy143, h⟩ := h
            refine ⟨{ args := [.c (.ptr 5 0), .c (.v (.int .i64 90))], o0 := [(5, .var [.bs (LEN y140.2.gcode) 1 (row GD (encI .u8) y140.2.gcode), .v (.int .i64 y140.2.gat), .v (.int .i64 y140.2.gseed)])], r := .c (.v (.int .i64 y142.1)), o1 := [(5, .var [.bs (LEN y142.2.gcode) 1 (row GD (encI .u8) y142.2.gcode), .v (.int .i64 y142.2.gat), .v (.int .i64 y142.2.gseed)])], fl := false, σ := [(5, 5)], τ := [(5, 5)] }, hf_spec_l01Next_mPbb _ _ _ hy143, ⟨les_cons (lR _) (les_cons (lR _) (les_nil)), ⟨rfl, trivial⟩, rfl, rfl, rfl, rfl, ⟨fun _ => rfl, trivial⟩, rfl⟩, ?_⟩
            cbv
            replace h := of_bind h
            obtain ⟨y144, hy145, h⟩ := h
            refine ⟨{ args := [.c (.ptr 5 0)], o0 := [(5, .var [.bs (LEN y142.2.gcode) 1 (row GD (encI .u8) y142.2.gcode), .v (.int .i64 y142.2.gat), .v (.int .i64 y142.2.gseed)])], r := .c (.v (.string y144.1)), o1 := [(5, .var [.bs (LEN y144.2.gcode) 1 (row GD (encI .u8) y144.2.gcode), .v (.int .i64 y144.2.gat), .v (.int .i64 y144.2.gseed)])], fl := false, σ := [(5, 5)], τ := [(5, 5)] }, hf_spec_l09DrawName_mPb _ _ hy145, ⟨les_cons (lR _) (les_nil), ⟨rfl, trivial⟩, rfl, rfl, rfl, rfl, ⟨fun _ => rfl, trivial⟩, rfl⟩, ?_⟩
            cbv
            replace h := of_let h
            obtain ⟨l146, hl146, h⟩ := h
            have e147 : 1 = LEN l146 := by subst hl146 hLEN; rfl
            refine ⟨_, congrArg (fun n => AV.c (AC.os 7168 0 n)) e147, _, row GD (encLabel) l146, e147, wkOf ?_, ?_⟩
            ·intro i hi j hj
             rw [← e147] at hi
             subst hl146
             subst hGD
             obtain rfl : i = 0 := (by omega) <;> obtain rfl | rfl | rfl | rfl : j = 0 ∨ j = 1 ∨ j = 2 ∨ j = 3 := (by omega)
             all_goals rfl
            cbv
            replace h := of_req h
            obtain ⟨c150, h⟩ := h
            replace h := of_let h
            obtain ⟨l148, hl148, h⟩ := h
            have e149 : A.nadd (LEN (GD y1.1.fCells (A.nadd 0 (A.toN y3.1))).fLabels) (LEN l146) = LEN l148 := by subst hl148 hLEN hA; simp [std, len]
            refine ⟨c150, _, congrArg (fun n => AV.c (AC.os 6274 0 n)) e149, _, row GD (encLabel) l148, e149, wkOf ?_, ?_⟩
            ·subst hGD hLEN hA
             exact app_os (off := 0) (pl_encLabel) hl148 (Nat.le_refl _)
            cbv
            refine And.intro (by first | exact (by subst hA; exact idx_lt c5) | (refine And.intro (by subst hA; exact idx_lt c5) ?_; first | trivial | exact ⟨trivial, trivial⟩)) ?_
            refine ⟨_, rfl, _, (patchC (row GD (oncCell LEN GD) y1.1.fCells) (A.nadd 0 (A.toN y3.1)) [.v (.string (GD y1.1.fCells (A.nadd 0 (A.toN y3.1))).fName), .ow (LEN (GD y1.1.fCells (A.nadd 0 (A.toN y3.1))).fShapes) 5 (row GD (encShape) (GD y1.1.fCells (A.nadd 0 (A.toN y3.1))).fShapes), .os 6274 0 (LEN l148), .ow (LEN (GD y1.1.fCells (A.nadd 0 (A.toN y3.1))).fInstances) 8 (row GD (encInstance) (GD y1.1.fCells (A.nadd 0 (A.toN y3.1))).fInstances)]), rfl, wkOf ?_, ?_⟩
            ·first | refine patch_of2 ?_ | refine patch_of2K (fun _ _ => rf_oncCell _ _) ?_
             intro j hj
             match j, hj with | 0, _ => (rfl) | 1, _ => (rfl) | 2, _ => (rfl) | 3, _ => (rfl) | (j_ + 4), h_ => exact absurd h_ (by omega)
            cbv
            replace h := of_let h
            obtain ⟨l151, hl151, h⟩ := h
            injection h with h
            subst h
            subst hS133
            show St.le _ _
            refine St.le_trans (le_foldP 576 2 6274 rfl rfl rfl (by decide) (by subst hA; exact idx_lt c5) (by decide) rfl (fun _ _ => rf_oncCell _ _)) ?_
            exact le_sparse rfl ⟨lR _, lR _, trivial⟩ ⟨rfl, rfl, rfl, ⟨fun hw => hw, fun c hc => (by cases hc), .inr (fun i _ j _ z hz => (noref (rf_oncCell _ _) hz).elim), rfl, rfl, (by subst hGD hLEN hA; exact patch_set hl151 (idx_lt c5) (by intro j hj; match j, hj with | 0, _ => rfl | 1, _ => rfl | 2, _ => rfl | 3, _ => rfl | (j_ + 4), h_ => exact absurd h_ (by omega)))⟩, trivial⟩ rfl
           ·clear hy129
            subst hS133
            obtain ⟨y128_0, y128_1, y128_2, y128_3⟩ := y128
            replace h := of_let h
            obtain ⟨w134, hw134, h⟩ := h
            have hw134 : w134 = y128_0 := hw134
            subst hw134
            replace h := of_let h
            obtain ⟨w135, hw135, h⟩ := h
            have hw135 : w135 = y128_1 := hw135
            subst hw135
            replace h := of_let h
            obtain ⟨w136, hw136, h⟩ := h
            have hw136 : w136 = y128_2 := hw136
            subst hw136
            replace h := of_let h
            obtain ⟨w137, hw137, h⟩ := h
            have hw137 : w137 = y128_3 := hw137
            subst hw137
            cbv
            injection h with h
            subst h
            subst hS123
            show St.le _ _
            exact le_sparse rfl ⟨lR _, lR _, trivial⟩ ⟨rfl, rfl, rfl, oS, trivial⟩ rfl
          ·replace h := of_br_f b204 h
           cbv
           replace h := of_bind h
           obtain ⟨y152, hy153, h⟩ := h
           obtain ⟨S156, hS157⟩ : ∃ S, S = some (sparse 134 [(2, .c (.ptr 128 0)), (3, .c (.ptr 192 0))] [(128, .var [.v (.slice none 0 0)]), (192, .var [.os 576 0 (LEN y1.1.fCells)]), (5, .var [.bs (LEN y152.1) 1 (row GD (encI .u8) y152.1), .v (.int .i64 y152.2.1), .v (.int .i64 y152.2.2.1)]), (576, .arr .rw [] (LEN y1.1.fCells) 4 (row GD (oncCell LEN GD) y152.2.2.2))]) := ⟨_, rfl⟩
           refine ⟨S156, ?_, ?_⟩
           ·clear h
            have h := hy153
            clear hy153
            cbv
            refine fork (fun b203 => ?_) (fun b203 => ?_)
            ·replace h := of_br_t b203 h
             cbv
             replace h := of_bind h
             obtain ⟨y168, hr169, hN170⟩ := h
             refine loop_cut hr169 (fun x => (sparse 134 [(0, .c (.ptr 5 0)), (2, .c (.ptr 128 0)), (3, .c (.ptr 192 0)), (5, .c (.ep 576 (A.nadd 0 (A.toN y3.1)) 0)), (7, .c (.v (.int .i64 x.1)))] [(5, .var [.bs (LEN x.2.1) 1 (row GD (encI .u8) x.2.1), .v (.int .i64 x.2.2.1), .v (.int .i64 x.2.2.2.1)]), (128, .var [.v (.slice none 0 0)]), (192, .var [.os 576 0 (LEN y1.1.fCells)]), (576, .arr .rw [] (LEN y1.1.fCells) 4 (row GD (oncCell LEN GD) x.2.2.2.2))])) ?_ (fun y e s => (fun (w : (List Int) × Int × Int × (List TCell)) => e = .exit 1 ∧ s.le (sparse 134 [(2, .c (.ptr 128 0)), (3, .c (.ptr 192 0))] [(128, .var [.v (.slice none 0 0)]), (192, .var [.os 576 0 (LEN y1.1.fCells)]), (5, .var [.bs (LEN w.1) 1 (row GD (encI .u8) w.1), .v (.int .i64 w.2.1), .v (.int .i64 w.2.2.1)]), (576, .arr .rw [] (LEN y1.1.fCells) 4 (row GD (oncCell LEN GD) w.2.2.2))])) y) ?_ ?_
             ·clear hr169 hN170
              show St.le _ _
              exact le_sparse rfl ⟨lR _, lR _, lR _, lR _, lR _, trivial⟩ ⟨rfl, rfl, rfl, oS, trivial⟩ rfl
             ·clear hr169 hN170
              intro x z174 h K172 hK173 hY171
              obtain ⟨x0_, x1_, x2_, x3_, x4_⟩ := x
              replace h := of_let h
              obtain ⟨v162, hv162, h⟩ := h
              have hv162 : v162 = x0_ := hv162
              subst hv162
              replace h := of_let h
              obtain ⟨v163, hv163, h⟩ := h
              have hv163 : v163 = x1_ := hv163
              subst hv163
              replace h := of_let h
              obtain ⟨v164, hv164, h⟩ := h
              have hv164 : v164 = x2_ := hv164
              subst hv164
              replace h := of_let h
              obtain ⟨v165, hv165, h⟩ := h
              have hv165 : v165 = x3_ := hv165
              subst hv165
              replace h := of_let h
              obtain ⟨v166, hv166, h⟩ := h
              have hv166 : v166 = x4_ := hv166
              subst hv166
              cbv
              refine fork (fun b198 => ?_) (fun b198 => ?_)
              ·replace h := of_br_t b198 h
               cbv
               replace h := of_bind h
               obtain ⟨y179, hy180, h⟩ := h
               obtain ⟨S183, hS184⟩ : ∃ S, S = (sparse 134 [(0, .c (.ptr 5 0)), (2, .c (.ptr 128 0)), (3, .c (.ptr 192 0)), (5, .c (.ep 576 (A.nadd 0 (A.toN y3.1)) 0)), (7, .c (.v (.int .i64 v162)))] [(5, .var [.bs (LEN y179.1) 1 (row GD (encI .u8) y179.1), .v (.int .i64 y179.2.1), .v (.int .i64 y179.2.2.1)]), (128, .var [.v (.slice none 0 0)]), (192, .var [.os 576 0 (LEN y1.1.fCells)]), (576, .arr .rw [] (LEN y1.1.fCells) 4 (row GD (oncCell LEN GD) y179.2.2.2))]) := ⟨_, rfl⟩
               refine ⟨S183, ?_, ?_⟩
               ·clear h
                have h := hy180
                clear hy180
                cbv
                refine And.intro (by first | exact (by subst hA; exact idx_lt c5) | (refine And.intro (by subst hA; exact idx_lt c5) ?_; first | trivial | exact ⟨trivial, trivial⟩)) ?_
                refine ⟨_, rfl, _, (patchC (row GD (oncCell LEN GD) v166) (A.nadd 0 (A.toN y3.1)) [.v (.string (GD v166 (A.nadd 0 (A.toN y3.1))).fName), .os 8066 0 (LEN (GD v166 (A.nadd 0 (A.toN y3.1))).fShapes), .ow (LEN (GD v166 (A.nadd 0 (A.toN y3.1))).fLabels) 4 (row GD (encLabel) (GD v166 (A.nadd 0 (A.toN y3.1))).fLabels), .ow (LEN (GD v166 (A.nadd 0 (A.toN y3.1))).fInstances) 8 (row GD (encInstance) (GD v166 (A.nadd 0 (A.toN y3.1))).fInstances)]), rfl, wkOf ?_, ?_⟩
                ·refine patch_of ?_
                 intro j hj
                 match j, hj with | 0, _ => (rfl) | 1, _ => (rfl) | 2, _ => (rfl) | 3, _ => (rfl) | (j_ + 4), h_ => exact absurd h_ (by omega)
                refine ⟨_, row GD (encShape) (GD v166 (A.nadd 0 (A.toN y3.1))).fShapes, rfl, wkOf ?_, ?_⟩
                ·exact fun i _ j _ => plain_cp (pl_encShape _ _)
                cbv
                replace h := of_bind h
                obtain ⟨y189, hy190, h⟩ := h
                refine ⟨{ args := [.c (.ptr 5 0)], o0 := [(5, .var [.bs (LEN v163) 1 (row GD (encI .u8) v163), .v (.int .i64 v164), .v (.int .i64 v165)])], r := .agg [.v (.int .i64 y189.1.fLayer), .v (.int .i64 y189.1.fBox.fX0), .v (.int .i64 y189.1.fBox.fY0), .v (.int .i64 y189.1.fBox.fX1), .v (.int .i64 y189.1.fBox.fY1)], o1 := [(5, .var [.bs (LEN y189.2.gcode) 1 (row GD (encI .u8) y189.2.gcode), .v (.int .i64 y189.2.gat), .v (.int .i64 y189.2.gseed)])], fl := false, σ := [(5, 5)], τ := [(5, 5)] }, hf_spec_l09DrawShape_mPb _ _ hy190, ⟨les_cons (lR _) (les_nil), ⟨rfl, trivial⟩, rfl, rfl, rfl, rfl, ⟨fun _ => rfl, trivial⟩, rfl⟩, ?_⟩
                cbv
                replace h := of_let h
                obtain ⟨l191, hl191, h⟩ := h
                have e192 : 1 = LEN l191 := by subst hl191 hLEN; rfl
                refine ⟨_, congrArg (fun n => AV.c (AC.os 8256 0 n)) e192, _, row GD (encShape) l191, e192, wkOf ?_, ?_⟩
                ·intro i hi j hj
                 rw [← e192] at hi
                 subst hl191
                 subst hGD
                 obtain rfl : i = 0 := (by omega) <;> obtain rfl | rfl | rfl | rfl | rfl : j = 0 ∨ j = 1 ∨ j = 2 ∨ j = 3 ∨ j = 4 := (by omega)
                 all_goals rfl
                cbv
                replace h := of_req h
                obtain ⟨c195, h⟩ := h
                replace h := of_let h
                obtain ⟨l193, hl193, h⟩ := h
                have e194 : A.nadd (LEN (GD v166 (A.nadd 0 (A.toN y3.1))).fShapes) (LEN l191) = LEN l193 := by subst hl193 hLEN hA; simp [std, len]
                refine ⟨c195, _, congrArg (fun n => AV.c (AC.os 8066 0 n)) e194, _, row GD (encShape) l193, e194, wkOf ?_, ?_⟩
                ·subst hGD hLEN hA
                 exact app_os (off := 0) (pl_encShape) hl193 (Nat.le_refl _)
                cbv
                refine And.intro (by first | exact (by subst hA; exact idx_lt c5) | (refine And.intro (by subst hA; exact idx_lt c5) ?_; first | trivial | exact ⟨trivial, trivial⟩)) ?_
                refine ⟨_, rfl, _, (patchC (row GD (oncCell LEN GD) v166) (A.nadd 0 (A.toN y3.1)) [.v (.string (GD v166 (A.nadd 0 (A.toN y3.1))).fName), .os 8066 0 (LEN l193), .ow (LEN (GD v166 (A.nadd 0 (A.toN y3.1))).fLabels) 4 (row GD (encLabel) (GD v166 (A.nadd 0 (A.toN y3.1))).fLabels), .ow (LEN (GD v166 (A.nadd 0 (A.toN y3.1))).fInstances) 8 (row GD (encInstance) (GD v166 (A.nadd 0 (A.toN y3.1))).fInstances)]), rfl, wkOf ?_, ?_⟩
                ·first | refine patch_of2 ?_ | refine patch_of2K (fun _ _ => rf_oncCell _ _) ?_
                 intro j hj
                 match j, hj with | 0, _ => (rfl) | 1, _ => (rfl) | 2, _ => (rfl) | 3, _ => (rfl) | (j_ + 4), h_ => exact absurd h_ (by omega)
                cbv
                replace h := of_req h
                obtain ⟨c197, h⟩ := h
                replace h := of_let h
                obtain ⟨l196, hl196, h⟩ := h
                injection h with h
                subst h
                subst hS184
                show St.le _ _
                refine St.le_trans (le_foldP 576 1 8066 rfl rfl rfl (by decide) (by subst hA; exact idx_lt c5) (by decide) rfl (fun _ _ => rf_oncCell _ _)) ?_
                exact le_sparse rfl ⟨lR _, lR _, lR _, lR _, lR _, trivial⟩ ⟨rfl, rfl, rfl, ⟨fun hw => hw, fun c hc => (by cases hc), .inr (fun i _ j _ z hz => (noref (rf_oncCell _ _) hz).elim), rfl, rfl, (by subst hGD hLEN hA; exact patch_set hl196 (idx_lt (by rw [← c197]; exact c5)) (by intro j hj; match j, hj with | 0, _ => rfl | 1, _ => rfl | 2, _ => rfl | 3, _ => rfl | (j_ + 4), h_ => exact absurd h_ (by omega)))⟩, trivial⟩ rfl
               ·clear hy180
                subst hS184
                obtain ⟨y179_0, y179_1, y179_2, y179_3⟩ := y179
                replace h := of_let h
                obtain ⟨w185, hw185, h⟩ := h
                have hw185 : w185 = y179_0 := hw185
                subst hw185
                replace h := of_let h
                obtain ⟨w186, hw186, h⟩ := h
                have hw186 : w186 = y179_1 := hw186
                subst hw186
                replace h := of_let h
                obtain ⟨w187, hw187, h⟩ := h
                have hw187 : w187 = y179_2 := hw187
                subst hw187
                replace h := of_let h
                obtain ⟨w188, hw188, h⟩ := h
                have hw188 : w188 = y179_3 := hw188
                subst hw188
                cbv
                injection h with h
                refine hK173 _ h.symm _ ?_
                exact le_sparse rfl ⟨lR _, lR _, lR _, lR _, lR _, trivial⟩ ⟨rfl, rfl, rfl, oS, trivial⟩ rfl
              ·replace h := of_br_f b198 h
               cbv
               injection h with h
               refine hY171 _ h.symm _ _ (And.intro rfl ?_) (by intro hh; cases hh)
               exact le_sparse rfl ⟨lR _, lR _, trivial⟩ ⟨rfl, rfl, rfl, oS, trivial⟩ rfl
             ·clear hr169
              have h := hN170
              clear hN170
              intro e177 s178 q176 hne
              replace h := of_let h
              obtain ⟨y168k0, hyk, h⟩ := h
              have hyk : y168k0 = y168 := hyk
              subst hyk
              obtain ⟨rfl, q176⟩ := q176
              obtain ⟨y168k0_0, y168k0_1, y168k0_2, y168k0_3⟩ := y168k0
              replace h := of_let h
              obtain ⟨w199, hw199, h⟩ := h
              have hw199 : w199 = y168k0_0 := hw199
              subst hw199
              replace h := of_let h
              obtain ⟨w200, hw200, h⟩ := h
              have hw200 : w200 = y168k0_1 := hw200
              subst hw200
              replace h := of_let h
              obtain ⟨w201, hw201, h⟩ := h
              have hw201 : w201 = y168k0_2 := hw201
              subst hw201
              replace h := of_let h
              obtain ⟨w202, hw202, h⟩ := h
              have hw202 : w202 = y168k0_3 := hw202
              subst hw202
              cbv
              refine ⟨_, q176, ?_⟩
              cbv
              injection h with h
              subst h
              subst hS157
              show St.le _ _
              exact le_sparse rfl ⟨lR _, lR _, trivial⟩ ⟨rfl, rfl, rfl, oS, trivial⟩ rfl
            ·replace h := of_br_f b203 h
             cbv
             injection h with h
             subst h
             subst hS157
             show St.le _ _
             exact le_sparse rfl ⟨lR _, lR _, trivial⟩ ⟨rfl, rfl, rfl, oS, trivial⟩ rfl
           ·clear hy153
            subst hS157
            obtain ⟨y152_0, y152_1, y152_2, y152_3⟩ := y152
            replace h := of_let h
            obtain ⟨w158, hw158, h⟩ := h
            have hw158 : w158 = y152_0 := hw158
            subst hw158
            replace h := of_let h
            obtain ⟨w159, hw159, h⟩ := h
            have hw159 : w159 = y152_1 := hw159
            subst hw159
            replace h := of_let h
            obtain ⟨w160, hw160, h⟩ := h
            have hw160 : w160 = y152_2 := hw160
            subst hw160
            replace h := of_let h
            obtain ⟨w161, hw161, h⟩ := h
            have hw161 : w161 = y152_3 := hw161
            subst hw161
            cbv
            injection h with h
            subst h
            subst hS123
            show St.le _ _
            exact le_sparse rfl ⟨lR _, lR _, trivial⟩ ⟨rfl, rfl, rfl, oS, trivial⟩ rfl
         ·clear hy119
          subst hS123
          obtain ⟨y118_0, y118_1, y118_2, y118_3⟩ := y118
          replace h := of_let h
          obtain ⟨w124, hw124, h⟩ := h
          have hw124 : w124 = y118_0 := hw124
          subst hw124
          replace h := of_let h
          obtain ⟨w125, hw125, h⟩ := h
          have hw125 : w125 = y118_1 := hw125
          subst hw125
          replace h := of_let h
          obtain ⟨w126, hw126, h⟩ := h
          have hw126 : w126 = y118_2 := hw126
          subst hw126
          replace h := of_let h
          obtain ⟨w127, hw127, h⟩ := h
          have hw127 : w127 = y118_3 := hw127
          subst hw127
          cbv
          injection h with h
          subst h
          subst hS94
          show St.le _ _
          exact le_sparse rfl ⟨lR _, lR _, trivial⟩ ⟨rfl, rfl, rfl, oS, trivial⟩ rfl
       ·clear hy90
        subst hS94
        obtain ⟨y89_0, y89_1, y89_2, y89_3⟩ := y89
        replace h := of_let h
        obtain ⟨w95, hw95, h⟩ := h
        have hw95 : w95 = y89_0 := hw95
        subst hw95
        replace h := of_let h
        obtain ⟨w96, hw96, h⟩ := h
        have hw96 : w96 = y89_1 := hw96
        subst hw96
        replace h := of_let h
        obtain ⟨w97, hw97, h⟩ := h
        have hw97 : w97 = y89_2 := hw97
        subst hw97
        replace h := of_let h
        obtain ⟨w98, hw98, h⟩ := h
        have hw98 : w98 = y89_3 := hw98
        subst hw98
        cbv
        injection h with h
        subst h
        subst hS58
        show St.le _ _
        exact le_sparse rfl ⟨lR _, lR _, trivial⟩ ⟨rfl, rfl, rfl, oS, trivial⟩ rfl
     ·clear hy54
      subst hS58
      obtain ⟨y53_0, y53_1, y53_2, y53_3⟩ := y53
      replace h := of_let h
      obtain ⟨w59, hw59, h⟩ := h
      have hw59 : w59 = y53_0 := hw59
      subst hw59
      replace h := of_let h
      obtain ⟨w60, hw60, h⟩ := h
      have hw60 : w60 = y53_1 := hw60
      subst hw60
      replace h := of_let h
      obtain ⟨w61, hw61, h⟩ := h
      have hw61 : w61 = y53_2 := hw61
      subst hw61
      replace h := of_let h
      obtain ⟨w62, hw62, h⟩ := h
      have hw62 : w62 = y53_3 := hw62
      subst hw62
      cbv
      injection h with h
      subst h
      subst hS32
      show St.le _ _
      exact le_sparse rfl ⟨lR _, lR _, trivial⟩ ⟨rfl, rfl, rfl, oS, trivial⟩ rfl
   ·clear hy28
    subst hS32
    obtain ⟨y27_0, y27_1, y27_2, y27_3⟩ := y27
    replace h := of_let h
    obtain ⟨w33, hw33, h⟩ := h
    have hw33 : w33 = y27_0 := hw33
    subst hw33
    replace h := of_let h
    obtain ⟨w34, hw34, h⟩ := h
    have hw34 : w34 = y27_1 := hw34
    subst hw34
    replace h := of_let h
    obtain ⟨w35, hw35, h⟩ := h
    have hw35 : w35 = y27_2 := hw35
    subst hw35
    replace h := of_let h
    obtain ⟨w36, hw36, h⟩ := h
    have hw36 : w36 = y27_3 := hw36
    subst hw36
    cbv
    injection h with h
    subst h
    subst hS13
    show St.le _ _
    exact le_sparse rfl ⟨lR _, lR _, trivial⟩ ⟨rfl, rfl, rfl, oS, trivial⟩ rfl
 ·clear hy9
  subst hS13
  obtain ⟨y8_0, y8_1, y8_2, y8_3⟩ := y8
  replace h := of_let h
  obtain ⟨w14, hw14, h⟩ := h
  have hw14 : w14 = y8_0 := hw14
  subst hw14
  replace h := of_let h
  obtain ⟨w15, hw15, h⟩ := h
  have hw15 : w15 = y8_1 := hw15
  subst hw15
  replace h := of_let h
  obtain ⟨w16, hw16, h⟩ := h
  have hw16 : w16 = y8_2 := hw16
  subst hw16
  replace h := of_let h
  obtain ⟨w17, hw17, h⟩ := h
  have hw17 : w17 = y8_3 := hw17
  subst hw17
  cbv
  replace h := of_req h
  obtain ⟨c209, h⟩ := h
  injection h with h
  subst h
  refine ⟨(sparse 134 [(2, .c (.ptr 128 0))] [(128, .var [.os 64000 0 (LEN w14)]), (5, .var [.bs (LEN w15) 1 (row GD (encI .u8) w15), .v (.int .i64 w16), .v (.int .i64 w17)]), (64000, .arr .rw [] (LEN w14) 4 (row GD (oncCell LEN GD) w14))]), ?_, ?_⟩
  ·refine St.le_trans (le_ren 576 64000 (by decide) rfl) ?_
   rw [c209]
   exact le_sparse rfl ⟨lR _, trivial⟩ ⟨rfl, rfl, oS, trivial⟩ rfl
  ·exact ⟨lR _, ⟨oS, rfl, trivial⟩, rfl⟩

/-- spec.DrawLibraryStream -/
noncomputable def F_spec_DrawLibraryStream (a0 : List Int) : Option (TLibrary) :=
 (F_spec_l01From a0).bind fun y1 =>
 (F_spec_l09DrawAny_mPb y1).bind fun y3 =>
 some y3.1
set_option maxHeartbeats 4000000 in
theorem run_spec_DrawLibraryStream (a0 : List Int) (r : TLibrary) (h : F_spec_DrawLibraryStream a0 = some r) : Fun Try.prog 33 [.c (.bs (len a0) 1 (row gd (encI .u8) a0))] [] (.agg [.os 64000 0 (len r.fCells)]) [(64000, .arr .rw [] (len r.fCells) 4 (row gd (oncCell len gd) r.fCells))] true := by
 refine Fun.of_wp (oneOf []) tok mixed Try.func33 (by kernel_rfl) rfl Try.ntmps33 rfl trivial (fun _ => ⟨(by simp [AV.flat, AV.flat1, AC.flat]), ⟨fun i _ j _ => fl_oncCell _ _, trivial⟩⟩) ?_
 unfold F_spec_DrawLibraryStream at h
 have hf_spec_l01From := @run_spec_l01From
 have hf_spec_l09DrawAny_mPb := @run_spec_l09DrawAny_mPb
 generalize hLEN : @len = LEN at *
 generalize hGD : @gd = GD at *
 generalize hA : std = A at *
 generalize hP : Try.prog = P at *
 cbv
 replace h := of_bind h
 obtain ⟨y1, hy2, h⟩ := h
 refine ⟨{ args := [.c (.bs (LEN a0) 1 (row GD (encI .u8) a0))], o0 := [], r := .c (.ptr 64000 0), o1 := [(64000, .var [.bs (LEN y1.gcode) 1 (row GD (encI .u8) y1.gcode), .v (.int .i64 y1.gat), .v (.int .i64 y1.gseed)])], fl := false, σ := [], τ := [(64000, 256)] }, hf_spec_l01From _ _ hy2, ⟨les_cons (lR _) (les_nil), trivial, rfl, rfl, rfl, rfl, ⟨fun h => absurd (show (64000 : Nat) % 2 = 1 from h) (by decide), trivial⟩, rfl⟩, ?_⟩
 cbv
 replace h := of_bind h
 obtain ⟨y3, hy4, h⟩ := h
 refine ⟨{ args := [.c (.ptr 5 0)], o0 := [(5, .var [.bs (LEN y1.gcode) 1 (row GD (encI .u8) y1.gcode), .v (.int .i64 y1.gat), .v (.int .i64 y1.gseed)])], r := .agg [.os 64000 0 (LEN y3.1.fCells)], o1 := [(64000, .arr .rw [] (LEN y3.1.fCells) 4 (row GD (oncCell LEN GD) y3.1.fCells)), (5, .var [.bs (LEN y3.2.gcode) 1 (row GD (encI .u8) y3.2.gcode), .v (.int .i64 y3.2.gat), .v (.int .i64 y3.2.gseed)])], fl := false, σ := [(5, 256)], τ := [(64000, 320), (5, 256)] }, hf_spec_l09DrawAny_mPb _ _ hy4, ⟨les_cons (lR _) (les_nil), ⟨rfl, trivial⟩, rfl, rfl, rfl, rfl, ⟨fun h => absurd (show (64000 : Nat) % 2 = 1 from h) (by decide), fun _ => rfl, trivial⟩, rfl⟩, _, rfl, _, _, rfl, fun _ _ _ _ => .refl _, ?_⟩
 cbv
 injection h with h
 subst h
 refine ⟨(sparse 6 [(2, .c (.ptr 128 0))] [(128, .var [.os 64000 0 (LEN y3.1.fCells)]), (64000, .arr .rw [] (LEN y3.1.fCells) 4 (row GD (oncCell LEN GD) y3.1.fCells))]), ?_, ?_⟩
 ·refine St.le_trans (le_ren 320 64000 (by decide) rfl) ?_
  exact le_sparse rfl ⟨lR _, trivial⟩ ⟨rfl, oS, trivial⟩ rfl
 ·exact ⟨lR _, ⟨oS, trivial⟩, rfl⟩

noncomputable def L_spec_IsName_x2 (a0 : ByteArray) : (Int) → Option ((Int) ⊕ ((Unit) ⊕ (Unit))) := fun x2 =>
 letO x2 fun v1 =>
 br (std.lt v1 (std.ofN (std.slen a0)))
 (((
    req (std.inR v1 (std.slen a0)) <|
    br (std.le 97 (std.sat a0 (std.toN v1)))
    (req (std.inR v1 (std.slen a0)) <|
    br (std.le (std.sat a0 (std.toN v1)) 122)
    (some false)
    (req (std.inR v1 (std.slen a0)) <|
    br (std.le 48 (std.sat a0 (std.toN v1)))
    (req (std.inR v1 (std.slen a0)) <|
    some (!(std.le (std.sat a0 (std.toN v1)) 57)))
    (some true)))
    (req (std.inR v1 (std.slen a0)) <|
    br (std.le 48 (std.sat a0 (std.toN v1)))
    (req (std.inR v1 (std.slen a0)) <|
    some (!(std.le (std.sat a0 (std.toN v1)) 57)))
    (some true))
  ) : Option (Bool)).bind fun y14 =>
 letO y14 fun w20 =>
 br w20
 (some (.inr (.inl ())))
 (some (.inl (std.add .i64 v1 1))))
 (some (.inr (.inr ())))
/-- spec.IsName -/
noncomputable def F_spec_IsName (a0 : ByteArray) : Option (Bool) :=
 (whileP (σ := Int) (ρ := (Unit) ⊕ (Unit)) (L_spec_IsName_x2 a0) 0).bind fun y3 =>
 (match y3 with
  | .inl y3k0 => (
    some false)
  | .inr y3m0 =>
    ((
       br (std.le 1 (std.ofN (std.slen a0)))
       (some (std.le (std.ofN (std.slen a0)) 8))
       (some false)
     ) : Option (Bool)).bind fun y33 =>
    letO y33 fun w39 =>
    some w39)
set_option maxHeartbeats 4000000 in
theorem run_spec_IsName (a0 : ByteArray) (r : Bool) (h : F_spec_IsName a0 = some r) : Fun Try.prog 150 [.c (.v (.string a0))] [] (.c (.v (.bool r))) [] true := by
 refine Fun.of_wp (oneOf [4, 6]) tok mixed Try.func150 (by kernel_rfl) rfl Try.ntmps150 rfl trivial (fun _ => ⟨trivial, trivial⟩) ?_
 unfold F_spec_IsName at h
 unfold L_spec_IsName_x2 at h
 generalize hLEN : @len = LEN at *
 generalize hGD : @gd = GD at *
 generalize hA : std = A at *
 generalize hP : Try.prog = P at *
 cbv
 replace h := of_bind h
 obtain ⟨y3, hr4, hN5⟩ := h
 refine loop_cut hr4 (fun x => (sparse 41 [(0, .c (.v (.string a0))), (3, .c (.v (.int .i64 x)))] [])) ?_ (fun y e s => (match y with | .inl w => e = .ret ∧ s.le (sparse 41 [(2, .c (.v (.bool false)))] []) | .inr w0 => (fun (w : Unit) => e = .exit 0 ∧ s.le (sparse 41 [(0, .c (.v (.string a0)))] [])) w0)) ?_ ?_
 ·clear hr4 hN5
  show St.le _ _
  exact le_sparse rfl ⟨lR _, lR _, trivial⟩ trivial rfl
 ·clear hr4 hN5
  intro x z9 h K7 hK8 hY6
  replace h := of_let h
  obtain ⟨v1, hv1, h⟩ := h
  have hv1 : v1 = x := hv1
  subst hv1
  cbv
  refine fork (fun b32 => ?_) (fun b32 => ?_)
  ·replace h := of_br_t b32 h
   cbv
   replace h := of_bind h
   obtain ⟨y14, hy15, h⟩ := h
   obtain ⟨S18, hS19⟩ : ∃ S, S = (sparse 41 [(0, .c (.v (.string a0))), (3, .c (.v (.int .i64 v1))), (32, .c (.v (.bool y14)))] []) := ⟨_, rfl⟩
   refine ⟨S18, ?_, ?_⟩
   ·clear h
    have h := hy15
    clear hy15
    cbv
    replace h := of_req h
    obtain ⟨c21, h⟩ := h
    refine ⟨c21, ?_⟩
    refine fork (fun b30 => ?_) (fun b30 => ?_)
    ·replace h := of_br_t b30 h
     cbv
     replace h := of_req h
     obtain ⟨c22, h⟩ := h
     refine ⟨c22, ?_⟩
     refine fork (fun b26 => ?_) (fun b26 => ?_)
     ·replace h := of_br_t b26 h
      cbv
      injection h with h
      subst h
      subst hS19
      show St.le _ _
      exact le_sparse rfl ⟨lR _, lR _, lR _, trivial⟩ trivial rfl
     ·replace h := of_br_f b26 h
      cbv
      replace h := of_req h
      obtain ⟨c23, h⟩ := h
      refine ⟨c23, ?_⟩
      refine fork (fun b25 => ?_) (fun b25 => ?_)
      ·replace h := of_br_t b25 h
       cbv
       replace h := of_req h
       obtain ⟨c24, h⟩ := h
       refine ⟨c24, ?_⟩
       injection h with h
       subst h
       subst hS19
       show St.le _ _
       exact le_sparse rfl ⟨lR _, lR _, lR _, trivial⟩ trivial rfl
      ·replace h := of_br_f b25 h
       cbv
       injection h with h
       subst h
       subst hS19
       show St.le _ _
       exact le_sparse rfl ⟨lR _, lR _, lR _, trivial⟩ trivial rfl
    ·replace h := of_br_f b30 h
     cbv
     replace h := of_req h
     obtain ⟨c27, h⟩ := h
     refine ⟨c27, ?_⟩
     refine fork (fun b29 => ?_) (fun b29 => ?_)
     ·replace h := of_br_t b29 h
      cbv
      replace h := of_req h
      obtain ⟨c28, h⟩ := h
      refine ⟨c28, ?_⟩
      injection h with h
      subst h
      subst hS19
      show St.le _ _
      exact le_sparse rfl ⟨lR _, lR _, lR _, trivial⟩ trivial rfl
     ·replace h := of_br_f b29 h
      cbv
      injection h with h
      subst h
      subst hS19
      show St.le _ _
      exact le_sparse rfl ⟨lR _, lR _, lR _, trivial⟩ trivial rfl
   ·clear hy15
    subst hS19
    replace h := of_let h
    obtain ⟨w20, hw20, h⟩ := h
    have hw20 : w20 = y14 := hw20
    subst hw20
    cbv
    refine fork (fun b31 => ?_) (fun b31 => ?_)
    ·replace h := of_br_t b31 h
     cbv
     injection h with h
     refine hY6 _ h.symm _ _ (And.intro rfl ?_) (by intro hh; cases hh)
     exact le_sparse rfl ⟨lR _, trivial⟩ trivial rfl
    ·replace h := of_br_f b31 h
     cbv
     injection h with h
     refine hK8 _ h.symm _ ?_
     exact le_sparse rfl ⟨lR _, lR _, trivial⟩ trivial rfl
  ·replace h := of_br_f b32 h
   cbv
   injection h with h
   refine hY6 _ h.symm _ _ (And.intro rfl ?_) (by intro hh; cases hh)
   exact le_sparse rfl ⟨lR _, trivial⟩ trivial rfl
 ·clear hr4
  have h := hN5
  clear hN5
  intro e12 s13 q11 hne
  rcases y3 with y3k0 | y3m0
  ·replace h := h
   obtain ⟨rfl, q11⟩ := q11
   cbv
   injection h with h
   subst h
   refine ⟨(sparse 41 [(2, .c (.v (.bool false)))] []), ?_, ?_⟩
   ·refine St.le_trans q11 ?_
    exact le_sparse rfl ⟨lR _, trivial⟩ trivial rfl
   ·exact ⟨lR _, trivial, rfl⟩
  ·obtain ⟨rfl, q11⟩ := q11
   cbv
   refine ⟨_, q11, ?_⟩
   cbv
   replace h := of_bind h
   obtain ⟨y33, hy34, h⟩ := h
   obtain ⟨S37, hS38⟩ : ∃ S, S = (sparse 41 [(2, .c (.v (.bool y33)))] []) := ⟨_, rfl⟩
   refine ⟨S37, ?_, ?_⟩
   ·clear h
    have h := hy34
    clear hy34
    cbv
    refine fork (fun b40 => ?_) (fun b40 => ?_)
    ·replace h := of_br_t b40 h
     cbv
     injection h with h
     subst h
     subst hS38
     show St.le _ _
     exact le_sparse rfl ⟨lR _, trivial⟩ trivial rfl
    ·replace h := of_br_f b40 h
     cbv
     injection h with h
     subst h
     subst hS38
     show St.le _ _
     exact le_sparse rfl ⟨lR _, trivial⟩ trivial rfl
   ·clear hy34
    subst hS38
    replace h := of_let h
    obtain ⟨w39, hw39, h⟩ := h
    have hw39 : w39 = y33 := hw39
    subst hw39
    cbv
    injection h with h
    subst h
    refine ⟨(sparse 41 [(2, .c (.v (.bool w39)))] []), ?_, ?_⟩
    ·exact le_sparse rfl ⟨lR _, trivial⟩ trivial rfl
    ·exact ⟨lR _, trivial, rfl⟩
end Go.Proofs.Ytlenieingkfjaaa.AM
