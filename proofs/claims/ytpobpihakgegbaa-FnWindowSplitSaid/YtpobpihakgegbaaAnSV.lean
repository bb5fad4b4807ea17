/-
  What the functions that the law reaches compute, and that they do. No condition.
-/
import Derived.Test.YtpobpihakgegbaaAnT
import Derived.Test.YtpobpihakgegbaaAnE
namespace Go.Proofs.Ytpobpihakgegbaa.AM
open Go Go.Proofs Go.RowKit
set_option linter.unusedVariables false
set_option linter.unusedSimpArgs false
set_option maxRecDepth 100000

theorem mixed : Try.prog.follows .mixedOrders = true := by kernel_rfl
theorem ow (J : List Nat) {f : FuncId} {fn : Func} {c : Code} {n : Nat} {rs : List ResultVar} {args : List AV} {r : AV} {o0 o1 : List (Nat × AO)} {fl : Bool} (hf : Try.prog.funcs[f]? = some fn) (hn : fn.ntmps = n) (h : wp std Try.prog T (oneOf J) c (startSt n args o0) (endsIn T rs r o1)) (hb : fn.body = some c := by rfl) (hs : fn.results.toList = rs := by rfl) (ha : (fn.name == "runtime.NumGoroutine") = false := by kernel_rfl) (hw : wfO o0 := by exact trivial) (hv : fl = true → r.flat ∧ flatO o1 := by exact fun _ => ⟨trivial, trivial⟩) : Fun Try.prog f args o0 r o1 fl := Fun.of_wp (oneOf J) tok mixed hf ha hb hn hs hw hv h
structure TRect where
 fX0 : Int
 fY0 : Int
 fX1 : Int
 fY1 : Int
instance : Inhabited TRect := ⟨⟨default, default, default, default⟩⟩
def encRect (x : TRect) : Nat → AC := fun j => match j with
 | 0 => .v (.int .i64 x.fX0)
 | 1 => .v (.int .i64 x.fY0)
 | 2 => .v (.int .i64 x.fX1)
 | _ => .v (.int .i64 x.fY1)
theorem pl_encRect : ∀ (x : TRect) (j : Nat), plainC (encRect x j) = true := by
 intro x j
 unfold encRect
 split <;> rfl
theorem vl_encRect : ∀ (x : TRect) (j : Nat), valC (encRect x j) = true := by
 intro x j
 unfold encRect
 split <;> rfl
structure TShape where
 fLayer : Int
 fBox : TRect
instance : Inhabited TShape := ⟨⟨default, default⟩⟩
def encShape (x : TShape) : Nat → AC := fun j => match j with
 | 0 => .v (.int .i64 x.fLayer)
 | 1 => .v (.int .i64 x.fBox.fX0)
 | 2 => .v (.int .i64 x.fBox.fY0)
 | 3 => .v (.int .i64 x.fBox.fX1)
 | _ => .v (.int .i64 x.fBox.fY1)
theorem pl_encShape : ∀ (x : TShape) (j : Nat), plainC (encShape x j) = true := by
 intro x j
 unfold encShape
 split <;> rfl
theorem vl_encShape : ∀ (x : TShape) (j : Nat), valC (encShape x j) = true := by
 intro x j
 unfold encShape
 split <;> rfl
structure TPoint where
 fX : Int
 fY : Int
instance : Inhabited TPoint := ⟨⟨default, default⟩⟩
def encPoint (x : TPoint) : Nat → AC := fun j => match j with
 | 0 => .v (.int .i64 x.fX)
 | _ => .v (.int .i64 x.fY)
theorem pl_encPoint : ∀ (x : TPoint) (j : Nat), plainC (encPoint x j) = true := by
 intro x j
 unfold encPoint
 split <;> rfl
theorem vl_encPoint : ∀ (x : TPoint) (j : Nat), valC (encPoint x j) = true := by
 intro x j
 unfold encPoint
 split <;> rfl
structure TLabel where
 fLayer : Int
 fAt : TPoint
 fName : ByteArray
instance : Inhabited TLabel := ⟨⟨default, default, default⟩⟩
def encLabel (x : TLabel) : Nat → AC := fun j => match j with
 | 0 => .v (.int .i64 x.fLayer)
 | 1 => .v (.int .i64 x.fAt.fX)
 | 2 => .v (.int .i64 x.fAt.fY)
 | _ => .v (.string x.fName)
theorem pl_encLabel : ∀ (x : TLabel) (j : Nat), plainC (encLabel x j) = true := by
 intro x j
 unfold encLabel
 split <;> rfl
theorem vl_encLabel : ∀ (x : TLabel) (j : Nat), valC (encLabel x j) = true := by
 intro x j
 unfold encLabel
 split <;> rfl
structure TTransform where
 fOrientation : Int
 fX : Int
 fY : Int
instance : Inhabited TTransform := ⟨⟨default, default, default⟩⟩
def encTransform (x : TTransform) : Nat → AC := fun j => match j with
 | 0 => .v (.int .i64 x.fOrientation)
 | 1 => .v (.int .i64 x.fX)
 | _ => .v (.int .i64 x.fY)
theorem pl_encTransform : ∀ (x : TTransform) (j : Nat), plainC (encTransform x j) = true := by
 intro x j
 unfold encTransform
 split <;> rfl
theorem vl_encTransform : ∀ (x : TTransform) (j : Nat), valC (encTransform x j) = true := by
 intro x j
 unfold encTransform
 split <;> rfl
structure TInstance where
 fCell : Int
 fPlace : TTransform
 fColumns : Int
 fRows : Int
 fStepX : Int
 fStepY : Int
instance : Inhabited TInstance := ⟨⟨default, default, default, default, default, default⟩⟩
def encInstance (x : TInstance) : Nat → AC := fun j => match j with
 | 0 => .v (.int .i64 x.fCell)
 | 1 => .v (.int .i64 x.fPlace.fOrientation)
 | 2 => .v (.int .i64 x.fPlace.fX)
 | 3 => .v (.int .i64 x.fPlace.fY)
 | 4 => .v (.int .i64 x.fColumns)
 | 5 => .v (.int .i64 x.fRows)
 | 6 => .v (.int .i64 x.fStepX)
 | _ => .v (.int .i64 x.fStepY)
theorem pl_encInstance : ∀ (x : TInstance) (j : Nat), plainC (encInstance x j) = true := by
 intro x j
 unfold encInstance
 split <;> rfl
theorem vl_encInstance : ∀ (x : TInstance) (j : Nat), valC (encInstance x j) = true := by
 intro x j
 unfold encInstance
 split <;> rfl
structure TCell where
 fName : ByteArray
 fShapes : List TShape
 fLabels : List TLabel
 fInstances : List TInstance
instance : Inhabited TCell := ⟨⟨default, default, default, default⟩⟩
def encCell (LEN : {α : Type} → List α → Nat) (GD : {α : Type} → [Inhabited α] → List α → Nat → α) (x : TCell) : Nat → AC := fun j => match j with
 | 0 => .v (.string x.fName)
 | 1 => .bs (LEN x.fShapes) 5 (row GD (encShape) x.fShapes)
 | 2 => .bs (LEN x.fLabels) 4 (row GD (encLabel) x.fLabels)
 | _ => .bs (LEN x.fInstances) 8 (row GD (encInstance) x.fInstances)
theorem pl_encCell {LEN : {α : Type} → List α → Nat} {GD : {α : Type} → [Inhabited α] → List α → Nat → α} : ∀ (x : TCell) (j : Nat), plainC (encCell LEN GD x j) = true := by
 intro x j
 unfold encCell
 split <;> rfl
def oncCell (LEN : {α : Type} → List α → Nat) (GD : {α : Type} → [Inhabited α] → List α → Nat → α) (x : TCell) : Nat → AC := fun j => match j with
 | 0 => .v (.string x.fName)
 | 1 => .ow (LEN x.fShapes) 5 (row GD (encShape) x.fShapes)
 | 2 => .ow (LEN x.fLabels) 4 (row GD (encLabel) x.fLabels)
 | _ => .ow (LEN x.fInstances) 8 (row GD (encInstance) x.fInstances)
theorem rf_oncCell {LEN : {α : Type} → List α → Nat} {GD : {α : Type} → [Inhabited α] → List α → Nat → α} : ∀ (x : TCell) (j : Nat), (oncCell LEN GD x j).ref = [] := by
 intro x j
 unfold oncCell
 split <;> rfl
theorem ln_oncCell {LEN : {α : Type} → List α → Nat} {GD : {α : Type} → [Inhabited α] → List α → Nat → α} : ∀ (x : TCell) (j : Nat), (oncCell LEN GD x j).lentIn = encCell LEN GD x j := by
 intro x j
 unfold oncCell encCell
 split <;> rfl
theorem fl_oncCell {LEN : {α : Type} → List α → Nat} {GD : {α : Type} → [Inhabited α] → List α → Nat → α} : ∀ (x : TCell) (j : Nat), (oncCell LEN GD x j).flat := by
 intro x j
 unfold oncCell
 split <;> first | trivial | (exact fun i _ j _ => val_v (vl_encShape _ _)) | (exact fun i _ j _ => val_v (vl_encLabel _ _)) | (exact fun i _ j _ => val_v (vl_encInstance _ _))
structure TLibrary where
 fCells : List TCell
instance : Inhabited TLibrary := ⟨⟨default⟩⟩
def encLibrary (LEN : {α : Type} → List α → Nat) (GD : {α : Type} → [Inhabited α] → List α → Nat → α) (x : TLibrary) : Nat → AC := fun j => match j with
 | _ => .bs (LEN x.fCells) 4 (row GD (encCell LEN GD) x.fCells)
theorem pl_encLibrary {LEN : {α : Type} → List α → Nat} {GD : {α : Type} → [Inhabited α] → List α → Nat → α} : ∀ (x : TLibrary) (j : Nat), plainC (encLibrary LEN GD x j) = true := by
 intro x j
 unfold encLibrary
 split <;> rfl
structure Tl01Source where
 gcode : List Int
 gat : Int
 gseed : Int
instance : Inhabited Tl01Source := ⟨⟨default, default, default⟩⟩
def encl01Source (LEN : {α : Type} → List α → Nat) (GD : {α : Type} → [Inhabited α] → List α → Nat → α) (x : Tl01Source) : Nat → AC := fun j => match j with
 | 0 => .bs (LEN x.gcode) 1 (row GD (encI .u8) x.gcode)
 | 1 => .v (.int .i64 x.gat)
 | _ => .v (.int .i64 x.gseed)
theorem pl_encl01Source {LEN : {α : Type} → List α → Nat} {GD : {α : Type} → [Inhabited α] → List α → Nat → α} : ∀ (x : Tl01Source) (j : Nat), plainC (encl01Source LEN GD x j) = true := by
 intro x j
 unfold encl01Source
 split <;> rfl
def oncl01Source (LEN : {α : Type} → List α → Nat) (GD : {α : Type} → [Inhabited α] → List α → Nat → α) (x : Tl01Source) : Nat → AC := fun j => match j with
 | 0 => .ow (LEN x.gcode) 1 (row GD (encI .u8) x.gcode)
 | 1 => .v (.int .i64 x.gat)
 | _ => .v (.int .i64 x.gseed)
theorem rf_oncl01Source {LEN : {α : Type} → List α → Nat} {GD : {α : Type} → [Inhabited α] → List α → Nat → α} : ∀ (x : Tl01Source) (j : Nat), (oncl01Source LEN GD x j).ref = [] := by
 intro x j
 unfold oncl01Source
 split <;> rfl
theorem ln_oncl01Source {LEN : {α : Type} → List α → Nat} {GD : {α : Type} → [Inhabited α] → List α → Nat → α} : ∀ (x : Tl01Source) (j : Nat), (oncl01Source LEN GD x j).lentIn = encl01Source LEN GD x j := by
 intro x j
 unfold oncl01Source encl01Source
 split <;> rfl
theorem fl_oncl01Source {LEN : {α : Type} → List α → Nat} {GD : {α : Type} → [Inhabited α] → List α → Nat → α} : ∀ (x : Tl01Source) (j : Nat), (oncl01Source LEN GD x j).flat := by
 intro x j
 unfold oncl01Source
 split <;> first | trivial | (exact fun i _ j _ => val_v (rfl))
structure TOccurrence where
 fCell : Int
 fPlace : TTransform
 fPath : List Int
instance : Inhabited TOccurrence := ⟨⟨default, default, default⟩⟩
def encOccurrence (LEN : {α : Type} → List α → Nat) (GD : {α : Type} → [Inhabited α] → List α → Nat → α) (x : TOccurrence) : Nat → AC := fun j => match j with
 | 0 => .v (.int .i64 x.fCell)
 | 1 => .v (.int .i64 x.fPlace.fOrientation)
 | 2 => .v (.int .i64 x.fPlace.fX)
 | 3 => .v (.int .i64 x.fPlace.fY)
 | _ => .bs (LEN x.fPath) 1 (row GD (encI .i64) x.fPath)
theorem pl_encOccurrence {LEN : {α : Type} → List α → Nat} {GD : {α : Type} → [Inhabited α] → List α → Nat → α} : ∀ (x : TOccurrence) (j : Nat), plainC (encOccurrence LEN GD x j) = true := by
 intro x j
 unfold encOccurrence
 split <;> rfl
def oncOccurrence (LEN : {α : Type} → List α → Nat) (GD : {α : Type} → [Inhabited α] → List α → Nat → α) (x : TOccurrence) : Nat → AC := fun j => match j with
 | 0 => .v (.int .i64 x.fCell)
 | 1 => .v (.int .i64 x.fPlace.fOrientation)
 | 2 => .v (.int .i64 x.fPlace.fX)
 | 3 => .v (.int .i64 x.fPlace.fY)
 | _ => .ow (LEN x.fPath) 1 (row GD (encI .i64) x.fPath)
theorem rf_oncOccurrence {LEN : {α : Type} → List α → Nat} {GD : {α : Type} → [Inhabited α] → List α → Nat → α} : ∀ (x : TOccurrence) (j : Nat), (oncOccurrence LEN GD x j).ref = [] := by
 intro x j
 unfold oncOccurrence
 split <;> rfl
theorem ln_oncOccurrence {LEN : {α : Type} → List α → Nat} {GD : {α : Type} → [Inhabited α] → List α → Nat → α} : ∀ (x : TOccurrence) (j : Nat), (oncOccurrence LEN GD x j).lentIn = encOccurrence LEN GD x j := by
 intro x j
 unfold oncOccurrence encOccurrence
 split <;> rfl
theorem fl_oncOccurrence {LEN : {α : Type} → List α → Nat} {GD : {α : Type} → [Inhabited α] → List α → Nat → α} : ∀ (x : TOccurrence) (j : Nat), (oncOccurrence LEN GD x j).flat := by
 intro x j
 unfold oncOccurrence
 split <;> first | trivial | (exact fun i _ j _ => val_v (rfl))
structure Telement where
 gcell : Int
 gplace : TTransform
instance : Inhabited Telement := ⟨⟨default, default⟩⟩
def encelement (x : Telement) : Nat → AC := fun j => match j with
 | 0 => .v (.int .i64 x.gcell)
 | 1 => .v (.int .i64 x.gplace.fOrientation)
 | 2 => .v (.int .i64 x.gplace.fX)
 | _ => .v (.int .i64 x.gplace.fY)
theorem pl_encelement : ∀ (x : Telement) (j : Nat), plainC (encelement x j) = true := by
 intro x j
 unfold encelement
 split <;> rfl
theorem vl_encelement : ∀ (x : Telement) (j : Nat), valC (encelement x j) = true := by
 intro x j
 unfold encelement
 split <;> rfl
structure TWindowHit where
 fCell : Int
 fShape : Int
 fLayer : Int
 fBox : TRect
 fPath : List Int
instance : Inhabited TWindowHit := ⟨⟨default, default, default, default, default⟩⟩
def encWindowHit (LEN : {α : Type} → List α → Nat) (GD : {α : Type} → [Inhabited α] → List α → Nat → α) (x : TWindowHit) : Nat → AC := fun j => match j with
 | 0 => .v (.int .i64 x.fCell)
 | 1 => .v (.int .i64 x.fShape)
 | 2 => .v (.int .i64 x.fLayer)
 | 3 => .v (.int .i64 x.fBox.fX0)
 | 4 => .v (.int .i64 x.fBox.fY0)
 | 5 => .v (.int .i64 x.fBox.fX1)
 | 6 => .v (.int .i64 x.fBox.fY1)
 | _ => .bs (LEN x.fPath) 1 (row GD (encI .i64) x.fPath)
theorem pl_encWindowHit {LEN : {α : Type} → List α → Nat} {GD : {α : Type} → [Inhabited α] → List α → Nat → α} : ∀ (x : TWindowHit) (j : Nat), plainC (encWindowHit LEN GD x j) = true := by
 intro x j
 unfold encWindowHit
 split <;> rfl
def oncWindowHit (LEN : {α : Type} → List α → Nat) (GD : {α : Type} → [Inhabited α] → List α → Nat → α) (x : TWindowHit) : Nat → AC := fun j => match j with
 | 0 => .v (.int .i64 x.fCell)
 | 1 => .v (.int .i64 x.fShape)
 | 2 => .v (.int .i64 x.fLayer)
 | 3 => .v (.int .i64 x.fBox.fX0)
 | 4 => .v (.int .i64 x.fBox.fY0)
 | 5 => .v (.int .i64 x.fBox.fX1)
 | 6 => .v (.int .i64 x.fBox.fY1)
 | _ => .ow (LEN x.fPath) 1 (row GD (encI .i64) x.fPath)
theorem rf_oncWindowHit {LEN : {α : Type} → List α → Nat} {GD : {α : Type} → [Inhabited α] → List α → Nat → α} : ∀ (x : TWindowHit) (j : Nat), (oncWindowHit LEN GD x j).ref = [] := by
 intro x j
 unfold oncWindowHit
 split <;> rfl
theorem ln_oncWindowHit {LEN : {α : Type} → List α → Nat} {GD : {α : Type} → [Inhabited α] → List α → Nat → α} : ∀ (x : TWindowHit) (j : Nat), (oncWindowHit LEN GD x j).lentIn = encWindowHit LEN GD x j := by
 intro x j
 unfold oncWindowHit encWindowHit
 split <;> rfl
theorem fl_oncWindowHit {LEN : {α : Type} → List α → Nat} {GD : {α : Type} → [Inhabited α] → List α → Nat → α} : ∀ (x : TWindowHit) (j : Nat), (oncWindowHit LEN GD x j).flat := by
 intro x j
 unfold oncWindowHit
 split <;> first | trivial | (exact fun i _ j _ => val_v (rfl))
/-- laws.big -/
noncomputable def F_laws_big (a0 : List Int) : Option (Bool) :=
 some (std.lt 4096 (std.ofN (len a0)))
set_option maxHeartbeats 4000000 in
theorem run_laws_big (a0 : List Int) (r : Bool) (h : F_laws_big a0 = some r) : Fun Try.prog 5 [.c (.bs (len a0) 1 (row gd (encI .u8) a0))] [] (.c (.v (.bool r))) [] true := by
 refine ow [] Try.func5 Try.ntmps5 ?_; unfold F_laws_big at h; generalize hLEN : @len = LEN, hGD : @gd = GD, hA : std = A, hP : Try.prog = P at *; cbv; exact df

noncomputable def L_spec_l01From_x3 (a0 : List Int) : (Int × Int) → Option ((Int × Int) ⊕ ((Int))) := fun x3 =>
 letO x3.1 fun v1 =>
 letO x3.2 fun v2 =>
 ((
    br (std.lt v1 (std.ofN (len a0)))
    (some (std.lt v1 64))
    (some false)
  ) : Option (Bool)).bind fun y15 =>
 letO y15 fun w21 =>
 br w21
 (req (std.inR v1 (len a0)) <|
 req (std.nz 2147483647) <|
 some (.inl (std.add .i64 v1 1, std.rem (std.add .i64 (std.mul .i64 v2 31) (std.conv .i64 (gd a0 (std.toN v1)))) 2147483647)))
 (some (.inr v2))
/-- spec.l01From -/
noncomputable def F_spec_l01From (a0 : List Int) : Option (Tl01Source) :=
 (whileP (σ := Int × Int) (ρ := (Int)) (L_spec_l01From_x3 a0) (0, 12345)).bind fun y4 =>
 letO y4 fun y4k0 =>
 letO y4k0 fun w26 =>
 some (Tl01Source.mk a0 0 w26)
set_option maxHeartbeats 4000000 in
theorem run_spec_l01From (a0 : List Int) (r : Tl01Source) (h : F_spec_l01From a0 = some r) : Fun Try.prog 34 [.c (.bs (len a0) 1 (row gd (encI .u8) a0))] [] (.c (.ptr 64000 0)) [(64000, .var [.bs (len r.gcode) 1 (row gd (encI .u8) r.gcode), .v (.int .i64 r.gat), .v (.int .i64 r.gseed)])] false := by
 refine ow [3] Try.func34 Try.ntmps34 ?_ (hv := (fun h => by cases h)); unfold F_spec_l01From at h; unfold L_spec_l01From_x3 at h; generalize hLEN : @len = LEN, hGD : @gd = GD, hA : std = A, hP : Try.prog = P at *; cbv
 revert h; refine ln (.exit 0) (fun x => (sparse 34 [(0, .c (.bs (LEN a0) 1 (row GD (encI .u8) a0))), (3, .c (.ptr 448 0)), (4, .c (.v (.int .i64 x.1)))] [(448, .var [.bs (LEN a0) 1 (row GD (encI .u8) a0), .v (.int .i64 0), .v (.int .i64 x.2)])])) (fun w => (sparse 34 [(3, .c (.ptr 448 0))] [(448, .var [.bs (LEN a0) 1 (row GD (encI .u8) a0), .v (.int .i64 0), .v (.int .i64 w)])])) zb ?_ ?_
 ·rintro ⟨v1, v2⟩ z h K hK hY; replace h := oz (oz h); dsimp only at h; cbv; revert h; refine cu (fun y15 => (sparse 34 [(0, .c (.bs (LEN a0) 1 (row GD (encI .u8) a0))), (3, .c (.ptr 448 0)), (4, .c (.v (.int .i64 v1))), (15, .c (.v (.bool y15)))] [(448, .var [.bs (LEN a0) 1 (row GD (encI .u8) a0), .v (.int .i64 0), .v (.int .i64 v2)])])) (fun y15 S hS h => rg) fun w21 => rz fun h => ?_; cbv
  revert h; refine fk ?_ ?_ <;> intro h <;> cbv
  ·revert h; refine ra fun c23 h => ?_; revert h; refine ra fun c24 h => ?_; exact dm
  exact dx
 intro w26 h s q12; replace h := oz (oz h); cbv; refine ⟨_, q12, ?_⟩; cbv; injection h with h; subst h; exact ⟨_, le_ren 448 64000 (by decide) rfl, lR _, zo, rfl⟩

/-- spec.l01Next -/
noncomputable def F_spec_l01Next_mPbb (a0 : Tl01Source) (a1 : Int) : Option (Int × Tl01Source) :=
 br (std.le a1 1)
 (some ((0 : Int), a0))
 (br (std.lt a0.gat (std.ofN (len a0.gcode)))
 (req (std.inR a0.gat (len a0.gcode)) <|
 br (std.lt 256 a1)
 (req (std.nz 2147483647) <|
 req (std.nz a1) <|
 some (std.rem (std.rem (std.add .i64 (std.add .i64 (std.mul .i64 a0.gseed 48271) (std.conv .i64 (gd a0.gcode (std.toN a0.gat)))) 1) 2147483647) a1, (Tl01Source.mk a0.gcode (std.add .i64 a0.gat 1) (std.rem (std.add .i64 (std.add .i64 (std.mul .i64 a0.gseed 48271) (std.conv .i64 (gd a0.gcode (std.toN a0.gat)))) 1) 2147483647))))
 (req (std.nz a1) <|
 some (std.rem (std.conv .i64 (gd a0.gcode (std.toN a0.gat))) a1, (Tl01Source.mk a0.gcode (std.add .i64 a0.gat 1) a0.gseed))))
 (req (std.nz 2147483647) <|
 req (std.nz 7) <|
 req (std.nz a1) <|
 some (std.rem (std.quo .i64 (std.rem (std.add .i64 (std.mul .i64 a0.gseed 48271) 11) 2147483647) 7) a1, (Tl01Source.mk a0.gcode a0.gat (std.rem (std.add .i64 (std.mul .i64 a0.gseed 48271) 11) 2147483647)))))
set_option maxHeartbeats 4000000 in
theorem run_spec_l01Next_mPbb (a0 : Tl01Source) (a1 : Int) (r : Int × Tl01Source) (h : F_spec_l01Next_mPbb a0 a1 = some r) : Fun Try.prog 51 [.c (.ptr 5 0), .c (.v (.int .i64 a1))] [(5, .var [.bs (len a0.gcode) 1 (row gd (encI .u8) a0.gcode), .v (.int .i64 a0.gat), .v (.int .i64 a0.gseed)])] (.c (.v (.int .i64 r.1))) [(5, .var [.bs (len r.2.gcode) 1 (row gd (encI .u8) r.2.gcode), .v (.int .i64 r.2.gat), .v (.int .i64 r.2.gseed)])] false := by
 refine ow [] Try.func51 Try.ntmps51 ?_ (hv := (fun h => by cases h)); unfold F_spec_l01Next_mPbb at h; generalize hLEN : @len = LEN, hGD : @gd = GD, hA : std = A, hP : Try.prog = P at *; cbv; revert h; refine fk ?_ ?_ <;> intro h <;> cbv
 ·exact df
 revert h; refine fk ?_ ?_ <;> intro h <;> cbv
 ·revert h; refine ra fun c1 h => ?_; revert h; refine fk ?_ ?_ <;> intro h <;> cbv
  ·revert h; refine ra fun c2 h => ?_; revert h; refine ra fun c3 h => ?_; exact df
  revert h; refine ra fun c4 h => ?_; exact df
 revert h; refine ra fun c6 h => ?_; revert h; refine ra fun c7 h => ?_; revert h; refine ra fun c8 h => ?_; exact df

/-- spec.l09DrawBox -/
noncomputable def F_spec_l09DrawBox_mPb (a0 : Tl01Source) : Option (TRect × Tl01Source) :=
 (F_spec_l01Next_mPbb a0 16).bind fun y1 =>
 (F_spec_l01Next_mPbb y1.2 16).bind fun y3 =>
 (F_spec_l01Next_mPbb y3.2 6).bind fun y5 =>
 (F_spec_l01Next_mPbb y5.2 6).bind fun y7 =>
 some ((TRect.mk (std.sub .i64 y1.1 8) (std.sub .i64 y3.1 8) (std.add .i64 (std.add .i64 (std.sub .i64 y1.1 8) 1) y5.1) (std.add .i64 (std.add .i64 (std.sub .i64 y3.1 8) 1) y7.1)), y7.2)
set_option maxHeartbeats 4000000 in
theorem run_spec_l09DrawBox_mPb (a0 : Tl01Source) (r : TRect × Tl01Source) (h : F_spec_l09DrawBox_mPb a0 = some r) : Fun Try.prog 100 [.c (.ptr 5 0)] [(5, .var [.bs (len a0.gcode) 1 (row gd (encI .u8) a0.gcode), .v (.int .i64 a0.gat), .v (.int .i64 a0.gseed)])] (.agg [.v (.int .i64 r.1.fX0), .v (.int .i64 r.1.fY0), .v (.int .i64 r.1.fX1), .v (.int .i64 r.1.fY1)]) [(5, .var [.bs (len r.2.gcode) 1 (row gd (encI .u8) r.2.gcode), .v (.int .i64 r.2.gat), .v (.int .i64 r.2.gseed)])] false := by
 refine ow [] Try.func100 Try.ntmps100 ?_ (hv := (fun h => by cases h)); unfold F_spec_l09DrawBox_mPb at h; have hf_spec_l01Next_mPbb := @run_spec_l01Next_mPbb; generalize hLEN : @len = LEN, hGD : @gd = GD, hA : std = A, hP : Try.prog = P at *; cbv; revert h; refine rk [(5, 5)] [(5, 5)] (hf_spec_l01Next_mPbb _ _) (fun _ => yf) fun y1 h => ?_; cbv
 revert h; refine rk [(5, 5)] [(5, 5)] (hf_spec_l01Next_mPbb _ _) (fun _ => yf) fun y3 h => ?_; cbv; revert h; refine rk [(5, 5)] [(5, 5)] (hf_spec_l01Next_mPbb _ _) (fun _ => yf) fun y5 h => ?_; cbv; revert h; refine rk [(5, 5)] [(5, 5)] (hf_spec_l01Next_mPbb _ _) (fun _ => yf) fun y7 h => ?_; cbv; exact df

/-- spec.l09DrawShape -/
noncomputable def F_spec_l09DrawShape_mPb (a0 : Tl01Source) : Option (TShape × Tl01Source) :=
 (F_spec_l01Next_mPbb a0 8).bind fun y1 =>
 (F_spec_l09DrawBox_mPb y1.2).bind fun y3 =>
 some ((TShape.mk y1.1 y3.1), y3.2)
set_option maxHeartbeats 4000000 in
theorem run_spec_l09DrawShape_mPb (a0 : Tl01Source) (r : TShape × Tl01Source) (h : F_spec_l09DrawShape_mPb a0 = some r) : Fun Try.prog 71 [.c (.ptr 5 0)] [(5, .var [.bs (len a0.gcode) 1 (row gd (encI .u8) a0.gcode), .v (.int .i64 a0.gat), .v (.int .i64 a0.gseed)])] (.agg [.v (.int .i64 r.1.fLayer), .v (.int .i64 r.1.fBox.fX0), .v (.int .i64 r.1.fBox.fY0), .v (.int .i64 r.1.fBox.fX1), .v (.int .i64 r.1.fBox.fY1)]) [(5, .var [.bs (len r.2.gcode) 1 (row gd (encI .u8) r.2.gcode), .v (.int .i64 r.2.gat), .v (.int .i64 r.2.gseed)])] false := by
 refine ow [] Try.func71 Try.ntmps71 ?_ (hv := (fun h => by cases h)); unfold F_spec_l09DrawShape_mPb at h; have hf_spec_l01Next_mPbb := @run_spec_l01Next_mPbb; have hf_spec_l09DrawBox_mPb := @run_spec_l09DrawBox_mPb; generalize hLEN : @len = LEN, hGD : @gd = GD, hA : std = A, hP : Try.prog = P at *; cbv; revert h; refine rk [(5, 5)] [(5, 5)] (hf_spec_l01Next_mPbb _ _) (fun _ => yf) fun y1 h => ?_
 cbv; revert h; refine rk [(5, 5)] [(5, 5)] (hf_spec_l09DrawBox_mPb _) (fun _ => yf) fun y3 h => ?_; cbv; exact df

/-- spec.l09DrawInstance -/
noncomputable def F_spec_l09DrawInstance_mPbb (a0 : Tl01Source) (a1 : Int) : Option (TInstance × Tl01Source) :=
 (F_spec_l01Next_mPbb a0 a1).bind fun y1 =>
 (F_spec_l01Next_mPbb y1.2 8).bind fun y3 =>
 (F_spec_l01Next_mPbb y3.2 24).bind fun y5 =>
 (F_spec_l01Next_mPbb y5.2 24).bind fun y7 =>
 (F_spec_l01Next_mPbb y7.2 3).bind fun y9 =>
 ((
    br (std.eq y9.1 0)
    ((F_spec_l01Next_mPbb y9.2 2).bind fun y22 =>
    (F_spec_l01Next_mPbb y22.2 15).bind fun y24 =>
    some (y24.2.gcode, y24.2.gat, y24.2.gseed, std.add .i64 2 y22.1, std.sub .i64 y24.1 7))
    (some (y9.2.gcode, y9.2.gat, y9.2.gseed, 1, 0))
  ) : Option ((List Int) × Int × Int × Int × Int)).bind fun y11 =>
 letO y11.1 fun w17 =>
 letO y11.2.1 fun w18 =>
 letO y11.2.2.1 fun w19 =>
 letO y11.2.2.2.1 fun w20 =>
 letO y11.2.2.2.2 fun w21 =>
 (F_spec_l01Next_mPbb (Tl01Source.mk w17 w18 w19) 4).bind fun y27 =>
 ((
    br (std.eq y27.1 0)
    ((F_spec_l01Next_mPbb y27.2 15).bind fun y40 =>
    some (y40.2.gcode, y40.2.gat, y40.2.gseed, 2, std.sub .i64 y40.1 7))
    (some (y27.2.gcode, y27.2.gat, y27.2.gseed, 1, 0))
  ) : Option ((List Int) × Int × Int × Int × Int)).bind fun y29 =>
 letO y29.1 fun w35 =>
 letO y29.2.1 fun w36 =>
 letO y29.2.2.1 fun w37 =>
 letO y29.2.2.2.1 fun w38 =>
 letO y29.2.2.2.2 fun w39 =>
 (F_spec_l01Next_mPbb (Tl01Source.mk w35 w36 w37) 24).bind fun y43 =>
 ((
    br (std.eq y43.1 0)
    (some (std.mul .i64 (std.sub .i64 y5.1 12) 6))
    (some (std.sub .i64 y5.1 12))
  ) : Option (Int)).bind fun y45 =>
 letO y45 fun w51 =>
 some ((TInstance.mk y1.1 (TTransform.mk y3.1 w51 (std.sub .i64 y7.1 12)) w20 w38 w21 w39), y43.2)
set_option maxHeartbeats 4000000 in
theorem run_spec_l09DrawInstance_mPbb (a0 : Tl01Source) (a1 : Int) (r : TInstance × Tl01Source) (h : F_spec_l09DrawInstance_mPbb a0 a1 = some r) : Fun Try.prog 72 [.c (.ptr 5 0), .c (.v (.int .i64 a1))] [(5, .var [.bs (len a0.gcode) 1 (row gd (encI .u8) a0.gcode), .v (.int .i64 a0.gat), .v (.int .i64 a0.gseed)])] (.agg [.v (.int .i64 r.1.fCell), .v (.int .i64 r.1.fPlace.fOrientation), .v (.int .i64 r.1.fPlace.fX), .v (.int .i64 r.1.fPlace.fY), .v (.int .i64 r.1.fColumns), .v (.int .i64 r.1.fRows), .v (.int .i64 r.1.fStepX), .v (.int .i64 r.1.fStepY)]) [(5, .var [.bs (len r.2.gcode) 1 (row gd (encI .u8) r.2.gcode), .v (.int .i64 r.2.gat), .v (.int .i64 r.2.gseed)])] false := by
 refine ow [100021, 100032, 100040] Try.func72 Try.ntmps72 ?_ (hv := (fun h => by cases h)); unfold F_spec_l09DrawInstance_mPbb at h; have hf_spec_l01Next_mPbb := @run_spec_l01Next_mPbb; generalize hLEN : @len = LEN, hGD : @gd = GD, hA : std = A, hP : Try.prog = P at *; cbv; revert h; refine rk [(5, 5)] [(5, 5)] (hf_spec_l01Next_mPbb _ _) (fun _ => yf) fun y1 h => ?_; cbv
 revert h; refine rk [(5, 5)] [(5, 5)] (hf_spec_l01Next_mPbb _ _) (fun _ => yf) fun y3 h => ?_; cbv; revert h; refine rk [(5, 5)] [(5, 5)] (hf_spec_l01Next_mPbb _ _) (fun _ => yf) fun y5 h => ?_; cbv; revert h; refine rk [(5, 5)] [(5, 5)] (hf_spec_l01Next_mPbb _ _) (fun _ => yf) fun y7 h => ?_; cbv; revert h; refine rk [(5, 5)] [(5, 5)] (hf_spec_l01Next_mPbb _ _) (fun _ => yf) fun y9 h => ?_; cbv
 revert h; refine cu (fun y11 => some (sparse 48 [(0, .c (.ptr 5 0)), (4, .c (.ptr 256 0)), (5, .c (.ptr 320 0))] [(5, .var [.bs (LEN y11.1) 1 (row GD (encI .u8) y11.1), .v (.int .i64 y11.2.1), .v (.int .i64 y11.2.2.1)]), (256, .var [.v (.int .i64 0), .v (.int .i64 0), .v (.int .i64 0), .v (.int .i64 0), .v (.int .i64 0), .v (.int .i64 0), .v (.int .i64 0), .v (.int .i64 0)]), (320, .var [.v (.int .i64 y1.1), .v (.int .i64 y3.1), .v (.int .i64 (A.sub .i64 y5.1 12)), .v (.int .i64 (A.sub .i64 y7.1 12)), .v (.int .i64 y11.2.2.2.1), .v (.int .i64 1), .v (.int .i64 y11.2.2.2.2), .v (.int .i64 0)])])) ?_ ?_
 ·intro y11 S hS h; cbv; revert h; refine fk ?_ ?_ <;> intro h <;> cbv
  ·revert h; refine rk [(5, 5)] [(5, 5)] (hf_spec_l01Next_mPbb _ _) (fun _ => yf) fun y22 h => ?_; cbv; revert h; refine rk [(5, 5)] [(5, 5)] (hf_spec_l01Next_mPbb _ _) (fun _ => yf) fun y24 h => ?_; cbv; exact dn
  exact dn
 rintro ⟨w17, w18, w19, w20, w21⟩ h; replace h := oz (oz (oz (oz (oz h)))); dsimp only at h; cbv; revert h; refine rk [(5, 5)] [(5, 5)] (hf_spec_l01Next_mPbb _ _) (fun _ => yf) fun y27 h => ?_; cbv
 revert h; refine cu (fun y29 => some (sparse 48 [(0, .c (.ptr 5 0)), (4, .c (.ptr 256 0)), (5, .c (.ptr 320 0))] [(5, .var [.bs (LEN y29.1) 1 (row GD (encI .u8) y29.1), .v (.int .i64 y29.2.1), .v (.int .i64 y29.2.2.1)]), (256, .var [.v (.int .i64 0), .v (.int .i64 0), .v (.int .i64 0), .v (.int .i64 0), .v (.int .i64 0), .v (.int .i64 0), .v (.int .i64 0), .v (.int .i64 0)]), (320, .var [.v (.int .i64 y1.1), .v (.int .i64 y3.1), .v (.int .i64 (A.sub .i64 y5.1 12)), .v (.int .i64 (A.sub .i64 y7.1 12)), .v (.int .i64 w20), .v (.int .i64 y29.2.2.2.1), .v (.int .i64 w21), .v (.int .i64 y29.2.2.2.2)])])) ?_ ?_
 ·intro y29 S hS h; cbv; revert h; refine fk ?_ ?_ <;> intro h <;> cbv
  ·revert h; refine rk [(5, 5)] [(5, 5)] (hf_spec_l01Next_mPbb _ _) (fun _ => yf) fun y40 h => ?_; cbv; exact dn
  exact dn
 rintro ⟨w35, w36, w37, w38, w39⟩ h; replace h := oz (oz (oz (oz (oz h)))); dsimp only at h; cbv; revert h; refine rk [(5, 5)] [(5, 5)] (hf_spec_l01Next_mPbb _ _) (fun _ => yf) fun y43 h => ?_; cbv
 revert h; refine cu (fun y45 => some (sparse 48 [(4, .c (.ptr 256 0)), (5, .c (.ptr 320 0))] [(256, .var [.v (.int .i64 0), .v (.int .i64 0), .v (.int .i64 0), .v (.int .i64 0), .v (.int .i64 0), .v (.int .i64 0), .v (.int .i64 0), .v (.int .i64 0)]), (320, .var [.v (.int .i64 y1.1), .v (.int .i64 y3.1), .v (.int .i64 y45), .v (.int .i64 (A.sub .i64 y7.1 12)), .v (.int .i64 w20), .v (.int .i64 w38), .v (.int .i64 w21), .v (.int .i64 w39)]), (5, .var [.bs (LEN y43.2.gcode) 1 (row GD (encI .u8) y43.2.gcode), .v (.int .i64 y43.2.gat), .v (.int .i64 y43.2.gseed)])])) (fun y45 S hS h => rg) fun w51 => rz fun h => ?_
 cbv; exact df
noncomputable def L_spec_l10DrawDeep_mPb_x31 (v1 : Int) : (Int × (List Int) × Int × Int × (List TInstance)) → Option ((Int × (List Int) × Int × Int × (List TInstance)) ⊕ (((List Int) × Int × Int × (List TInstance)))) := fun x31 =>
 letO x31.1 fun v26 =>
 letO x31.2.1 fun v27 =>
 letO x31.2.2.1 fun v28 =>
 letO x31.2.2.2.1 fun v29 =>
 letO x31.2.2.2.2 fun v30 =>
 ((
    br (std.lt 0 v26)
    (some (std.lt 0 v1))
    (some false)
  ) : Option (Bool)).bind fun y43 =>
 letO y43 fun w49 =>
 br w49
 ((F_spec_l09DrawInstance_mPbb (Tl01Source.mk v27 v28 v29) v1).bind fun y51 =>
 (F_spec_l01Next_mPbb y51.2 10).bind fun y53 =>
 (F_spec_l01Next_mPbb y53.2 10).bind fun y55 =>
 (F_spec_l01Next_mPbb y55.2 2).bind fun y57 =>
 ((
    br (std.eq y57.1 0)
    ((F_spec_l01Next_mPbb y57.2 3).bind fun y70 =>
    (F_spec_l01Next_mPbb y70.2 7).bind fun y72 =>
    some (y72.2.gcode, y72.2.gat, y72.2.gseed, std.add .i64 2 y70.1, std.sub .i64 y72.1 3))
    (some (y57.2.gcode, y57.2.gat, y57.2.gseed, y51.1.fColumns, y51.1.fStepX))
  ) : Option ((List Int) × Int × Int × Int × Int)).bind fun y59 =>
 letO y59.1 fun w65 =>
 letO y59.2.1 fun w66 =>
 letO y59.2.2.1 fun w67 =>
 letO y59.2.2.2.1 fun w68 =>
 letO y59.2.2.2.2 fun w69 =>
 letO ([(TInstance.mk (std.sub .i64 v1 1) (TTransform.mk y51.1.fPlace.fOrientation (std.sub .i64 y53.1 5) (std.sub .i64 y55.1 5)) w68 y51.1.fRows w69 y51.1.fStepY)] : List TInstance) fun l75 =>
 req (std.room (std.nadd (len v30) (len l75)) 64) <|
 letO (v30 ++ l75) fun l77 =>
 some (.inl (std.sub .i64 v26 1, w65, w66, w67, l77)))
 (some (.inr (v27, v28, v29, v30)))
noncomputable def L_spec_l10DrawDeep_mPb_x6  : (Int × (List Int) × Int × Int × (List TCell)) → Option ((Int × (List Int) × Int × Int × (List TCell)) ⊕ (((List Int) × Int × Int × (List TCell)))) := fun x6 =>
 letO x6.1 fun v1 =>
 letO x6.2.1 fun v2 =>
 letO x6.2.2.1 fun v3 =>
 letO x6.2.2.2.1 fun v4 =>
 letO x6.2.2.2.2 fun v5 =>
 br (std.lt v1 4)
 (letO ([std.conv .u8 (std.add .i64 112 v1)] : List Int) fun l18 =>
 (F_spec_l09DrawShape_mPb (Tl01Source.mk v2 v3 v4)).bind fun y20 =>
 letO ([y20.1] : List TShape) fun l22 =>
 (F_spec_l01Next_mPbb y20.2 2).bind fun y24 =>
 (whileP (σ := Int × (List Int) × Int × Int × (List TInstance)) (ρ := ((List Int) × Int × Int × (List TInstance))) (L_spec_l10DrawDeep_mPb_x31 v1) (std.add .i64 1 y24.1, y24.2.gcode, y24.2.gat, y24.2.gseed, ([] : List TInstance))).bind fun y32 =>
 letO y32 fun y32k0 =>
 letO y32k0.1 fun w81 =>
 letO y32k0.2.1 fun w82 =>
 letO y32k0.2.2.1 fun w83 =>
 letO y32k0.2.2.2 fun w84 =>
 ((
    letO ([(TCell.mk (std.ofBytes (len l18) (fun i => gd l18 (0 + i))) l22 ([] : List TLabel) w84)] : List TCell) fun l92 =>
    req (std.room (std.nadd (len v5) (len l92)) 88) <|
    letO (v5 ++ l92) fun l94 =>
    some l94
  ) : Option ((List TCell))).bind fun y85 =>
 letO y85 fun w91 =>
 some (.inl (std.add .i64 v1 1, w81, w82, w83, w91)))
 (some (.inr (v2, v3, v4, v5)))
/-- spec.l10DrawDeep -/
noncomputable def F_spec_l10DrawDeep_mPb (a0 : Tl01Source) : Option (TLibrary × Tl01Source) :=
 (whileP (σ := Int × (List Int) × Int × Int × (List TCell)) (ρ := ((List Int) × Int × Int × (List TCell))) L_spec_l10DrawDeep_mPb_x6 (0, a0.gcode, a0.gat, a0.gseed, ([] : List TCell))).bind fun y7 =>
 letO y7 fun y7k0 =>
 letO y7k0.1 fun w98 =>
 letO y7k0.2.1 fun w99 =>
 letO y7k0.2.2.1 fun w100 =>
 letO y7k0.2.2.2 fun w101 =>
 some ((TLibrary.mk w101), (Tl01Source.mk w98 w99 w100))
set_option maxHeartbeats 4000000 in
theorem run_spec_l10DrawDeep_mPb (a0 : Tl01Source) (r : TLibrary × Tl01Source) (h : F_spec_l10DrawDeep_mPb a0 = some r) : Fun Try.prog 52 [.c (.ptr 5 0)] [(5, .var [.bs (len a0.gcode) 1 (row gd (encI .u8) a0.gcode), .v (.int .i64 a0.gat), .v (.int .i64 a0.gseed)])] (.agg [.os 64000 0 (len r.1.fCells)]) [(64000, .arr .rw [] (len r.1.fCells) 4 (row gd (oncCell len gd) r.1.fCells)), (5, .var [.bs (len r.2.gcode) 1 (row gd (encI .u8) r.2.gcode), .v (.int .i64 r.2.gat), .v (.int .i64 r.2.gseed)])] false := by
 refine ow [7, 17, 100051] Try.func52 Try.ntmps52 ?_ (hv := (fun h => by cases h)); unfold F_spec_l10DrawDeep_mPb at h; unfold L_spec_l10DrawDeep_mPb_x6 at h; unfold L_spec_l10DrawDeep_mPb_x31 at h; have hf_spec_l01Next_mPbb := @run_spec_l01Next_mPbb; have hf_spec_l09DrawInstance_mPbb := @run_spec_l09DrawInstance_mPbb; have hf_spec_l09DrawShape_mPb := @run_spec_l09DrawShape_mPb
 generalize hLEN : @len = LEN, hGD : @gd = GD, hA : std = A, hP : Try.prog = P at *; cbv
 revert h; refine ln (.exit 0) (fun x => (sparse 73 [(0, .c (.ptr 5 0)), (2, .c (.ptr 128 0)), (3, .c (.ptr 192 0)), (4, .c (.v (.int .i64 x.1)))] [(5, .var [.bs (LEN x.2.1) 1 (row GD (encI .u8) x.2.1), .v (.int .i64 x.2.2.1), .v (.int .i64 x.2.2.2.1)]), (128, .var [.v (.slice none 0 0)]), (192, .var [.os 4480 0 (LEN x.2.2.2.2)]), (4480, .arr .rw [] (LEN x.2.2.2.2) 4 (row GD (oncCell LEN GD) x.2.2.2.2))])) (fun w => (sparse 73 [(2, .c (.ptr 128 0)), (3, .c (.ptr 192 0))] [(128, .var [.v (.slice none 0 0)]), (192, .var [.os 4480 0 (LEN w.2.2.2)]), (5, .var [.bs (LEN w.1) 1 (row GD (encI .u8) w.1), .v (.int .i64 w.2.1), .v (.int .i64 w.2.2.1)]), (4480, .arr .rw [] (LEN w.2.2.2) 4 (row GD (oncCell LEN GD) w.2.2.2))])) ?_ ?_ ?_
 ·show St.le _ _; refine St.le_trans (le_nilV 192 0 4480 4 (row GD (oncCell LEN GD) ([] : List TCell)) (by decide) (by decide) rfl rfl) ?_; subst hLEN; exact zb
 ·rintro ⟨v1, v2, v3, v4, v5⟩ z h K hK hY; replace h := oz (oz (oz (oz (oz h)))); dsimp only at h; cbv; revert h; refine fk ?_ ?_ <;> intro h <;> cbv
  ·revert h; refine rl fun l18 hl18 h => ?_; have e19 : 1 = LEN l18 := by subst hl18 hLEN; rfl
   refine ⟨_, (co e19), _, row GD (encI .u8) l18, e19, wkOf ?_, ?_⟩
   ·intro i hi j hj; rw [← e19] at hi; subst hl18; subst hGD; obtain rfl : i = 0 := (by omega); all_goals obtain rfl : j = 0 := by omega
    all_goals rfl
   cbv; refine ⟨fun _ _ => rfl, ?_⟩; revert h; refine rk [(5, 5)] [(5, 5)] (hf_spec_l09DrawShape_mPb _) (fun _ => yf) fun y20 h => ?_; cbv; revert h; refine rl fun l22 hl22 h => ?_; have e23 : 1 = LEN l22 := by subst hl22 hLEN; rfl
   refine ⟨_, (co e23), _, row GD (encShape) l22, e23, wkOf ?_, ?_⟩
   ·intro i hi j hj; rw [← e23] at hi; subst hl22; subst hGD; obtain rfl : i = 0 := (by omega) <;> obtain rfl | rfl | rfl | rfl | rfl : j = 0 ∨ j = 1 ∨ j = 2 ∨ j = 3 ∨ j = 4 := (by omega)
    all_goals rfl
   cbv; revert h; refine rk [(5, 5)] [(5, 5)] (hf_spec_l01Next_mPbb _ _) (fun _ => yf) fun y24 h => ?_; cbv
   revert h; refine ln (.exit 2) (fun x => (sparse 73 [(0, .c (.ptr 5 0)), (2, .c (.ptr 128 0)), (3, .c (.ptr 192 0)), (4, .c (.v (.int .i64 v1))), (5, .c (.ptr 320 0)), (6, .c (.v (.int .i64 x.1)))] [(5, .var [.bs (LEN x.2.1) 1 (row GD (encI .u8) x.2.1), .v (.int .i64 x.2.2.1), .v (.int .i64 x.2.2.2.1)]), (128, .var [.v (.slice none 0 0)]), (192, .var [.os 4480 0 (LEN v5)]), (320, .var [.v (.string (A.ofBytes (LEN l18) (fun i => GD l18 (0 + i)))), .os 1280 0 (LEN l22), .v (.slice none 0 0), .os 4096 0 (LEN x.2.2.2.2)]), (4480, .arr .rw [] (LEN v5) 4 (row GD (oncCell LEN GD) v5)), (1280, .arr .rw [] (LEN l22) 5 (row GD (encShape) l22)), (4096, .arr .rw [] (LEN x.2.2.2.2) 8 (row GD (encInstance) x.2.2.2.2))])) (fun w => (sparse 73 [(0, .c (.ptr 5 0)), (2, .c (.ptr 128 0)), (3, .c (.ptr 192 0)), (4, .c (.v (.int .i64 v1))), (5, .c (.ptr 320 0))] [(5, .var [.bs (LEN w.1) 1 (row GD (encI .u8) w.1), .v (.int .i64 w.2.1), .v (.int .i64 w.2.2.1)]), (128, .var [.v (.slice none 0 0)]), (192, .var [.os 4480 0 (LEN v5)]), (320, .var [.v (.string (A.ofBytes (LEN l18) (fun i => GD l18 (0 + i)))), .os 1280 0 (LEN l22), .v (.slice none 0 0), .os 4096 0 (LEN w.2.2.2)]), (4480, .arr .rw [] (LEN v5) 4 (row GD (oncCell LEN GD) v5)), (1280, .arr .rw [] (LEN l22) 5 (row GD (encShape) l22)), (4096, .arr .rw [] (LEN w.2.2.2) 8 (row GD (encInstance) w.2.2.2))])) ?_ ?_ ?_
   ·show St.le _ _; refine St.le_trans (le_nilV 320 3 4096 8 (row GD (encInstance) ([] : List TInstance)) (by decide) (by decide) rfl rfl) ?_; subst hLEN; exact zb
   ·rintro ⟨v26, v27, v28, v29, v30⟩ z h K hK hY; replace h := oz (oz (oz (oz (oz h)))); dsimp only at h; cbv
    revert h; refine cu (fun y43 => (sparse 73 [(0, .c (.ptr 5 0)), (2, .c (.ptr 128 0)), (3, .c (.ptr 192 0)), (4, .c (.v (.int .i64 v1))), (5, .c (.ptr 320 0)), (6, .c (.v (.int .i64 v26))), (30, .c (.v (.bool y43)))] [(5, .var [.bs (LEN v27) 1 (row GD (encI .u8) v27), .v (.int .i64 v28), .v (.int .i64 v29)]), (128, .var [.v (.slice none 0 0)]), (192, .var [.os 4480 0 (LEN v5)]), (320, .var [.v (.string (A.ofBytes (LEN l18) (fun i => GD l18 (0 + i)))), .os 1280 0 (LEN l22), .v (.slice none 0 0), .os 4096 0 (LEN v30)]), (4480, .arr .rw [] (LEN v5) 4 (row GD (oncCell LEN GD) v5)), (1280, .arr .rw [] (LEN l22) 5 (row GD (encShape) l22)), (4096, .arr .rw [] (LEN v30) 8 (row GD (encInstance) v30))])) (fun y43 S hS h => rg) fun w49 => rz fun h => ?_
    cbv; revert h; refine fk ?_ ?_ <;> intro h <;> cbv
    ·revert h; refine rk [(5, 5)] [(5, 5)] (hf_spec_l09DrawInstance_mPbb _ _) (fun _ => yf) fun y51 h => ?_; cbv; revert h; refine rk [(5, 5)] [(5, 5)] (hf_spec_l01Next_mPbb _ _) (fun _ => yf) fun y53 h => ?_; cbv; revert h; refine rk [(5, 5)] [(5, 5)] (hf_spec_l01Next_mPbb _ _) (fun _ => yf) fun y55 h => ?_; cbv
     revert h; refine rk [(5, 5)] [(5, 5)] (hf_spec_l01Next_mPbb _ _) (fun _ => yf) fun y57 h => ?_; cbv
     revert h; refine cu (fun y59 => some (sparse 73 [(0, .c (.ptr 5 0)), (2, .c (.ptr 128 0)), (3, .c (.ptr 192 0)), (4, .c (.v (.int .i64 v1))), (5, .c (.ptr 320 0)), (6, .c (.v (.int .i64 v26))), (7, .c (.ptr 448 0))] [(5, .var [.bs (LEN y59.1) 1 (row GD (encI .u8) y59.1), .v (.int .i64 y59.2.1), .v (.int .i64 y59.2.2.1)]), (128, .var [.v (.slice none 0 0)]), (192, .var [.os 4480 0 (LEN v5)]), (320, .var [.v (.string (A.ofBytes (LEN l18) (fun i => GD l18 (0 + i)))), .os 1280 0 (LEN l22), .v (.slice none 0 0), .os 4096 0 (LEN v30)]), (448, .var [.v (.int .i64 (A.sub .i64 v1 1)), .v (.int .i64 y51.1.fPlace.fOrientation), .v (.int .i64 (A.sub .i64 y53.1 5)), .v (.int .i64 (A.sub .i64 y55.1 5)), .v (.int .i64 y59.2.2.2.1), .v (.int .i64 y51.1.fRows), .v (.int .i64 y59.2.2.2.2), .v (.int .i64 y51.1.fStepY)]), (4480, .arr .rw [] (LEN v5) 4 (row GD (oncCell LEN GD) v5)), (1280, .arr .rw [] (LEN l22) 5 (row GD (encShape) l22)), (4096, .arr .rw [] (LEN v30) 8 (row GD (encInstance) v30))])) ?_ ?_
     ·intro y59 S hS h; cbv; revert h; refine fk ?_ ?_ <;> intro h <;> cbv
      ·revert h; refine rk [(5, 5)] [(5, 5)] (hf_spec_l01Next_mPbb _ _) (fun _ => yf) fun y70 h => ?_; cbv; revert h; refine rk [(5, 5)] [(5, 5)] (hf_spec_l01Next_mPbb _ _) (fun _ => yf) fun y72 h => ?_; cbv; exact dn
      exact dn
     rintro ⟨w65, w66, w67, w68, w69⟩ h; replace h := oz (oz (oz (oz (oz h)))); dsimp only at h; cbv; revert h; refine rl fun l75 hl75 h => ?_; have e76 : 1 = LEN l75 := by subst hl75 hLEN; rfl
     refine ⟨_, (co e76), _, row GD (encInstance) l75, e76, wkOf ?_, ?_⟩
     ·intro i hi j hj; rw [← e76] at hi; subst hl75; subst hGD; obtain rfl : i = 0 := (by omega) <;> obtain rfl | rfl | rfl | rfl | rfl | rfl | rfl | rfl : j = 0 ∨ j = 1 ∨ j = 2 ∨ j = 3 ∨ j = 4 ∨ j = 5 ∨ j = 6 ∨ j = 7 := (by omega)
      all_goals rfl
     cbv; revert h; refine rq fun c79 => rl fun l77 hl77 h => ?_; have e78 := nl hA hLEN hl77; refine ⟨c79, _, (co e78), _, row GD (encInstance) l77, e78, wkOf ?_, ?_⟩
     ·subst hGD hLEN hA; exact app_os (off := 0) (pl_encInstance) hl77 (Nat.le_refl _)
     cbv; exact dm
    exact dx
   rintro ⟨w81, w82, w83, w84⟩ h s q40; replace h := oz (oz (oz (oz (oz h)))); dsimp only at h; cbv; refine ⟨_, q40, ?_⟩; cbv
   revert h; refine cu (fun y85 => (sparse 73 [(0, .c (.ptr 5 0)), (2, .c (.ptr 128 0)), (3, .c (.ptr 192 0)), (4, .c (.v (.int .i64 v1)))] [(5, .var [.bs (LEN w81) 1 (row GD (encI .u8) w81), .v (.int .i64 w82), .v (.int .i64 w83)]), (128, .var [.v (.slice none 0 0)]), (192, .var [.os 4480 0 (LEN y85)]), (4480, .arr .rw [] (LEN y85) 4 (row GD (oncCell LEN GD) y85))])) ?_ fun w91 => rz fun h => ?_
   ·intro y85 S hS h; cbv; revert h; refine rl fun l92 hl92 h => ?_; have e93 : 1 = LEN l92 := by subst hl92 hLEN; rfl
    refine ⟨_, (co e93), _, (patchC (fun _ _ => AC.junk) 0 [.v (.string (A.ofBytes (LEN l18) (fun i => GD l18 (0 + i)))), .os 1280 0 (LEN l22), .v (.slice none 0 0), .os 4096 0 (LEN w84)]), e93, wkOf ?_, ?_⟩
    ·refine patch_one (by subst hl92 hLEN; rfl) ?_; exact zr
    cbv; revert h; refine rq fun c96 => rl fun l94 hl94 h => ?_; have e95 := nl hA hLEN hl94; refine ⟨c96, _, (co e95), _, (patchC (row GD (oncCell LEN GD) v5) (LEN v5) [.v (.string (A.ofBytes (LEN l18) (fun i => GD l18 (0 + i)))), .os 1280 0 (LEN l22), .v (.slice none 0 0), .os 4096 0 (LEN w84)]), e95, wkOf ?_, ?_⟩
    ·subst hLEN hA; refine patch_joinG (by first | (rw [hl94]; simp [len]; done) | (rw [hl94]; simp [len]; omega) | (subst_vars; simp [len])) ?_; exact zr
    cbv; rw [hl92] at hl94; injection h with h; subst h; subst hS; show St.le _ _; refine St.le_trans (le_nilG (get' := (patchC (row GD (oncCell LEN GD) v5) (LEN v5) [.v (.string (A.ofBytes (LEN l18) (fun i => GD l18 (0 + i)))), .os 1280 0 (LEN l22), .ow (LEN ([] : List TLabel)) 4 (row GD (encLabel) ([] : List TLabel)), .os 4096 0 (LEN w84)])) 4480 rfl ?_) ?_
    ·subst hLEN; refine patch_nil ?_; intro j hj; match j, hj with | 0, _ => exact (.inl rfl) | 1, _ => exact (.inl rfl) | 2, _ => exact (.inr ⟨rfl, _, _, rfl⟩) | 3, _ => exact (.inl rfl) | (j_ + 4), h_ => exact absurd h_ (by omega)
    refine St.le_trans (le_foldP 4480 1 1280 rfl rfl rfl (by decide) (by subst hLEN; exact app_lt hl94) (by decide) rfl (fun _ _ => rf_oncCell _ _)) ?_; refine St.le_trans (le_foldP 4480 3 4096 rfl rfl rfl (by decide) (by subst hLEN; exact app_lt hl94) (by decide) rfl (fun _ _ => rf_oncCell _ _)) ?_
    exact le_sparse rfl zl ⟨rfl, rfl, rfl, oP (fun _ _ => rf_oncCell _ _) (by subst hGD hLEN hA; exact patch_app hl94 (Nat.le_refl _) zr), trivial⟩ rfl
   cbv; exact dm
  exact dx
 rintro ⟨w98, w99, w100, w101⟩ h s q15; replace h := oz (oz (oz (oz (oz h)))); dsimp only at h; cbv; refine ⟨_, q15, ?_⟩; cbv; injection h with h; subst h; exact ⟨_, le_ren 4480 64000 (by decide) rfl, lR _, zo, rfl⟩

noncomputable def L_spec_l09DrawName_mPb_x10  : (Int × (List Int) × Int × Int × (List Int)) → Option ((Int × (List Int) × Int × Int × (List Int)) ⊕ (((List Int) × (List Int) × Int × Int))) := fun x10 =>
 letO x10.1 fun v5 =>
 letO x10.2.1 fun v6 =>
 letO x10.2.2.1 fun v7 =>
 letO x10.2.2.2.1 fun v8 =>
 letO x10.2.2.2.2 fun v9 =>
 br (std.lt 0 v5)
 ((F_spec_l01Next_mPbb (Tl01Source.mk v6 v7 v8) 10).bind fun y22 =>
 req (std.inR y22.1 (std.slen (ByteArray.mk #[97, 98, 99, 100, 120, 121, 122, 48, 49, 57]))) <|
 letO ([std.sat (ByteArray.mk #[97, 98, 99, 100, 120, 121, 122, 48, 49, 57]) (std.toN y22.1)] : List Int) fun l25 =>
 req (std.room (std.nadd (len v9) (len l25)) 1) <|
 letO (v9 ++ l25) fun l27 =>
 some (.inl (std.sub .i64 v5 1, y22.2.gcode, y22.2.gat, y22.2.gseed, l27)))
 (some (.inr (v9, v6, v7, v8)))
/-- spec.l09DrawName -/
noncomputable def F_spec_l09DrawName_mPb (a0 : Tl01Source) : Option (ByteArray × Tl01Source) :=
 letO ([] : List Int) fun l1 =>
 (F_spec_l01Next_mPbb a0 3).bind fun y3 =>
 (whileP (σ := Int × (List Int) × Int × Int × (List Int)) (ρ := ((List Int) × (List Int) × Int × Int)) L_spec_l09DrawName_mPb_x10 (std.add .i64 1 y3.1, y3.2.gcode, y3.2.gat, y3.2.gseed, l1)).bind fun y11 =>
 letO y11 fun y11k0 =>
 letO y11k0.1 fun w31 =>
 letO y11k0.2.1 fun w32 =>
 letO y11k0.2.2.1 fun w33 =>
 letO y11k0.2.2.2 fun w34 =>
 some (std.ofBytes (len w31) (fun i => gd w31 (0 + i)), (Tl01Source.mk w32 w33 w34))
set_option maxHeartbeats 4000000 in
theorem run_spec_l09DrawName_mPb (a0 : Tl01Source) (r : ByteArray × Tl01Source) (h : F_spec_l09DrawName_mPb a0 = some r) : Fun Try.prog 102 [.c (.ptr 5 0)] [(5, .var [.bs (len a0.gcode) 1 (row gd (encI .u8) a0.gcode), .v (.int .i64 a0.gat), .v (.int .i64 a0.gseed)])] (.c (.v (.string r.1))) [(5, .var [.bs (len r.2.gcode) 1 (row gd (encI .u8) r.2.gcode), .v (.int .i64 r.2.gat), .v (.int .i64 r.2.gseed)])] false := by
 refine ow [] Try.func102 Try.ntmps102 ?_ (hv := (fun h => by cases h)); unfold F_spec_l09DrawName_mPb at h; unfold L_spec_l09DrawName_mPb_x10 at h; have hf_spec_l01Next_mPbb := @run_spec_l01Next_mPbb; generalize hLEN : @len = LEN, hGD : @gd = GD, hA : std = A, hP : Try.prog = P at *; cbv; revert h; refine rl fun l1 hl1 h => ?_; have e2 : 0 = LEN l1 := by subst hl1 hLEN; rfl
 refine ⟨_, (co e2), _, row GD (encI .u8) l1, e2, wkOf ?_, ?_⟩
 ·intro i hi j hj; rw [← e2] at hi; subst hl1; subst hGD; omega
 cbv; revert h; refine rk [(5, 5)] [(5, 5)] (hf_spec_l01Next_mPbb _ _) (fun _ => yf) fun y3 h => ?_; cbv
 revert h; refine ln (.exit 0) (fun x => (sparse 21 [(0, .c (.ptr 5 0)), (3, .c (.os 320 0 (LEN x.2.2.2.2))), (4, .c (.v (.int .i64 x.1)))] [(5, .var [.bs (LEN x.2.1) 1 (row GD (encI .u8) x.2.1), .v (.int .i64 x.2.2.1), .v (.int .i64 x.2.2.2.1)]), (320, .arr .rw [] (LEN x.2.2.2.2) 1 (row GD (encI .u8) x.2.2.2.2))])) (fun w => (sparse 21 [(3, .c (.os 320 0 (LEN w.1)))] [(320, .arr .rw [] (LEN w.1) 1 (row GD (encI .u8) w.1)), (5, .var [.bs (LEN w.2.1) 1 (row GD (encI .u8) w.2.1), .v (.int .i64 w.2.2.1), .v (.int .i64 w.2.2.2)])])) zb ?_ ?_
 ·rintro ⟨v5, v6, v7, v8, v9⟩ z h K hK hY; replace h := oz (oz (oz (oz (oz h)))); dsimp only at h; cbv; revert h; refine fk ?_ ?_ <;> intro h <;> cbv
  ·revert h; refine rk [(5, 5)] [(5, 5)] (hf_spec_l01Next_mPbb _ _) (fun _ => yf) fun y22 h => ?_; cbv; revert h; refine ra fun c24 h => ?_; revert h; refine rl fun l25 hl25 h => ?_; have e26 : 1 = LEN l25 := by subst hl25 hLEN; rfl
   refine ⟨_, (co e26), _, row GD (encI .u8) l25, e26, wkOf ?_, ?_⟩
   ·intro i hi j hj; rw [← e26] at hi; subst hl25; subst hGD; obtain rfl : i = 0 := (by omega); all_goals obtain rfl : j = 0 := by omega
    all_goals rfl
   cbv; revert h; refine rq fun c29 => rl fun l27 hl27 h => ?_; have e28 := nl hA hLEN hl27; refine ⟨c29, _, (co e28), _, row GD (encI .u8) l27, e28, wkOf ?_, ?_⟩
   ·subst hGD hLEN hA; exact app_os (off := 0) (fun _ _ => rfl) hl27 (Nat.le_refl _)
   cbv; exact dm
  exact dx
 rintro ⟨w31, w32, w33, w34⟩ h s q19; replace h := oz (oz (oz (oz (oz h)))); dsimp only at h; cbv; refine ⟨_, q19, ?_⟩; cbv; refine ⟨fun _ _ => rfl, ?_⟩; exact df

/-- spec.l09DrawLabel -/
noncomputable def F_spec_l09DrawLabel_mPb (a0 : Tl01Source) : Option (TLabel × Tl01Source) :=
 (F_spec_l01Next_mPbb a0 8).bind fun y1 =>
 (F_spec_l01Next_mPbb y1.2 16).bind fun y3 =>
 (F_spec_l01Next_mPbb y3.2 16).bind fun y5 =>
 (F_spec_l09DrawName_mPb y5.2).bind fun y7 =>
 some ((TLabel.mk y1.1 (TPoint.mk (std.sub .i64 y3.1 8) (std.sub .i64 y5.1 8)) y7.1), y7.2)
set_option maxHeartbeats 4000000 in
theorem run_spec_l09DrawLabel_mPb (a0 : Tl01Source) (r : TLabel × Tl01Source) (h : F_spec_l09DrawLabel_mPb a0 = some r) : Fun Try.prog 110 [.c (.ptr 5 0)] [(5, .var [.bs (len a0.gcode) 1 (row gd (encI .u8) a0.gcode), .v (.int .i64 a0.gat), .v (.int .i64 a0.gseed)])] (.agg [.v (.int .i64 r.1.fLayer), .v (.int .i64 r.1.fAt.fX), .v (.int .i64 r.1.fAt.fY), .v (.string r.1.fName)]) [(5, .var [.bs (len r.2.gcode) 1 (row gd (encI .u8) r.2.gcode), .v (.int .i64 r.2.gat), .v (.int .i64 r.2.gseed)])] false := by
 refine ow [] Try.func110 Try.ntmps110 ?_ (hv := (fun h => by cases h)); unfold F_spec_l09DrawLabel_mPb at h; have hf_spec_l01Next_mPbb := @run_spec_l01Next_mPbb; have hf_spec_l09DrawName_mPb := @run_spec_l09DrawName_mPb; generalize hLEN : @len = LEN, hGD : @gd = GD, hA : std = A, hP : Try.prog = P at *; cbv
 revert h; refine rk [(5, 5)] [(5, 5)] (hf_spec_l01Next_mPbb _ _) (fun _ => yf) fun y1 h => ?_; cbv; revert h; refine rk [(5, 5)] [(5, 5)] (hf_spec_l01Next_mPbb _ _) (fun _ => yf) fun y3 h => ?_; cbv; revert h; refine rk [(5, 5)] [(5, 5)] (hf_spec_l01Next_mPbb _ _) (fun _ => yf) fun y5 h => ?_; cbv; revert h; refine rk [(5, 5)] [(5, 5)] (hf_spec_l09DrawName_mPb _) (fun _ => yf) fun y7 h => ?_; cbv
 exact df

noncomputable def L_spec_l09DrawLibrary_mPb_x94 (v3 : Int) : (Int × (List Int) × Int × Int × (List TInstance)) → Option ((Int × (List Int) × Int × Int × (List TInstance)) ⊕ (((List Int) × Int × Int × (List TInstance)))) := fun x94 =>
 letO x94.1 fun v89 =>
 letO x94.2.1 fun v90 =>
 letO x94.2.2.1 fun v91 =>
 letO x94.2.2.2.1 fun v92 =>
 letO x94.2.2.2.2 fun v93 =>
 ((
    br (std.lt 0 v89)
    (some (std.lt 0 v3))
    (some false)
  ) : Option (Bool)).bind fun y106 =>
 letO y106 fun w112 =>
 br w112
 ((F_spec_l09DrawInstance_mPbb (Tl01Source.mk v90 v91 v92) v3).bind fun y114 =>
 letO ([y114.1] : List TInstance) fun l116 =>
 req (std.room (std.nadd (len v93) (len l116)) 64) <|
 letO (v93 ++ l116) fun l118 =>
 some (.inl (std.sub .i64 v89 1, y114.2.gcode, y114.2.gat, y114.2.gseed, l118)))
 (some (.inr (v90, v91, v92, v93)))
noncomputable def L_spec_l09DrawLibrary_mPb_x63  : (Int × (List Int) × Int × Int × (List TLabel)) → Option ((Int × (List Int) × Int × Int × (List TLabel)) ⊕ (((List Int) × Int × Int × (List TLabel)))) := fun x63 =>
 letO x63.1 fun v58 =>
 letO x63.2.1 fun v59 =>
 letO x63.2.2.1 fun v60 =>
 letO x63.2.2.2.1 fun v61 =>
 letO x63.2.2.2.2 fun v62 =>
 br (std.lt 0 v58)
 ((F_spec_l09DrawLabel_mPb (Tl01Source.mk v59 v60 v61)).bind fun y75 =>
 letO ([y75.1] : List TLabel) fun l77 =>
 req (std.room (std.nadd (len v62) (len l77)) 40) <|
 letO (v62 ++ l77) fun l79 =>
 some (.inl (std.sub .i64 v58 1, y75.2.gcode, y75.2.gat, y75.2.gseed, l79)))
 (some (.inr (v59, v60, v61, v62)))
noncomputable def L_spec_l09DrawLibrary_mPb_x32  : (Int × (List Int) × Int × Int × (List TShape)) → Option ((Int × (List Int) × Int × Int × (List TShape)) ⊕ (((List Int) × Int × Int × (List TShape)))) := fun x32 =>
 letO x32.1 fun v27 =>
 letO x32.2.1 fun v28 =>
 letO x32.2.2.1 fun v29 =>
 letO x32.2.2.2.1 fun v30 =>
 letO x32.2.2.2.2 fun v31 =>
 br (std.lt 0 v27)
 ((F_spec_l09DrawShape_mPb (Tl01Source.mk v28 v29 v30)).bind fun y44 =>
 letO ([y44.1] : List TShape) fun l46 =>
 req (std.room (std.nadd (len v31) (len l46)) 40) <|
 letO (v31 ++ l46) fun l48 =>
 some (.inl (std.sub .i64 v27 1, y44.2.gcode, y44.2.gat, y44.2.gseed, l48)))
 (some (.inr (v28, v29, v30, v31)))
noncomputable def L_spec_l09DrawLibrary_mPb_x8 (y1 : Int × Tl01Source) : (Int × (List Int) × Int × Int × (List TCell)) → Option ((Int × (List Int) × Int × Int × (List TCell)) ⊕ (((List Int) × Int × Int × (List TCell)))) := fun x8 =>
 letO x8.1 fun v3 =>
 letO x8.2.1 fun v4 =>
 letO x8.2.2.1 fun v5 =>
 letO x8.2.2.2.1 fun v6 =>
 letO x8.2.2.2.2 fun v7 =>
 br (std.lt v3 (std.add .i64 1 y1.1))
 (letO ([std.conv .u8 (std.add .i64 97 v3)] : List Int) fun l20 =>
 (F_spec_l09DrawName_mPb (Tl01Source.mk v4 v5 v6)).bind fun y22 =>
 req (std.room (std.nadd (std.slen (std.ofBytes (len l20) (fun i => gd l20 (0 + i)))) (std.slen y22.1)) 1) <|
 (F_spec_l01Next_mPbb y22.2 4).bind fun y25 =>
 (whileP (σ := Int × (List Int) × Int × Int × (List TShape)) (ρ := ((List Int) × Int × Int × (List TShape))) L_spec_l09DrawLibrary_mPb_x32 (y25.1, y25.2.gcode, y25.2.gat, y25.2.gseed, ([] : List TShape))).bind fun y33 =>
 letO y33 fun y33k0 =>
 letO y33k0.1 fun w52 =>
 letO y33k0.2.1 fun w53 =>
 letO y33k0.2.2.1 fun w54 =>
 letO y33k0.2.2.2 fun w55 =>
 (F_spec_l01Next_mPbb (Tl01Source.mk w52 w53 w54) 3).bind fun y56 =>
 (whileP (σ := Int × (List Int) × Int × Int × (List TLabel)) (ρ := ((List Int) × Int × Int × (List TLabel))) L_spec_l09DrawLibrary_mPb_x63 (y56.1, y56.2.gcode, y56.2.gat, y56.2.gseed, ([] : List TLabel))).bind fun y64 =>
 letO y64 fun y64k0 =>
 letO y64k0.1 fun w83 =>
 letO y64k0.2.1 fun w84 =>
 letO y64k0.2.2.1 fun w85 =>
 letO y64k0.2.2.2 fun w86 =>
 (F_spec_l01Next_mPbb (Tl01Source.mk w83 w84 w85) 3).bind fun y87 =>
 (whileP (σ := Int × (List Int) × Int × Int × (List TInstance)) (ρ := ((List Int) × Int × Int × (List TInstance))) (L_spec_l09DrawLibrary_mPb_x94 v3) (y87.1, y87.2.gcode, y87.2.gat, y87.2.gseed, ([] : List TInstance))).bind fun y95 =>
 letO y95 fun y95k0 =>
 letO y95k0.1 fun w122 =>
 letO y95k0.2.1 fun w123 =>
 letO y95k0.2.2.1 fun w124 =>
 letO y95k0.2.2.2 fun w125 =>
 ((
    letO ([(TCell.mk (std.scat (std.ofBytes (len l20) (fun i => gd l20 (0 + i))) y22.1) w55 w86 w125)] : List TCell) fun l133 =>
    req (std.room (std.nadd (len v7) (len l133)) 88) <|
    letO (v7 ++ l133) fun l135 =>
    some l135
  ) : Option ((List TCell))).bind fun y126 =>
 letO y126 fun w132 =>
 some (.inl (std.add .i64 v3 1, w122, w123, w124, w132)))
 (some (.inr (v4, v5, v6, v7)))
/-- spec.l09DrawLibrary -/
noncomputable def F_spec_l09DrawLibrary_mPb (a0 : Tl01Source) : Option (TLibrary × Tl01Source) :=
 (F_spec_l01Next_mPbb a0 4).bind fun y1 =>
 (whileP (σ := Int × (List Int) × Int × Int × (List TCell)) (ρ := ((List Int) × Int × Int × (List TCell))) (L_spec_l09DrawLibrary_mPb_x8 y1) (0, y1.2.gcode, y1.2.gat, y1.2.gseed, ([] : List TCell))).bind fun y9 =>
 letO y9 fun y9k0 =>
 letO y9k0.1 fun w139 =>
 letO y9k0.2.1 fun w140 =>
 letO y9k0.2.2.1 fun w141 =>
 letO y9k0.2.2.2 fun w142 =>
 some ((TLibrary.mk w142), (Tl01Source.mk w139 w140 w141))
set_option maxHeartbeats 4000000 in
theorem run_spec_l09DrawLibrary_mPb (a0 : Tl01Source) (r : TLibrary × Tl01Source) (h : F_spec_l09DrawLibrary_mPb a0 = some r) : Fun Try.prog 101 [.c (.ptr 5 0)] [(5, .var [.bs (len a0.gcode) 1 (row gd (encI .u8) a0.gcode), .v (.int .i64 a0.gat), .v (.int .i64 a0.gseed)])] (.agg [.os 64000 0 (len r.1.fCells)]) [(64000, .arr .rw [] (len r.1.fCells) 4 (row gd (oncCell len gd) r.1.fCells)), (5, .var [.bs (len r.2.gcode) 1 (row gd (encI .u8) r.2.gcode), .v (.int .i64 r.2.gat), .v (.int .i64 r.2.gseed)])] false := by
 refine ow [16, 19] Try.func101 Try.ntmps101 ?_ (hv := (fun h => by cases h)); unfold F_spec_l09DrawLibrary_mPb at h; unfold L_spec_l09DrawLibrary_mPb_x8 at h; unfold L_spec_l09DrawLibrary_mPb_x32 at h; unfold L_spec_l09DrawLibrary_mPb_x63 at h; unfold L_spec_l09DrawLibrary_mPb_x94 at h; have hf_spec_l01Next_mPbb := @run_spec_l01Next_mPbb
 have hf_spec_l09DrawInstance_mPbb := @run_spec_l09DrawInstance_mPbb; have hf_spec_l09DrawLabel_mPb := @run_spec_l09DrawLabel_mPb; have hf_spec_l09DrawName_mPb := @run_spec_l09DrawName_mPb; have hf_spec_l09DrawShape_mPb := @run_spec_l09DrawShape_mPb; generalize hLEN : @len = LEN, hGD : @gd = GD, hA : std = A, hP : Try.prog = P at *; cbv
 revert h; refine rk [(5, 5)] [(5, 5)] (hf_spec_l01Next_mPbb _ _) (fun _ => yf) fun y1 h => ?_; cbv
 revert h; refine ln (.exit 0) (fun x => (sparse 79 [(0, .c (.ptr 5 0)), (2, .c (.ptr 128 0)), (3, .c (.ptr 192 0)), (4, .c (.v (.int .i64 (A.add .i64 1 y1.1)))), (5, .c (.v (.int .i64 x.1)))] [(5, .var [.bs (LEN x.2.1) 1 (row GD (encI .u8) x.2.1), .v (.int .i64 x.2.2.1), .v (.int .i64 x.2.2.2.1)]), (128, .var [.v (.slice none 0 0)]), (192, .var [.os 4864 0 (LEN x.2.2.2.2)]), (4864, .arr .rw [] (LEN x.2.2.2.2) 4 (row GD (oncCell LEN GD) x.2.2.2.2))])) (fun w => (sparse 79 [(2, .c (.ptr 128 0)), (3, .c (.ptr 192 0))] [(128, .var [.v (.slice none 0 0)]), (192, .var [.os 4864 0 (LEN w.2.2.2)]), (5, .var [.bs (LEN w.1) 1 (row GD (encI .u8) w.1), .v (.int .i64 w.2.1), .v (.int .i64 w.2.2.1)]), (4864, .arr .rw [] (LEN w.2.2.2) 4 (row GD (oncCell LEN GD) w.2.2.2))])) ?_ ?_ ?_
 ·show St.le _ _; refine St.le_trans (le_nilV 192 0 4864 4 (row GD (oncCell LEN GD) ([] : List TCell)) (by decide) (by decide) rfl rfl) ?_; subst hLEN; exact zb
 ·rintro ⟨v3, v4, v5, v6, v7⟩ z h K hK hY; replace h := oz (oz (oz (oz (oz h)))); dsimp only at h; cbv; revert h; refine fk ?_ ?_ <;> intro h <;> cbv
  ·revert h; refine rl fun l20 hl20 h => ?_; have e21 : 1 = LEN l20 := by subst hl20 hLEN; rfl
   refine ⟨_, (co e21), _, row GD (encI .u8) l20, e21, wkOf ?_, ?_⟩
   ·intro i hi j hj; rw [← e21] at hi; subst hl20; subst hGD; obtain rfl : i = 0 := (by omega); all_goals obtain rfl : j = 0 := by omega
    all_goals rfl
   cbv; refine ⟨fun _ _ => rfl, ?_⟩; revert h; refine rk [(5, 5)] [(5, 5)] (hf_spec_l09DrawName_mPb _) (fun _ => yf) fun y22 h => ?_; cbv; revert h; refine ra fun c24 h => ?_; revert h; refine rk [(5, 5)] [(5, 5)] (hf_spec_l01Next_mPbb _ _) (fun _ => yf) fun y25 h => ?_; cbv
   revert h; refine ln (.exit 2) (fun x => (sparse 79 [(0, .c (.ptr 5 0)), (2, .c (.ptr 128 0)), (3, .c (.ptr 192 0)), (4, .c (.v (.int .i64 (A.add .i64 1 y1.1)))), (5, .c (.v (.int .i64 v3))), (6, .c (.ptr 384 0)), (7, .c (.v (.int .i64 x.1)))] [(5, .var [.bs (LEN x.2.1) 1 (row GD (encI .u8) x.2.1), .v (.int .i64 x.2.2.1), .v (.int .i64 x.2.2.2.1)]), (128, .var [.v (.slice none 0 0)]), (192, .var [.os 4864 0 (LEN v7)]), (384, .var [.v (.string (A.scat (A.ofBytes (LEN l20) (fun i => GD l20 (0 + i))) y22.1)), .os 2496 0 (LEN x.2.2.2.2), .v (.slice none 0 0), .v (.slice none 0 0)]), (4864, .arr .rw [] (LEN v7) 4 (row GD (oncCell LEN GD) v7)), (2496, .arr .rw [] (LEN x.2.2.2.2) 5 (row GD (encShape) x.2.2.2.2))])) (fun w => (sparse 79 [(0, .c (.ptr 5 0)), (2, .c (.ptr 128 0)), (3, .c (.ptr 192 0)), (4, .c (.v (.int .i64 (A.add .i64 1 y1.1)))), (5, .c (.v (.int .i64 v3))), (6, .c (.ptr 384 0))] [(5, .var [.bs (LEN w.1) 1 (row GD (encI .u8) w.1), .v (.int .i64 w.2.1), .v (.int .i64 w.2.2.1)]), (128, .var [.v (.slice none 0 0)]), (192, .var [.os 4864 0 (LEN v7)]), (384, .var [.v (.string (A.scat (A.ofBytes (LEN l20) (fun i => GD l20 (0 + i))) y22.1)), .os 2496 0 (LEN w.2.2.2), .v (.slice none 0 0), .v (.slice none 0 0)]), (4864, .arr .rw [] (LEN v7) 4 (row GD (oncCell LEN GD) v7)), (2496, .arr .rw [] (LEN w.2.2.2) 5 (row GD (encShape) w.2.2.2))])) ?_ ?_ ?_
   ·show St.le _ _; refine St.le_trans (le_nilV 384 1 2496 5 (row GD (encShape) ([] : List TShape)) (by decide) (by decide) rfl rfl) ?_; subst hLEN; exact zb
   ·rintro ⟨v27, v28, v29, v30, v31⟩ z h K hK hY; replace h := oz (oz (oz (oz (oz h)))); dsimp only at h; cbv; revert h; refine fk ?_ ?_ <;> intro h <;> cbv
    ·revert h; refine rk [(5, 5)] [(5, 5)] (hf_spec_l09DrawShape_mPb _) (fun _ => yf) fun y44 h => ?_; cbv; revert h; refine rl fun l46 hl46 h => ?_; have e47 : 1 = LEN l46 := by subst hl46 hLEN; rfl
     refine ⟨_, (co e47), _, row GD (encShape) l46, e47, wkOf ?_, ?_⟩
     ·intro i hi j hj; rw [← e47] at hi; subst hl46; subst hGD; obtain rfl : i = 0 := (by omega) <;> obtain rfl | rfl | rfl | rfl | rfl : j = 0 ∨ j = 1 ∨ j = 2 ∨ j = 3 ∨ j = 4 := (by omega)
      all_goals rfl
     cbv; revert h; refine rq fun c50 => rl fun l48 hl48 h => ?_; have e49 := nl hA hLEN hl48; refine ⟨c50, _, (co e49), _, row GD (encShape) l48, e49, wkOf ?_, ?_⟩
     ·subst hGD hLEN hA; exact app_os (off := 0) (pl_encShape) hl48 (Nat.le_refl _)
     cbv; exact dm
    exact dx
   rintro ⟨w52, w53, w54, w55⟩ h s q41; replace h := oz (oz (oz (oz (oz h)))); dsimp only at h; cbv; refine ⟨_, q41, ?_⟩; cbv; revert h; refine rk [(5, 5)] [(5, 5)] (hf_spec_l01Next_mPbb _ _) (fun _ => yf) fun y56 h => ?_; cbv
   revert h; refine ln (.exit 4) (fun x => (sparse 79 [(0, .c (.ptr 5 0)), (2, .c (.ptr 128 0)), (3, .c (.ptr 192 0)), (4, .c (.v (.int .i64 (A.add .i64 1 y1.1)))), (5, .c (.v (.int .i64 v3))), (6, .c (.ptr 384 0)), (8, .c (.v (.int .i64 x.1)))] [(5, .var [.bs (LEN x.2.1) 1 (row GD (encI .u8) x.2.1), .v (.int .i64 x.2.2.1), .v (.int .i64 x.2.2.2.1)]), (128, .var [.v (.slice none 0 0)]), (192, .var [.os 4864 0 (LEN v7)]), (384, .var [.v (.string (A.scat (A.ofBytes (LEN l20) (fun i => GD l20 (0 + i))) y22.1)), .os 2496 0 (LEN w55), .os 3328 0 (LEN x.2.2.2.2), .v (.slice none 0 0)]), (4864, .arr .rw [] (LEN v7) 4 (row GD (oncCell LEN GD) v7)), (2496, .arr .rw [] (LEN w55) 5 (row GD (encShape) w55)), (3328, .arr .rw [] (LEN x.2.2.2.2) 4 (row GD (encLabel) x.2.2.2.2))])) (fun w => (sparse 79 [(0, .c (.ptr 5 0)), (2, .c (.ptr 128 0)), (3, .c (.ptr 192 0)), (4, .c (.v (.int .i64 (A.add .i64 1 y1.1)))), (5, .c (.v (.int .i64 v3))), (6, .c (.ptr 384 0))] [(5, .var [.bs (LEN w.1) 1 (row GD (encI .u8) w.1), .v (.int .i64 w.2.1), .v (.int .i64 w.2.2.1)]), (128, .var [.v (.slice none 0 0)]), (192, .var [.os 4864 0 (LEN v7)]), (384, .var [.v (.string (A.scat (A.ofBytes (LEN l20) (fun i => GD l20 (0 + i))) y22.1)), .os 2496 0 (LEN w55), .os 3328 0 (LEN w.2.2.2), .v (.slice none 0 0)]), (4864, .arr .rw [] (LEN v7) 4 (row GD (oncCell LEN GD) v7)), (2496, .arr .rw [] (LEN w55) 5 (row GD (encShape) w55)), (3328, .arr .rw [] (LEN w.2.2.2) 4 (row GD (encLabel) w.2.2.2))])) ?_ ?_ ?_
   ·show St.le _ _; refine St.le_trans (le_nilV 384 2 3328 4 (row GD (encLabel) ([] : List TLabel)) (by decide) (by decide) rfl rfl) ?_; subst hLEN; exact zb
   ·rintro ⟨v58, v59, v60, v61, v62⟩ z h K hK hY; replace h := oz (oz (oz (oz (oz h)))); dsimp only at h; cbv; revert h; refine fk ?_ ?_ <;> intro h <;> cbv
    ·revert h; refine rk [(5, 5)] [(5, 5)] (hf_spec_l09DrawLabel_mPb _) (fun _ => yf) fun y75 h => ?_; cbv; revert h; refine rl fun l77 hl77 h => ?_; have e78 : 1 = LEN l77 := by subst hl77 hLEN; rfl
     refine ⟨_, (co e78), _, row GD (encLabel) l77, e78, wkOf ?_, ?_⟩
     ·intro i hi j hj; rw [← e78] at hi; subst hl77; subst hGD; obtain rfl : i = 0 := (by omega) <;> obtain rfl | rfl | rfl | rfl : j = 0 ∨ j = 1 ∨ j = 2 ∨ j = 3 := (by omega)
      all_goals rfl
     cbv; revert h; refine rq fun c81 => rl fun l79 hl79 h => ?_; have e80 := nl hA hLEN hl79; refine ⟨c81, _, (co e80), _, row GD (encLabel) l79, e80, wkOf ?_, ?_⟩
     ·subst hGD hLEN hA; exact app_os (off := 0) (pl_encLabel) hl79 (Nat.le_refl _)
     cbv; exact dm
    exact dx
   rintro ⟨w83, w84, w85, w86⟩ h s q72; replace h := oz (oz (oz (oz (oz h)))); dsimp only at h; cbv; refine ⟨_, q72, ?_⟩; cbv; revert h; refine rk [(5, 5)] [(5, 5)] (hf_spec_l01Next_mPbb _ _) (fun _ => yf) fun y87 h => ?_; cbv
   revert h; refine ln (.exit 6) (fun x => (sparse 79 [(0, .c (.ptr 5 0)), (2, .c (.ptr 128 0)), (3, .c (.ptr 192 0)), (4, .c (.v (.int .i64 (A.add .i64 1 y1.1)))), (5, .c (.v (.int .i64 v3))), (6, .c (.ptr 384 0)), (9, .c (.v (.int .i64 x.1)))] [(5, .var [.bs (LEN x.2.1) 1 (row GD (encI .u8) x.2.1), .v (.int .i64 x.2.2.1), .v (.int .i64 x.2.2.2.1)]), (128, .var [.v (.slice none 0 0)]), (192, .var [.os 4864 0 (LEN v7)]), (384, .var [.v (.string (A.scat (A.ofBytes (LEN l20) (fun i => GD l20 (0 + i))) y22.1)), .os 2496 0 (LEN w55), .os 3328 0 (LEN w86), .os 4480 0 (LEN x.2.2.2.2)]), (4864, .arr .rw [] (LEN v7) 4 (row GD (oncCell LEN GD) v7)), (2496, .arr .rw [] (LEN w55) 5 (row GD (encShape) w55)), (3328, .arr .rw [] (LEN w86) 4 (row GD (encLabel) w86)), (4480, .arr .rw [] (LEN x.2.2.2.2) 8 (row GD (encInstance) x.2.2.2.2))])) (fun w => (sparse 79 [(0, .c (.ptr 5 0)), (2, .c (.ptr 128 0)), (3, .c (.ptr 192 0)), (4, .c (.v (.int .i64 (A.add .i64 1 y1.1)))), (5, .c (.v (.int .i64 v3))), (6, .c (.ptr 384 0))] [(5, .var [.bs (LEN w.1) 1 (row GD (encI .u8) w.1), .v (.int .i64 w.2.1), .v (.int .i64 w.2.2.1)]), (128, .var [.v (.slice none 0 0)]), (192, .var [.os 4864 0 (LEN v7)]), (384, .var [.v (.string (A.scat (A.ofBytes (LEN l20) (fun i => GD l20 (0 + i))) y22.1)), .os 2496 0 (LEN w55), .os 3328 0 (LEN w86), .os 4480 0 (LEN w.2.2.2)]), (4864, .arr .rw [] (LEN v7) 4 (row GD (oncCell LEN GD) v7)), (2496, .arr .rw [] (LEN w55) 5 (row GD (encShape) w55)), (3328, .arr .rw [] (LEN w86) 4 (row GD (encLabel) w86)), (4480, .arr .rw [] (LEN w.2.2.2) 8 (row GD (encInstance) w.2.2.2))])) ?_ ?_ ?_
   ·show St.le _ _; refine St.le_trans (le_nilV 384 3 4480 8 (row GD (encInstance) ([] : List TInstance)) (by decide) (by decide) rfl rfl) ?_; subst hLEN; exact zb
   ·rintro ⟨v89, v90, v91, v92, v93⟩ z h K hK hY; replace h := oz (oz (oz (oz (oz h)))); dsimp only at h; cbv
    revert h; refine cu (fun y106 => (sparse 79 [(0, .c (.ptr 5 0)), (2, .c (.ptr 128 0)), (3, .c (.ptr 192 0)), (4, .c (.v (.int .i64 (A.add .i64 1 y1.1)))), (5, .c (.v (.int .i64 v3))), (6, .c (.ptr 384 0)), (9, .c (.v (.int .i64 v89))), (61, .c (.v (.bool y106)))] [(5, .var [.bs (LEN v90) 1 (row GD (encI .u8) v90), .v (.int .i64 v91), .v (.int .i64 v92)]), (128, .var [.v (.slice none 0 0)]), (192, .var [.os 4864 0 (LEN v7)]), (384, .var [.v (.string (A.scat (A.ofBytes (LEN l20) (fun i => GD l20 (0 + i))) y22.1)), .os 2496 0 (LEN w55), .os 3328 0 (LEN w86), .os 4480 0 (LEN v93)]), (4864, .arr .rw [] (LEN v7) 4 (row GD (oncCell LEN GD) v7)), (2496, .arr .rw [] (LEN w55) 5 (row GD (encShape) w55)), (3328, .arr .rw [] (LEN w86) 4 (row GD (encLabel) w86)), (4480, .arr .rw [] (LEN v93) 8 (row GD (encInstance) v93))])) (fun y106 S hS h => rg) fun w112 => rz fun h => ?_
    cbv; revert h; refine fk ?_ ?_ <;> intro h <;> cbv
    ·revert h; refine rk [(5, 5)] [(5, 5)] (hf_spec_l09DrawInstance_mPbb _ _) (fun _ => yf) fun y114 h => ?_; cbv; revert h; refine rl fun l116 hl116 h => ?_; have e117 : 1 = LEN l116 := by subst hl116 hLEN; rfl
     refine ⟨_, (co e117), _, row GD (encInstance) l116, e117, wkOf ?_, ?_⟩
     ·intro i hi j hj; rw [← e117] at hi; subst hl116; subst hGD; obtain rfl : i = 0 := (by omega) <;> obtain rfl | rfl | rfl | rfl | rfl | rfl | rfl | rfl : j = 0 ∨ j = 1 ∨ j = 2 ∨ j = 3 ∨ j = 4 ∨ j = 5 ∨ j = 6 ∨ j = 7 := (by omega)
      all_goals rfl
     cbv; revert h; refine rq fun c120 => rl fun l118 hl118 h => ?_; have e119 := nl hA hLEN hl118; refine ⟨c120, _, (co e119), _, row GD (encInstance) l118, e119, wkOf ?_, ?_⟩
     ·subst hGD hLEN hA; exact app_os (off := 0) (pl_encInstance) hl118 (Nat.le_refl _)
     cbv; exact dm
    exact dx
   rintro ⟨w122, w123, w124, w125⟩ h s q103; replace h := oz (oz (oz (oz (oz h)))); dsimp only at h; cbv; refine ⟨_, q103, ?_⟩; cbv
   revert h; refine cu (fun y126 => (sparse 79 [(0, .c (.ptr 5 0)), (2, .c (.ptr 128 0)), (3, .c (.ptr 192 0)), (4, .c (.v (.int .i64 (A.add .i64 1 y1.1)))), (5, .c (.v (.int .i64 v3)))] [(5, .var [.bs (LEN w122) 1 (row GD (encI .u8) w122), .v (.int .i64 w123), .v (.int .i64 w124)]), (128, .var [.v (.slice none 0 0)]), (192, .var [.os 4864 0 (LEN y126)]), (4864, .arr .rw [] (LEN y126) 4 (row GD (oncCell LEN GD) y126))])) ?_ fun w132 => rz fun h => ?_
   ·intro y126 S hS h; cbv; revert h; refine rl fun l133 hl133 h => ?_; have e134 : 1 = LEN l133 := by subst hl133 hLEN; rfl
    refine ⟨_, (co e134), _, (patchC (fun _ _ => AC.junk) 0 [.v (.string (A.scat (A.ofBytes (LEN l20) (fun i => GD l20 (0 + i))) y22.1)), .os 2496 0 (LEN w55), .os 3328 0 (LEN w86), .os 4480 0 (LEN w125)]), e134, wkOf ?_, ?_⟩
    ·refine patch_one (by subst hl133 hLEN; rfl) ?_; exact zr
    cbv; revert h; refine rq fun c137 => rl fun l135 hl135 h => ?_; have e136 := nl hA hLEN hl135; refine ⟨c137, _, (co e136), _, (patchC (row GD (oncCell LEN GD) v7) (LEN v7) [.v (.string (A.scat (A.ofBytes (LEN l20) (fun i => GD l20 (0 + i))) y22.1)), .os 2496 0 (LEN w55), .os 3328 0 (LEN w86), .os 4480 0 (LEN w125)]), e136, wkOf ?_, ?_⟩
    ·subst hLEN hA; refine patch_joinG (by first | (rw [hl135]; simp [len]; done) | (rw [hl135]; simp [len]; omega) | (subst_vars; simp [len])) ?_; exact zr
    cbv; rw [hl133] at hl135; injection h with h; subst h; subst hS; show St.le _ _; refine St.le_trans (le_foldP 4864 1 2496 rfl rfl rfl (by decide) (by subst hLEN; exact app_lt hl135) (by decide) rfl (fun _ _ => rf_oncCell _ _)) ?_; refine St.le_trans (le_foldP 4864 2 3328 rfl rfl rfl (by decide) (by subst hLEN; exact app_lt hl135) (by decide) rfl (fun _ _ => rf_oncCell _ _)) ?_
    refine St.le_trans (le_foldP 4864 3 4480 rfl rfl rfl (by decide) (by subst hLEN; exact app_lt hl135) (by decide) rfl (fun _ _ => rf_oncCell _ _)) ?_; exact le_sparse rfl zl ⟨rfl, rfl, rfl, oP (fun _ _ => rf_oncCell _ _) (by subst hGD hLEN hA; exact patch_app hl135 (Nat.le_refl _) zr), trivial⟩ rfl
   cbv; exact dm
  exact dx
 rintro ⟨w139, w140, w141, w142⟩ h s q17; replace h := oz (oz (oz (oz (oz h)))); dsimp only at h; cbv; refine ⟨_, q17, ?_⟩; cbv; injection h with h; subst h; exact ⟨_, le_ren 4864 64000 (by decide) rfl, lR _, zo, rfl⟩

noncomputable def L_spec_l09DrawAny_mPb_x167 (y1 : TLibrary × Tl01Source) (y3 : Int × Tl01Source) : (Int × (List Int) × Int × Int × (List TCell)) → Option ((Int × (List Int) × Int × Int × (List TCell)) ⊕ (((List Int) × Int × Int × (List TCell)))) := fun x167 =>
 letO x167.1 fun v162 =>
 letO x167.2.1 fun v163 =>
 letO x167.2.2.1 fun v164 =>
 letO x167.2.2.2.1 fun v165 =>
 letO x167.2.2.2.2 fun v166 =>
 br (std.lt v162 25)
 (((
    (F_spec_l09DrawShape_mPb (Tl01Source.mk v163 v164 v165)).bind fun y189 =>
    letO ([y189.1] : List TShape) fun l191 =>
    req (std.room (std.nadd (len (gd v166 (std.nadd 0 (std.toN y3.1))).fShapes) (len l191)) 40) <|
    letO ((gd v166 (std.nadd 0 (std.toN y3.1))).fShapes ++ l191) fun l193 =>
    req (len y1.1.fCells = len v166) <|
    letO (List.set v166 (std.nadd 0 (std.toN y3.1)) (TCell.mk (gd v166 (std.nadd 0 (std.toN y3.1))).fName l193 (gd v166 (std.nadd 0 (std.toN y3.1))).fLabels (gd v166 (std.nadd 0 (std.toN y3.1))).fInstances)) fun l196 =>
    some (y189.2.gcode, y189.2.gat, y189.2.gseed, l196)
  ) : Option ((List Int) × Int × Int × (List TCell))).bind fun y179 =>
 letO y179.1 fun w185 =>
 letO y179.2.1 fun w186 =>
 letO y179.2.2.1 fun w187 =>
 letO y179.2.2.2 fun w188 =>
 some (.inl (std.add .i64 v162 1, w185, w186, w187, w188)))
 (some (.inr (v163, v164, v165, v166)))
/-- spec.l09DrawAny -/
noncomputable def F_spec_l09DrawAny_mPb (a0 : Tl01Source) : Option (TLibrary × Tl01Source) :=
 (F_spec_l09DrawLibrary_mPb a0).bind fun y1 =>
 (F_spec_l01Next_mPbb y1.2 (std.ofN (len y1.1.fCells))).bind fun y3 =>
 req (std.inR y3.1 (len y1.1.fCells)) <|
 (F_spec_l01Next_mPbb y3.2 16).bind fun y6 =>
 ((
    br (std.eq y6.1 0)
    (((
       req (std.inR 0 (len y1.1.fCells)) <|
       letO (List.set y1.1.fCells (std.nadd 0 (std.toN y3.1)) (TCell.mk (gd y1.1.fCells (std.nadd 0 (std.toN 0))).fName (gd y1.1.fCells (std.nadd 0 (std.toN y3.1))).fShapes (gd y1.1.fCells (std.nadd 0 (std.toN y3.1))).fLabels (gd y1.1.fCells (std.nadd 0 (std.toN y3.1))).fInstances)) fun l26 =>
       some l26
     ) : Option ((List TCell))).bind fun y18 =>
    letO y18 fun w24 =>
    some (w24, y6.2.gcode, y6.2.gat, y6.2.gseed))
    (((
       br (std.eq y6.1 1)
       (((
          letO ([(ByteArray.mk #[]), (ByteArray.mk #[65]), (ByteArray.mk #[97, 98, 99, 100, 101, 102, 103, 104, 105]), (ByteArray.mk #[97, 32, 98])] : List ByteArray) fun l47 =>
          (F_spec_l01Next_mPbb y6.2 4).bind fun y49 =>
          req (std.inR y49.1 (len l47)) <|
          letO (List.set y1.1.fCells (std.nadd 0 (std.toN y3.1)) (TCell.mk (gd l47 (std.nadd 0 (std.toN y49.1))) (gd y1.1.fCells (std.nadd 0 (std.toN y3.1))).fShapes (gd y1.1.fCells (std.nadd 0 (std.toN y3.1))).fLabels (gd y1.1.fCells (std.nadd 0 (std.toN y3.1))).fInstances)) fun l52 =>
          some (y49.2.gcode, y49.2.gat, y49.2.gseed, l52)
        ) : Option ((List Int) × Int × Int × (List TCell))).bind fun y37 =>
       letO y37.1 fun w43 =>
       letO y37.2.1 fun w44 =>
       letO y37.2.2.1 fun w45 =>
       letO y37.2.2.2 fun w46 =>
       some (w43, w44, w45, w46))
       (((
          br (std.eq y6.1 2)
          (((
             (F_spec_l01Next_mPbb y6.2 12).bind fun y73 =>
             (F_spec_l01Next_mPbb y73.2 90).bind fun y75 =>
             (F_spec_l01Next_mPbb y75.2 90).bind fun y77 =>
             (F_spec_l01Next_mPbb y77.2 90).bind fun y79 =>
             (F_spec_l01Next_mPbb y79.2 90).bind fun y81 =>
             letO ([(TShape.mk (std.sub .i64 y73.1 2) (TRect.mk (std.sub .i64 y75.1 45) (std.sub .i64 y77.1 45) (std.sub .i64 y79.1 45) (std.sub .i64 y81.1 45)))] : List TShape) fun l83 =>
             req (std.room (std.nadd (len (gd y1.1.fCells (std.nadd 0 (std.toN y3.1))).fShapes) (len l83)) 40) <|
             letO ((gd y1.1.fCells (std.nadd 0 (std.toN y3.1))).fShapes ++ l83) fun l85 =>
             letO (List.set y1.1.fCells (std.nadd 0 (std.toN y3.1)) (TCell.mk (gd y1.1.fCells (std.nadd 0 (std.toN y3.1))).fName l85 (gd y1.1.fCells (std.nadd 0 (std.toN y3.1))).fLabels (gd y1.1.fCells (std.nadd 0 (std.toN y3.1))).fInstances)) fun l88 =>
             some (y81.2.gcode, y81.2.gat, y81.2.gseed, l88)
           ) : Option ((List Int) × Int × Int × (List TCell))).bind fun y63 =>
          letO y63.1 fun w69 =>
          letO y63.2.1 fun w70 =>
          letO y63.2.2.1 fun w71 =>
          letO y63.2.2.2 fun w72 =>
          some (w69, w70, w71, w72))
          (((
             br (std.eq y6.1 3)
             ((F_spec_l09DrawInstance_mPbb y6.2 (std.add .i64 y3.1 1)).bind fun y99 =>
             (F_spec_l01Next_mPbb y99.2 6).bind fun y101 =>
             (F_spec_l01Next_mPbb y101.2 200).bind fun y103 =>
             ((
                letO ([(TInstance.mk y99.1.fCell y99.1.fPlace y99.1.fColumns y101.1 y99.1.fStepX (std.sub .i64 y103.1 100))] : List TInstance) fun l112 =>
                req (std.room (std.nadd (len (gd y1.1.fCells (std.nadd 0 (std.toN y3.1))).fInstances) (len l112)) 64) <|
                letO ((gd y1.1.fCells (std.nadd 0 (std.toN y3.1))).fInstances ++ l112) fun l114 =>
                letO (List.set y1.1.fCells (std.nadd 0 (std.toN y3.1)) (TCell.mk (gd y1.1.fCells (std.nadd 0 (std.toN y3.1))).fName (gd y1.1.fCells (std.nadd 0 (std.toN y3.1))).fShapes (gd y1.1.fCells (std.nadd 0 (std.toN y3.1))).fLabels l114)) fun l117 =>
                some l117
              ) : Option ((List TCell))).bind fun y105 =>
             letO y105 fun w111 =>
             some (y103.2.gcode, y103.2.gat, y103.2.gseed, w111))
             (((
                br (std.eq y6.1 4)
                (((
                   (F_spec_l01Next_mPbb y6.2 10).bind fun y138 =>
                   (F_spec_l01Next_mPbb y138.2 90).bind fun y140 =>
                   (F_spec_l01Next_mPbb y140.2 90).bind fun y142 =>
                   (F_spec_l09DrawName_mPb y142.2).bind fun y144 =>
                   letO ([(TLabel.mk (std.sub .i64 y138.1 1) (TPoint.mk (std.sub .i64 y140.1 45) (std.sub .i64 y142.1 45)) y144.1)] : List TLabel) fun l146 =>
                   req (std.room (std.nadd (len (gd y1.1.fCells (std.nadd 0 (std.toN y3.1))).fLabels) (len l146)) 40) <|
                   letO ((gd y1.1.fCells (std.nadd 0 (std.toN y3.1))).fLabels ++ l146) fun l148 =>
                   letO (List.set y1.1.fCells (std.nadd 0 (std.toN y3.1)) (TCell.mk (gd y1.1.fCells (std.nadd 0 (std.toN y3.1))).fName (gd y1.1.fCells (std.nadd 0 (std.toN y3.1))).fShapes l148 (gd y1.1.fCells (std.nadd 0 (std.toN y3.1))).fInstances)) fun l151 =>
                   some (y144.2.gcode, y144.2.gat, y144.2.gseed, l151)
                 ) : Option ((List Int) × Int × Int × (List TCell))).bind fun y128 =>
                letO y128.1 fun w134 =>
                letO y128.2.1 fun w135 =>
                letO y128.2.2.1 fun w136 =>
                letO y128.2.2.2 fun w137 =>
                some (w134, w135, w136, w137))
                (((
                   br (std.eq y6.1 5)
                   ((whileP (σ := Int × (List Int) × Int × Int × (List TCell)) (ρ := ((List Int) × Int × Int × (List TCell))) (L_spec_l09DrawAny_mPb_x167 y1 y3) (0, y6.2.gcode, y6.2.gat, y6.2.gseed, y1.1.fCells)).bind fun y168 =>
                   letO y168 fun y168k0 =>
                   letO y168k0.1 fun w199 =>
                   letO y168k0.2.1 fun w200 =>
                   letO y168k0.2.2.1 fun w201 =>
                   letO y168k0.2.2.2 fun w202 =>
                   some (w199, w200, w201, w202))
                   (some (y6.2.gcode, y6.2.gat, y6.2.gseed, y1.1.fCells))
                 ) : Option ((List Int) × Int × Int × (List TCell))).bind fun y152 =>
                letO y152.1 fun w158 =>
                letO y152.2.1 fun w159 =>
                letO y152.2.2.1 fun w160 =>
                letO y152.2.2.2 fun w161 =>
                some (w158, w159, w160, w161))
              ) : Option ((List Int) × Int × Int × (List TCell))).bind fun y118 =>
             letO y118.1 fun w124 =>
             letO y118.2.1 fun w125 =>
             letO y118.2.2.1 fun w126 =>
             letO y118.2.2.2 fun w127 =>
             some (w124, w125, w126, w127))
           ) : Option ((List Int) × Int × Int × (List TCell))).bind fun y89 =>
          letO y89.1 fun w95 =>
          letO y89.2.1 fun w96 =>
          letO y89.2.2.1 fun w97 =>
          letO y89.2.2.2 fun w98 =>
          some (w95, w96, w97, w98))
        ) : Option ((List Int) × Int × Int × (List TCell))).bind fun y53 =>
       letO y53.1 fun w59 =>
       letO y53.2.1 fun w60 =>
       letO y53.2.2.1 fun w61 =>
       letO y53.2.2.2 fun w62 =>
       some (w59, w60, w61, w62))
     ) : Option ((List Int) × Int × Int × (List TCell))).bind fun y27 =>
    letO y27.1 fun w33 =>
    letO y27.2.1 fun w34 =>
    letO y27.2.2.1 fun w35 =>
    letO y27.2.2.2 fun w36 =>
    some (w36, w33, w34, w35))
  ) : Option ((List TCell) × (List Int) × Int × Int)).bind fun y8 =>
 letO y8.1 fun w14 =>
 letO y8.2.1 fun w15 =>
 letO y8.2.2.1 fun w16 =>
 letO y8.2.2.2 fun w17 =>
 req (len y1.1.fCells = len w14) <|
 some ((TLibrary.mk w14), (Tl01Source.mk w15 w16 w17))
set_option maxHeartbeats 4000000 in
theorem run_spec_l09DrawAny_mPb (a0 : Tl01Source) (r : TLibrary × Tl01Source) (h : F_spec_l09DrawAny_mPb a0 = some r) : Fun Try.prog 73 [.c (.ptr 5 0)] [(5, .var [.bs (len a0.gcode) 1 (row gd (encI .u8) a0.gcode), .v (.int .i64 a0.gat), .v (.int .i64 a0.gseed)])] (.agg [.os 64000 0 (len r.1.fCells)]) [(64000, .arr .rw [] (len r.1.fCells) 4 (row gd (oncCell len gd) r.1.fCells)), (5, .var [.bs (len r.2.gcode) 1 (row gd (encI .u8) r.2.gcode), .v (.int .i64 r.2.gat), .v (.int .i64 r.2.gseed)])] false := by
 refine ow [6, 8, 10, 15, 17, 22, 100021, 100031, 100041, 100069, 100092, 100116] Try.func73 Try.ntmps73 ?_ (hv := (fun h => by cases h)); unfold F_spec_l09DrawAny_mPb at h; unfold L_spec_l09DrawAny_mPb_x167 at h; have hf_spec_l01Next_mPbb := @run_spec_l01Next_mPbb; have hf_spec_l09DrawInstance_mPbb := @run_spec_l09DrawInstance_mPbb; have hf_spec_l09DrawLibrary_mPb := @run_spec_l09DrawLibrary_mPb
 have hf_spec_l09DrawName_mPb := @run_spec_l09DrawName_mPb; have hf_spec_l09DrawShape_mPb := @run_spec_l09DrawShape_mPb; generalize hLEN : @len = LEN, hGD : @gd = GD, hA : std = A, hP : Try.prog = P at *; cbv
 revert h; refine rk [(5, 5)] [(64000, 576), (5, 5)] (hf_spec_l09DrawLibrary_mPb _) (fun _ => ⟨les_cons (lR _) (les_nil), ⟨rfl, trivial⟩, rfl, rfl, rfl, rfl, ⟨fun h => absurd (show (64000 : Nat) % 2 = 1 from h) (by decide), fun _ => rfl, trivial⟩, rfl⟩) fun y1 h => ⟨_, rfl, _, _, rfl, fun _ _ _ _ => .refl _, ?_⟩
 cbv; revert h; refine rk [(5, 5)] [(5, 5)] (hf_spec_l01Next_mPbb _ _) (fun _ => yf) fun y3 h => ?_; cbv; revert h; refine ra fun c5 h => ?_; revert h; refine rk [(5, 5)] [(5, 5)] (hf_spec_l01Next_mPbb _ _) (fun _ => yf) fun y6 h => ?_; cbv
 revert h; refine cu (fun y8 => some (sparse 134 [(2, .c (.ptr 128 0)), (3, .c (.ptr 192 0))] [(128, .var [.v (.slice none 0 0)]), (192, .var [.os 576 0 (LEN y1.1.fCells)]), (5, .var [.bs (LEN y8.2.1) 1 (row GD (encI .u8) y8.2.1), .v (.int .i64 y8.2.2.1), .v (.int .i64 y8.2.2.2)]), (576, .arr .rw [] (LEN y1.1.fCells) 4 (row GD (oncCell LEN GD) y8.1))])) ?_ ?_
 ·intro y8 S hS h; cbv; revert h; refine fk ?_ ?_ <;> intro h <;> cbv
  ·revert h; refine cu (fun y18 => (sparse 134 [(2, .c (.ptr 128 0)), (3, .c (.ptr 192 0))] [(128, .var [.v (.slice none 0 0)]), (192, .var [.os 576 0 (LEN y1.1.fCells)]), (5, .var [.bs (LEN y6.2.gcode) 1 (row GD (encI .u8) y6.2.gcode), .v (.int .i64 y6.2.gat), .v (.int .i64 y6.2.gseed)]), (576, .arr .rw [] (LEN y1.1.fCells) 4 (row GD (oncCell LEN GD) y18))])) ?_ fun w24 => rz fun h => ?_
   ·intro y18 S hS h; cbv; revert h; refine ra fun c25 h => ?_; refine ai c25 ?_; refine ai c5 ?_
    refine ⟨_, rfl, _, (patchC (row GD (oncCell LEN GD) y1.1.fCells) (A.nadd 0 (A.toN y3.1)) [.v (.string (GD y1.1.fCells (A.nadd 0 (A.toN 0))).fName), .ow (LEN (GD y1.1.fCells (A.nadd 0 (A.toN y3.1))).fShapes) 5 (row GD (encShape) (GD y1.1.fCells (A.nadd 0 (A.toN y3.1))).fShapes), .ow (LEN (GD y1.1.fCells (A.nadd 0 (A.toN y3.1))).fLabels) 4 (row GD (encLabel) (GD y1.1.fCells (A.nadd 0 (A.toN y3.1))).fLabels), .ow (LEN (GD y1.1.fCells (A.nadd 0 (A.toN y3.1))).fInstances) 8 (row GD (encInstance) (GD y1.1.fCells (A.nadd 0 (A.toN y3.1))).fInstances)]), rfl, wkOf (patch_of zr), ?_⟩
    cbv; revert h; refine rl fun l26 hl26 h => ?_; injection h with h; subst h; subst hS; show St.le _ _; exact le_sparse rfl zl ⟨rfl, rfl, rfl, oP (fun _ _ => rf_oncCell _ _) (by subst hGD hLEN hA; exact patch_set hl26 (idx_lt c5) zr), trivial⟩ rfl
   cbv; exact dn
  revert h; refine cu (fun y27 => some (sparse 134 [(2, .c (.ptr 128 0)), (3, .c (.ptr 192 0))] [(128, .var [.v (.slice none 0 0)]), (192, .var [.os 576 0 (LEN y1.1.fCells)]), (5, .var [.bs (LEN y27.1) 1 (row GD (encI .u8) y27.1), .v (.int .i64 y27.2.1), .v (.int .i64 y27.2.2.1)]), (576, .arr .rw [] (LEN y1.1.fCells) 4 (row GD (oncCell LEN GD) y27.2.2.2))])) ?_ ?_
  ·intro y27 S hS h; cbv; revert h; refine fk ?_ ?_ <;> intro h <;> cbv
   ·revert h; refine cu (fun y37 => (sparse 134 [(2, .c (.ptr 128 0)), (3, .c (.ptr 192 0))] [(128, .var [.v (.slice none 0 0)]), (192, .var [.os 576 0 (LEN y1.1.fCells)]), (5, .var [.bs (LEN y37.1) 1 (row GD (encI .u8) y37.1), .v (.int .i64 y37.2.1), .v (.int .i64 y37.2.2.1)]), (576, .arr .rw [] (LEN y1.1.fCells) 4 (row GD (oncCell LEN GD) y37.2.2.2))])) ?_ ?_
    ·intro y37 S hS h; cbv; revert h; refine rl fun l47 hl47 h => ?_; have e48 : 4 = LEN l47 := by subst hl47 hLEN; rfl
     refine ⟨_, (co e48), _, row GD (encS) l47, e48, wkOf ?_, ?_⟩
     ·intro i hi j hj; rw [← e48] at hi; subst hl47; subst hGD; obtain rfl | rfl | rfl | rfl : i = 0 ∨ i = 1 ∨ i = 2 ∨ i = 3 := (by omega); all_goals obtain rfl : j = 0 := by omega
      all_goals rfl
     cbv; revert h; refine rk [(5, 5)] [(5, 5)] (hf_spec_l01Next_mPbb _ _) (fun _ => yf) fun y49 h => ?_; cbv; revert h; refine ra fun c51 h => ?_; refine ai c51 ?_; refine ai c5 ?_
     refine ⟨_, rfl, _, (patchC (row GD (oncCell LEN GD) y1.1.fCells) (A.nadd 0 (A.toN y3.1)) [.v (.string (GD l47 (A.nadd 0 (A.toN y49.1)))), .ow (LEN (GD y1.1.fCells (A.nadd 0 (A.toN y3.1))).fShapes) 5 (row GD (encShape) (GD y1.1.fCells (A.nadd 0 (A.toN y3.1))).fShapes), .ow (LEN (GD y1.1.fCells (A.nadd 0 (A.toN y3.1))).fLabels) 4 (row GD (encLabel) (GD y1.1.fCells (A.nadd 0 (A.toN y3.1))).fLabels), .ow (LEN (GD y1.1.fCells (A.nadd 0 (A.toN y3.1))).fInstances) 8 (row GD (encInstance) (GD y1.1.fCells (A.nadd 0 (A.toN y3.1))).fInstances)]), rfl, wkOf (patch_of zr), ?_⟩
     cbv; revert h; refine rl fun l52 hl52 h => ?_; injection h with h; subst h; subst hS; show St.le _ _; exact le_sparse rfl zl ⟨rfl, rfl, rfl, oP (fun _ _ => rf_oncCell _ _) (by subst hGD hLEN hA; exact patch_set hl52 (idx_lt c5) zr), trivial⟩ rfl
    rintro ⟨w43, w44, w45, w46⟩ h; replace h := oz (oz (oz (oz h))); dsimp only at h; cbv; exact dn
   revert h; refine cu (fun y53 => some (sparse 134 [(2, .c (.ptr 128 0)), (3, .c (.ptr 192 0))] [(128, .var [.v (.slice none 0 0)]), (192, .var [.os 576 0 (LEN y1.1.fCells)]), (5, .var [.bs (LEN y53.1) 1 (row GD (encI .u8) y53.1), .v (.int .i64 y53.2.1), .v (.int .i64 y53.2.2.1)]), (576, .arr .rw [] (LEN y1.1.fCells) 4 (row GD (oncCell LEN GD) y53.2.2.2))])) ?_ ?_
   ·intro y53 S hS h; cbv; revert h; refine fk ?_ ?_ <;> intro h <;> cbv
    ·revert h; refine cu (fun y63 => (sparse 134 [(2, .c (.ptr 128 0)), (3, .c (.ptr 192 0))] [(128, .var [.v (.slice none 0 0)]), (192, .var [.os 576 0 (LEN y1.1.fCells)]), (5, .var [.bs (LEN y63.1) 1 (row GD (encI .u8) y63.1), .v (.int .i64 y63.2.1), .v (.int .i64 y63.2.2.1)]), (576, .arr .rw [] (LEN y1.1.fCells) 4 (row GD (oncCell LEN GD) y63.2.2.2))])) ?_ ?_
     ·intro y63 S hS h; cbv; refine ai c5 ?_
      refine ⟨_, rfl, _, (patchC (row GD (oncCell LEN GD) y1.1.fCells) (A.nadd 0 (A.toN y3.1)) [.v (.string (GD y1.1.fCells (A.nadd 0 (A.toN y3.1))).fName), .os 3010 0 (LEN (GD y1.1.fCells (A.nadd 0 (A.toN y3.1))).fShapes), .ow (LEN (GD y1.1.fCells (A.nadd 0 (A.toN y3.1))).fLabels) 4 (row GD (encLabel) (GD y1.1.fCells (A.nadd 0 (A.toN y3.1))).fLabels), .ow (LEN (GD y1.1.fCells (A.nadd 0 (A.toN y3.1))).fInstances) 8 (row GD (encInstance) (GD y1.1.fCells (A.nadd 0 (A.toN y3.1))).fInstances)]), rfl, wkOf (patch_of zr), ?_⟩
      refine ⟨_, row GD (encShape) (GD y1.1.fCells (A.nadd 0 (A.toN y3.1))).fShapes, rfl, wkOf (fun i _ j _ => plain_cp (pl_encShape _ _)), ?_⟩; cbv; revert h; refine rk [(5, 5)] [(5, 5)] (hf_spec_l01Next_mPbb _ _) (fun _ => yf) fun y73 h => ?_; cbv; revert h; refine rk [(5, 5)] [(5, 5)] (hf_spec_l01Next_mPbb _ _) (fun _ => yf) fun y75 h => ?_; cbv
      revert h; refine rk [(5, 5)] [(5, 5)] (hf_spec_l01Next_mPbb _ _) (fun _ => yf) fun y77 h => ?_; cbv; revert h; refine rk [(5, 5)] [(5, 5)] (hf_spec_l01Next_mPbb _ _) (fun _ => yf) fun y79 h => ?_; cbv; revert h; refine rk [(5, 5)] [(5, 5)] (hf_spec_l01Next_mPbb _ _) (fun _ => yf) fun y81 h => ?_; cbv; revert h; refine rl fun l83 hl83 h => ?_; have e84 : 1 = LEN l83 := by subst hl83 hLEN; rfl
      refine ⟨_, (co e84), _, row GD (encShape) l83, e84, wkOf ?_, ?_⟩
      ·intro i hi j hj; rw [← e84] at hi; subst hl83; subst hGD; obtain rfl : i = 0 := (by omega) <;> obtain rfl | rfl | rfl | rfl | rfl : j = 0 ∨ j = 1 ∨ j = 2 ∨ j = 3 ∨ j = 4 := (by omega)
       all_goals rfl
      cbv; revert h; refine rq fun c87 => rl fun l85 hl85 h => ?_; have e86 := nl hA hLEN hl85; refine ⟨c87, _, (co e86), _, row GD (encShape) l85, e86, wkOf ?_, ?_⟩
      ·subst hGD hLEN hA; exact app_os (off := 0) (pl_encShape) hl85 (Nat.le_refl _)
      cbv; refine ai c5 ?_
      refine ⟨_, rfl, _, (patchC (row GD (oncCell LEN GD) y1.1.fCells) (A.nadd 0 (A.toN y3.1)) [.v (.string (GD y1.1.fCells (A.nadd 0 (A.toN y3.1))).fName), .os 3010 0 (LEN l85), .ow (LEN (GD y1.1.fCells (A.nadd 0 (A.toN y3.1))).fLabels) 4 (row GD (encLabel) (GD y1.1.fCells (A.nadd 0 (A.toN y3.1))).fLabels), .ow (LEN (GD y1.1.fCells (A.nadd 0 (A.toN y3.1))).fInstances) 8 (row GD (encInstance) (GD y1.1.fCells (A.nadd 0 (A.toN y3.1))).fInstances)]), rfl, wkOf ?_, ?_⟩
      ·first | refine patch_of2 ?_ | refine patch_of2K (fun _ _ => rf_oncCell _ _) ?_
       exact zr
      cbv; revert h; refine rl fun l88 hl88 h => ?_; injection h with h; subst h; subst hS; show St.le _ _; refine St.le_trans (le_foldP 576 1 3010 rfl rfl rfl (by decide) (by subst hA; exact idx_lt c5) (by decide) rfl (fun _ _ => rf_oncCell _ _)) ?_; exact le_sparse rfl zl ⟨rfl, rfl, rfl, oP (fun _ _ => rf_oncCell _ _) (by subst hGD hLEN hA; exact patch_set hl88 (idx_lt c5) zr), trivial⟩ rfl
     rintro ⟨w69, w70, w71, w72⟩ h; replace h := oz (oz (oz (oz h))); dsimp only at h; cbv; exact dn
    revert h; refine cu (fun y89 => some (sparse 134 [(2, .c (.ptr 128 0)), (3, .c (.ptr 192 0))] [(128, .var [.v (.slice none 0 0)]), (192, .var [.os 576 0 (LEN y1.1.fCells)]), (5, .var [.bs (LEN y89.1) 1 (row GD (encI .u8) y89.1), .v (.int .i64 y89.2.1), .v (.int .i64 y89.2.2.1)]), (576, .arr .rw [] (LEN y1.1.fCells) 4 (row GD (oncCell LEN GD) y89.2.2.2))])) ?_ ?_
    ·intro y89 S hS h; cbv; revert h; refine fk ?_ ?_ <;> intro h <;> cbv
     ·revert h; refine rk [(5, 5)] [(5, 5)] (hf_spec_l09DrawInstance_mPbb _ _) (fun _ => yf) fun y99 h => ?_; cbv; revert h; refine rk [(5, 5)] [(5, 5)] (hf_spec_l01Next_mPbb _ _) (fun _ => yf) fun y101 h => ?_; cbv; revert h; refine rk [(5, 5)] [(5, 5)] (hf_spec_l01Next_mPbb _ _) (fun _ => yf) fun y103 h => ?_; cbv
      revert h; refine cu (fun y105 => (sparse 134 [(2, .c (.ptr 128 0)), (3, .c (.ptr 192 0))] [(128, .var [.v (.slice none 0 0)]), (192, .var [.os 576 0 (LEN y1.1.fCells)]), (5, .var [.bs (LEN y103.2.gcode) 1 (row GD (encI .u8) y103.2.gcode), .v (.int .i64 y103.2.gat), .v (.int .i64 y103.2.gseed)]), (576, .arr .rw [] (LEN y1.1.fCells) 4 (row GD (oncCell LEN GD) y105))])) ?_ fun w111 => rz fun h => ?_
      ·intro y105 S hS h; cbv; refine ai c5 ?_
       refine ⟨_, rfl, _, (patchC (row GD (oncCell LEN GD) y1.1.fCells) (A.nadd 0 (A.toN y3.1)) [.v (.string (GD y1.1.fCells (A.nadd 0 (A.toN y3.1))).fName), .ow (LEN (GD y1.1.fCells (A.nadd 0 (A.toN y3.1))).fShapes) 5 (row GD (encShape) (GD y1.1.fCells (A.nadd 0 (A.toN y3.1))).fShapes), .ow (LEN (GD y1.1.fCells (A.nadd 0 (A.toN y3.1))).fLabels) 4 (row GD (encLabel) (GD y1.1.fCells (A.nadd 0 (A.toN y3.1))).fLabels), .os 5506 0 (LEN (GD y1.1.fCells (A.nadd 0 (A.toN y3.1))).fInstances)]), rfl, wkOf (patch_of zr), ?_⟩
       refine ⟨_, row GD (encInstance) (GD y1.1.fCells (A.nadd 0 (A.toN y3.1))).fInstances, rfl, wkOf (fun i _ j _ => plain_cp (pl_encInstance _ _)), ?_⟩; cbv; revert h; refine rl fun l112 hl112 h => ?_; have e113 : 1 = LEN l112 := by subst hl112 hLEN; rfl
       refine ⟨_, (co e113), _, row GD (encInstance) l112, e113, wkOf ?_, ?_⟩
       ·intro i hi j hj; rw [← e113] at hi; subst hl112; subst hGD; obtain rfl : i = 0 := (by omega) <;> obtain rfl | rfl | rfl | rfl | rfl | rfl | rfl | rfl : j = 0 ∨ j = 1 ∨ j = 2 ∨ j = 3 ∨ j = 4 ∨ j = 5 ∨ j = 6 ∨ j = 7 := (by omega)
        all_goals rfl
       cbv; revert h; refine rq fun c116 => rl fun l114 hl114 h => ?_; have e115 := nl hA hLEN hl114; refine ⟨c116, _, (co e115), _, row GD (encInstance) l114, e115, wkOf ?_, ?_⟩
       ·subst hGD hLEN hA; exact app_os (off := 0) (pl_encInstance) hl114 (Nat.le_refl _)
       cbv; refine ai c5 ?_
       refine ⟨_, rfl, _, (patchC (row GD (oncCell LEN GD) y1.1.fCells) (A.nadd 0 (A.toN y3.1)) [.v (.string (GD y1.1.fCells (A.nadd 0 (A.toN y3.1))).fName), .ow (LEN (GD y1.1.fCells (A.nadd 0 (A.toN y3.1))).fShapes) 5 (row GD (encShape) (GD y1.1.fCells (A.nadd 0 (A.toN y3.1))).fShapes), .ow (LEN (GD y1.1.fCells (A.nadd 0 (A.toN y3.1))).fLabels) 4 (row GD (encLabel) (GD y1.1.fCells (A.nadd 0 (A.toN y3.1))).fLabels), .os 5506 0 (LEN l114)]), rfl, wkOf ?_, ?_⟩
       ·first | refine patch_of2 ?_ | refine patch_of2K (fun _ _ => rf_oncCell _ _) ?_
        exact zr
       cbv; revert h; refine rl fun l117 hl117 h => ?_; injection h with h; subst h; subst hS; show St.le _ _; refine St.le_trans (le_foldP 576 3 5506 rfl rfl rfl (by decide) (by subst hA; exact idx_lt c5) (by decide) rfl (fun _ _ => rf_oncCell _ _)) ?_; exact le_sparse rfl zl ⟨rfl, rfl, rfl, oP (fun _ _ => rf_oncCell _ _) (by subst hGD hLEN hA; exact patch_set hl117 (idx_lt c5) zr), trivial⟩ rfl
      cbv; exact dn
     revert h; refine cu (fun y118 => some (sparse 134 [(2, .c (.ptr 128 0)), (3, .c (.ptr 192 0))] [(128, .var [.v (.slice none 0 0)]), (192, .var [.os 576 0 (LEN y1.1.fCells)]), (5, .var [.bs (LEN y118.1) 1 (row GD (encI .u8) y118.1), .v (.int .i64 y118.2.1), .v (.int .i64 y118.2.2.1)]), (576, .arr .rw [] (LEN y1.1.fCells) 4 (row GD (oncCell LEN GD) y118.2.2.2))])) ?_ ?_
     ·intro y118 S hS h; cbv; revert h; refine fk ?_ ?_ <;> intro h <;> cbv
      ·revert h; refine cu (fun y128 => (sparse 134 [(2, .c (.ptr 128 0)), (3, .c (.ptr 192 0))] [(128, .var [.v (.slice none 0 0)]), (192, .var [.os 576 0 (LEN y1.1.fCells)]), (5, .var [.bs (LEN y128.1) 1 (row GD (encI .u8) y128.1), .v (.int .i64 y128.2.1), .v (.int .i64 y128.2.2.1)]), (576, .arr .rw [] (LEN y1.1.fCells) 4 (row GD (oncCell LEN GD) y128.2.2.2))])) ?_ ?_
       ·intro y128 S hS h; cbv; refine ai c5 ?_
        refine ⟨_, rfl, _, (patchC (row GD (oncCell LEN GD) y1.1.fCells) (A.nadd 0 (A.toN y3.1)) [.v (.string (GD y1.1.fCells (A.nadd 0 (A.toN y3.1))).fName), .ow (LEN (GD y1.1.fCells (A.nadd 0 (A.toN y3.1))).fShapes) 5 (row GD (encShape) (GD y1.1.fCells (A.nadd 0 (A.toN y3.1))).fShapes), .os 6274 0 (LEN (GD y1.1.fCells (A.nadd 0 (A.toN y3.1))).fLabels), .ow (LEN (GD y1.1.fCells (A.nadd 0 (A.toN y3.1))).fInstances) 8 (row GD (encInstance) (GD y1.1.fCells (A.nadd 0 (A.toN y3.1))).fInstances)]), rfl, wkOf (patch_of zr), ?_⟩
        refine ⟨_, row GD (encLabel) (GD y1.1.fCells (A.nadd 0 (A.toN y3.1))).fLabels, rfl, wkOf (fun i _ j _ => plain_cp (pl_encLabel _ _)), ?_⟩; cbv; revert h; refine rk [(5, 5)] [(5, 5)] (hf_spec_l01Next_mPbb _ _) (fun _ => yf) fun y138 h => ?_; cbv; revert h; refine rk [(5, 5)] [(5, 5)] (hf_spec_l01Next_mPbb _ _) (fun _ => yf) fun y140 h => ?_; cbv
        revert h; refine rk [(5, 5)] [(5, 5)] (hf_spec_l01Next_mPbb _ _) (fun _ => yf) fun y142 h => ?_; cbv; revert h; refine rk [(5, 5)] [(5, 5)] (hf_spec_l09DrawName_mPb _) (fun _ => yf) fun y144 h => ?_; cbv; revert h; refine rl fun l146 hl146 h => ?_; have e147 : 1 = LEN l146 := by subst hl146 hLEN; rfl
        refine ⟨_, (co e147), _, row GD (encLabel) l146, e147, wkOf ?_, ?_⟩
        ·intro i hi j hj; rw [← e147] at hi; subst hl146; subst hGD; obtain rfl : i = 0 := (by omega) <;> obtain rfl | rfl | rfl | rfl : j = 0 ∨ j = 1 ∨ j = 2 ∨ j = 3 := (by omega)
         all_goals rfl
        cbv; revert h; refine rq fun c150 => rl fun l148 hl148 h => ?_; have e149 := nl hA hLEN hl148; refine ⟨c150, _, (co e149), _, row GD (encLabel) l148, e149, wkOf ?_, ?_⟩
        ·subst hGD hLEN hA; exact app_os (off := 0) (pl_encLabel) hl148 (Nat.le_refl _)
        cbv; refine ai c5 ?_
        refine ⟨_, rfl, _, (patchC (row GD (oncCell LEN GD) y1.1.fCells) (A.nadd 0 (A.toN y3.1)) [.v (.string (GD y1.1.fCells (A.nadd 0 (A.toN y3.1))).fName), .ow (LEN (GD y1.1.fCells (A.nadd 0 (A.toN y3.1))).fShapes) 5 (row GD (encShape) (GD y1.1.fCells (A.nadd 0 (A.toN y3.1))).fShapes), .os 6274 0 (LEN l148), .ow (LEN (GD y1.1.fCells (A.nadd 0 (A.toN y3.1))).fInstances) 8 (row GD (encInstance) (GD y1.1.fCells (A.nadd 0 (A.toN y3.1))).fInstances)]), rfl, wkOf ?_, ?_⟩
        ·first | refine patch_of2 ?_ | refine patch_of2K (fun _ _ => rf_oncCell _ _) ?_
         exact zr
        cbv; revert h; refine rl fun l151 hl151 h => ?_; injection h with h; subst h; subst hS; show St.le _ _; refine St.le_trans (le_foldP 576 2 6274 rfl rfl rfl (by decide) (by subst hA; exact idx_lt c5) (by decide) rfl (fun _ _ => rf_oncCell _ _)) ?_; exact le_sparse rfl zl ⟨rfl, rfl, rfl, oP (fun _ _ => rf_oncCell _ _) (by subst hGD hLEN hA; exact patch_set hl151 (idx_lt c5) zr), trivial⟩ rfl
       rintro ⟨w134, w135, w136, w137⟩ h; replace h := oz (oz (oz (oz h))); dsimp only at h; cbv; exact dn
      revert h; refine cu (fun y152 => some (sparse 134 [(2, .c (.ptr 128 0)), (3, .c (.ptr 192 0))] [(128, .var [.v (.slice none 0 0)]), (192, .var [.os 576 0 (LEN y1.1.fCells)]), (5, .var [.bs (LEN y152.1) 1 (row GD (encI .u8) y152.1), .v (.int .i64 y152.2.1), .v (.int .i64 y152.2.2.1)]), (576, .arr .rw [] (LEN y1.1.fCells) 4 (row GD (oncCell LEN GD) y152.2.2.2))])) ?_ ?_
      ·intro y152 S hS h; cbv; revert h; refine fk ?_ ?_ <;> intro h <;> cbv
       ·revert h; refine ln (.exit 1) (fun x => (sparse 134 [(0, .c (.ptr 5 0)), (2, .c (.ptr 128 0)), (3, .c (.ptr 192 0)), (5, .c (.ep 576 (A.nadd 0 (A.toN y3.1)) 0)), (7, .c (.v (.int .i64 x.1)))] [(5, .var [.bs (LEN x.2.1) 1 (row GD (encI .u8) x.2.1), .v (.int .i64 x.2.2.1), .v (.int .i64 x.2.2.2.1)]), (128, .var [.v (.slice none 0 0)]), (192, .var [.os 576 0 (LEN y1.1.fCells)]), (576, .arr .rw [] (LEN y1.1.fCells) 4 (row GD (oncCell LEN GD) x.2.2.2.2))])) (fun w => (sparse 134 [(2, .c (.ptr 128 0)), (3, .c (.ptr 192 0))] [(128, .var [.v (.slice none 0 0)]), (192, .var [.os 576 0 (LEN y1.1.fCells)]), (5, .var [.bs (LEN w.1) 1 (row GD (encI .u8) w.1), .v (.int .i64 w.2.1), .v (.int .i64 w.2.2.1)]), (576, .arr .rw [] (LEN y1.1.fCells) 4 (row GD (oncCell LEN GD) w.2.2.2))])) zb ?_ ?_
        ·rintro ⟨v162, v163, v164, v165, v166⟩ z h K hK hY; replace h := oz (oz (oz (oz (oz h)))); dsimp only at h; cbv; revert h; refine fk ?_ ?_ <;> intro h <;> cbv
         ·revert h; refine cu (fun y179 => (sparse 134 [(0, .c (.ptr 5 0)), (2, .c (.ptr 128 0)), (3, .c (.ptr 192 0)), (5, .c (.ep 576 (A.nadd 0 (A.toN y3.1)) 0)), (7, .c (.v (.int .i64 v162)))] [(5, .var [.bs (LEN y179.1) 1 (row GD (encI .u8) y179.1), .v (.int .i64 y179.2.1), .v (.int .i64 y179.2.2.1)]), (128, .var [.v (.slice none 0 0)]), (192, .var [.os 576 0 (LEN y1.1.fCells)]), (576, .arr .rw [] (LEN y1.1.fCells) 4 (row GD (oncCell LEN GD) y179.2.2.2))])) ?_ ?_
          ·intro y179 S hS h; cbv; refine ai c5 ?_
           refine ⟨_, rfl, _, (patchC (row GD (oncCell LEN GD) v166) (A.nadd 0 (A.toN y3.1)) [.v (.string (GD v166 (A.nadd 0 (A.toN y3.1))).fName), .os 8066 0 (LEN (GD v166 (A.nadd 0 (A.toN y3.1))).fShapes), .ow (LEN (GD v166 (A.nadd 0 (A.toN y3.1))).fLabels) 4 (row GD (encLabel) (GD v166 (A.nadd 0 (A.toN y3.1))).fLabels), .ow (LEN (GD v166 (A.nadd 0 (A.toN y3.1))).fInstances) 8 (row GD (encInstance) (GD v166 (A.nadd 0 (A.toN y3.1))).fInstances)]), rfl, wkOf (patch_of zr), ?_⟩
           refine ⟨_, row GD (encShape) (GD v166 (A.nadd 0 (A.toN y3.1))).fShapes, rfl, wkOf (fun i _ j _ => plain_cp (pl_encShape _ _)), ?_⟩; cbv; revert h; refine rk [(5, 5)] [(5, 5)] (hf_spec_l09DrawShape_mPb _) (fun _ => yf) fun y189 h => ?_; cbv; revert h; refine rl fun l191 hl191 h => ?_; have e192 : 1 = LEN l191 := by subst hl191 hLEN; rfl
           refine ⟨_, (co e192), _, row GD (encShape) l191, e192, wkOf ?_, ?_⟩
           ·intro i hi j hj; rw [← e192] at hi; subst hl191; subst hGD; obtain rfl : i = 0 := (by omega) <;> obtain rfl | rfl | rfl | rfl | rfl : j = 0 ∨ j = 1 ∨ j = 2 ∨ j = 3 ∨ j = 4 := (by omega)
            all_goals rfl
           cbv; revert h; refine rq fun c195 => rl fun l193 hl193 h => ?_; have e194 := nl hA hLEN hl193; refine ⟨c195, _, (co e194), _, row GD (encShape) l193, e194, wkOf ?_, ?_⟩
           ·subst hGD hLEN hA; exact app_os (off := 0) (pl_encShape) hl193 (Nat.le_refl _)
           cbv; refine ai c5 ?_
           refine ⟨_, rfl, _, (patchC (row GD (oncCell LEN GD) v166) (A.nadd 0 (A.toN y3.1)) [.v (.string (GD v166 (A.nadd 0 (A.toN y3.1))).fName), .os 8066 0 (LEN l193), .ow (LEN (GD v166 (A.nadd 0 (A.toN y3.1))).fLabels) 4 (row GD (encLabel) (GD v166 (A.nadd 0 (A.toN y3.1))).fLabels), .ow (LEN (GD v166 (A.nadd 0 (A.toN y3.1))).fInstances) 8 (row GD (encInstance) (GD v166 (A.nadd 0 (A.toN y3.1))).fInstances)]), rfl, wkOf ?_, ?_⟩
           ·first | refine patch_of2 ?_ | refine patch_of2K (fun _ _ => rf_oncCell _ _) ?_
            exact zr
           cbv; revert h; refine rq fun c197 => rl fun l196 hl196 h => ?_; injection h with h; subst h; subst hS; show St.le _ _; refine St.le_trans (le_foldP 576 1 8066 rfl rfl rfl (by decide) (by subst hA; exact idx_lt c5) (by decide) rfl (fun _ _ => rf_oncCell _ _)) ?_
           exact le_sparse rfl zl ⟨rfl, rfl, rfl, oP (fun _ _ => rf_oncCell _ _) (by subst hGD hLEN hA; exact patch_set hl196 (idx_lt (by rw [← c197]; exact c5)) zr), trivial⟩ rfl
          rintro ⟨w185, w186, w187, w188⟩ h; replace h := oz (oz (oz (oz h))); dsimp only at h; cbv; exact dm
         exact dx
        rintro ⟨w199, w200, w201, w202⟩ h s q176; replace h := oz (oz (oz (oz (oz h)))); dsimp only at h; cbv; refine ⟨_, q176, ?_⟩; cbv; exact dn
       exact dn
      rintro ⟨w158, w159, w160, w161⟩ h; replace h := oz (oz (oz (oz h))); dsimp only at h; cbv; exact dn
     rintro ⟨w124, w125, w126, w127⟩ h; replace h := oz (oz (oz (oz h))); dsimp only at h; cbv; exact dn
    rintro ⟨w95, w96, w97, w98⟩ h; replace h := oz (oz (oz (oz h))); dsimp only at h; cbv; exact dn
   rintro ⟨w59, w60, w61, w62⟩ h; replace h := oz (oz (oz (oz h))); dsimp only at h; cbv; exact dn
  rintro ⟨w33, w34, w35, w36⟩ h; replace h := oz (oz (oz (oz h))); dsimp only at h; cbv; exact dn
 rintro ⟨w14, w15, w16, w17⟩ h; replace h := oz (oz (oz (oz h))); dsimp only at h; cbv; revert h; refine rq fun c209 h => ?_; injection h with h; subst h; refine ⟨(sparse 134 [(2, .c (.ptr 128 0))] [(128, .var [.os 64000 0 (LEN w14)]), (5, .var [.bs (LEN w15) 1 (row GD (encI .u8) w15), .v (.int .i64 w16), .v (.int .i64 w17)]), (64000, .arr .rw [] (LEN w14) 4 (row GD (oncCell LEN GD) w14))]), ?_, ?_⟩
 ·refine St.le_trans (le_ren 576 64000 (by decide) rfl) ?_; rw [c209]; exact zb
 ·exact ⟨lR _, zo, rfl⟩

/-- spec.l09DrawIndex -/
noncomputable def F_spec_l09DrawIndex_mPbo (a0 : Tl01Source) (a1 : TLibrary) : Option (Int × Tl01Source × (List TCell)) :=
 (F_spec_l01Next_mPbb a0 12).bind fun y1 =>
 br (std.eq y1.1 0)
 (letO ([(-1), std.ofN (len a1.fCells), 7] : List Int) fun l3 =>
 (F_spec_l01Next_mPbb y1.2 3).bind fun y5 =>
 req (std.inR y5.1 (len l3)) <|
 some (gd l3 (std.nadd 0 (std.toN y5.1)), y5.2, a1.fCells))
 ((F_spec_l01Next_mPbb y1.2 (std.ofN (len a1.fCells))).bind fun y8 =>
 some (y8.1, y8.2, a1.fCells))
set_option maxHeartbeats 4000000 in
theorem run_spec_l09DrawIndex_mPbo (a0 : Tl01Source) (a1 : TLibrary) (r : Int × Tl01Source × (List TCell)) (h : F_spec_l09DrawIndex_mPbo a0 a1 = some r) : Fun Try.prog 74 [.c (.ptr 5 0), .agg [.os 7 0 (len a1.fCells)]] [(5, .var [.bs (len a0.gcode) 1 (row gd (encI .u8) a0.gcode), .v (.int .i64 a0.gat), .v (.int .i64 a0.gseed)]), (7, .arr .rw [] (len a1.fCells) 4 (row gd (oncCell len gd) a1.fCells))] (.c (.v (.int .i64 r.1))) [(5, .var [.bs (len r.2.1.gcode) 1 (row gd (encI .u8) r.2.1.gcode), .v (.int .i64 r.2.1.gat), .v (.int .i64 r.2.1.gseed)]), (7, .arr .rw [] (len r.2.2) 4 (row gd (oncCell len gd) r.2.2))] false := by
 refine ow [] Try.func74 Try.ntmps74 ?_ (hw := ⟨fun i _ j _ k hk => (noref (rf_oncCell _ _) hk).elim, trivial⟩) (hv := (fun h => by cases h)); unfold F_spec_l09DrawIndex_mPbo at h; have hf_spec_l01Next_mPbb := @run_spec_l01Next_mPbb; generalize hLEN : @len = LEN, hGD : @gd = GD, hA : std = A, hP : Try.prog = P at *; cbv
 revert h; refine rk [(5, 5)] [(5, 5)] (hf_spec_l01Next_mPbb _ _) (fun _ => yf) fun y1 h => ?_; cbv; revert h; refine fk ?_ ?_ <;> intro h <;> cbv
 ·revert h; refine rl fun l3 hl3 h => ?_; have e4 : 3 = LEN l3 := by subst hl3 hLEN; rfl
  refine ⟨_, (co e4), _, row GD (encI .i64) l3, e4, wkOf ?_, ?_⟩
  ·intro i hi j hj; rw [← e4] at hi; subst hl3; subst hGD; obtain rfl | rfl | rfl : i = 0 ∨ i = 1 ∨ i = 2 := (by omega); all_goals obtain rfl : j = 0 := by omega
   all_goals rfl
  cbv; revert h; refine rk [(5, 5)] [(5, 5)] (hf_spec_l01Next_mPbb _ _) (fun _ => yf) fun y5 h => ?_; cbv; revert h; refine ra fun c7 h => ?_; refine ai c7 ?_; exact df
 revert h; refine rk [(5, 5)] [(5, 5)] (hf_spec_l01Next_mPbb _ _) (fun _ => yf) fun y8 h => ?_; cbv; exact df
/-- spec.l10DrawLibrary -/
noncomputable def F_spec_l10DrawLibrary_mPb (a0 : Tl01Source) : Option (TLibrary × Tl01Source) :=
 (F_spec_l09DrawLibrary_mPb a0).bind fun y1 =>
 some (y1.1, y1.2)
set_option maxHeartbeats 4000000 in
theorem run_spec_l10DrawLibrary_mPb (a0 : Tl01Source) (r : TLibrary × Tl01Source) (h : F_spec_l10DrawLibrary_mPb a0 = some r) : Fun Try.prog 75 [.c (.ptr 5 0)] [(5, .var [.bs (len a0.gcode) 1 (row gd (encI .u8) a0.gcode), .v (.int .i64 a0.gat), .v (.int .i64 a0.gseed)])] (.agg [.os 64000 0 (len r.1.fCells)]) [(64000, .arr .rw [] (len r.1.fCells) 4 (row gd (oncCell len gd) r.1.fCells)), (5, .var [.bs (len r.2.gcode) 1 (row gd (encI .u8) r.2.gcode), .v (.int .i64 r.2.gat), .v (.int .i64 r.2.gseed)])] false := by
 refine ow [] Try.func75 Try.ntmps75 ?_ (hv := (fun h => by cases h)); unfold F_spec_l10DrawLibrary_mPb at h; have hf_spec_l09DrawLibrary_mPb := @run_spec_l09DrawLibrary_mPb; generalize hLEN : @len = LEN, hGD : @gd = GD, hA : std = A, hP : Try.prog = P at *; cbv
 revert h; refine rk [(5, 5)] [(64000, 256), (5, 5)] (hf_spec_l09DrawLibrary_mPb _) (fun _ => ⟨les_cons (lR _) (les_nil), ⟨rfl, trivial⟩, rfl, rfl, rfl, rfl, ⟨fun h => absurd (show (64000 : Nat) % 2 = 1 from h) (by decide), fun _ => rfl, trivial⟩, rfl⟩) fun y1 h => ⟨_, rfl, _, _, rfl, fun _ _ _ _ => .refl _, ?_⟩
 cbv; injection h with h; subst h; exact ⟨_, le_ren 256 64000 (by decide) rfl, lR _, zo, rfl⟩

/-- spec.l10DrawTop -/
noncomputable def F_spec_l10DrawTop_mPb (a0 : Tl01Source) : Option (TLibrary × Int × Tl01Source) :=
 (F_spec_l01Next_mPbb a0 16).bind fun y1 =>
 br (std.eq y1.1 0)
 ((F_spec_l09DrawAny_mPb y1.2).bind fun y3 =>
 (F_spec_l09DrawIndex_mPbo y3.2 y3.1).bind fun y5 =>
 req (len y5.2.2 = len y3.1.fCells) <|
 req (len y3.1.fCells = len y5.2.2) <|
 some ((TLibrary.mk y5.2.2), y5.1, y5.2.1))
 ((F_spec_l10DrawLibrary_mPb y1.2).bind fun y9 =>
 (F_spec_l01Next_mPbb y9.2 6).bind fun y11 =>
 br (std.eq y11.1 0)
 ((F_spec_l09DrawIndex_mPbo y11.2 y9.1).bind fun y13 =>
 req (len y13.2.2 = len y9.1.fCells) <|
 req (len y9.1.fCells = len y13.2.2) <|
 some ((TLibrary.mk y13.2.2), y13.1, y13.2.1))
 (some (y9.1, std.sub .i64 (std.ofN (len y9.1.fCells)) 1, y11.2)))
set_option maxHeartbeats 4000000 in
theorem run_spec_l10DrawTop_mPb (a0 : Tl01Source) (r : TLibrary × Int × Tl01Source) (h : F_spec_l10DrawTop_mPb a0 = some r) : Fun Try.prog 53 [.c (.ptr 5 0)] [(5, .var [.bs (len a0.gcode) 1 (row gd (encI .u8) a0.gcode), .v (.int .i64 a0.gat), .v (.int .i64 a0.gseed)])] (.tup [.agg [.os 64000 0 (len r.1.fCells)], .c (.v (.int .i64 r.2.1))]) [(64000, .arr .rw [] (len r.1.fCells) 4 (row gd (oncCell len gd) r.1.fCells)), (5, .var [.bs (len r.2.2.gcode) 1 (row gd (encI .u8) r.2.2.gcode), .v (.int .i64 r.2.2.gat), .v (.int .i64 r.2.2.gseed)])] false := by
 refine ow [] Try.func53 Try.ntmps53 ?_ (hv := (fun h => by cases h)); unfold F_spec_l10DrawTop_mPb at h; have hf_spec_l01Next_mPbb := @run_spec_l01Next_mPbb; have hf_spec_l09DrawAny_mPb := @run_spec_l09DrawAny_mPb; have hf_spec_l09DrawIndex_mPbo := @run_spec_l09DrawIndex_mPbo; have hf_spec_l10DrawLibrary_mPb := @run_spec_l10DrawLibrary_mPb
 generalize hLEN : @len = LEN, hGD : @gd = GD, hA : std = A, hP : Try.prog = P at *; cbv; revert h; refine rk [(5, 5)] [(5, 5)] (hf_spec_l01Next_mPbb _ _) (fun _ => yf) fun y1 h => ?_; cbv; revert h; refine fk ?_ ?_ <;> intro h <;> cbv
 ·revert h; refine rk [(5, 5)] [(64000, 640), (5, 5)] (hf_spec_l09DrawAny_mPb _) (fun _ => ⟨les_cons (lR _) (les_nil), ⟨rfl, trivial⟩, rfl, rfl, rfl, rfl, ⟨fun h => absurd (show (64000 : Nat) % 2 = 1 from h) (by decide), fun _ => rfl, trivial⟩, rfl⟩) fun y3 h => ⟨_, rfl, _, _, rfl, fun _ _ _ _ => .refl _, ?_⟩
  cbv; revert h; refine rb fun y5 hy6 => rq fun c8 h => ?_; refine rc [(5, 5), (7, 640)] [(5, 5), (7, 640)] (hf_spec_l09DrawIndex_mPbo _ _ _ hy6) yf ⟨_, rfl, LEN y3.1.fCells, _, c8, fun _ _ _ _ => .refl _, ?_⟩; cbv; revert h; refine rq fun c7 h => ?_; injection h with h; subst h
  refine ⟨(sparse 29 [(2, .c (.ptr 128 0)), (3, .c (.v (.int .i64 y5.1)))] [(128, .var [.os 64000 0 (LEN y5.2.2)]), (5, .var [.bs (LEN y5.2.1.gcode) 1 (row GD (encI .u8) y5.2.1.gcode), .v (.int .i64 y5.2.1.gat), .v (.int .i64 y5.2.1.gseed)]), (64000, .arr .rw [] (LEN y5.2.2) 4 (row GD (oncCell LEN GD) y5.2.2))]), ?_, ?_⟩
  ·refine St.le_trans (le_ren 640 64000 (by decide) rfl) ?_; rw [c7]; exact zb
  ·exact ⟨lR _, zo, rfl⟩
 revert h; refine rk [(5, 5)] [(64000, 1024), (5, 5)] (hf_spec_l10DrawLibrary_mPb _) (fun _ => ⟨les_cons (lR _) (les_nil), ⟨rfl, trivial⟩, rfl, rfl, rfl, rfl, ⟨fun h => absurd (show (64000 : Nat) % 2 = 1 from h) (by decide), fun _ => rfl, trivial⟩, rfl⟩) fun y9 h => ⟨_, rfl, _, _, rfl, fun _ _ _ _ => .refl _, ?_⟩
 cbv; revert h; refine rk [(5, 5)] [(5, 5)] (hf_spec_l01Next_mPbb _ _) (fun _ => yf) fun y11 h => ?_; cbv; revert h; refine fk ?_ ?_ <;> intro h <;> cbv
 ·revert h; refine rb fun y13 hy14 => rq fun c16 h => ?_; refine rc [(5, 5), (7, 1024)] [(5, 5), (7, 1024)] (hf_spec_l09DrawIndex_mPbo _ _ _ hy14) yf ⟨_, rfl, LEN y9.1.fCells, _, c16, fun _ _ _ _ => .refl _, ?_⟩; cbv; revert h; refine rq fun c15 h => ?_; injection h with h; subst h
  refine ⟨(sparse 29 [(2, .c (.ptr 128 0)), (3, .c (.v (.int .i64 y13.1)))] [(128, .var [.os 64000 0 (LEN y13.2.2)]), (5, .var [.bs (LEN y13.2.1.gcode) 1 (row GD (encI .u8) y13.2.1.gcode), .v (.int .i64 y13.2.1.gat), .v (.int .i64 y13.2.1.gseed)]), (64000, .arr .rw [] (LEN y13.2.2) 4 (row GD (oncCell LEN GD) y13.2.2))]), ?_, ?_⟩
  ·refine St.le_trans (le_ren 1024 64000 (by decide) rfl) ?_; rw [c15]; exact zb
  ·exact ⟨lR _, zo, rfl⟩
 injection h with h; subst h; exact ⟨_, le_ren 1024 64000 (by decide) rfl, lR _, zo, rfl⟩

/-- spec.l12DrawTop -/
noncomputable def F_spec_l12DrawTop_mPb (a0 : Tl01Source) : Option (TLibrary × Int × Tl01Source) :=
 (F_spec_l01Next_mPbb a0 3).bind fun y1 =>
 br (std.eq y1.1 0)
 ((F_spec_l10DrawDeep_mPb y1.2).bind fun y3 =>
 some (y3.1, (3 : Int), y3.2))
 ((F_spec_l10DrawTop_mPb y1.2).bind fun y5 =>
 some (y5.1, y5.2.1, y5.2.2))
set_option maxHeartbeats 4000000 in
theorem run_spec_l12DrawTop_mPb (a0 : Tl01Source) (r : TLibrary × Int × Tl01Source) (h : F_spec_l12DrawTop_mPb a0 = some r) : Fun Try.prog 35 [.c (.ptr 5 0)] [(5, .var [.bs (len a0.gcode) 1 (row gd (encI .u8) a0.gcode), .v (.int .i64 a0.gat), .v (.int .i64 a0.gseed)])] (.tup [.agg [.os 64000 0 (len r.1.fCells)], .c (.v (.int .i64 r.2.1))]) [(64000, .arr .rw [] (len r.1.fCells) 4 (row gd (oncCell len gd) r.1.fCells)), (5, .var [.bs (len r.2.2.gcode) 1 (row gd (encI .u8) r.2.2.gcode), .v (.int .i64 r.2.2.gat), .v (.int .i64 r.2.2.gseed)])] false := by
 refine ow [] Try.func35 Try.ntmps35 ?_ (hv := (fun h => by cases h)); unfold F_spec_l12DrawTop_mPb at h; have hf_spec_l01Next_mPbb := @run_spec_l01Next_mPbb; have hf_spec_l10DrawDeep_mPb := @run_spec_l10DrawDeep_mPb; have hf_spec_l10DrawTop_mPb := @run_spec_l10DrawTop_mPb; generalize hLEN : @len = LEN, hGD : @gd = GD, hA : std = A, hP : Try.prog = P at *; cbv
 revert h; refine rk [(5, 5)] [(5, 5)] (hf_spec_l01Next_mPbb _ _) (fun _ => yf) fun y1 h => ?_; cbv; revert h; refine fk ?_ ?_ <;> intro h <;> cbv
 ·revert h; refine rk [(5, 5)] [(64000, 512), (5, 5)] (hf_spec_l10DrawDeep_mPb _) (fun _ => ⟨les_cons (lR _) (les_nil), ⟨rfl, trivial⟩, rfl, rfl, rfl, rfl, ⟨fun h => absurd (show (64000 : Nat) % 2 = 1 from h) (by decide), fun _ => rfl, trivial⟩, rfl⟩) fun y3 h => ⟨_, rfl, _, _, rfl, fun _ _ _ _ => .refl _, ?_⟩
  cbv; injection h with h; subst h; exact ⟨_, le_ren 512 64000 (by decide) rfl, lR _, zo, rfl⟩
 revert h; refine rk [(5, 5)] [(64000, 640), (5, 5)] (hf_spec_l10DrawTop_mPb _) (fun _ => ⟨les_cons (lR _) (les_nil), ⟨rfl, trivial⟩, rfl, rfl, rfl, rfl, ⟨fun h => absurd (show (64000 : Nat) % 2 = 1 from h) (by decide), fun _ => rfl, trivial⟩, rfl⟩) fun y5 h => ⟨_, rfl, _, _, rfl, fun _ _ _ _ => .refl _, ?_⟩
 cbv; injection h with h; subst h; exact ⟨_, le_ren 640 64000 (by decide) rfl, lR _, zo, rfl⟩

/-- spec.l11DrawBox -/
noncomputable def F_spec_l11DrawBox_mPb (a0 : Tl01Source) : Option (TRect × Tl01Source) :=
 (F_spec_l01Next_mPbb a0 80).bind fun y1 =>
 (F_spec_l01Next_mPbb y1.2 80).bind fun y3 =>
 (F_spec_l01Next_mPbb y3.2 20).bind fun y5 =>
 (F_spec_l01Next_mPbb y5.2 20).bind fun y7 =>
 some ((TRect.mk (std.sub .i64 y1.1 40) (std.sub .i64 y3.1 40) (std.imin 40 (std.add .i64 (std.add .i64 (std.sub .i64 y1.1 40) 1) y5.1)) (std.imin 40 (std.add .i64 (std.add .i64 (std.sub .i64 y3.1 40) 1) y7.1))), y7.2)
set_option maxHeartbeats 4000000 in
theorem run_spec_l11DrawBox_mPb (a0 : Tl01Source) (r : TRect × Tl01Source) (h : F_spec_l11DrawBox_mPb a0 = some r) : Fun Try.prog 76 [.c (.ptr 5 0)] [(5, .var [.bs (len a0.gcode) 1 (row gd (encI .u8) a0.gcode), .v (.int .i64 a0.gat), .v (.int .i64 a0.gseed)])] (.agg [.v (.int .i64 r.1.fX0), .v (.int .i64 r.1.fY0), .v (.int .i64 r.1.fX1), .v (.int .i64 r.1.fY1)]) [(5, .var [.bs (len r.2.gcode) 1 (row gd (encI .u8) r.2.gcode), .v (.int .i64 r.2.gat), .v (.int .i64 r.2.gseed)])] false := by
 refine ow [] Try.func76 Try.ntmps76 ?_ (hv := (fun h => by cases h)); unfold F_spec_l11DrawBox_mPb at h; have hf_spec_l01Next_mPbb := @run_spec_l01Next_mPbb; generalize hLEN : @len = LEN, hGD : @gd = GD, hA : std = A, hP : Try.prog = P at *; cbv; revert h; refine rk [(5, 5)] [(5, 5)] (hf_spec_l01Next_mPbb _ _) (fun _ => yf) fun y1 h => ?_; cbv
 revert h; refine rk [(5, 5)] [(5, 5)] (hf_spec_l01Next_mPbb _ _) (fun _ => yf) fun y3 h => ?_; cbv; revert h; refine rk [(5, 5)] [(5, 5)] (hf_spec_l01Next_mPbb _ _) (fun _ => yf) fun y5 h => ?_; cbv; revert h; refine rk [(5, 5)] [(5, 5)] (hf_spec_l01Next_mPbb _ _) (fun _ => yf) fun y7 h => ?_; cbv; exact df

/-- spec.l11DrawWindow -/
noncomputable def F_spec_l11DrawWindow_mPb (a0 : Tl01Source) : Option (TRect × Tl01Source) :=
 (F_spec_l01Next_mPbb a0 16).bind fun y1 =>
 br (std.eq y1.1 0)
 ((F_spec_l01Next_mPbb y1.2 90).bind fun y3 =>
 (F_spec_l01Next_mPbb y3.2 90).bind fun y5 =>
 some ((TRect.mk (std.sub .i64 y3.1 45) 0 (std.sub .i64 y5.1 45) 3), y5.2))
 ((F_spec_l11DrawBox_mPb y1.2).bind fun y7 =>
 some (y7.1, y7.2))
set_option maxHeartbeats 4000000 in
theorem run_spec_l11DrawWindow_mPb (a0 : Tl01Source) (r : TRect × Tl01Source) (h : F_spec_l11DrawWindow_mPb a0 = some r) : Fun Try.prog 54 [.c (.ptr 5 0)] [(5, .var [.bs (len a0.gcode) 1 (row gd (encI .u8) a0.gcode), .v (.int .i64 a0.gat), .v (.int .i64 a0.gseed)])] (.agg [.v (.int .i64 r.1.fX0), .v (.int .i64 r.1.fY0), .v (.int .i64 r.1.fX1), .v (.int .i64 r.1.fY1)]) [(5, .var [.bs (len r.2.gcode) 1 (row gd (encI .u8) r.2.gcode), .v (.int .i64 r.2.gat), .v (.int .i64 r.2.gseed)])] false := by
 refine ow [] Try.func54 Try.ntmps54 ?_ (hv := (fun h => by cases h)); unfold F_spec_l11DrawWindow_mPb at h; have hf_spec_l01Next_mPbb := @run_spec_l01Next_mPbb; have hf_spec_l11DrawBox_mPb := @run_spec_l11DrawBox_mPb; generalize hLEN : @len = LEN, hGD : @gd = GD, hA : std = A, hP : Try.prog = P at *; cbv; revert h; refine rk [(5, 5)] [(5, 5)] (hf_spec_l01Next_mPbb _ _) (fun _ => yf) fun y1 h => ?_
 cbv; revert h; refine fk ?_ ?_ <;> intro h <;> cbv
 ·revert h; refine rk [(5, 5)] [(5, 5)] (hf_spec_l01Next_mPbb _ _) (fun _ => yf) fun y3 h => ?_; cbv; revert h; refine rk [(5, 5)] [(5, 5)] (hf_spec_l01Next_mPbb _ _) (fun _ => yf) fun y5 h => ?_; cbv; exact df
 revert h; refine rk [(5, 5)] [(5, 5)] (hf_spec_l11DrawBox_mPb _) (fun _ => yf) fun y7 h => ?_; cbv; exact df

/-- spec.l12DrawWindow -/
noncomputable def F_spec_l12DrawWindow_mPb (a0 : Tl01Source) : Option (TRect × Tl01Source) :=
 (F_spec_l01Next_mPbb a0 8).bind fun y1 =>
 br (std.eq y1.1 0)
 ((F_spec_l11DrawWindow_mPb y1.2).bind fun y3 =>
 some (y3.1, y3.2))
 (br (std.eq y1.1 1)
 (some ((TRect.mk (-40) (-40) 40 40), y1.2))
 ((F_spec_l01Next_mPbb y1.2 40).bind fun y5 =>
 (F_spec_l01Next_mPbb y5.2 40).bind fun y7 =>
 (F_spec_l01Next_mPbb y7.2 14).bind fun y9 =>
 (F_spec_l01Next_mPbb y9.2 14).bind fun y11 =>
 some ((TRect.mk (std.sub .i64 y5.1 20) (std.sub .i64 y7.1 20) (std.add .i64 (std.add .i64 (std.sub .i64 y5.1 20) 1) y9.1) (std.add .i64 (std.add .i64 (std.sub .i64 y7.1 20) 1) y11.1)), y11.2)))
set_option maxHeartbeats 4000000 in
theorem run_spec_l12DrawWindow_mPb (a0 : Tl01Source) (r : TRect × Tl01Source) (h : F_spec_l12DrawWindow_mPb a0 = some r) : Fun Try.prog 36 [.c (.ptr 5 0)] [(5, .var [.bs (len a0.gcode) 1 (row gd (encI .u8) a0.gcode), .v (.int .i64 a0.gat), .v (.int .i64 a0.gseed)])] (.agg [.v (.int .i64 r.1.fX0), .v (.int .i64 r.1.fY0), .v (.int .i64 r.1.fX1), .v (.int .i64 r.1.fY1)]) [(5, .var [.bs (len r.2.gcode) 1 (row gd (encI .u8) r.2.gcode), .v (.int .i64 r.2.gat), .v (.int .i64 r.2.gseed)])] false := by
 refine ow [] Try.func36 Try.ntmps36 ?_ (hv := (fun h => by cases h)); unfold F_spec_l12DrawWindow_mPb at h; have hf_spec_l01Next_mPbb := @run_spec_l01Next_mPbb; have hf_spec_l11DrawWindow_mPb := @run_spec_l11DrawWindow_mPb; generalize hLEN : @len = LEN, hGD : @gd = GD, hA : std = A, hP : Try.prog = P at *; cbv
 revert h; refine rk [(5, 5)] [(5, 5)] (hf_spec_l01Next_mPbb _ _) (fun _ => yf) fun y1 h => ?_; cbv; revert h; refine fk ?_ ?_ <;> intro h <;> cbv
 ·revert h; refine rk [(5, 5)] [(5, 5)] (hf_spec_l11DrawWindow_mPb _) (fun _ => yf) fun y3 h => ?_; cbv; exact df
 revert h; refine fk ?_ ?_ <;> intro h <;> cbv
 ·exact df
 revert h; refine rk [(5, 5)] [(5, 5)] (hf_spec_l01Next_mPbb _ _) (fun _ => yf) fun y5 h => ?_; cbv; revert h; refine rk [(5, 5)] [(5, 5)] (hf_spec_l01Next_mPbb _ _) (fun _ => yf) fun y7 h => ?_; cbv; revert h; refine rk [(5, 5)] [(5, 5)] (hf_spec_l01Next_mPbb _ _) (fun _ => yf) fun y9 h => ?_; cbv; revert h; refine rk [(5, 5)] [(5, 5)] (hf_spec_l01Next_mPbb _ _) (fun _ => yf) fun y11 h => ?_; cbv
 exact df
/-- spec.DrawInstancesTouching -/
noncomputable def F_spec_DrawInstancesTouching (a0 : List Int) : Option (TLibrary × Int × TRect) :=
 (F_spec_l01From a0).bind fun y1 =>
 (F_spec_l12DrawTop_mPb y1).bind fun y3 =>
 (F_spec_l12DrawWindow_mPb y3.2.2).bind fun y5 =>
 some (y3.1, y3.2.1, y5.1)
set_option maxHeartbeats 4000000 in
theorem run_spec_DrawInstancesTouching (a0 : List Int) (r : TLibrary × Int × TRect) (h : F_spec_DrawInstancesTouching a0 = some r) : Fun Try.prog 15 [.c (.bs (len a0) 1 (row gd (encI .u8) a0))] [] (.tup [.agg [.os 64000 0 (len r.1.fCells)], .c (.v (.int .i64 r.2.1)), .agg [.v (.int .i64 r.2.2.fX0), .v (.int .i64 r.2.2.fY0), .v (.int .i64 r.2.2.fX1), .v (.int .i64 r.2.2.fY1)]]) [(64000, .arr .rw [] (len r.1.fCells) 4 (row gd (oncCell len gd) r.1.fCells))] true := by
 refine ow [] Try.func15 Try.ntmps15 ?_ (hv := (fun _ => ⟨(by simp [AV.flat, AV.flat1, AC.flat]), ⟨fun i _ j _ => fl_oncCell _ _, trivial⟩⟩)); unfold F_spec_DrawInstancesTouching at h; have hf_spec_l01From := @run_spec_l01From; have hf_spec_l12DrawTop_mPb := @run_spec_l12DrawTop_mPb; have hf_spec_l12DrawWindow_mPb := @run_spec_l12DrawWindow_mPb
 generalize hLEN : @len = LEN, hGD : @gd = GD, hA : std = A, hP : Try.prog = P at *; cbv; revert h; refine rk [] [(64000, 576)] (hf_spec_l01From _) (fun _ => zf) fun y1 h => ?_; cbv
 revert h; refine rk [(5, 576)] [(64000, 768), (5, 576)] (hf_spec_l12DrawTop_mPb _) (fun _ => ⟨les_cons (lR _) (les_nil), ⟨rfl, trivial⟩, rfl, rfl, rfl, rfl, ⟨fun h => absurd (show (64000 : Nat) % 2 = 1 from h) (by decide), fun _ => rfl, trivial⟩, rfl⟩) fun y3 h => ⟨_, rfl, _, _, rfl, fun _ _ _ _ => .refl _, ?_⟩
 cbv; revert h; refine rk [(5, 576)] [(5, 576)] (hf_spec_l12DrawWindow_mPb _) (fun _ => yf) fun y5 h => ?_; cbv; injection h with h; subst h; exact ⟨_, le_ren 768 64000 (by decide) rfl, lR _, zo, rfl⟩

/-- spec.DrawWindowLayers -/
noncomputable def F_spec_DrawWindowLayers (a0 : List Int) : Option (TLibrary × Int × TRect) :=
 (F_spec_DrawInstancesTouching a0).bind fun y1 =>
 some (y1.1, y1.2.1, y1.2.2)
set_option maxHeartbeats 4000000 in
theorem run_spec_DrawWindowLayers (a0 : List Int) (r : TLibrary × Int × TRect) (h : F_spec_DrawWindowLayers a0 = some r) : Fun Try.prog 6 [.c (.bs (len a0) 1 (row gd (encI .u8) a0))] [] (.tup [.agg [.os 64000 0 (len r.1.fCells)], .c (.v (.int .i64 r.2.1)), .agg [.v (.int .i64 r.2.2.fX0), .v (.int .i64 r.2.2.fY0), .v (.int .i64 r.2.2.fX1), .v (.int .i64 r.2.2.fY1)]]) [(64000, .arr .rw [] (len r.1.fCells) 4 (row gd (oncCell len gd) r.1.fCells))] true := by
 refine ow [] Try.func6 Try.ntmps6 ?_ (hv := (fun _ => ⟨(by simp [AV.flat, AV.flat1, AC.flat]), ⟨fun i _ j _ => fl_oncCell _ _, trivial⟩⟩)); unfold F_spec_DrawWindowLayers at h; have hf_spec_DrawInstancesTouching := @run_spec_DrawInstancesTouching; generalize hLEN : @len = LEN, hGD : @gd = GD, hA : std = A, hP : Try.prog = P at *; cbv
 revert h; refine rk [] [(64000, 384)] (hf_spec_DrawInstancesTouching _) (fun _ => zf) fun y1 h => ⟨_, rfl, _, _, rfl, fun _ _ _ _ => .refl _, ?_⟩
 cbv; injection h with h; subst h; exact ⟨_, le_ren 384 64000 (by decide) rfl, lR _, zo, rfl⟩

/-- spec.IsValidRect -/
noncomputable def F_spec_IsValidRect (a0 : TRect) : Option (Bool) :=
 ((
    br (std.le (-40) a0.fX0)
    (br (std.lt a0.fX0 a0.fX1)
    (br (std.le a0.fX1 40)
    (br (std.le (-40) a0.fY0)
    (br (std.lt a0.fY0 a0.fY1)
    (some (std.le a0.fY1 40))
    (some false))
    (some false))
    (some false))
    (some false))
    (some false)
  ) : Option (Bool)).bind fun y1 =>
 letO y1 fun w7 =>
 some w7
set_option maxHeartbeats 4000000 in
theorem run_spec_IsValidRect (a0 : TRect) (r : Bool) (h : F_spec_IsValidRect a0 = some r) : Fun Try.prog 11 [.agg [.v (.int .i64 a0.fX0), .v (.int .i64 a0.fY0), .v (.int .i64 a0.fX1), .v (.int .i64 a0.fY1)]] [] (.c (.v (.bool r))) [] true := by
 refine ow [1] Try.func11 Try.ntmps11 ?_; unfold F_spec_IsValidRect at h; generalize hLEN : @len = LEN, hGD : @gd = GD, hA : std = A, hP : Try.prog = P at *; cbv; revert h; refine cu (fun y1 => (sparse 35 [(2, .c (.v (.bool y1)))] [])) (fun y1 S hS h => rg) fun w7 => rz fun h => ?_; cbv; exact df

noncomputable def L_impl_IsName_x2 (a0 : ByteArray) : (Int) → Option ((Int) ⊕ ((Unit) ⊕ (Unit))) := fun x2 =>
 letO x2 fun v1 =>
 br (std.lt v1 (std.ofN (std.slen a0)))
 (((
    req (std.inR v1 (std.slen a0)) <|
    br (std.lt (std.sat a0 (std.toN v1)) 97)
    (req (std.inR v1 (std.slen a0)) <|
    br (std.lt (std.sat a0 (std.toN v1)) 48)
    (some true)
    (req (std.inR v1 (std.slen a0)) <|
    some (std.lt 57 (std.sat a0 (std.toN v1)))))
    (req (std.inR v1 (std.slen a0)) <|
    br (std.lt 122 (std.sat a0 (std.toN v1)))
    (req (std.inR v1 (std.slen a0)) <|
    br (std.lt (std.sat a0 (std.toN v1)) 48)
    (some true)
    (req (std.inR v1 (std.slen a0)) <|
    some (std.lt 57 (std.sat a0 (std.toN v1)))))
    (some false))
  ) : Option (Bool)).bind fun y14 =>
 letO y14 fun w20 =>
 br w20
 (some (.inr (.inl ())))
 (some (.inl (std.add .i64 v1 1))))
 (some (.inr (.inr ())))
/-- impl.IsName -/
noncomputable def F_impl_IsName (a0 : ByteArray) : Option (Bool) :=
 (whileP (σ := Int) (ρ := (Unit) ⊕ (Unit)) (L_impl_IsName_x2 a0) 0).bind fun y3 =>
 (match y3 with
  | .inl y3k0 => (
    some false)
  | .inr y3m0 =>
    ((
       br (std.le 1 (std.ofN (std.slen a0)))
       (some (std.le (std.ofN (std.slen a0)) 8))
       (some false)
     ) : Option (Bool)).bind fun y33 =>
    letO y33 fun w39 =>
    some w39)
set_option maxHeartbeats 4000000 in
theorem run_impl_IsName (a0 : ByteArray) (r : Bool) (h : F_impl_IsName a0 = some r) : Fun Try.prog 78 [.c (.v (.string a0))] [] (.c (.v (.bool r))) [] true := by
 refine ow [4, 6] Try.func78 Try.ntmps78 ?_; unfold F_impl_IsName at h; unfold L_impl_IsName_x2 at h; generalize hLEN : @len = LEN, hGD : @gd = GD, hA : std = A, hP : Try.prog = P at *; cbv
 revert h; refine lc (fun x => (sparse 40 [(0, .c (.v (.string a0))), (3, .c (.v (.int .i64 x)))] [])) (fun y e s => (match y with | .inl w => e = .ret ∧ s.le (sparse 40 [(2, .c (.v (.bool false)))] []) | .inr w0 => (fun (w : Unit) => e = .exit 0 ∧ s.le (sparse 40 [(0, .c (.v (.string a0)))] [])) w0)) zb ?_ ?_
 ·intro v1 z h K hK hY; replace h := oz h; cbv; revert h; refine fk ?_ ?_ <;> intro h <;> cbv
  ·revert h; refine cu (fun y14 => (sparse 40 [(0, .c (.v (.string a0))), (3, .c (.v (.int .i64 v1))), (31, .c (.v (.bool y14)))] [])) (fun y14 S hS h => rg) fun w20 => rz fun h => ?_; cbv; revert h; refine fk ?_ ?_ <;> intro h <;> cbv
   ·exact dy
   exact dm
  exact dy
 intro y3 h e12 s13 q11 hne; rcases y3 with y3k0 | y3m0
 ·replace h := h; obtain ⟨rfl, q11⟩ := q11; cbv; injection h with h; subst h; exact ⟨_, q11, lR _, zo, rfl⟩
 ·obtain ⟨rfl, q11⟩ := q11; cbv; refine ⟨_, q11, ?_⟩; cbv; revert h; refine cu (fun y33 => (sparse 40 [(2, .c (.v (.bool y33)))] [])) (fun y33 S hS h => rg) fun w39 => rz fun h => ?_; cbv; exact df

/-- impl.within -/
noncomputable def F_impl_within (a0 : Int) (a1 : Int) (a2 : Int) : Option (Bool) :=
 ((
    br (std.le a1 a0)
    (some (std.le a0 a2))
    (some false)
  ) : Option (Bool)).bind fun y1 =>
 letO y1 fun w7 =>
 some w7
set_option maxHeartbeats 4000000 in
theorem run_impl_within (a0 : Int) (a1 : Int) (a2 : Int) (r : Bool) (h : F_impl_within a0 a1 a2 = some r) : Fun Try.prog 40 [.c (.v (.int .i64 a0)), .c (.v (.int .i64 a1)), .c (.v (.int .i64 a2))] [] (.c (.v (.bool r))) [] true := by
 refine ow [1] Try.func40 Try.ntmps40 ?_; unfold F_impl_within at h; generalize hLEN : @len = LEN, hGD : @gd = GD, hA : std = A, hP : Try.prog = P at *; cbv; revert h; refine cu (fun y1 => (sparse 15 [(6, .c (.v (.bool y1)))] [])) (fun y1 S hS h => rg) fun w7 => rz fun h => ?_; cbv; exact df

/-- impl.IsValidRect -/
noncomputable def F_impl_IsValidRect (a0 : TRect) : Option (Bool) :=
 ((
    br (std.le (-40) a0.fX0)
    (br (std.lt a0.fX0 a0.fX1)
    (br (std.le a0.fX1 40)
    (br (std.le (-40) a0.fY0)
    (br (std.lt a0.fY0 a0.fY1)
    (some (std.le a0.fY1 40))
    (some false))
    (some false))
    (some false))
    (some false))
    (some false)
  ) : Option (Bool)).bind fun y1 =>
 letO y1 fun w7 =>
 some w7
set_option maxHeartbeats 4000000 in
theorem run_impl_IsValidRect (a0 : TRect) (r : Bool) (h : F_impl_IsValidRect a0 = some r) : Fun Try.prog 25 [.agg [.v (.int .i64 a0.fX0), .v (.int .i64 a0.fY0), .v (.int .i64 a0.fX1), .v (.int .i64 a0.fY1)]] [] (.c (.v (.bool r))) [] true := by
 refine ow [1] Try.func25 Try.ntmps25 ?_; unfold F_impl_IsValidRect at h; generalize hLEN : @len = LEN, hGD : @gd = GD, hA : std = A, hP : Try.prog = P at *; cbv; revert h; refine cu (fun y1 => (sparse 35 [(2, .c (.v (.bool y1)))] [])) (fun y1 S hS h => rg) fun w7 => rz fun h => ?_; cbv; exact df
/-- impl.validShape -/
noncomputable def F_impl_validShape (a0 : TShape) : Option (Bool) :=
 ((
    (F_impl_within a0.fLayer 0 7).bind fun y8 =>
    br y8
    ((F_impl_IsValidRect a0.fBox).bind fun y10 =>
    some y10)
    (some false)
  ) : Option (Bool)).bind fun y1 =>
 letO y1 fun w7 =>
 some w7
set_option maxHeartbeats 4000000 in
theorem run_impl_validShape (a0 : TShape) (r : Bool) (h : F_impl_validShape a0 = some r) : Fun Try.prog 81 [.agg [.v (.int .i64 a0.fLayer), .v (.int .i64 a0.fBox.fX0), .v (.int .i64 a0.fBox.fY0), .v (.int .i64 a0.fBox.fX1), .v (.int .i64 a0.fBox.fY1)]] [] (.c (.v (.bool r))) [] true := by
 refine ow [1] Try.func81 Try.ntmps81 ?_; unfold F_impl_validShape at h; have hf_impl_IsValidRect := @run_impl_IsValidRect; have hf_impl_within := @run_impl_within; generalize hLEN : @len = LEN, hGD : @gd = GD, hA : std = A, hP : Try.prog = P at *; cbv; revert h; refine cu (fun y1 => (sparse 11 [(2, .c (.v (.bool y1)))] [])) ?_ fun w7 => rz fun h => ?_
 ·intro y1 S hS h; cbv; revert h; refine rk0 (hf_impl_within _ _ _) fun y8 h => ?_; cbv; revert h; refine fk ?_ ?_ <;> intro h <;> cbv
  ·revert h; refine rk0 (hf_impl_IsValidRect _) fun y10 h => ?_; cbv; exact dn
  exact dn
 cbv; exact df

/-- impl.validCell$1 -/
noncomputable def F_impl_validCell_1 (a0 : TShape) : Option (Bool) :=
 (F_impl_validShape (TShape.mk a0.fLayer a0.fBox)).bind fun y1 =>
 some (!(y1))
set_option maxHeartbeats 4000000 in
theorem run_impl_validCell_1 (a0 : TShape) (r : Bool) (h : F_impl_validCell_1 a0 = some r) : Fun Try.prog 80 [.agg [.v (.int .i64 a0.fLayer), .v (.int .i64 a0.fBox.fX0), .v (.int .i64 a0.fBox.fY0), .v (.int .i64 a0.fBox.fX1), .v (.int .i64 a0.fBox.fY1)]] [] (.c (.v (.bool r))) [] true := by
 refine ow [] Try.func80 Try.ntmps80 ?_; unfold F_impl_validCell_1 at h; have hf_impl_validShape := @run_impl_validShape; generalize hLEN : @len = LEN, hGD : @gd = GD, hA : std = A, hP : Try.prog = P at *; cbv; revert h; refine rk0 (hf_impl_validShape _) fun y1 h => ?_; cbv; exact df

noncomputable def L_slices_IndexFunc_Limpl_Shape_impl_Shape_mbFimpl_validCell_1_x2 (a0 : List TShape) : (Int) → Option ((Int) ⊕ ((Int) ⊕ (Unit))) := fun x2 =>
 letO x2 fun v1 =>
 br (std.lt v1 (std.ofN (len a0)))
 (req (std.inR v1 (len a0)) <|
 (F_impl_validCell_1 (gd a0 (std.toN v1))).bind fun y15 =>
 br y15
 (some (.inr (.inl v1)))
 (some (.inl (std.add .i64 v1 1))))
 (some (.inr (.inr ())))
/-- impl.Shape] -/
noncomputable def F_slices_IndexFunc_Limpl_Shape_impl_Shape_mbFimpl_validCell_1 (a0 : List TShape) : Option (Int) :=
 (whileP (σ := Int) (ρ := (Int) ⊕ (Unit)) (L_slices_IndexFunc_Limpl_Shape_impl_Shape_mbFimpl_validCell_1_x2 a0) 0).bind fun y3 =>
 (match y3 with
  | .inl y3k0 => (
    letO y3k0 fun w19 =>
    some w19)
  | .inr y3m0 =>
    some (-1))
set_option maxHeartbeats 4000000 in
theorem run_slices_IndexFunc_Limpl_Shape_impl_Shape_mbFimpl_validCell_1 (a0 : List TShape) (r : Int) (h : F_slices_IndexFunc_Limpl_Shape_impl_Shape_mbFimpl_validCell_1 a0 = some r) : Fun Try.prog 103 [.c (.bs (len a0) 5 (row gd (encShape) a0)), .c (.fn 80 0 fun _ => .junk)] [] (.c (.v (.int .i64 r))) [] true := by
 refine ow [] Try.func103 Try.ntmps103 ?_; unfold F_slices_IndexFunc_Limpl_Shape_impl_Shape_mbFimpl_validCell_1 at h; unfold L_slices_IndexFunc_Limpl_Shape_impl_Shape_mbFimpl_validCell_1_x2 at h; have hf_impl_validCell_1 := @run_impl_validCell_1; generalize hLEN : @len = LEN, hGD : @gd = GD, hA : std = A, hP : Try.prog = P at *; cbv
 revert h; refine lc (fun x => (sparse 19 [(0, .c (.bs (LEN a0) 5 (row GD (encShape) a0))), (1, .c (.fn 80 0 fun _ => .junk)), (7, .c (.v (.int .i64 (A.ofN (LEN a0))))), (8, .c (.v (.int .i64 x)))] [])) (fun y e s => (match y with | .inl w => e = .ret ∧ s.le (sparse 19 [(4, .c (.v (.int .i64 w)))] []) | .inr w0 => (fun (w : Unit) => e = .exit 0 ∧ s.le (sparse 19 [] [])) w0)) zb ?_ ?_
 ·intro v1 z h K hK hY; replace h := oz h; cbv; revert h; refine fk ?_ ?_ <;> intro h <;> cbv
  ·revert h; refine ra fun c14 h => ?_; revert h; refine rk0 (hf_impl_validCell_1 _) fun y15 h => ?_; cbv; revert h; refine fk ?_ ?_ <;> intro h <;> cbv
   ·exact dy
   exact dm
  exact dy
 intro y3 h e12 s13 q11 hne; rcases y3 with y3k0 | y3m0
 ·replace h := h; obtain ⟨rfl, q11⟩ := q11; revert h; refine rz fun h => ?_; cbv; injection h with h; subst h; exact ⟨_, q11, lR _, zo, rfl⟩
 ·obtain ⟨rfl, q11⟩ := q11; cbv; refine ⟨_, q11, ?_⟩; cbv; exact df

/-- impl.Shape] -/
noncomputable def F_slices_ContainsFunc_Limpl_Shape_impl_Shape_mbFimpl_validCell_1 (a0 : List TShape) : Option (Bool) :=
 (F_slices_IndexFunc_Limpl_Shape_impl_Shape_mbFimpl_validCell_1 a0).bind fun y1 =>
 some (std.le 0 y1)
set_option maxHeartbeats 4000000 in
theorem run_slices_ContainsFunc_Limpl_Shape_impl_Shape_mbFimpl_validCell_1 (a0 : List TShape) (r : Bool) (h : F_slices_ContainsFunc_Limpl_Shape_impl_Shape_mbFimpl_validCell_1 a0 = some r) : Fun Try.prog 79 [.c (.bs (len a0) 5 (row gd (encShape) a0)), .c (.fn 80 0 fun _ => .junk)] [] (.c (.v (.bool r))) [] true := by
 refine ow [] Try.func79 Try.ntmps79 ?_; unfold F_slices_ContainsFunc_Limpl_Shape_impl_Shape_mbFimpl_validCell_1 at h; have hf_slices_IndexFunc_Limpl_Shape_impl_Shape_mbFimpl_validCell_1 := @run_slices_IndexFunc_Limpl_Shape_impl_Shape_mbFimpl_validCell_1; generalize hLEN : @len = LEN, hGD : @gd = GD, hA : std = A, hP : Try.prog = P at *; cbv
 revert h; refine rk0 (hf_slices_IndexFunc_Limpl_Shape_impl_Shape_mbFimpl_validCell_1 _) fun y1 h => ?_; cbv; exact df

/-- impl.isUnitCell -/
noncomputable def F_impl_isUnitCell (a0 : TPoint) : Option (Bool) :=
 ((
    (F_impl_within a0.fX (-40) 39).bind fun y8 =>
    br y8
    ((F_impl_within a0.fY (-40) 39).bind fun y10 =>
    some y10)
    (some false)
  ) : Option (Bool)).bind fun y1 =>
 letO y1 fun w7 =>
 some w7
set_option maxHeartbeats 4000000 in
theorem run_impl_isUnitCell (a0 : TPoint) (r : Bool) (h : F_impl_isUnitCell a0 = some r) : Fun Try.prog 105 [.agg [.v (.int .i64 a0.fX), .v (.int .i64 a0.fY)]] [] (.c (.v (.bool r))) [] true := by
 refine ow [1] Try.func105 Try.ntmps105 ?_; unfold F_impl_isUnitCell at h; have hf_impl_within := @run_impl_within; generalize hLEN : @len = LEN, hGD : @gd = GD, hA : std = A, hP : Try.prog = P at *; cbv; revert h; refine cu (fun y1 => (sparse 11 [(2, .c (.v (.bool y1)))] [])) ?_ fun w7 => rz fun h => ?_
 ·intro y1 S hS h; cbv; revert h; refine rk0 (hf_impl_within _ _ _) fun y8 h => ?_; cbv; revert h; refine fk ?_ ?_ <;> intro h <;> cbv
  ·revert h; refine rk0 (hf_impl_within _ _ _) fun y10 h => ?_; cbv; exact dn
  exact dn
 cbv; exact df

/-- impl.validLabel -/
noncomputable def F_impl_validLabel (a0 : TLabel) : Option (Bool) :=
 ((
    (F_impl_within a0.fLayer 0 7).bind fun y8 =>
    br y8
    ((F_impl_isUnitCell a0.fAt).bind fun y10 =>
    br y10
    ((F_impl_IsName a0.fName).bind fun y12 =>
    some y12)
    (some false))
    (some false)
  ) : Option (Bool)).bind fun y1 =>
 letO y1 fun w7 =>
 some w7
set_option maxHeartbeats 4000000 in
theorem run_impl_validLabel (a0 : TLabel) (r : Bool) (h : F_impl_validLabel a0 = some r) : Fun Try.prog 84 [.agg [.v (.int .i64 a0.fLayer), .v (.int .i64 a0.fAt.fX), .v (.int .i64 a0.fAt.fY), .v (.string a0.fName)]] [] (.c (.v (.bool r))) [] true := by
 refine ow [1] Try.func84 Try.ntmps84 ?_; unfold F_impl_validLabel at h; have hf_impl_IsName := @run_impl_IsName; have hf_impl_isUnitCell := @run_impl_isUnitCell; have hf_impl_within := @run_impl_within; generalize hLEN : @len = LEN, hGD : @gd = GD, hA : std = A, hP : Try.prog = P at *; cbv; revert h; refine cu (fun y1 => (sparse 16 [(2, .c (.v (.bool y1)))] [])) ?_ fun w7 => rz fun h => ?_
 ·intro y1 S hS h; cbv; revert h; refine rk0 (hf_impl_within _ _ _) fun y8 h => ?_; cbv; revert h; refine fk ?_ ?_ <;> intro h <;> cbv
  ·revert h; refine rk0 (hf_impl_isUnitCell _) fun y10 h => ?_; cbv; revert h; refine fk ?_ ?_ <;> intro h <;> cbv
   ·revert h; refine rk0 (hf_impl_IsName _) fun y12 h => ?_; cbv; exact dn
   exact dn
  exact dn
 cbv; exact df
end Go.Proofs.Ytpobpihakgegbaa.AM
