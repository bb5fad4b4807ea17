/-
  What the functions that the law reaches compute, and that they do. No condition.
-/
import Derived.Test.YtpobpihakgegbaaGreatAmT
import Derived.Test.YtpobpihakgegbaaGreatAmE
namespace Go.Proofs.YtpobpihakgegbaaGreat.AM
open Go Go.Proofs Go.RowKit
set_option linter.unusedVariables false
set_option linter.unusedSimpArgs false
set_option maxRecDepth 100000

theorem mixed : Tryz.prog.follows .mixedOrders = true := by kernel_rfl
theorem ow (J : List Nat) {f : FuncId} {fn : Func} {c : Code} {n : Nat} {rs : List ResultVar} {args : List AV} {r : AV} {o0 o1 : List (Nat × AO)} {fl : Bool} (hf : Tryz.prog.funcs[f]? = some fn) (hn : fn.ntmps = n) (h : wp std Tryz.prog T (oneOf J) c (startSt n args o0) (endsIn T rs r o1)) (hb : fn.body = some c := by rfl) (hs : fn.results.toList = rs := by rfl) (ha : (fn.name == "runtime.NumGoroutine") = false := by kernel_rfl) (hw : wfO o0 := by exact trivial) (hv : fl = true → r.flat ∧ flatO o1 := by exact fun _ => ⟨trivial, trivial⟩) : Fun Tryz.prog f args o0 r o1 fl := Fun.of_wp (oneOf J) tok mixed hf ha hb hn hs hw hv h
structure TRect where
 fX0 : Int
 fY0 : Int
 fX1 : Int
 fY1 : Int
instance : Inhabited TRect := ⟨⟨default, default, default, default⟩⟩
def encRect (x : TRect) : Nat → AC := fun j => match j with
 | 0 => .v (.int .i64 x.fX0)
 | 1 => .v (.int .i64 x.fY0)
 | 2 => .v (.int .i64 x.fX1)
 | _ => .v (.int .i64 x.fY1)
theorem pl_encRect : ∀ (x : TRect) (j : Nat), plainC (encRect x j) = true := by
 intro x j
 unfold encRect
 split <;> rfl
theorem vl_encRect : ∀ (x : TRect) (j : Nat), valC (encRect x j) = true := by
 intro x j
 unfold encRect
 split <;> rfl
structure TShape where
 fLayer : Int
 fBox : TRect
instance : Inhabited TShape := ⟨⟨default, default⟩⟩
def encShape (x : TShape) : Nat → AC := fun j => match j with
 | 0 => .v (.int .i64 x.fLayer)
 | 1 => .v (.int .i64 x.fBox.fX0)
 | 2 => .v (.int .i64 x.fBox.fY0)
 | 3 => .v (.int .i64 x.fBox.fX1)
 | _ => .v (.int .i64 x.fBox.fY1)
theorem pl_encShape : ∀ (x : TShape) (j : Nat), plainC (encShape x j) = true := by
 intro x j
 unfold encShape
 split <;> rfl
theorem vl_encShape : ∀ (x : TShape) (j : Nat), valC (encShape x j) = true := by
 intro x j
 unfold encShape
 split <;> rfl
structure TPoint where
 fX : Int
 fY : Int
instance : Inhabited TPoint := ⟨⟨default, default⟩⟩
def encPoint (x : TPoint) : Nat → AC := fun j => match j with
 | 0 => .v (.int .i64 x.fX)
 | _ => .v (.int .i64 x.fY)
theorem pl_encPoint : ∀ (x : TPoint) (j : Nat), plainC (encPoint x j) = true := by
 intro x j
 unfold encPoint
 split <;> rfl
theorem vl_encPoint : ∀ (x : TPoint) (j : Nat), valC (encPoint x j) = true := by
 intro x j
 unfold encPoint
 split <;> rfl
structure TLabel where
 fLayer : Int
 fAt : TPoint
 fName : ByteArray
instance : Inhabited TLabel := ⟨⟨default, default, default⟩⟩
def encLabel (x : TLabel) : Nat → AC := fun j => match j with
 | 0 => .v (.int .i64 x.fLayer)
 | 1 => .v (.int .i64 x.fAt.fX)
 | 2 => .v (.int .i64 x.fAt.fY)
 | _ => .v (.string x.fName)
theorem pl_encLabel : ∀ (x : TLabel) (j : Nat), plainC (encLabel x j) = true := by
 intro x j
 unfold encLabel
 split <;> rfl
theorem vl_encLabel : ∀ (x : TLabel) (j : Nat), valC (encLabel x j) = true := by
 intro x j
 unfold encLabel
 split <;> rfl
structure TTransform where
 fOrientation : Int
 fX : Int
 fY : Int
instance : Inhabited TTransform := ⟨⟨default, default, default⟩⟩
def encTransform (x : TTransform) : Nat → AC := fun j => match j with
 | 0 => .v (.int .i64 x.fOrientation)
 | 1 => .v (.int .i64 x.fX)
 | _ => .v (.int .i64 x.fY)
theorem pl_encTransform : ∀ (x : TTransform) (j : Nat), plainC (encTransform x j) = true := by
 intro x j
 unfold encTransform
 split <;> rfl
theorem vl_encTransform : ∀ (x : TTransform) (j : Nat), valC (encTransform x j) = true := by
 intro x j
 unfold encTransform
 split <;> rfl
structure TInstance where
 fCell : Int
 fPlace : TTransform
 fColumns : Int
 fRows : Int
 fStepX : Int
 fStepY : Int
instance : Inhabited TInstance := ⟨⟨default, default, default, default, default, default⟩⟩
def encInstance (x : TInstance) : Nat → AC := fun j => match j with
 | 0 => .v (.int .i64 x.fCell)
 | 1 => .v (.int .i64 x.fPlace.fOrientation)
 | 2 => .v (.int .i64 x.fPlace.fX)
 | 3 => .v (.int .i64 x.fPlace.fY)
 | 4 => .v (.int .i64 x.fColumns)
 | 5 => .v (.int .i64 x.fRows)
 | 6 => .v (.int .i64 x.fStepX)
 | _ => .v (.int .i64 x.fStepY)
theorem pl_encInstance : ∀ (x : TInstance) (j : Nat), plainC (encInstance x j) = true := by
 intro x j
 unfold encInstance
 split <;> rfl
theorem vl_encInstance : ∀ (x : TInstance) (j : Nat), valC (encInstance x j) = true := by
 intro x j
 unfold encInstance
 split <;> rfl
structure TCell where
 fName : ByteArray
 fShapes : List TShape
 fLabels : List TLabel
 fInstances : List TInstance
instance : Inhabited TCell := ⟨⟨default, default, default, default⟩⟩
def encCell (LEN : {α : Type} → List α → Nat) (GD : {α : Type} → [Inhabited α] → List α → Nat → α) (x : TCell) : Nat → AC := fun j => match j with
 | 0 => .v (.string x.fName)
 | 1 => .bs (LEN x.fShapes) 5 (row GD (encShape) x.fShapes)
 | 2 => .bs (LEN x.fLabels) 4 (row GD (encLabel) x.fLabels)
 | _ => .bs (LEN x.fInstances) 8 (row GD (encInstance) x.fInstances)
theorem pl_encCell {LEN : {α : Type} → List α → Nat} {GD : {α : Type} → [Inhabited α] → List α → Nat → α} : ∀ (x : TCell) (j : Nat), plainC (encCell LEN GD x j) = true := by
 intro x j
 unfold encCell
 split <;> rfl
def oncCell (LEN : {α : Type} → List α → Nat) (GD : {α : Type} → [Inhabited α] → List α → Nat → α) (x : TCell) : Nat → AC := fun j => match j with
 | 0 => .v (.string x.fName)
 | 1 => .ow (LEN x.fShapes) 5 (row GD (encShape) x.fShapes)
 | 2 => .ow (LEN x.fLabels) 4 (row GD (encLabel) x.fLabels)
 | _ => .ow (LEN x.fInstances) 8 (row GD (encInstance) x.fInstances)
theorem rf_oncCell {LEN : {α : Type} → List α → Nat} {GD : {α : Type} → [Inhabited α] → List α → Nat → α} : ∀ (x : TCell) (j : Nat), (oncCell LEN GD x j).ref = [] := by
 intro x j
 unfold oncCell
 split <;> rfl
theorem ln_oncCell {LEN : {α : Type} → List α → Nat} {GD : {α : Type} → [Inhabited α] → List α → Nat → α} : ∀ (x : TCell) (j : Nat), (oncCell LEN GD x j).lentIn = encCell LEN GD x j := by
 intro x j
 unfold oncCell encCell
 split <;> rfl
theorem fl_oncCell {LEN : {α : Type} → List α → Nat} {GD : {α : Type} → [Inhabited α] → List α → Nat → α} : ∀ (x : TCell) (j : Nat), (oncCell LEN GD x j).flat := by
 intro x j
 unfold oncCell
 split <;> first | trivial | (exact fun i _ j _ => val_v (vl_encShape _ _)) | (exact fun i _ j _ => val_v (vl_encLabel _ _)) | (exact fun i _ j _ => val_v (vl_encInstance _ _))
structure TLibrary where
 fCells : List TCell
instance : Inhabited TLibrary := ⟨⟨default⟩⟩
def encLibrary (LEN : {α : Type} → List α → Nat) (GD : {α : Type} → [Inhabited α] → List α → Nat → α) (x : TLibrary) : Nat → AC := fun j => match j with
 | _ => .bs (LEN x.fCells) 4 (row GD (encCell LEN GD) x.fCells)
theorem pl_encLibrary {LEN : {α : Type} → List α → Nat} {GD : {α : Type} → [Inhabited α] → List α → Nat → α} : ∀ (x : TLibrary) (j : Nat), plainC (encLibrary LEN GD x j) = true := by
 intro x j
 unfold encLibrary
 split <;> rfl
structure TWindowHit where
 fCell : Int
 fShape : Int
 fLayer : Int
 fBox : TRect
 fPath : List Int
instance : Inhabited TWindowHit := ⟨⟨default, default, default, default, default⟩⟩
def encWindowHit (LEN : {α : Type} → List α → Nat) (GD : {α : Type} → [Inhabited α] → List α → Nat → α) (x : TWindowHit) : Nat → AC := fun j => match j with
 | 0 => .v (.int .i64 x.fCell)
 | 1 => .v (.int .i64 x.fShape)
 | 2 => .v (.int .i64 x.fLayer)
 | 3 => .v (.int .i64 x.fBox.fX0)
 | 4 => .v (.int .i64 x.fBox.fY0)
 | 5 => .v (.int .i64 x.fBox.fX1)
 | 6 => .v (.int .i64 x.fBox.fY1)
 | _ => .bs (LEN x.fPath) 1 (row GD (encI .i64) x.fPath)
theorem pl_encWindowHit {LEN : {α : Type} → List α → Nat} {GD : {α : Type} → [Inhabited α] → List α → Nat → α} : ∀ (x : TWindowHit) (j : Nat), plainC (encWindowHit LEN GD x j) = true := by
 intro x j
 unfold encWindowHit
 split <;> rfl
def oncWindowHit (LEN : {α : Type} → List α → Nat) (GD : {α : Type} → [Inhabited α] → List α → Nat → α) (x : TWindowHit) : Nat → AC := fun j => match j with
 | 0 => .v (.int .i64 x.fCell)
 | 1 => .v (.int .i64 x.fShape)
 | 2 => .v (.int .i64 x.fLayer)
 | 3 => .v (.int .i64 x.fBox.fX0)
 | 4 => .v (.int .i64 x.fBox.fY0)
 | 5 => .v (.int .i64 x.fBox.fX1)
 | 6 => .v (.int .i64 x.fBox.fY1)
 | _ => .ow (LEN x.fPath) 1 (row GD (encI .i64) x.fPath)
theorem rf_oncWindowHit {LEN : {α : Type} → List α → Nat} {GD : {α : Type} → [Inhabited α] → List α → Nat → α} : ∀ (x : TWindowHit) (j : Nat), (oncWindowHit LEN GD x j).ref = [] := by
 intro x j
 unfold oncWindowHit
 split <;> rfl
theorem ln_oncWindowHit {LEN : {α : Type} → List α → Nat} {GD : {α : Type} → [Inhabited α] → List α → Nat → α} : ∀ (x : TWindowHit) (j : Nat), (oncWindowHit LEN GD x j).lentIn = encWindowHit LEN GD x j := by
 intro x j
 unfold oncWindowHit encWindowHit
 split <;> rfl
theorem fl_oncWindowHit {LEN : {α : Type} → List α → Nat} {GD : {α : Type} → [Inhabited α] → List α → Nat → α} : ∀ (x : TWindowHit) (j : Nat), (oncWindowHit LEN GD x j).flat := by
 intro x j
 unfold oncWindowHit
 split <;> first | trivial | (exact fun i _ j _ => val_v (rfl))
structure TOccurrence where
 fCell : Int
 fPlace : TTransform
 fPath : List Int
instance : Inhabited TOccurrence := ⟨⟨default, default, default⟩⟩
def encOccurrence (LEN : {α : Type} → List α → Nat) (GD : {α : Type} → [Inhabited α] → List α → Nat → α) (x : TOccurrence) : Nat → AC := fun j => match j with
 | 0 => .v (.int .i64 x.fCell)
 | 1 => .v (.int .i64 x.fPlace.fOrientation)
 | 2 => .v (.int .i64 x.fPlace.fX)
 | 3 => .v (.int .i64 x.fPlace.fY)
 | _ => .bs (LEN x.fPath) 1 (row GD (encI .i64) x.fPath)
theorem pl_encOccurrence {LEN : {α : Type} → List α → Nat} {GD : {α : Type} → [Inhabited α] → List α → Nat → α} : ∀ (x : TOccurrence) (j : Nat), plainC (encOccurrence LEN GD x j) = true := by
 intro x j
 unfold encOccurrence
 split <;> rfl
def oncOccurrence (LEN : {α : Type} → List α → Nat) (GD : {α : Type} → [Inhabited α] → List α → Nat → α) (x : TOccurrence) : Nat → AC := fun j => match j with
 | 0 => .v (.int .i64 x.fCell)
 | 1 => .v (.int .i64 x.fPlace.fOrientation)
 | 2 => .v (.int .i64 x.fPlace.fX)
 | 3 => .v (.int .i64 x.fPlace.fY)
 | _ => .ow (LEN x.fPath) 1 (row GD (encI .i64) x.fPath)
theorem rf_oncOccurrence {LEN : {α : Type} → List α → Nat} {GD : {α : Type} → [Inhabited α] → List α → Nat → α} : ∀ (x : TOccurrence) (j : Nat), (oncOccurrence LEN GD x j).ref = [] := by
 intro x j
 unfold oncOccurrence
 split <;> rfl
theorem ln_oncOccurrence {LEN : {α : Type} → List α → Nat} {GD : {α : Type} → [Inhabited α] → List α → Nat → α} : ∀ (x : TOccurrence) (j : Nat), (oncOccurrence LEN GD x j).lentIn = encOccurrence LEN GD x j := by
 intro x j
 unfold oncOccurrence encOccurrence
 split <;> rfl
theorem fl_oncOccurrence {LEN : {α : Type} → List α → Nat} {GD : {α : Type} → [Inhabited α] → List α → Nat → α} : ∀ (x : TOccurrence) (j : Nat), (oncOccurrence LEN GD x j).flat := by
 intro x j
 unfold oncOccurrence
 split <;> first | trivial | (exact fun i _ j _ => val_v (rfl))
structure Telement where
 gcell : Int
 gplace : TTransform
instance : Inhabited Telement := ⟨⟨default, default⟩⟩
def encelement (x : Telement) : Nat → AC := fun j => match j with
 | 0 => .v (.int .i64 x.gcell)
 | 1 => .v (.int .i64 x.gplace.fOrientation)
 | 2 => .v (.int .i64 x.gplace.fX)
 | _ => .v (.int .i64 x.gplace.fY)
theorem pl_encelement : ∀ (x : Telement) (j : Nat), plainC (encelement x j) = true := by
 intro x j
 unfold encelement
 split <;> rfl
theorem vl_encelement : ∀ (x : Telement) (j : Nat), valC (encelement x j) = true := by
 intro x j
 unfold encelement
 split <;> rfl
/-- laws.szShapeS -/
noncomputable def F_laws_szShapeS (a0 : List TShape) (a1 : Int) : Option (Int) :=
 br (std.lt (std.sub .i64 a1 (std.ofN (len a0))) 0)
 (some (-1))
 (some (std.sub .i64 a1 (std.ofN (len a0))))
set_option maxHeartbeats 4000000 in
theorem run_laws_szShapeS (a0 : List TShape) (a1 : Int) (r : Int) (h : F_laws_szShapeS a0 a1 = some r) : Fun Tryz.prog 56 [.c (.bs (len a0) 5 (row gd (encShape) a0)), .c (.v (.int .i64 a1))] [] (.c (.v (.int .i64 r))) [] true := by
 refine ow [] Tryz.func56 Tryz.ntmps56 ?_; unfold F_laws_szShapeS at h; generalize hLEN : @len = LEN, hGD : @gd = GD, hA : std = A, hP : Tryz.prog = P at *; cbv; revert h; refine fk ?_ ?_ <;> intro h <;> cbv
 ·exact df
 exact df

/-- laws.szLabel -/
noncomputable def F_laws_szLabel (a0 : TLabel) (a1 : Int) : Option (Int) :=
 br (std.lt (std.sub .i64 a1 (std.ofN (std.slen a0.fName))) 0)
 (some (-1))
 (some (std.sub .i64 a1 (std.ofN (std.slen a0.fName))))
set_option maxHeartbeats 4000000 in
theorem run_laws_szLabel (a0 : TLabel) (a1 : Int) (r : Int) (h : F_laws_szLabel a0 a1 = some r) : Fun Tryz.prog 80 [.agg [.v (.int .i64 a0.fLayer), .v (.int .i64 a0.fAt.fX), .v (.int .i64 a0.fAt.fY), .v (.string a0.fName)], .c (.v (.int .i64 a1))] [] (.c (.v (.int .i64 r))) [] true := by
 refine ow [] Tryz.func80 Tryz.ntmps80 ?_; unfold F_laws_szLabel at h; generalize hLEN : @len = LEN, hGD : @gd = GD, hA : std = A, hP : Tryz.prog = P at *; cbv; revert h; refine fk ?_ ?_ <;> intro h <;> cbv
 ·exact df
 exact df

noncomputable def L_laws_szLabelS_x3 (a0 : List TLabel) : (Int × Int) → Option ((Int × Int) ⊕ ((Int) ⊕ (Int))) := fun x3 =>
 letO x3.1 fun v1 =>
 letO x3.2 fun v2 =>
 br (std.lt v2 (std.ofN (len a0)))
 (req (std.inR v2 (len a0)) <|
 (F_laws_szLabel (gd a0 (std.toN v2)) v1).bind fun y16 =>
 br (std.lt y16 0)
 (some (.inr (.inl (-1))))
 (some (.inl (y16, std.add .i64 v2 1))))
 (some (.inr (.inr v1)))
/-- laws.szLabelS -/
noncomputable def F_laws_szLabelS (a0 : List TLabel) (a1 : Int) : Option (Int) :=
 br (std.lt (std.sub .i64 a1 (std.ofN (len a0))) 0)
 (some (-1))
 ((whileP (σ := Int × Int) (ρ := (Int) ⊕ (Int)) (L_laws_szLabelS_x3 a0) (std.sub .i64 a1 (std.ofN (len a0)), 0)).bind fun y4 =>
 (match y4 with
  | .inl y4k0 => (
    letO y4k0 fun w20 =>
    some w20)
  | .inr y4m0 =>
    letO y4m0 fun y4k1 =>
    letO y4k1 fun w21 =>
    some w21))
set_option maxHeartbeats 4000000 in
theorem run_laws_szLabelS (a0 : List TLabel) (a1 : Int) (r : Int) (h : F_laws_szLabelS a0 a1 = some r) : Fun Tryz.prog 57 [.c (.bs (len a0) 4 (row gd (encLabel) a0)), .c (.v (.int .i64 a1))] [] (.c (.v (.int .i64 r))) [] true := by
 refine ow [] Tryz.func57 Tryz.ntmps57 ?_; unfold F_laws_szLabelS at h; unfold L_laws_szLabelS_x3 at h; have hf_laws_szLabel := @run_laws_szLabel; generalize hLEN : @len = LEN, hGD : @gd = GD, hA : std = A, hP : Tryz.prog = P at *; cbv; revert h; refine fk ?_ ?_ <;> intro h <;> cbv
 ·exact df
 revert h; refine lc (fun x => (sparse 27 [(0, .c (.bs (LEN a0) 4 (row GD (encLabel) a0))), (1, .c (.v (.int .i64 x.1))), (5, .c (.v (.int .i64 x.2)))] [])) (fun y e s => (match y with | .inl w => e = .ret ∧ s.le (sparse 27 [(4, .c (.v (.int .i64 w)))] []) | .inr w0 => (fun (w : Int) => e = .exit 0 ∧ s.le (sparse 27 [(1, .c (.v (.int .i64 w)))] [])) w0)) zb ?_ ?_
 ·rintro ⟨v1, v2⟩ z h K hK hY; replace h := oz (oz h); dsimp only at h; cbv; revert h; refine fk ?_ ?_ <;> intro h <;> cbv
  ·revert h; refine ra fun c15 h => ?_; revert h; refine rk0 (hf_laws_szLabel _ _) fun y16 h => ?_; cbv; revert h; refine fk ?_ ?_ <;> intro h <;> cbv
   ·exact dy
   exact dm
  exact dy
 intro y4 h e13 s14 q12 hne; rcases y4 with y4k0 | y4m0
 ·replace h := h; obtain ⟨rfl, q12⟩ := q12; revert h; refine rz fun h => ?_; cbv; injection h with h; subst h; exact ⟨_, q12, lR _, zo, rfl⟩
 ·revert h; refine rz fun h => ?_; obtain ⟨rfl, q12⟩ := q12; revert h; refine rz fun h => ?_; cbv; refine ⟨_, q12, ?_⟩; cbv; exact df

/-- laws.szInstanceS -/
noncomputable def F_laws_szInstanceS (a0 : List TInstance) (a1 : Int) : Option (Int) :=
 br (std.lt (std.sub .i64 a1 (std.ofN (len a0))) 0)
 (some (-1))
 (some (std.sub .i64 a1 (std.ofN (len a0))))
set_option maxHeartbeats 4000000 in
theorem run_laws_szInstanceS (a0 : List TInstance) (a1 : Int) (r : Int) (h : F_laws_szInstanceS a0 a1 = some r) : Fun Tryz.prog 58 [.c (.bs (len a0) 8 (row gd (encInstance) a0)), .c (.v (.int .i64 a1))] [] (.c (.v (.int .i64 r))) [] true := by
 refine ow [] Tryz.func58 Tryz.ntmps58 ?_; unfold F_laws_szInstanceS at h; generalize hLEN : @len = LEN, hGD : @gd = GD, hA : std = A, hP : Tryz.prog = P at *; cbv; revert h; refine fk ?_ ?_ <;> intro h <;> cbv
 ·exact df
 exact df

/-- laws.szCell -/
noncomputable def F_laws_szCell (a0 : TCell) (a1 : Int) : Option (Int) :=
 br (std.lt (std.sub .i64 a1 (std.ofN (std.slen a0.fName))) 0)
 (some (-1))
 ((F_laws_szShapeS a0.fShapes (std.sub .i64 a1 (std.ofN (std.slen a0.fName)))).bind fun y1 =>
 br (std.lt y1 0)
 (some (-1))
 ((F_laws_szLabelS a0.fLabels y1).bind fun y3 =>
 br (std.lt y3 0)
 (some (-1))
 ((F_laws_szInstanceS a0.fInstances y3).bind fun y5 =>
 br (std.lt y5 0)
 (some (-1))
 (some y5))))
set_option maxHeartbeats 4000000 in
theorem run_laws_szCell (a0 : TCell) (a1 : Int) (r : Int) (h : F_laws_szCell a0 a1 = some r) : Fun Tryz.prog 30 [.agg [.v (.string a0.fName), .bs (len a0.fShapes) 5 (row gd (encShape) a0.fShapes), .bs (len a0.fLabels) 4 (row gd (encLabel) a0.fLabels), .bs (len a0.fInstances) 8 (row gd (encInstance) a0.fInstances)], .c (.v (.int .i64 a1))] [] (.c (.v (.int .i64 r))) [] true := by
 refine ow [] Tryz.func30 Tryz.ntmps30 ?_; unfold F_laws_szCell at h; have hf_laws_szInstanceS := @run_laws_szInstanceS; have hf_laws_szLabelS := @run_laws_szLabelS; have hf_laws_szShapeS := @run_laws_szShapeS; generalize hLEN : @len = LEN, hGD : @gd = GD, hA : std = A, hP : Tryz.prog = P at *; cbv; revert h; refine fk ?_ ?_ <;> intro h <;> cbv
 ·exact df
 revert h; refine rk0 (hf_laws_szShapeS _ _) fun y1 h => ?_; cbv; revert h; refine fk ?_ ?_ <;> intro h <;> cbv
 ·exact df
 revert h; refine rk0 (hf_laws_szLabelS _ _) fun y3 h => ?_; cbv; revert h; refine fk ?_ ?_ <;> intro h <;> cbv
 ·exact df
 revert h; refine rk0 (hf_laws_szInstanceS _ _) fun y5 h => ?_; cbv; revert h; refine fk ?_ ?_ <;> intro h <;> cbv
 ·exact df
 exact df

noncomputable def L_laws_szCellS_x3 (a0 : List TCell) : (Int × Int) → Option ((Int × Int) ⊕ ((Int) ⊕ (Int))) := fun x3 =>
 letO x3.1 fun v1 =>
 letO x3.2 fun v2 =>
 br (std.lt v2 (std.ofN (len a0)))
 (req (std.inR v2 (len a0)) <|
 (F_laws_szCell (gd a0 (std.toN v2)) v1).bind fun y16 =>
 br (std.lt y16 0)
 (some (.inr (.inl (-1))))
 (some (.inl (y16, std.add .i64 v2 1))))
 (some (.inr (.inr v1)))
/-- laws.szCellS -/
noncomputable def F_laws_szCellS (a0 : List TCell) (a1 : Int) : Option (Int) :=
 br (std.lt (std.sub .i64 a1 (std.ofN (len a0))) 0)
 (some (-1))
 ((whileP (σ := Int × Int) (ρ := (Int) ⊕ (Int)) (L_laws_szCellS_x3 a0) (std.sub .i64 a1 (std.ofN (len a0)), 0)).bind fun y4 =>
 (match y4 with
  | .inl y4k0 => (
    letO y4k0 fun w20 =>
    some w20)
  | .inr y4m0 =>
    letO y4m0 fun y4k1 =>
    letO y4k1 fun w21 =>
    some w21))
set_option maxHeartbeats 4000000 in
theorem run_laws_szCellS (a0 : List TCell) (a1 : Int) (r : Int) (h : F_laws_szCellS a0 a1 = some r) : Fun Tryz.prog 14 [.c (.bs (len a0) 4 (row gd (encCell len gd) a0)), .c (.v (.int .i64 a1))] [] (.c (.v (.int .i64 r))) [] true := by
 refine ow [] Tryz.func14 Tryz.ntmps14 ?_; unfold F_laws_szCellS at h; unfold L_laws_szCellS_x3 at h; have hf_laws_szCell := @run_laws_szCell; generalize hLEN : @len = LEN, hGD : @gd = GD, hA : std = A, hP : Tryz.prog = P at *; cbv; revert h; refine fk ?_ ?_ <;> intro h <;> cbv
 ·exact df
 revert h; refine lc (fun x => (sparse 27 [(0, .c (.bs (LEN a0) 4 (row GD (encCell LEN GD) a0))), (1, .c (.v (.int .i64 x.1))), (5, .c (.v (.int .i64 x.2)))] [])) (fun y e s => (match y with | .inl w => e = .ret ∧ s.le (sparse 27 [(4, .c (.v (.int .i64 w)))] []) | .inr w0 => (fun (w : Int) => e = .exit 0 ∧ s.le (sparse 27 [(1, .c (.v (.int .i64 w)))] [])) w0)) zb ?_ ?_
 ·rintro ⟨v1, v2⟩ z h K hK hY; replace h := oz (oz h); dsimp only at h; cbv; revert h; refine fk ?_ ?_ <;> intro h <;> cbv
  ·revert h; refine ra fun c15 h => ?_; revert h; refine rk0 (hf_laws_szCell _ _) fun y16 h => ?_; cbv; revert h; refine fk ?_ ?_ <;> intro h <;> cbv
   ·exact dy
   exact dm
  exact dy
 intro y4 h e13 s14 q12 hne; rcases y4 with y4k0 | y4m0
 ·replace h := h; obtain ⟨rfl, q12⟩ := q12; revert h; refine rz fun h => ?_; cbv; injection h with h; subst h; exact ⟨_, q12, lR _, zo, rfl⟩
 ·revert h; refine rz fun h => ?_; obtain ⟨rfl, q12⟩ := q12; revert h; refine rz fun h => ?_; cbv; refine ⟨_, q12, ?_⟩; cbv; exact df
/-- laws.szLibrary -/
noncomputable def F_laws_szLibrary (a0 : TLibrary) (a1 : Int) : Option (Int) :=
 (F_laws_szCellS a0.fCells a1).bind fun y1 =>
 br (std.lt y1 0)
 (some (-1))
 (some y1)
set_option maxHeartbeats 4000000 in
theorem run_laws_szLibrary (a0 : TLibrary) (a1 : Int) (r : Int) (h : F_laws_szLibrary a0 a1 = some r) : Fun Tryz.prog 4 [.agg [.bs (len a0.fCells) 4 (row gd (encCell len gd) a0.fCells)], .c (.v (.int .i64 a1))] [] (.c (.v (.int .i64 r))) [] true := by
 refine ow [] Tryz.func4 Tryz.ntmps4 ?_; unfold F_laws_szLibrary at h; have hf_laws_szCellS := @run_laws_szCellS; generalize hLEN : @len = LEN, hGD : @gd = GD, hA : std = A, hP : Tryz.prog = P at *; cbv; revert h; refine rk0 (hf_laws_szCellS _ _) fun y1 h => ?_; cbv; revert h; refine fk ?_ ?_ <;> intro h <;> cbv
 ·exact df
 exact df

/-- laws.toRect -/
noncomputable def F_laws_toRect (a0 : TRect) : Option (TRect) :=
 some a0
set_option maxHeartbeats 4000000 in
theorem run_laws_toRect (a0 : TRect) (r : TRect) (h : F_laws_toRect a0 = some r) : Fun Tryz.prog 7 [.agg [.v (.int .i64 a0.fX0), .v (.int .i64 a0.fY0), .v (.int .i64 a0.fX1), .v (.int .i64 a0.fY1)]] [] (.agg [.v (.int .i64 r.fX0), .v (.int .i64 r.fY0), .v (.int .i64 r.fX1), .v (.int .i64 r.fY1)]) [] true := by
 refine ow [] Tryz.func7 Tryz.ntmps7 ?_ (hv := (fun _ => ⟨(by simp [AV.flat, AV.flat1, AC.flat]), trivial⟩)); unfold F_laws_toRect at h; generalize hLEN : @len = LEN, hGD : @gd = GD, hA : std = A, hP : Tryz.prog = P at *; cbv; exact df

/-- laws.toShape -/
noncomputable def F_laws_toShape (a0 : TShape) : Option (TShape) :=
 (F_laws_toRect a0.fBox).bind fun y1 =>
 some (TShape.mk a0.fLayer y1)
set_option maxHeartbeats 4000000 in
theorem run_laws_toShape (a0 : TShape) (r : TShape) (h : F_laws_toShape a0 = some r) : Fun Tryz.prog 88 [.agg [.v (.int .i64 a0.fLayer), .v (.int .i64 a0.fBox.fX0), .v (.int .i64 a0.fBox.fY0), .v (.int .i64 a0.fBox.fX1), .v (.int .i64 a0.fBox.fY1)]] [] (.agg [.v (.int .i64 r.fLayer), .v (.int .i64 r.fBox.fX0), .v (.int .i64 r.fBox.fY0), .v (.int .i64 r.fBox.fX1), .v (.int .i64 r.fBox.fY1)]) [] true := by
 refine ow [] Tryz.func88 Tryz.ntmps88 ?_ (hv := (fun _ => ⟨(by simp [AV.flat, AV.flat1, AC.flat]), trivial⟩)); unfold F_laws_toShape at h; have hf_laws_toRect := @run_laws_toRect; generalize hLEN : @len = LEN, hGD : @gd = GD, hA : std = A, hP : Tryz.prog = P at *; cbv; revert h; refine rk0 (hf_laws_toRect _) fun y1 h => ?_; cbv; exact df

noncomputable def L_laws_toShapeS_x7 (a0 : List TShape) (l1 : List TShape) : (Int × (List TShape)) → Option ((Int × (List TShape)) ⊕ (((List TShape)))) := fun x7 =>
 letO x7.1 fun v5 =>
 letO x7.2 fun v6 =>
 br (std.lt v5 (std.ofN (len a0)))
 (req (std.inR v5 (len a0)) <|
 (F_laws_toShape (gd a0 (std.toN v5))).bind fun y20 =>
 req (std.inR v5 (len l1)) <|
 req (len l1 = len v6) <|
 letO (List.set v6 (std.nadd 0 (std.toN v5)) y20) fun l23 =>
 some (.inl (std.add .i64 v5 1, l23)))
 (some (.inr v6))
/-- laws.toShapeS -/
noncomputable def F_laws_toShapeS (a0 : List TShape) : Option (List TShape) :=
 req (std.nneg (std.ofN (len a0))) <|
 req (std.room (std.toN (std.ofN (len a0))) 40) <|
 letO (List.replicate (std.toN (std.ofN (len a0))) (TShape.mk 0 (TRect.mk 0 0 0 0))) fun l1 =>
 (whileP (σ := Int × (List TShape)) (ρ := ((List TShape))) (L_laws_toShapeS_x7 a0 l1) (0, l1)).bind fun y8 =>
 letO y8 fun y8k0 =>
 letO y8k0 fun w26 =>
 req (len l1 = len w26) <|
 some w26
set_option maxHeartbeats 4000000 in
theorem run_laws_toShapeS (a0 : List TShape) (r : List TShape) (h : F_laws_toShapeS a0 = some r) : Fun Tryz.prog 67 [.c (.bs (len a0) 5 (row gd (encShape) a0))] [] (.c (.os 64000 0 (len r))) [(64000, .arr .rw [] (len r) 5 (row gd (encShape) r))] true := by
 refine ow [] Tryz.func67 Tryz.ntmps67 ?_ (hv := (fun _ => ⟨trivial, ⟨fun i _ j _ => val_flat (vl_encShape _ _), trivial⟩⟩)); unfold F_laws_toShapeS at h; unfold L_laws_toShapeS_x7 at h; have hf_laws_toShape := @run_laws_toShape; generalize hLEN : @len = LEN, hGD : @gd = GD, hA : std = A, hP : Tryz.prog = P at *; cbv; revert h; refine rq fun c3 => rq fun c4 => rl fun l1 hl1 h => ?_
 have e2 : A.toN (A.ofN (LEN a0)) = LEN l1 := by subst hl1 hLEN hA; exact rep_len rfl
 refine And.intro (by first | exact ⟨c3, c4⟩ | exact ⟨rfl, c3, trivial, trivial, trivial, c4⟩ | (refine ⟨?_, ?_, ?_, ?_, ?_, ?_⟩ <;> first | exact c3 | exact c4 | trivial)) ?_; refine ⟨_, (co e2), _, row GD (encShape) l1, e2, wkOf ?_, ?_⟩
 ·subst hGD hLEN; exact upd_repL hl1 zr
 cbv; revert h; refine ln (.exit 0) (fun x => (sparse 23 [(0, .c (.bs (LEN a0) 5 (row GD (encShape) a0))), (3, .c (.os 448 0 (LEN l1))), (4, .c (.v (.int .i64 x.1)))] [(448, .arr .rw [] (LEN l1) 5 (row GD (encShape) x.2))])) (fun w => (sparse 23 [(3, .c (.os 448 0 (LEN l1)))] [(448, .arr .rw [] (LEN l1) 5 (row GD (encShape) w))])) zb ?_ ?_
 ·rintro ⟨v5, v6⟩ z h K hK hY; replace h := oz (oz h); dsimp only at h; cbv; revert h; refine fk ?_ ?_ <;> intro h <;> cbv
  ·revert h; refine ra fun c19 h => ?_; revert h; refine rk0 (hf_laws_toShape _) fun y20 h => ?_; cbv; revert h; refine ra fun c22 h => ?_; revert h; refine rq fun c24 => rl fun l23 hl23 h => ?_; refine ai c22 ?_; refine ⟨_, rfl, _, row GD (encShape) l23, rfl, wkOf (us hA hLEN hGD hl23 c22 c24), ?_⟩; cbv; exact dm
  exact dx
 intro w26 h s q16; replace h := oz (oz h); cbv; refine ⟨_, q16, ?_⟩; cbv; revert h; refine rq fun c27 h => ?_; injection h with h; subst h; refine ⟨(sparse 23 [(2, .c (.os 64000 0 (LEN w26)))] [(64000, .arr .rw [] (LEN w26) 5 (row GD (encShape) w26))]), ?_, ?_⟩
 ·refine St.le_trans (le_ren 448 64000 (by decide) rfl) ?_; rw [c27]; exact zb
 ·exact ⟨lR _, zo, rfl⟩

/-- laws.toPoint -/
noncomputable def F_laws_toPoint (a0 : TPoint) : Option (TPoint) :=
 some a0
set_option maxHeartbeats 4000000 in
theorem run_laws_toPoint (a0 : TPoint) (r : TPoint) (h : F_laws_toPoint a0 = some r) : Fun Tryz.prog 115 [.agg [.v (.int .i64 a0.fX), .v (.int .i64 a0.fY)]] [] (.agg [.v (.int .i64 r.fX), .v (.int .i64 r.fY)]) [] true := by
 refine ow [] Tryz.func115 Tryz.ntmps115 ?_ (hv := (fun _ => ⟨(by simp [AV.flat, AV.flat1, AC.flat]), trivial⟩)); unfold F_laws_toPoint at h; generalize hLEN : @len = LEN, hGD : @gd = GD, hA : std = A, hP : Tryz.prog = P at *; cbv; exact df

/-- laws.toLabel -/
noncomputable def F_laws_toLabel (a0 : TLabel) : Option (TLabel) :=
 (F_laws_toPoint a0.fAt).bind fun y1 =>
 some (TLabel.mk a0.fLayer y1 a0.fName)
set_option maxHeartbeats 4000000 in
theorem run_laws_toLabel (a0 : TLabel) (r : TLabel) (h : F_laws_toLabel a0 = some r) : Fun Tryz.prog 89 [.agg [.v (.int .i64 a0.fLayer), .v (.int .i64 a0.fAt.fX), .v (.int .i64 a0.fAt.fY), .v (.string a0.fName)]] [] (.agg [.v (.int .i64 r.fLayer), .v (.int .i64 r.fAt.fX), .v (.int .i64 r.fAt.fY), .v (.string r.fName)]) [] true := by
 refine ow [] Tryz.func89 Tryz.ntmps89 ?_ (hv := (fun _ => ⟨(by simp [AV.flat, AV.flat1, AC.flat]), trivial⟩)); unfold F_laws_toLabel at h; have hf_laws_toPoint := @run_laws_toPoint; generalize hLEN : @len = LEN, hGD : @gd = GD, hA : std = A, hP : Tryz.prog = P at *; cbv; revert h; refine rk0 (hf_laws_toPoint _) fun y1 h => ?_; cbv; exact df
noncomputable def L_laws_toLabelS_x7 (a0 : List TLabel) (l1 : List TLabel) : (Int × (List TLabel)) → Option ((Int × (List TLabel)) ⊕ (((List TLabel)))) := fun x7 =>
 letO x7.1 fun v5 =>
 letO x7.2 fun v6 =>
 br (std.lt v5 (std.ofN (len a0)))
 (req (std.inR v5 (len a0)) <|
 (F_laws_toLabel (gd a0 (std.toN v5))).bind fun y20 =>
 req (std.inR v5 (len l1)) <|
 req (len l1 = len v6) <|
 letO (List.set v6 (std.nadd 0 (std.toN v5)) y20) fun l23 =>
 some (.inl (std.add .i64 v5 1, l23)))
 (some (.inr v6))
/-- laws.toLabelS -/
noncomputable def F_laws_toLabelS (a0 : List TLabel) : Option (List TLabel) :=
 req (std.nneg (std.ofN (len a0))) <|
 req (std.room (std.toN (std.ofN (len a0))) 40) <|
 letO (List.replicate (std.toN (std.ofN (len a0))) (TLabel.mk 0 (TPoint.mk 0 0) (ByteArray.mk #[]))) fun l1 =>
 (whileP (σ := Int × (List TLabel)) (ρ := ((List TLabel))) (L_laws_toLabelS_x7 a0 l1) (0, l1)).bind fun y8 =>
 letO y8 fun y8k0 =>
 letO y8k0 fun w26 =>
 req (len l1 = len w26) <|
 some w26
set_option maxHeartbeats 4000000 in
theorem run_laws_toLabelS (a0 : List TLabel) (r : List TLabel) (h : F_laws_toLabelS a0 = some r) : Fun Tryz.prog 68 [.c (.bs (len a0) 4 (row gd (encLabel) a0))] [] (.c (.os 64000 0 (len r))) [(64000, .arr .rw [] (len r) 4 (row gd (encLabel) r))] true := by
 refine ow [] Tryz.func68 Tryz.ntmps68 ?_ (hv := (fun _ => ⟨trivial, ⟨fun i _ j _ => val_flat (vl_encLabel _ _), trivial⟩⟩)); unfold F_laws_toLabelS at h; unfold L_laws_toLabelS_x7 at h; have hf_laws_toLabel := @run_laws_toLabel; generalize hLEN : @len = LEN, hGD : @gd = GD, hA : std = A, hP : Tryz.prog = P at *; cbv; revert h; refine rq fun c3 => rq fun c4 => rl fun l1 hl1 h => ?_
 have e2 : A.toN (A.ofN (LEN a0)) = LEN l1 := by subst hl1 hLEN hA; exact rep_len rfl
 refine And.intro (by first | exact ⟨c3, c4⟩ | exact ⟨rfl, c3, trivial, trivial, trivial, c4⟩ | (refine ⟨?_, ?_, ?_, ?_, ?_, ?_⟩ <;> first | exact c3 | exact c4 | trivial)) ?_; refine ⟨_, (co e2), _, row GD (encLabel) l1, e2, wkOf ?_, ?_⟩
 ·subst hGD hLEN; exact upd_repL hl1 zr
 cbv; revert h; refine ln (.exit 0) (fun x => (sparse 23 [(0, .c (.bs (LEN a0) 4 (row GD (encLabel) a0))), (3, .c (.os 448 0 (LEN l1))), (4, .c (.v (.int .i64 x.1)))] [(448, .arr .rw [] (LEN l1) 4 (row GD (encLabel) x.2))])) (fun w => (sparse 23 [(3, .c (.os 448 0 (LEN l1)))] [(448, .arr .rw [] (LEN l1) 4 (row GD (encLabel) w))])) zb ?_ ?_
 ·rintro ⟨v5, v6⟩ z h K hK hY; replace h := oz (oz h); dsimp only at h; cbv; revert h; refine fk ?_ ?_ <;> intro h <;> cbv
  ·revert h; refine ra fun c19 h => ?_; revert h; refine rk0 (hf_laws_toLabel _) fun y20 h => ?_; cbv; revert h; refine ra fun c22 h => ?_; revert h; refine rq fun c24 => rl fun l23 hl23 h => ?_; refine ai c22 ?_; refine ⟨_, rfl, _, row GD (encLabel) l23, rfl, wkOf (us hA hLEN hGD hl23 c22 c24), ?_⟩; cbv; exact dm
  exact dx
 intro w26 h s q16; replace h := oz (oz h); cbv; refine ⟨_, q16, ?_⟩; cbv; revert h; refine rq fun c27 h => ?_; injection h with h; subst h; refine ⟨(sparse 23 [(2, .c (.os 64000 0 (LEN w26)))] [(64000, .arr .rw [] (LEN w26) 4 (row GD (encLabel) w26))]), ?_, ?_⟩
 ·refine St.le_trans (le_ren 448 64000 (by decide) rfl) ?_; rw [c27]; exact zb
 ·exact ⟨lR _, zo, rfl⟩

/-- laws.toTransform -/
noncomputable def F_laws_toTransform (a0 : TTransform) : Option (TTransform) :=
 some a0
set_option maxHeartbeats 4000000 in
theorem run_laws_toTransform (a0 : TTransform) (r : TTransform) (h : F_laws_toTransform a0 = some r) : Fun Tryz.prog 116 [.agg [.v (.int .i64 a0.fOrientation), .v (.int .i64 a0.fX), .v (.int .i64 a0.fY)]] [] (.agg [.v (.int .i64 r.fOrientation), .v (.int .i64 r.fX), .v (.int .i64 r.fY)]) [] true := by
 refine ow [] Tryz.func116 Tryz.ntmps116 ?_ (hv := (fun _ => ⟨(by simp [AV.flat, AV.flat1, AC.flat]), trivial⟩)); unfold F_laws_toTransform at h; generalize hLEN : @len = LEN, hGD : @gd = GD, hA : std = A, hP : Tryz.prog = P at *; cbv; exact df

/-- laws.toInstance -/
noncomputable def F_laws_toInstance (a0 : TInstance) : Option (TInstance) :=
 (F_laws_toTransform a0.fPlace).bind fun y1 =>
 some (TInstance.mk a0.fCell y1 a0.fColumns a0.fRows a0.fStepX a0.fStepY)
set_option maxHeartbeats 4000000 in
theorem run_laws_toInstance (a0 : TInstance) (r : TInstance) (h : F_laws_toInstance a0 = some r) : Fun Tryz.prog 90 [.agg [.v (.int .i64 a0.fCell), .v (.int .i64 a0.fPlace.fOrientation), .v (.int .i64 a0.fPlace.fX), .v (.int .i64 a0.fPlace.fY), .v (.int .i64 a0.fColumns), .v (.int .i64 a0.fRows), .v (.int .i64 a0.fStepX), .v (.int .i64 a0.fStepY)]] [] (.agg [.v (.int .i64 r.fCell), .v (.int .i64 r.fPlace.fOrientation), .v (.int .i64 r.fPlace.fX), .v (.int .i64 r.fPlace.fY), .v (.int .i64 r.fColumns), .v (.int .i64 r.fRows), .v (.int .i64 r.fStepX), .v (.int .i64 r.fStepY)]) [] true := by
 refine ow [] Tryz.func90 Tryz.ntmps90 ?_ (hv := (fun _ => ⟨(by simp [AV.flat, AV.flat1, AC.flat]), trivial⟩)); unfold F_laws_toInstance at h; have hf_laws_toTransform := @run_laws_toTransform; generalize hLEN : @len = LEN, hGD : @gd = GD, hA : std = A, hP : Tryz.prog = P at *; cbv; revert h; refine rk0 (hf_laws_toTransform _) fun y1 h => ?_; cbv; exact df

noncomputable def L_laws_toInstanceS_x7 (a0 : List TInstance) (l1 : List TInstance) : (Int × (List TInstance)) → Option ((Int × (List TInstance)) ⊕ (((List TInstance)))) := fun x7 =>
 letO x7.1 fun v5 =>
 letO x7.2 fun v6 =>
 br (std.lt v5 (std.ofN (len a0)))
 (req (std.inR v5 (len a0)) <|
 (F_laws_toInstance (gd a0 (std.toN v5))).bind fun y20 =>
 req (std.inR v5 (len l1)) <|
 req (len l1 = len v6) <|
 letO (List.set v6 (std.nadd 0 (std.toN v5)) y20) fun l23 =>
 some (.inl (std.add .i64 v5 1, l23)))
 (some (.inr v6))
/-- laws.toInstanceS -/
noncomputable def F_laws_toInstanceS (a0 : List TInstance) : Option (List TInstance) :=
 req (std.nneg (std.ofN (len a0))) <|
 req (std.room (std.toN (std.ofN (len a0))) 64) <|
 letO (List.replicate (std.toN (std.ofN (len a0))) (TInstance.mk 0 (TTransform.mk 0 0 0) 0 0 0 0)) fun l1 =>
 (whileP (σ := Int × (List TInstance)) (ρ := ((List TInstance))) (L_laws_toInstanceS_x7 a0 l1) (0, l1)).bind fun y8 =>
 letO y8 fun y8k0 =>
 letO y8k0 fun w26 =>
 req (len l1 = len w26) <|
 some w26
set_option maxHeartbeats 4000000 in
theorem run_laws_toInstanceS (a0 : List TInstance) (r : List TInstance) (h : F_laws_toInstanceS a0 = some r) : Fun Tryz.prog 69 [.c (.bs (len a0) 8 (row gd (encInstance) a0))] [] (.c (.os 64000 0 (len r))) [(64000, .arr .rw [] (len r) 8 (row gd (encInstance) r))] true := by
 refine ow [] Tryz.func69 Tryz.ntmps69 ?_ (hv := (fun _ => ⟨trivial, ⟨fun i _ j _ => val_flat (vl_encInstance _ _), trivial⟩⟩)); unfold F_laws_toInstanceS at h; unfold L_laws_toInstanceS_x7 at h; have hf_laws_toInstance := @run_laws_toInstance; generalize hLEN : @len = LEN, hGD : @gd = GD, hA : std = A, hP : Tryz.prog = P at *; cbv; revert h; refine rq fun c3 => rq fun c4 => rl fun l1 hl1 h => ?_
 have e2 : A.toN (A.ofN (LEN a0)) = LEN l1 := by subst hl1 hLEN hA; exact rep_len rfl
 refine And.intro (by first | exact ⟨c3, c4⟩ | exact ⟨rfl, c3, trivial, trivial, trivial, c4⟩ | (refine ⟨?_, ?_, ?_, ?_, ?_, ?_⟩ <;> first | exact c3 | exact c4 | trivial)) ?_; refine ⟨_, (co e2), _, row GD (encInstance) l1, e2, wkOf ?_, ?_⟩
 ·subst hGD hLEN; exact upd_repL hl1 zr
 cbv; revert h; refine ln (.exit 0) (fun x => (sparse 23 [(0, .c (.bs (LEN a0) 8 (row GD (encInstance) a0))), (3, .c (.os 448 0 (LEN l1))), (4, .c (.v (.int .i64 x.1)))] [(448, .arr .rw [] (LEN l1) 8 (row GD (encInstance) x.2))])) (fun w => (sparse 23 [(3, .c (.os 448 0 (LEN l1)))] [(448, .arr .rw [] (LEN l1) 8 (row GD (encInstance) w))])) zb ?_ ?_
 ·rintro ⟨v5, v6⟩ z h K hK hY; replace h := oz (oz h); dsimp only at h; cbv; revert h; refine fk ?_ ?_ <;> intro h <;> cbv
  ·revert h; refine ra fun c19 h => ?_; revert h; refine rk0 (hf_laws_toInstance _) fun y20 h => ?_; cbv; revert h; refine ra fun c22 h => ?_; revert h; refine rq fun c24 => rl fun l23 hl23 h => ?_; refine ai c22 ?_; refine ⟨_, rfl, _, row GD (encInstance) l23, rfl, wkOf (us hA hLEN hGD hl23 c22 c24), ?_⟩; cbv; exact dm
  exact dx
 intro w26 h s q16; replace h := oz (oz h); cbv; refine ⟨_, q16, ?_⟩; cbv; revert h; refine rq fun c27 h => ?_; injection h with h; subst h; refine ⟨(sparse 23 [(2, .c (.os 64000 0 (LEN w26)))] [(64000, .arr .rw [] (LEN w26) 8 (row GD (encInstance) w26))]), ?_, ?_⟩
 ·refine St.le_trans (le_ren 448 64000 (by decide) rfl) ?_; rw [c27]; exact zb
 ·exact ⟨lR _, zo, rfl⟩

/-- laws.toCell -/
noncomputable def F_laws_toCell (a0 : TCell) : Option (TCell) :=
 (F_laws_toShapeS a0.fShapes).bind fun y1 =>
 (F_laws_toLabelS a0.fLabels).bind fun y3 =>
 (F_laws_toInstanceS a0.fInstances).bind fun y5 =>
 some (TCell.mk a0.fName y1 y3 y5)
set_option maxHeartbeats 4000000 in
theorem run_laws_toCell (a0 : TCell) (r : TCell) (h : F_laws_toCell a0 = some r) : Fun Tryz.prog 39 [.agg [.v (.string a0.fName), .bs (len a0.fShapes) 5 (row gd (encShape) a0.fShapes), .bs (len a0.fLabels) 4 (row gd (encLabel) a0.fLabels), .bs (len a0.fInstances) 8 (row gd (encInstance) a0.fInstances)]] [] (.agg [.v (.string r.fName), .os 64000 0 (len r.fShapes), .os 64002 0 (len r.fLabels), .os 64004 0 (len r.fInstances)]) [(64000, .arr .rw [] (len r.fShapes) 5 (row gd (encShape) r.fShapes)), (64002, .arr .rw [] (len r.fLabels) 4 (row gd (encLabel) r.fLabels)), (64004, .arr .rw [] (len r.fInstances) 8 (row gd (encInstance) r.fInstances))] true := by
 refine ow [] Tryz.func39 Tryz.ntmps39 ?_ (hv := (fun _ => ⟨(by simp [AV.flat, AV.flat1, AC.flat]), ⟨fun i _ j _ => val_flat (vl_encShape _ _), fun i _ j _ => val_flat (vl_encLabel _ _), fun i _ j _ => val_flat (vl_encInstance _ _), trivial⟩⟩)); unfold F_laws_toCell at h; have hf_laws_toInstanceS := @run_laws_toInstanceS; have hf_laws_toLabelS := @run_laws_toLabelS
 have hf_laws_toShapeS := @run_laws_toShapeS; generalize hLEN : @len = LEN, hGD : @gd = GD, hA : std = A, hP : Tryz.prog = P at *; cbv; revert h; refine rk [] [(64000, 576)] (hf_laws_toShapeS _) (fun _ => zf) fun y1 h => ⟨_, rfl, _, _, rfl, fun _ _ _ _ => .refl _, ?_⟩
 cbv; revert h; refine rk [] [(64000, 832)] (hf_laws_toLabelS _) (fun _ => zf) fun y3 h => ⟨_, rfl, _, _, rfl, fun _ _ _ _ => .refl _, ?_⟩
 cbv; revert h; refine rk [] [(64000, 1088)] (hf_laws_toInstanceS _) (fun _ => zf) fun y5 h => ⟨_, rfl, _, _, rfl, fun _ _ _ _ => .refl _, ?_⟩
 cbv; injection h with h; subst h; exact ⟨_, St.le_trans (le_ren 576 64000 (by decide) rfl) (St.le_trans (le_ren 832 64002 (by decide) rfl) ((le_ren 1088 64004 (by decide) rfl))), lR _, zo, rfl⟩

noncomputable def L_laws_toCellS_x14 (a0 : List TCell) (w7 : List TCell) : (Int × (List TCell)) → Option ((Int × (List TCell)) ⊕ (((List TCell)))) := fun x14 =>
 letO x14.1 fun v12 =>
 letO x14.2 fun v13 =>
 br (std.lt v12 (std.ofN (len a0)))
 (((
    req (std.inR v12 (len a0)) <|
    (F_laws_toCell (gd a0 (std.toN v12))).bind fun y34 =>
    req (std.inR v12 (len w7)) <|
    req (len w7 = len v13) <|
    letO (List.set v13 (std.nadd 0 (std.toN v12)) y34) fun l37 =>
    some l37
  ) : Option ((List TCell))).bind fun y26 =>
 letO y26 fun w32 =>
 some (.inl (std.add .i64 v12 1, w32)))
 (some (.inr v13))
/-- laws.toCellS -/
noncomputable def F_laws_toCellS (a0 : List TCell) : Option (List TCell) :=
 ((
    req (std.nneg (std.ofN (len a0))) <|
    req (std.room (std.toN (std.ofN (len a0))) 88) <|
    letO (List.replicate (std.toN (std.ofN (len a0))) (TCell.mk (ByteArray.mk #[]) ([] : List TShape) ([] : List TLabel) ([] : List TInstance))) fun l8 =>
    some l8
  ) : Option ((List TCell))).bind fun y1 =>
 letO y1 fun w7 =>
 (whileP (σ := Int × (List TCell)) (ρ := ((List TCell))) (L_laws_toCellS_x14 a0 w7) (0, w7)).bind fun y15 =>
 letO y15 fun y15k0 =>
 letO y15k0 fun w40 =>
 req (len w7 = len w40) <|
 some w40
set_option maxHeartbeats 4000000 in
theorem run_laws_toCellS (a0 : List TCell) (r : List TCell) (h : F_laws_toCellS a0 = some r) : Fun Tryz.prog 18 [.c (.bs (len a0) 4 (row gd (encCell len gd) a0))] [] (.c (.os 64000 0 (len r))) [(64000, .arr .rw [] (len r) 4 (row gd (oncCell len gd) r))] true := by
 refine ow [1, 5] Tryz.func18 Tryz.ntmps18 ?_ (hv := (fun _ => ⟨trivial, ⟨fun i _ j _ => fl_oncCell _ _, trivial⟩⟩)); unfold F_laws_toCellS at h; unfold L_laws_toCellS_x14 at h; have hf_laws_toCell := @run_laws_toCell; generalize hLEN : @len = LEN, hGD : @gd = GD, hA : std = A, hP : Tryz.prog = P at *; cbv
 revert h; refine cu (fun y1 => (sparse 23 [(0, .c (.bs (LEN a0) 4 (row GD (encCell LEN GD) a0))), (3, .c (.os 448 0 (LEN y1)))] [(448, .arr .rw [] (LEN y1) 4 (row GD (oncCell LEN GD) y1))])) ?_ fun w7 => rz fun h => ?_
 ·intro y1 S hS h; cbv; revert h; refine rq fun c10 => rq fun c11 => rl fun l8 hl8 h => ?_; have e9 : A.toN (A.ofN (LEN a0)) = LEN l8 := by subst hl8 hLEN hA; exact rep_len rfl
  refine And.intro (by first | exact ⟨c10, c11⟩ | exact ⟨rfl, c10, trivial, trivial, trivial, c11⟩ | (refine ⟨?_, ?_, ?_, ?_, ?_, ?_⟩ <;> first | exact c10 | exact c11 | trivial)) ?_; refine ⟨_, (co e9), _, (fun _ j => ([.v (.string (ByteArray.mk #[])), .v (.slice none 0 0), .v (.slice none 0 0), .v (.slice none 0 0)] : List AC).getD j .junk), e9, wkOf ?_, ?_⟩
  ·exact fun _ _ => zr
  cbv; injection h with h; subst h; subst hS; show St.le _ _
  refine St.le_trans (le_nilG (get' := (fun _ j => ([.v (.string (ByteArray.mk #[])), .ow (LEN ([] : List TShape)) 5 (row GD (encShape) ([] : List TShape)), .ow (LEN ([] : List TLabel)) 4 (row GD (encLabel) ([] : List TLabel)), .ow (LEN ([] : List TInstance)) 8 (row GD (encInstance) ([] : List TInstance))] : List AC).getD j .junk)) 448 rfl ?_) ?_
  ·subst hLEN; intro i _ j hj; match j, hj with | 0, _ => exact (.inl rfl) | 1, _ => exact (.inr ⟨rfl, _, _, rfl⟩) | 2, _ => exact (.inr ⟨rfl, _, _, rfl⟩) | 3, _ => exact (.inr ⟨rfl, _, _, rfl⟩) | (j_ + 4), h_ => exact absurd h_ (by omega)
  exact le_sparse rfl zl ⟨oP (fun _ _ => rf_oncCell _ _) (by subst hGD hLEN hA; exact upd_repL hl8 (g := fun j => _) zr), trivial⟩ rfl
 cbv; revert h; refine ln (.exit 0) (fun x => (sparse 23 [(0, .c (.bs (LEN a0) 4 (row GD (encCell LEN GD) a0))), (3, .c (.os 448 0 (LEN w7))), (4, .c (.v (.int .i64 x.1)))] [(448, .arr .rw [] (LEN w7) 4 (row GD (oncCell LEN GD) x.2))])) (fun w => (sparse 23 [(3, .c (.os 448 0 (LEN w7)))] [(448, .arr .rw [] (LEN w7) 4 (row GD (oncCell LEN GD) w))])) zb ?_ ?_
 ·rintro ⟨v12, v13⟩ z h K hK hY; replace h := oz (oz h); dsimp only at h; cbv; revert h; refine fk ?_ ?_ <;> intro h <;> cbv
  ·revert h; refine cu (fun y26 => (sparse 23 [(0, .c (.bs (LEN a0) 4 (row GD (encCell LEN GD) a0))), (3, .c (.os 448 0 (LEN w7))), (4, .c (.v (.int .i64 v12)))] [(448, .arr .rw [] (LEN w7) 4 (row GD (oncCell LEN GD) y26))])) ?_ fun w32 => rz fun h => ?_
   ·intro y26 S hS h; cbv; revert h; refine ra fun c33 h => ?_; revert h; refine rk [] [(64000, 1280), (64002, 1282), (64004, 1284)] (hf_laws_toCell _) (fun _ => zf) fun y34 h => ⟨_, rfl, _, _, rfl, fun _ _ _ _ => .refl _, _, _, rfl, fun _ _ _ _ => .refl _, _, _, rfl, fun _ _ _ _ => .refl _, ?_⟩
    cbv; revert h; refine ra fun c36 h => ?_; refine ai c36 ?_; refine ⟨_, rfl, _, (patchC (row GD (oncCell LEN GD) v13) (A.nadd 0 (A.toN v12)) [.v (.string y34.fName), .os 1280 0 (LEN y34.fShapes), .os 1282 0 (LEN y34.fLabels), .os 1284 0 (LEN y34.fInstances)]), rfl, wkOf (patch_of zr), ?_⟩; cbv; revert h; refine rq fun c38 => rl fun l37 hl37 h => ?_; injection h with h; subst h; subst hS
    show St.le _ _; refine St.le_trans (le_foldP 448 1 1280 rfl rfl rfl (by decide) (by subst hA; exact idx_lt c36) (by decide) rfl (fun _ _ => rf_oncCell _ _)) ?_; refine St.le_trans (le_foldP 448 2 1282 rfl rfl rfl (by decide) (by subst hA; exact idx_lt c36) (by decide) rfl (fun _ _ => rf_oncCell _ _)) ?_
    refine St.le_trans (le_foldP 448 3 1284 rfl rfl rfl (by decide) (by subst hA; exact idx_lt c36) (by decide) rfl (fun _ _ => rf_oncCell _ _)) ?_; exact le_sparse rfl zl ⟨oP (fun _ _ => rf_oncCell _ _) (by subst hGD hLEN hA; exact patch_set hl37 (idx_lt (by rw [← c38]; exact c36)) zr), trivial⟩ rfl
   cbv; exact dm
  exact dx
 intro w40 h s q23; replace h := oz (oz h); cbv; refine ⟨_, q23, ?_⟩; cbv; revert h; refine rq fun c41 h => ?_; injection h with h; subst h; refine ⟨(sparse 23 [(2, .c (.os 64000 0 (LEN w40)))] [(64000, .arr .rw [] (LEN w40) 4 (row GD (oncCell LEN GD) w40))]), ?_, ?_⟩
 ·refine St.le_trans (le_ren 448 64000 (by decide) rfl) ?_; rw [c41]; exact zb
 ·exact ⟨lR _, zo, rfl⟩
/-- laws.toLibrary -/
noncomputable def F_laws_toLibrary (a0 : TLibrary) : Option (TLibrary) :=
 (F_laws_toCellS a0.fCells).bind fun y1 =>
 some (TLibrary.mk y1)
set_option maxHeartbeats 4000000 in
theorem run_laws_toLibrary (a0 : TLibrary) (r : TLibrary) (h : F_laws_toLibrary a0 = some r) : Fun Tryz.prog 6 [.agg [.bs (len a0.fCells) 4 (row gd (encCell len gd) a0.fCells)]] [] (.agg [.os 64000 0 (len r.fCells)]) [(64000, .arr .rw [] (len r.fCells) 4 (row gd (oncCell len gd) r.fCells))] true := by
 refine ow [] Tryz.func6 Tryz.ntmps6 ?_ (hv := (fun _ => ⟨(by simp [AV.flat, AV.flat1, AC.flat]), ⟨fun i _ j _ => fl_oncCell _ _, trivial⟩⟩)); unfold F_laws_toLibrary at h; have hf_laws_toCellS := @run_laws_toCellS; generalize hLEN : @len = LEN, hGD : @gd = GD, hA : std = A, hP : Tryz.prog = P at *; cbv
 revert h; refine rk [] [(64000, 384)] (hf_laws_toCellS _) (fun _ => zf) fun y1 h => ⟨_, rfl, _, _, rfl, fun _ _ _ _ => .refl _, ?_⟩
 cbv; injection h with h; subst h; exact ⟨_, le_ren 384 64000 (by decide) rfl, lR _, zo, rfl⟩

noncomputable def L_spec_IsName_x2 (a0 : ByteArray) : (Int) → Option ((Int) ⊕ ((Unit) ⊕ (Unit))) := fun x2 =>
 letO x2 fun v1 =>
 br (std.lt v1 (std.ofN (std.slen a0)))
 (((
    req (std.inR v1 (std.slen a0)) <|
    br (std.le 97 (std.sat a0 (std.toN v1)))
    (req (std.inR v1 (std.slen a0)) <|
    br (std.le (std.sat a0 (std.toN v1)) 122)
    (some false)
    (req (std.inR v1 (std.slen a0)) <|
    br (std.le 48 (std.sat a0 (std.toN v1)))
    (req (std.inR v1 (std.slen a0)) <|
    some (!(std.le (std.sat a0 (std.toN v1)) 57)))
    (some true)))
    (req (std.inR v1 (std.slen a0)) <|
    br (std.le 48 (std.sat a0 (std.toN v1)))
    (req (std.inR v1 (std.slen a0)) <|
    some (!(std.le (std.sat a0 (std.toN v1)) 57)))
    (some true))
  ) : Option (Bool)).bind fun y14 =>
 letO y14 fun w20 =>
 br w20
 (some (.inr (.inl ())))
 (some (.inl (std.add .i64 v1 1))))
 (some (.inr (.inr ())))
/-- spec.IsName -/
noncomputable def F_spec_IsName (a0 : ByteArray) : Option (Bool) :=
 (whileP (σ := Int) (ρ := (Unit) ⊕ (Unit)) (L_spec_IsName_x2 a0) 0).bind fun y3 =>
 (match y3 with
  | .inl y3k0 => (
    some false)
  | .inr y3m0 =>
    ((
       br (std.le 1 (std.ofN (std.slen a0)))
       (some (std.le (std.ofN (std.slen a0)) 8))
       (some false)
     ) : Option (Bool)).bind fun y33 =>
    letO y33 fun w39 =>
    some w39)
set_option maxHeartbeats 4000000 in
theorem run_spec_IsName (a0 : ByteArray) (r : Bool) (h : F_spec_IsName a0 = some r) : Fun Tryz.prog 81 [.c (.v (.string a0))] [] (.c (.v (.bool r))) [] true := by
 refine ow [4, 6] Tryz.func81 Tryz.ntmps81 ?_; unfold F_spec_IsName at h; unfold L_spec_IsName_x2 at h; generalize hLEN : @len = LEN, hGD : @gd = GD, hA : std = A, hP : Tryz.prog = P at *; cbv
 revert h; refine lc (fun x => (sparse 41 [(0, .c (.v (.string a0))), (3, .c (.v (.int .i64 x)))] [])) (fun y e s => (match y with | .inl w => e = .ret ∧ s.le (sparse 41 [(2, .c (.v (.bool false)))] []) | .inr w0 => (fun (w : Unit) => e = .exit 0 ∧ s.le (sparse 41 [(0, .c (.v (.string a0)))] [])) w0)) zb ?_ ?_
 ·intro v1 z h K hK hY; replace h := oz h; cbv; revert h; refine fk ?_ ?_ <;> intro h <;> cbv
  ·revert h; refine cu (fun y14 => (sparse 41 [(0, .c (.v (.string a0))), (3, .c (.v (.int .i64 v1))), (32, .c (.v (.bool y14)))] [])) (fun y14 S hS h => rg) fun w20 => rz fun h => ?_; cbv; revert h; refine fk ?_ ?_ <;> intro h <;> cbv
   ·exact dy
   exact dm
  exact dy
 intro y3 h e12 s13 q11 hne; rcases y3 with y3k0 | y3m0
 ·replace h := h; obtain ⟨rfl, q11⟩ := q11; cbv; injection h with h; subst h; exact ⟨_, q11, lR _, zo, rfl⟩
 ·obtain ⟨rfl, q11⟩ := q11; cbv; refine ⟨_, q11, ?_⟩; cbv; revert h; refine cu (fun y33 => (sparse 41 [(2, .c (.v (.bool y33)))] [])) (fun y33 S hS h => rg) fun w39 => rz fun h => ?_; cbv; exact df

/-- spec.l09In -/
noncomputable def F_spec_l09In (a0 : Int) (a1 : Int) (a2 : Int) : Option (Bool) :=
 ((
    br (std.le a1 a0)
    (some (std.le a0 a2))
    (some false)
  ) : Option (Bool)).bind fun y1 =>
 letO y1 fun w7 =>
 some w7
set_option maxHeartbeats 4000000 in
theorem run_spec_l09In (a0 : Int) (a1 : Int) (a2 : Int) (r : Bool) (h : F_spec_l09In a0 a1 a2 = some r) : Fun Tryz.prog 60 [.c (.v (.int .i64 a0)), .c (.v (.int .i64 a1)), .c (.v (.int .i64 a2))] [] (.c (.v (.bool r))) [] true := by
 refine ow [1] Tryz.func60 Tryz.ntmps60 ?_; unfold F_spec_l09In at h; generalize hLEN : @len = LEN, hGD : @gd = GD, hA : std = A, hP : Tryz.prog = P at *; cbv; revert h; refine cu (fun y1 => (sparse 15 [(6, .c (.v (.bool y1)))] [])) (fun y1 S hS h => rg) fun w7 => rz fun h => ?_; cbv; exact df

/-- spec.l09Layer -/
noncomputable def F_spec_l09Layer (a0 : Int) : Option (Bool) :=
 (F_spec_l09In a0 0 7).bind fun y1 =>
 some y1
set_option maxHeartbeats 4000000 in
theorem run_spec_l09Layer (a0 : Int) (r : Bool) (h : F_spec_l09Layer a0 = some r) : Fun Tryz.prog 34 [.c (.v (.int .i64 a0))] [] (.c (.v (.bool r))) [] true := by
 refine ow [] Tryz.func34 Tryz.ntmps34 ?_; unfold F_spec_l09Layer at h; have hf_spec_l09In := @run_spec_l09In; generalize hLEN : @len = LEN, hGD : @gd = GD, hA : std = A, hP : Tryz.prog = P at *; cbv; revert h; refine rk0 (hf_spec_l09In _ _ _) fun y1 h => ?_; cbv; exact df

/-- spec.l09Rect -/
noncomputable def F_spec_l09Rect (a0 : TRect) : Option (Bool) :=
 ((
    br (std.le (-40) a0.fX0)
    (br (std.lt a0.fX0 a0.fX1)
    (br (std.le a0.fX1 40)
    (br (std.le (-40) a0.fY0)
    (br (std.lt a0.fY0 a0.fY1)
    (some (std.le a0.fY1 40))
    (some false))
    (some false))
    (some false))
    (some false))
    (some false)
  ) : Option (Bool)).bind fun y1 =>
 letO y1 fun w7 =>
 some w7
set_option maxHeartbeats 4000000 in
theorem run_spec_l09Rect (a0 : TRect) (r : Bool) (h : F_spec_l09Rect a0 = some r) : Fun Tryz.prog 32 [.agg [.v (.int .i64 a0.fX0), .v (.int .i64 a0.fY0), .v (.int .i64 a0.fX1), .v (.int .i64 a0.fY1)]] [] (.c (.v (.bool r))) [] true := by
 refine ow [1] Tryz.func32 Tryz.ntmps32 ?_; unfold F_spec_l09Rect at h; generalize hLEN : @len = LEN, hGD : @gd = GD, hA : std = A, hP : Tryz.prog = P at *; cbv; revert h; refine cu (fun y1 => (sparse 35 [(2, .c (.v (.bool y1)))] [])) (fun y1 S hS h => rg) fun w7 => rz fun h => ?_; cbv; exact df

/-- spec.l09Shape -/
noncomputable def F_spec_l09Shape (a0 : TShape) : Option (Bool) :=
 ((
    (F_spec_l09Layer a0.fLayer).bind fun y8 =>
    br y8
    ((F_spec_l09Rect a0.fBox).bind fun y10 =>
    some y10)
    (some false)
  ) : Option (Bool)).bind fun y1 =>
 letO y1 fun w7 =>
 some w7
set_option maxHeartbeats 4000000 in
theorem run_spec_l09Shape (a0 : TShape) (r : Bool) (h : F_spec_l09Shape a0 = some r) : Fun Tryz.prog 82 [.agg [.v (.int .i64 a0.fLayer), .v (.int .i64 a0.fBox.fX0), .v (.int .i64 a0.fBox.fY0), .v (.int .i64 a0.fBox.fX1), .v (.int .i64 a0.fBox.fY1)]] [] (.c (.v (.bool r))) [] true := by
 refine ow [1] Tryz.func82 Tryz.ntmps82 ?_; unfold F_spec_l09Shape at h; have hf_spec_l09Layer := @run_spec_l09Layer; have hf_spec_l09Rect := @run_spec_l09Rect; generalize hLEN : @len = LEN, hGD : @gd = GD, hA : std = A, hP : Tryz.prog = P at *; cbv; revert h; refine cu (fun y1 => (sparse 11 [(2, .c (.v (.bool y1)))] [])) ?_ fun w7 => rz fun h => ?_
 ·intro y1 S hS h; cbv; revert h; refine rk0 (hf_spec_l09Layer _) fun y8 h => ?_; cbv; revert h; refine fk ?_ ?_ <;> intro h <;> cbv
  ·revert h; refine rk0 (hf_spec_l09Rect _) fun y10 h => ?_; cbv; exact dn
  exact dn
 cbv; exact df
/-- spec.l09Unit -/
noncomputable def F_spec_l09Unit (a0 : TPoint) : Option (Bool) :=
 ((
    (F_spec_l09In a0.fX (-40) 39).bind fun y8 =>
    br y8
    ((F_spec_l09In a0.fY (-40) 39).bind fun y10 =>
    some y10)
    (some false)
  ) : Option (Bool)).bind fun y1 =>
 letO y1 fun w7 =>
 some w7
set_option maxHeartbeats 4000000 in
theorem run_spec_l09Unit (a0 : TPoint) (r : Bool) (h : F_spec_l09Unit a0 = some r) : Fun Tryz.prog 109 [.agg [.v (.int .i64 a0.fX), .v (.int .i64 a0.fY)]] [] (.c (.v (.bool r))) [] true := by
 refine ow [1] Tryz.func109 Tryz.ntmps109 ?_; unfold F_spec_l09Unit at h; have hf_spec_l09In := @run_spec_l09In; generalize hLEN : @len = LEN, hGD : @gd = GD, hA : std = A, hP : Tryz.prog = P at *; cbv; revert h; refine cu (fun y1 => (sparse 11 [(2, .c (.v (.bool y1)))] [])) ?_ fun w7 => rz fun h => ?_
 ·intro y1 S hS h; cbv; revert h; refine rk0 (hf_spec_l09In _ _ _) fun y8 h => ?_; cbv; revert h; refine fk ?_ ?_ <;> intro h <;> cbv
  ·revert h; refine rk0 (hf_spec_l09In _ _ _) fun y10 h => ?_; cbv; exact dn
  exact dn
 cbv; exact df

/-- spec.l09Label -/
noncomputable def F_spec_l09Label (a0 : TLabel) : Option (Bool) :=
 ((
    (F_spec_l09Layer a0.fLayer).bind fun y8 =>
    br y8
    ((F_spec_l09Unit a0.fAt).bind fun y10 =>
    br y10
    ((F_spec_IsName a0.fName).bind fun y12 =>
    some y12)
    (some false))
    (some false)
  ) : Option (Bool)).bind fun y1 =>
 letO y1 fun w7 =>
 some w7
set_option maxHeartbeats 4000000 in
theorem run_spec_l09Label (a0 : TLabel) (r : Bool) (h : F_spec_l09Label a0 = some r) : Fun Tryz.prog 83 [.agg [.v (.int .i64 a0.fLayer), .v (.int .i64 a0.fAt.fX), .v (.int .i64 a0.fAt.fY), .v (.string a0.fName)]] [] (.c (.v (.bool r))) [] true := by
 refine ow [1] Tryz.func83 Tryz.ntmps83 ?_; unfold F_spec_l09Label at h; have hf_spec_IsName := @run_spec_IsName; have hf_spec_l09Layer := @run_spec_l09Layer; have hf_spec_l09Unit := @run_spec_l09Unit; generalize hLEN : @len = LEN, hGD : @gd = GD, hA : std = A, hP : Tryz.prog = P at *; cbv; revert h; refine cu (fun y1 => (sparse 16 [(2, .c (.v (.bool y1)))] [])) ?_ fun w7 => rz fun h => ?_
 ·intro y1 S hS h; cbv; revert h; refine rk0 (hf_spec_l09Layer _) fun y8 h => ?_; cbv; revert h; refine fk ?_ ?_ <;> intro h <;> cbv
  ·revert h; refine rk0 (hf_spec_l09Unit _) fun y10 h => ?_; cbv; revert h; refine fk ?_ ?_ <;> intro h <;> cbv
   ·revert h; refine rk0 (hf_spec_IsName _) fun y12 h => ?_; cbv; exact dn
   exact dn
  exact dn
 cbv; exact df

/-- spec.l09Transform -/
noncomputable def F_spec_l09Transform (a0 : TTransform) : Option (Bool) :=
 ((
    (F_spec_l09In a0.fOrientation 0 7).bind fun y8 =>
    br y8
    ((F_spec_l09In a0.fX (-80) 80).bind fun y10 =>
    br y10
    ((F_spec_l09In a0.fY (-80) 80).bind fun y12 =>
    some y12)
    (some false))
    (some false)
  ) : Option (Bool)).bind fun y1 =>
 letO y1 fun w7 =>
 some w7
set_option maxHeartbeats 4000000 in
theorem run_spec_l09Transform (a0 : TTransform) (r : Bool) (h : F_spec_l09Transform a0 = some r) : Fun Tryz.prog 110 [.agg [.v (.int .i64 a0.fOrientation), .v (.int .i64 a0.fX), .v (.int .i64 a0.fY)]] [] (.c (.v (.bool r))) [] true := by
 refine ow [1] Tryz.func110 Tryz.ntmps110 ?_; unfold F_spec_l09Transform at h; have hf_spec_l09In := @run_spec_l09In; generalize hLEN : @len = LEN, hGD : @gd = GD, hA : std = A, hP : Tryz.prog = P at *; cbv; revert h; refine cu (fun y1 => (sparse 16 [(2, .c (.v (.bool y1)))] [])) ?_ fun w7 => rz fun h => ?_
 ·intro y1 S hS h; cbv; revert h; refine rk0 (hf_spec_l09In _ _ _) fun y8 h => ?_; cbv; revert h; refine fk ?_ ?_ <;> intro h <;> cbv
  ·revert h; refine rk0 (hf_spec_l09In _ _ _) fun y10 h => ?_; cbv; revert h; refine fk ?_ ?_ <;> intro h <;> cbv
   ·revert h; refine rk0 (hf_spec_l09In _ _ _) fun y12 h => ?_; cbv; exact dn
   exact dn
  exact dn
 cbv; exact df

/-- spec.l09Instance -/
noncomputable def F_spec_l09Instance (a0 : TInstance) (a1 : Int) : Option (Bool) :=
 ((
    (F_spec_l09In a0.fCell 0 (std.sub .i64 a1 1)).bind fun y8 =>
    br (!(y8))
    (some true)
    ((F_spec_l09Transform a0.fPlace).bind fun y10 =>
    br (!(y10))
    (some true)
    ((F_spec_l09In a0.fColumns 1 4).bind fun y12 =>
    br (!(y12))
    (some true)
    ((F_spec_l09In a0.fRows 1 4).bind fun y14 =>
    some (!(y14)))))
  ) : Option (Bool)).bind fun y1 =>
 letO y1 fun w7 =>
 br w7
 (some false)
 (((
    (F_spec_l09In a0.fStepX (-80) 80).bind fun y26 =>
    br (!(y26))
    (some true)
    ((F_spec_l09In a0.fStepY (-80) 80).bind fun y28 =>
    some (!(y28)))
  ) : Option (Bool)).bind fun y19 =>
 letO y19 fun w25 =>
 br w25
 (some false)
 (((
    br (std.lt 1 a0.fColumns)
    (br (std.lt 1 a0.fRows)
    (some true)
    (some (std.eq a0.fStepY 0)))
    (br (std.eq a0.fStepX 0)
    (br (std.lt 1 a0.fRows)
    (some true)
    (some (std.eq a0.fStepY 0)))
    (some false))
  ) : Option (Bool)).bind fun y31 =>
 letO y31 fun w37 =>
 some w37))
set_option maxHeartbeats 4000000 in
theorem run_spec_l09Instance (a0 : TInstance) (a1 : Int) (r : Bool) (h : F_spec_l09Instance a0 a1 = some r) : Fun Tryz.prog 84 [.agg [.v (.int .i64 a0.fCell), .v (.int .i64 a0.fPlace.fOrientation), .v (.int .i64 a0.fPlace.fX), .v (.int .i64 a0.fPlace.fY), .v (.int .i64 a0.fColumns), .v (.int .i64 a0.fRows), .v (.int .i64 a0.fStepX), .v (.int .i64 a0.fStepY)], .c (.v (.int .i64 a1))] [] (.c (.v (.bool r))) [] true := by
 refine ow [1, 3, 5] Tryz.func84 Tryz.ntmps84 ?_; unfold F_spec_l09Instance at h; have hf_spec_l09In := @run_spec_l09In; have hf_spec_l09Transform := @run_spec_l09Transform; generalize hLEN : @len = LEN, hGD : @gd = GD, hA : std = A, hP : Tryz.prog = P at *; cbv
 revert h; refine cu (fun y1 => (sparse 57 [(2, .c (.ptr 128 0)), (28, .c (.v (.bool y1)))] [(128, .var [.v (.int .i64 a0.fCell), .v (.int .i64 a0.fPlace.fOrientation), .v (.int .i64 a0.fPlace.fX), .v (.int .i64 a0.fPlace.fY), .v (.int .i64 a0.fColumns), .v (.int .i64 a0.fRows), .v (.int .i64 a0.fStepX), .v (.int .i64 a0.fStepY)])])) ?_ fun w7 => rz fun h => ?_
 ·intro y1 S hS h; cbv; revert h; refine rk0 (hf_spec_l09In _ _ _) fun y8 h => ?_; cbv; revert h; refine fk ?_ ?_ <;> intro h <;> cbv
  ·exact dn
  revert h; refine rk0 (hf_spec_l09Transform _) fun y10 h => ?_; cbv; revert h; refine fk ?_ ?_ <;> intro h <;> cbv
  ·exact dn
  revert h; refine rk0 (hf_spec_l09In _ _ _) fun y12 h => ?_; cbv; revert h; refine fk ?_ ?_ <;> intro h <;> cbv
  ·exact dn
  revert h; refine rk0 (hf_spec_l09In _ _ _) fun y14 h => ?_; cbv; exact dn
 cbv; revert h; refine fk ?_ ?_ <;> intro h <;> cbv
 ·exact df
 revert h; refine cu (fun y19 => (sparse 57 [(2, .c (.ptr 128 0)), (38, .c (.v (.bool y19)))] [(128, .var [.v (.int .i64 a0.fCell), .v (.int .i64 a0.fPlace.fOrientation), .v (.int .i64 a0.fPlace.fX), .v (.int .i64 a0.fPlace.fY), .v (.int .i64 a0.fColumns), .v (.int .i64 a0.fRows), .v (.int .i64 a0.fStepX), .v (.int .i64 a0.fStepY)])])) ?_ fun w25 => rz fun h => ?_
 ·intro y19 S hS h; cbv; revert h; refine rk0 (hf_spec_l09In _ _ _) fun y26 h => ?_; cbv; revert h; refine fk ?_ ?_ <;> intro h <;> cbv
  ·exact dn
  revert h; refine rk0 (hf_spec_l09In _ _ _) fun y28 h => ?_; cbv; exact dn
 cbv; revert h; refine fk ?_ ?_ <;> intro h <;> cbv
 ·exact df
 revert h; refine cu (fun y31 => (sparse 57 [(4, .c (.v (.bool y31)))] [])) (fun y31 S hS h => rg) fun w37 => rz fun h => ?_; cbv; exact df

noncomputable def L_spec_l09Cell_x52 (a0 : TCell) (a1 : Int) : (Int) → Option ((Int) ⊕ ((Bool) ⊕ (Unit))) := fun x52 =>
 letO x52 fun v51 =>
 br (std.lt v51 (std.ofN (len a0.fInstances)))
 (req (std.inR v51 (len a0.fInstances)) <|
 (F_spec_l09Instance (gd a0.fInstances (std.toN v51)) a1).bind fun y65 =>
 br (!(y65))
 (some (.inr (.inl false)))
 (some (.inl (std.add .i64 v51 1))))
 (some (.inr (.inr ())))
noncomputable def L_spec_l09Cell_x33 (a0 : TCell) : (Int) → Option ((Int) ⊕ ((Bool) ⊕ (Unit))) := fun x33 =>
 letO x33 fun v32 =>
 br (std.lt v32 (std.ofN (len a0.fLabels)))
 (req (std.inR v32 (len a0.fLabels)) <|
 (F_spec_l09Label (gd a0.fLabels (std.toN v32))).bind fun y46 =>
 br (!(y46))
 (some (.inr (.inl false)))
 (some (.inl (std.add .i64 v32 1))))
 (some (.inr (.inr ())))
noncomputable def L_spec_l09Cell_x14 (a0 : TCell) : (Int) → Option ((Int) ⊕ ((Bool) ⊕ (Unit))) := fun x14 =>
 letO x14 fun v13 =>
 br (std.lt v13 (std.ofN (len a0.fShapes)))
 (req (std.inR v13 (len a0.fShapes)) <|
 (F_spec_l09Shape (gd a0.fShapes (std.toN v13))).bind fun y27 =>
 br (!(y27))
 (some (.inr (.inl false)))
 (some (.inl (std.add .i64 v13 1))))
 (some (.inr (.inr ())))
/-- spec.l09Cell -/
noncomputable def F_spec_l09Cell (a0 : TCell) (a1 : Int) : Option (Bool) :=
 ((
    (F_spec_IsName a0.fName).bind fun y8 =>
    br (!(y8))
    (some true)
    (br (std.lt 24 (std.ofN (len a0.fShapes)))
    (some true)
    (br (std.lt 8 (std.ofN (len a0.fLabels)))
    (some true)
    (some (std.lt 8 (std.ofN (len a0.fInstances))))))
  ) : Option (Bool)).bind fun y1 =>
 letO y1 fun w7 =>
 br w7
 (some false)
 ((whileP (σ := Int) (ρ := (Bool) ⊕ (Unit)) (L_spec_l09Cell_x14 a0) 0).bind fun y15 =>
 (match y15 with
  | .inl y15k0 => (
    letO y15k0 fun w31 =>
    some w31)
  | .inr y15m0 =>
    (whileP (σ := Int) (ρ := (Bool) ⊕ (Unit)) (L_spec_l09Cell_x33 a0) 0).bind fun y34 =>
    (match y34 with
     | .inl y34k0 => (
       letO y34k0 fun w50 =>
       some w50)
     | .inr y34m0 =>
       (whileP (σ := Int) (ρ := (Bool) ⊕ (Unit)) (L_spec_l09Cell_x52 a0 a1) 0).bind fun y53 =>
       (match y53 with
        | .inl y53k0 => (
          letO y53k0 fun w69 =>
          some w69)
        | .inr y53m0 =>
          some true))))
set_option maxHeartbeats 4000000 in
theorem run_spec_l09Cell (a0 : TCell) (a1 : Int) (r : Bool) (h : F_spec_l09Cell a0 a1 = some r) : Fun Tryz.prog 59 [.agg [.v (.string a0.fName), .bs (len a0.fShapes) 5 (row gd (encShape) a0.fShapes), .bs (len a0.fLabels) 4 (row gd (encLabel) a0.fLabels), .bs (len a0.fInstances) 8 (row gd (encInstance) a0.fInstances)], .c (.v (.int .i64 a1))] [] (.c (.v (.bool r))) [] true := by
 refine ow [1] Tryz.func59 Tryz.ntmps59 ?_; unfold F_spec_l09Cell at h; unfold L_spec_l09Cell_x14 at h; unfold L_spec_l09Cell_x33 at h; unfold L_spec_l09Cell_x52 at h; have hf_spec_IsName := @run_spec_IsName; have hf_spec_l09Instance := @run_spec_l09Instance; have hf_spec_l09Label := @run_spec_l09Label; have hf_spec_l09Shape := @run_spec_l09Shape
 generalize hLEN : @len = LEN, hGD : @gd = GD, hA : std = A, hP : Tryz.prog = P at *; cbv
 revert h; refine cu (fun y1 => (sparse 73 [(1, .c (.v (.int .i64 a1))), (2, .c (.ptr 128 0)), (29, .c (.v (.bool y1)))] [(128, .var [.v (.string a0.fName), .bs (LEN a0.fShapes) 5 (row GD (encShape) a0.fShapes), .bs (LEN a0.fLabels) 4 (row GD (encLabel) a0.fLabels), .bs (LEN a0.fInstances) 8 (row GD (encInstance) a0.fInstances)])])) ?_ fun w7 => rz fun h => ?_
 ·intro y1 S hS h; cbv; revert h; refine rk0 (hf_spec_IsName _) fun y8 h => ?_; cbv; revert h; refine fk ?_ ?_ <;> intro h <;> cbv
  ·exact dn
  revert h; refine fk ?_ ?_ <;> intro h <;> cbv
  ·exact dn
  revert h; refine fk ?_ ?_ <;> intro h <;> cbv
  ·exact dn
  exact dn
 cbv; revert h; refine fk ?_ ?_ <;> intro h <;> cbv
 ·exact df
 revert h; refine lc (fun x => (sparse 73 [(1, .c (.v (.int .i64 a1))), (2, .c (.ptr 128 0)), (5, .c (.v (.int .i64 x)))] [(128, .var [.v (.string a0.fName), .bs (LEN a0.fShapes) 5 (row GD (encShape) a0.fShapes), .bs (LEN a0.fLabels) 4 (row GD (encLabel) a0.fLabels), .bs (LEN a0.fInstances) 8 (row GD (encInstance) a0.fInstances)])])) (fun y e s => (match y with | .inl w => e = .ret ∧ s.le (sparse 73 [(4, .c (.v (.bool w)))] []) | .inr w0 => (fun (w : Unit) => e = .exit 0 ∧ s.le (sparse 73 [(1, .c (.v (.int .i64 a1))), (2, .c (.ptr 128 0))] [(128, .var [.v (.string a0.fName), .bs (LEN a0.fShapes) 5 (row GD (encShape) a0.fShapes), .bs (LEN a0.fLabels) 4 (row GD (encLabel) a0.fLabels), .bs (LEN a0.fInstances) 8 (row GD (encInstance) a0.fInstances)])])) w0)) zb ?_ ?_
 ·intro v13 z h K hK hY; replace h := oz h; cbv; revert h; refine fk ?_ ?_ <;> intro h <;> cbv
  ·revert h; refine ra fun c26 h => ?_; revert h; refine rk0 (hf_spec_l09Shape _) fun y27 h => ?_; cbv; revert h; refine fk ?_ ?_ <;> intro h <;> cbv
   ·exact dy
   exact dm
  exact dy
 intro y15 h e24 s25 q23 hne; rcases y15 with y15k0 | y15m0
 ·replace h := h; obtain ⟨rfl, q23⟩ := q23; revert h; refine rz fun h => ?_; cbv; injection h with h; subst h; exact ⟨_, q23, lR _, zo, rfl⟩
 ·obtain ⟨rfl, q23⟩ := q23; cbv; refine ⟨_, q23, ?_⟩; cbv
  revert h; refine lc (fun x => (sparse 73 [(1, .c (.v (.int .i64 a1))), (2, .c (.ptr 128 0)), (6, .c (.v (.int .i64 x)))] [(128, .var [.v (.string a0.fName), .bs (LEN a0.fShapes) 5 (row GD (encShape) a0.fShapes), .bs (LEN a0.fLabels) 4 (row GD (encLabel) a0.fLabels), .bs (LEN a0.fInstances) 8 (row GD (encInstance) a0.fInstances)])])) (fun y e s => (match y with | .inl w => e = .ret ∧ s.le (sparse 73 [(4, .c (.v (.bool w)))] []) | .inr w0 => (fun (w : Unit) => e = .exit 2 ∧ s.le (sparse 73 [(1, .c (.v (.int .i64 a1))), (2, .c (.ptr 128 0))] [(128, .var [.v (.string a0.fName), .bs (LEN a0.fShapes) 5 (row GD (encShape) a0.fShapes), .bs (LEN a0.fLabels) 4 (row GD (encLabel) a0.fLabels), .bs (LEN a0.fInstances) 8 (row GD (encInstance) a0.fInstances)])])) w0)) zb ?_ ?_
  ·intro v32 z h K hK hY; replace h := oz h; cbv; revert h; refine fk ?_ ?_ <;> intro h <;> cbv
   ·revert h; refine ra fun c45 h => ?_; revert h; refine rk0 (hf_spec_l09Label _) fun y46 h => ?_; cbv; revert h; refine fk ?_ ?_ <;> intro h <;> cbv
    ·exact dy
    exact dm
   exact dy
  intro y34 h e43 s44 q42 hne; rcases y34 with y34k0 | y34m0
  ·replace h := h; obtain ⟨rfl, q42⟩ := q42; revert h; refine rz fun h => ?_; cbv; injection h with h; subst h; exact ⟨_, q42, lR _, zo, rfl⟩
  ·obtain ⟨rfl, q42⟩ := q42; cbv; refine ⟨_, q42, ?_⟩; cbv
   revert h; refine lc (fun x => (sparse 73 [(1, .c (.v (.int .i64 a1))), (2, .c (.ptr 128 0)), (7, .c (.v (.int .i64 x)))] [(128, .var [.v (.string a0.fName), .bs (LEN a0.fShapes) 5 (row GD (encShape) a0.fShapes), .bs (LEN a0.fLabels) 4 (row GD (encLabel) a0.fLabels), .bs (LEN a0.fInstances) 8 (row GD (encInstance) a0.fInstances)])])) (fun y e s => (match y with | .inl w => e = .ret ∧ s.le (sparse 73 [(4, .c (.v (.bool w)))] []) | .inr w0 => (fun (w : Unit) => e = .exit 4 ∧ s.le (sparse 73 [] [])) w0)) zb ?_ ?_
   ·intro v51 z h K hK hY; replace h := oz h; cbv; revert h; refine fk ?_ ?_ <;> intro h <;> cbv
    ·revert h; refine ra fun c64 h => ?_; revert h; refine rk0 (hf_spec_l09Instance _ _) fun y65 h => ?_; cbv; revert h; refine fk ?_ ?_ <;> intro h <;> cbv
     ·exact dy
     exact dm
    exact dy
   intro y53 h e62 s63 q61 hne; rcases y53 with y53k0 | y53m0
   ·replace h := h; obtain ⟨rfl, q61⟩ := q61; revert h; refine rz fun h => ?_; cbv; injection h with h; subst h; exact ⟨_, q61, lR _, zo, rfl⟩
   ·obtain ⟨rfl, q61⟩ := q61; cbv; refine ⟨_, q61, ?_⟩; cbv; exact df

noncomputable def L_spec_IsValidLibrary_x26 (a0 : TLibrary) (v9 : Int) : (Int) → Option ((Int) ⊕ ((Bool) ⊕ (Unit))) := fun x26 =>
 letO x26 fun v25 =>
 br (std.lt v25 v9)
 (req (std.inR v25 (len a0.fCells)) <|
 req (std.inR v9 (len a0.fCells)) <|
 br (std.seq (gd a0.fCells (std.toN v25)).fName (gd a0.fCells (std.toN v9)).fName)
 (some (.inr (.inl false)))
 (some (.inl (std.add .i64 v25 1))))
 (some (.inr (.inr ())))
noncomputable def L_spec_IsValidLibrary_x10 (a0 : TLibrary) : (Int) → Option ((Int) ⊕ ((Bool) ⊕ (Unit))) := fun x10 =>
 letO x10 fun v9 =>
 br (std.lt v9 (std.ofN (len a0.fCells)))
 (req (std.inR v9 (len a0.fCells)) <|
 (F_spec_l09Cell (gd a0.fCells (std.toN v9)) v9).bind fun y23 =>
 br (!(y23))
 (some (.inr (.inl false)))
 ((whileP (σ := Int) (ρ := (Bool) ⊕ (Unit)) (L_spec_IsValidLibrary_x26 a0 v9) 0).bind fun y27 =>
 (match y27 with
  | .inl y27k0 => (
    letO y27k0 fun w42 =>
    some (.inr (.inl w42)))
  | .inr y27m0 =>
    some (.inl (std.add .i64 v9 1)))))
 (some (.inr (.inr ())))
/-- spec.IsValidLibrary -/
noncomputable def F_spec_IsValidLibrary (a0 : TLibrary) : Option (Bool) :=
 ((
    br (std.lt (std.ofN (len a0.fCells)) 1)
    (some true)
    (some (std.lt 8 (std.ofN (len a0.fCells))))
  ) : Option (Bool)).bind fun y1 =>
 letO y1 fun w7 =>
 br w7
 (some false)
 ((whileP (σ := Int) (ρ := (Bool) ⊕ (Unit)) (L_spec_IsValidLibrary_x10 a0) 0).bind fun y11 =>
 (match y11 with
  | .inl y11k0 => (
    letO y11k0 fun w45 =>
    some w45)
  | .inr y11m0 =>
    some true))
set_option maxHeartbeats 4000000 in
theorem run_spec_IsValidLibrary (a0 : TLibrary) (r : Bool) (h : F_spec_IsValidLibrary a0 = some r) : Fun Tryz.prog 31 [.agg [.bs (len a0.fCells) 4 (row gd (encCell len gd) a0.fCells)]] [] (.c (.v (.bool r))) [] true := by
 refine ow [1] Tryz.func31 Tryz.ntmps31 ?_; unfold F_spec_IsValidLibrary at h; unfold L_spec_IsValidLibrary_x10 at h; unfold L_spec_IsValidLibrary_x26 at h; have hf_spec_l09Cell := @run_spec_l09Cell; generalize hLEN : @len = LEN, hGD : @gd = GD, hA : std = A, hP : Tryz.prog = P at *; cbv
 revert h; refine cu (fun y1 => (sparse 48 [(1, .c (.ptr 64 0)), (14, .c (.v (.bool y1)))] [(64, .var [.bs (LEN a0.fCells) 4 (row GD (encCell LEN GD) a0.fCells)])])) (fun y1 S hS h => rg) fun w7 => rz fun h => ?_; cbv; revert h; refine fk ?_ ?_ <;> intro h <;> cbv
 ·exact df
 revert h; refine lc (fun x => (sparse 48 [(1, .c (.ptr 64 0)), (3, .c (.v (.int .i64 x)))] [(64, .var [.bs (LEN a0.fCells) 4 (row GD (encCell LEN GD) a0.fCells)])])) (fun y e s => (match y with | .inl w => e = .ret ∧ s.le (sparse 48 [(2, .c (.v (.bool w)))] []) | .inr w0 => (fun (w : Unit) => e = .exit 0 ∧ s.le (sparse 48 [] [])) w0)) zb ?_ ?_
 ·intro v9 z h K hK hY; replace h := oz h; cbv; revert h; refine fk ?_ ?_ <;> intro h <;> cbv
  ·revert h; refine ra fun c22 h => ?_; revert h; refine rk0 (hf_spec_l09Cell _ _) fun y23 h => ?_; cbv; revert h; refine fk ?_ ?_ <;> intro h <;> cbv
   ·exact dy
   revert h; refine lc (fun x => (sparse 48 [(1, .c (.ptr 64 0)), (3, .c (.v (.int .i64 v9))), (4, .c (.v (.int .i64 x)))] [(64, .var [.bs (LEN a0.fCells) 4 (row GD (encCell LEN GD) a0.fCells)])])) (fun y e s => (match y with | .inl w => e = .ret ∧ s.le (sparse 48 [(2, .c (.v (.bool w)))] []) | .inr w0 => (fun (w : Unit) => e = .exit 2 ∧ s.le (sparse 48 [(1, .c (.ptr 64 0)), (3, .c (.v (.int .i64 v9)))] [(64, .var [.bs (LEN a0.fCells) 4 (row GD (encCell LEN GD) a0.fCells)])])) w0)) zb ?_ ?_
   ·intro v25 z h K hK hY; replace h := oz h; cbv; revert h; refine fk ?_ ?_ <;> intro h <;> cbv
    ·revert h; refine ra fun c38 h => ?_; revert h; refine ra fun c39 h => ?_; revert h; refine fk ?_ ?_ <;> intro h <;> cbv
     ·exact dy
     exact dm
    exact dy
   intro y27 h e36 s37 q35 hne; rcases y27 with y27k0 | y27m0
   ·replace h := h; obtain ⟨rfl, q35⟩ := q35; revert h; refine rl fun w42 hw42 h => ?_; have hw42 : w42 = y27k0 := hw42; subst hw42; cbv; injection h with h; refine hY _ h.symm _ _ (And.intro rfl ?_) (by intro hh; cases hh); refine St.le_trans q35 ?_; exact zb
   ·obtain ⟨rfl, q35⟩ := q35; cbv; refine ⟨_, q35, ?_⟩; cbv; exact dm
  exact dy
 intro y11 h e20 s21 q19 hne; rcases y11 with y11k0 | y11m0
 ·replace h := h; obtain ⟨rfl, q19⟩ := q19; revert h; refine rz fun h => ?_; cbv; injection h with h; subst h; exact ⟨_, q19, lR _, zo, rfl⟩
 ·obtain ⟨rfl, q19⟩ := q19; cbv; refine ⟨_, q19, ?_⟩; cbv; exact df
end Go.Proofs.YtpobpihakgegbaaGreat.AM
