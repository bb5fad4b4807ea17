/-
  What the functions that the law reaches compute, and that they do. No condition.
-/
import Derived.Test.YtfoefnkbiofejaaGreatArT
import Derived.Test.YtfoefnkbiofejaaGreatArE
import Derived.Deep.LoopGhost
import Derived.Deep.RegionLaw
import Derived.Lib.SliceRun
import Derived.Lib.SlicesDelete
import Derived.Lib.Walk
import Derived.Shelf.Spec.SlicesInsert
import Derived.Shelf.Spec.SlicesInsertGrow
import Derived.Test.YtfoefnkbiofejaaGreatChecked
import Derived.WalkKit
namespace Go.Proofs.YtfoefnkbiofejaaGreat.AM
noncomputable section
open Go Go.Proofs Go.RowKit Go.Proofs.Tryz
set_option linter.unusedVariables false
set_option linter.unusedSimpArgs false
set_option maxRecDepth 100000

set_option maxHeartbeats 40000000
abbrev wi (x : Int) : AC := .v (.int .i64 x)
abbrev ws (x : ByteArray) : AC := .v (.string x)
theorem zs1 {x0 : AV} : AV.les [x0] [x0] := lc_ (lR _) (ln_)
theorem zs2 {x0 x1 : AV} : AV.les [x0, x1] [x0, x1] := lc_ (lR _) (lc_ (lR _) (ln_))
theorem evn (n : Nat) (h : n % 2 = 0) {p : Prop} (h1 : n % 2 = 1) : p := by omega
theorem mixed : prog.follows .mixedOrders = true := by kernel_rfl
theorem ow (J : List Nat) {f : FuncId} {fn : Func} {c : Code} {n : Nat} {rs : List ResultVar} {args : List AV} {r : AV} {o0 o1 : List (Nat × AO)} {fl : Bool} (hf : prog.funcs[f]? = some fn) (hn : fn.ntmps = n) (h : wp std prog T (oneOf J) c (startSt n args o0) (endsIn T rs r o1)) (hb : fn.body = some c := by rfl) (hs : fn.results.toList = rs := by rfl) (ha : (fn.name == "runtime.NumGoroutine") = false := by kernel_rfl) (hw : wfO o0 := by exact trivial) (hv : fl = true -> r.flat /\ flatO o1 := by exact fun _ => ⟨trivial, tv⟩) : Fun prog f args o0 r o1 fl := Fun.of_wp (oneOf J) tok mixed hf ha hb hn hs hw hv h
structure TRect where
 fX0 : Int
 fY0 : Int
 fX1 : Int
 fY1 : Int
instance : Inhabited TRect := ⟨⟨default, default, default, default⟩⟩
def encRect (x : TRect) : Nat -> AC := fun j => match j with
 | 0 => wi x.fX0
 | 1 => wi x.fY0
 | 2 => wi x.fX1
 | _ => wi x.fY1
theorem pl_encRect : ∀ (x : TRect) (j : Nat), plainC (encRect x j) = true := by
 intro x j
 unfold encRect
 split <;> rfl
theorem vl_encRect : ∀ (x : TRect) (j : Nat), valC (encRect x j) = true := by
 intro x j
 unfold encRect
 split <;> rfl
structure TS where
 fy : Int
 fb : TRect
instance : Inhabited TS := ⟨⟨default, default⟩⟩
def eS (x : TS) : Nat -> AC := fun j => match j with
 | 0 => wi x.fy
 | 1 => wi x.fb.fX0
 | 2 => wi x.fb.fY0
 | 3 => wi x.fb.fX1
 | _ => wi x.fb.fY1
theorem pl_encShape : ∀ (x : TS) (j : Nat), plainC (eS x j) = true := by
 intro x j
 unfold eS
 split <;> rfl
theorem vl_encShape : ∀ (x : TS) (j : Nat), valC (eS x j) = true := by
 intro x j
 unfold eS
 split <;> rfl
structure TPoint where
 fX : Int
 fY : Int
instance : Inhabited TPoint := ⟨⟨default, default⟩⟩
def encPoint (x : TPoint) : Nat -> AC := fun j => match j with
 | 0 => wi x.fX
 | _ => wi x.fY
theorem pl_encPoint : ∀ (x : TPoint) (j : Nat), plainC (encPoint x j) = true := by
 intro x j
 unfold encPoint
 split <;> rfl
theorem vl_encPoint : ∀ (x : TPoint) (j : Nat), valC (encPoint x j) = true := by
 intro x j
 unfold encPoint
 split <;> rfl
structure TB where
 fy : Int
 fa : TPoint
 fN : ByteArray
instance : Inhabited TB := ⟨⟨default, default, default⟩⟩
def eL_0 (x : TB) : Nat -> AC := fun j => match j with
 | 0 => wi x.fy
 | 1 => wi x.fa.fX
 | 2 => wi x.fa.fY
 | _ => ws x.fN
theorem pl_encLabel : ∀ (x : TB) (j : Nat), plainC (eL_0 x j) = true := by
 intro x j
 unfold eL_0
 split <;> rfl
theorem vl_encLabel : ∀ (x : TB) (j : Nat), valC (eL_0 x j) = true := by
 intro x j
 unfold eL_0
 split <;> rfl
structure TM where
 fo : Int
 fX : Int
 fY : Int
instance : Inhabited TM := ⟨⟨default, default, default⟩⟩
def encTransform (x : TM) : Nat -> AC := fun j => match j with
 | 0 => wi x.fo
 | 1 => wi x.fX
 | _ => wi x.fY
theorem pl_encTransform : ∀ (x : TM) (j : Nat), plainC (encTransform x j) = true := by
 intro x j
 unfold encTransform
 split <;> rfl
theorem vl_encTransform : ∀ (x : TM) (j : Nat), valC (encTransform x j) = true := by
 intro x j
 unfold encTransform
 split <;> rfl
structure TI where
 fc : Int
 fp : TM
 fK : Int
 fR : Int
 fu : Int
 fv : Int
instance : Inhabited TI := ⟨⟨default, default, default, default, default, default⟩⟩
def eI (x : TI) : Nat -> AC := fun j => match j with
 | 0 => wi x.fc
 | 1 => wi x.fp.fo
 | 2 => wi x.fp.fX
 | 3 => wi x.fp.fY
 | 4 => wi x.fK
 | 5 => wi x.fR
 | 6 => wi x.fu
 | _ => wi x.fv
theorem pl_encInstance : ∀ (x : TI) (j : Nat), plainC (eI x j) = true := by
 intro x j
 unfold eI
 split <;> rfl
theorem vl_encInstance : ∀ (x : TI) (j : Nat), valC (eI x j) = true := by
 intro x j
 unfold eI
 split <;> rfl
structure TC where
 fN : ByteArray
 fS : List TS
 fL : List TB
 fI : List TI
instance : Inhabited TC := ⟨⟨default, default, default, default⟩⟩
def eC (U_ : {α : Type} -> List α -> Nat) (G_ : {α : Type} -> [Inhabited α] -> List α -> Nat -> α) (x : TC) : Nat -> AC := fun j => match j with
 | 0 => ws x.fN
 | 1 => .bs (U_ x.fS) 5 (row G_ (eS) x.fS)
 | 2 => .bs (U_ x.fL) 4 (row G_ (eL_0) x.fL)
 | _ => .bs (U_ x.fI) 8 (row G_ (eI) x.fI)
theorem pl_encCell {U_ : {α : Type} -> List α -> Nat} {G_ : {α : Type} -> [Inhabited α] -> List α -> Nat -> α} : ∀ (x : TC) (j : Nat), plainC (eC U_ G_ x j) = true := by
 intro x j
 unfold eC
 split <;> rfl
def oC (U_ : {α : Type} -> List α -> Nat) (G_ : {α : Type} -> [Inhabited α] -> List α -> Nat -> α) (x : TC) : Nat -> AC := fun j => match j with
 | 0 => ws x.fN
 | 1 => .ow (U_ x.fS) 5 (row G_ (eS) x.fS)
 | 2 => .ow (U_ x.fL) 4 (row G_ (eL_0) x.fL)
 | _ => .ow (U_ x.fI) 8 (row G_ (eI) x.fI)
theorem rC {U_ : {α : Type} -> List α -> Nat} {G_ : {α : Type} -> [Inhabited α] -> List α -> Nat -> α} : ∀ (x : TC) (j : Nat), (oC U_ G_ x j).ref = [] := by
 intro x j
 unfold oC
 split <;> rfl
theorem ln_oncCell {U_ : {α : Type} -> List α -> Nat} {G_ : {α : Type} -> [Inhabited α] -> List α -> Nat -> α} : ∀ (x : TC) (j : Nat), (oC U_ G_ x j).lentIn = eC U_ G_ x j := by
 intro x j
 unfold oC eC
 split <;> rfl
theorem fl_oncCell {U_ : {α : Type} -> List α -> Nat} {G_ : {α : Type} -> [Inhabited α] -> List α -> Nat -> α} : ∀ (x : TC) (j : Nat), (oC U_ G_ x j).flat := by
 intro x j
 unfold oC
 split <;> first | trivial | (exact fun i _ j _ => val_v (vl_encShape _ _)) | (exact fun i _ j _ => val_v (vl_encLabel _ _)) | (exact fun i _ j _ => val_v (vl_encInstance _ _))
structure TL where
 fC : List TC
instance : Inhabited TL := ⟨⟨default⟩⟩
def encLibrary (U_ : {α : Type} -> List α -> Nat) (G_ : {α : Type} -> [Inhabited α] -> List α -> Nat -> α) (x : TL) : Nat -> AC := fun j => match j with
 | _ => .bs (U_ x.fC) 4 (row G_ (eC U_ G_) x.fC)
theorem pl_encLibrary {U_ : {α : Type} -> List α -> Nat} {G_ : {α : Type} -> [Inhabited α] -> List α -> Nat -> α} : ∀ (x : TL) (j : Nat), plainC (encLibrary U_ G_ x j) = true := by
 intro x j
 unfold encLibrary
 split <;> rfl
structure TE where
 fk_ : Int
 fc : Int
 fx : Int
 fN : ByteArray
 fs_ : TS
 fl_ : TB
 fi_ : TI
instance : Inhabited TE := ⟨⟨default, default, default, default, default, default, default⟩⟩
def eE (x : TE) : Nat -> AC := fun j => match j with
 | 0 => wi x.fk_
 | 1 => wi x.fc
 | 2 => wi x.fx
 | 3 => ws x.fN
 | 4 => wi x.fs_.fy
 | 5 => wi x.fs_.fb.fX0
 | 6 => wi x.fs_.fb.fY0
 | 7 => wi x.fs_.fb.fX1
 | 8 => wi x.fs_.fb.fY1
 | 9 => wi x.fl_.fy
 | 10 => wi x.fl_.fa.fX
 | 11 => wi x.fl_.fa.fY
 | 12 => ws x.fl_.fN
 | 13 => wi x.fi_.fc
 | 14 => wi x.fi_.fp.fo
 | 15 => wi x.fi_.fp.fX
 | 16 => wi x.fi_.fp.fY
 | 17 => wi x.fi_.fK
 | 18 => wi x.fi_.fR
 | 19 => wi x.fi_.fu
 | _ => wi x.fi_.fv
theorem pl_encEdit : ∀ (x : TE) (j : Nat), plainC (eE x j) = true := by
 intro x j
 unfold eE
 split <;> rfl
theorem vl_encEdit : ∀ (x : TE) (j : Nat), valC (eE x j) = true := by
 intro x j
 unfold eE
 split <;> rfl
structure Tl01Source where
 gcode : List Int
 gat : Int
 gseed : Int
instance : Inhabited Tl01Source := ⟨⟨default, default, default⟩⟩
def encl01Source (U_ : {α : Type} -> List α -> Nat) (G_ : {α : Type} -> [Inhabited α] -> List α -> Nat -> α) (x : Tl01Source) : Nat -> AC := fun j => match j with
 | 0 => .bs (U_ x.gcode) 1 (row G_ (encI .u8) x.gcode)
 | 1 => wi x.gat
 | _ => wi x.gseed
theorem pl_encl01Source {U_ : {α : Type} -> List α -> Nat} {G_ : {α : Type} -> [Inhabited α] -> List α -> Nat -> α} : ∀ (x : Tl01Source) (j : Nat), plainC (encl01Source U_ G_ x j) = true := by
 intro x j
 unfold encl01Source
 split <;> rfl
def oncl01Source (U_ : {α : Type} -> List α -> Nat) (G_ : {α : Type} -> [Inhabited α] -> List α -> Nat -> α) (x : Tl01Source) : Nat -> AC := fun j => match j with
 | 0 => .ow (U_ x.gcode) 1 (row G_ (encI .u8) x.gcode)
 | 1 => wi x.gat
 | _ => wi x.gseed
theorem rf_oncl01Source {U_ : {α : Type} -> List α -> Nat} {G_ : {α : Type} -> [Inhabited α] -> List α -> Nat -> α} : ∀ (x : Tl01Source) (j : Nat), (oncl01Source U_ G_ x j).ref = [] := by
 intro x j
 unfold oncl01Source
 split <;> rfl
theorem ln_oncl01Source {U_ : {α : Type} -> List α -> Nat} {G_ : {α : Type} -> [Inhabited α] -> List α -> Nat -> α} : ∀ (x : Tl01Source) (j : Nat), (oncl01Source U_ G_ x j).lentIn = encl01Source U_ G_ x j := by
 intro x j
 unfold oncl01Source encl01Source
 split <;> rfl
theorem fl_oncl01Source {U_ : {α : Type} -> List α -> Nat} {G_ : {α : Type} -> [Inhabited α] -> List α -> Nat -> α} : ∀ (x : Tl01Source) (j : Nat), (oncl01Source U_ G_ x j).flat := by
 intro x j
 unfold oncl01Source
 split <;> first | trivial | (exact fun i _ j _ => val_v (rfl))
structure TbyteReader where
 gs : ByteArray
 gbad : Bool
instance : Inhabited TbyteReader := ⟨⟨default, default⟩⟩
def encbyteReader (x : TbyteReader) : Nat -> AC := fun j => match j with
 | 0 => ws x.gs
 | _ => .v (.bool x.gbad)
theorem pl_encbyteReader : ∀ (x : TbyteReader) (j : Nat), plainC (encbyteReader x j) = true := by
 intro x j
 unfold encbyteReader
 split <;> rfl
theorem vl_encbyteReader : ∀ (x : TbyteReader) (j : Nat), valC (encbyteReader x j) = true := by
 intro x j
 unfold encbyteReader
 split <;> rfl
structure Tdice where
 gb : List Int
 gi : Int
 gh : Int
instance : Inhabited Tdice := ⟨⟨default, default, default⟩⟩
def encdice (U_ : {α : Type} -> List α -> Nat) (G_ : {α : Type} -> [Inhabited α] -> List α -> Nat -> α) (x : Tdice) : Nat -> AC := fun j => match j with
 | 0 => .bs (U_ x.gb) 1 (row G_ (encI .u8) x.gb)
 | 1 => wi x.gi
 | _ => .v (.int .u64 x.gh)
theorem pl_encdice {U_ : {α : Type} -> List α -> Nat} {G_ : {α : Type} -> [Inhabited α] -> List α -> Nat -> α} : ∀ (x : Tdice) (j : Nat), plainC (encdice U_ G_ x j) = true := by
 intro x j
 unfold encdice
 split <;> rfl
def oncdice (U_ : {α : Type} -> List α -> Nat) (G_ : {α : Type} -> [Inhabited α] -> List α -> Nat -> α) (x : Tdice) : Nat -> AC := fun j => match j with
 | 0 => .ow (U_ x.gb) 1 (row G_ (encI .u8) x.gb)
 | 1 => wi x.gi
 | _ => .v (.int .u64 x.gh)
theorem rf_oncdice {U_ : {α : Type} -> List α -> Nat} {G_ : {α : Type} -> [Inhabited α] -> List α -> Nat -> α} : ∀ (x : Tdice) (j : Nat), (oncdice U_ G_ x j).ref = [] := by
 intro x j
 unfold oncdice
 split <;> rfl
theorem ln_oncdice {U_ : {α : Type} -> List α -> Nat} {G_ : {α : Type} -> [Inhabited α] -> List α -> Nat -> α} : ∀ (x : Tdice) (j : Nat), (oncdice U_ G_ x j).lentIn = encdice U_ G_ x j := by
 intro x j
 unfold oncdice encdice
 split <;> rfl
theorem fl_oncdice {U_ : {α : Type} -> List α -> Nat} {G_ : {α : Type} -> [Inhabited α] -> List α -> Nat -> α} : ∀ (x : Tdice) (j : Nat), (oncdice U_ G_ x j).flat := by
 intro x j
 unfold oncdice
 split <;> first | trivial | (exact fun i _ j _ => val_v (rfl))
abbrev cE (x : TE) : List AC := [wi x.fk_, wi x.fc, wi x.fx, ws x.fN, wi x.fs_.fy, wi x.fs_.fb.fX0, wi x.fs_.fb.fY0, wi x.fs_.fb.fX1, wi x.fs_.fb.fY1, wi x.fl_.fy, wi x.fl_.fa.fX, wi x.fl_.fa.fY, ws x.fl_.fN, wi x.fi_.fc, wi x.fi_.fp.fo, wi x.fi_.fp.fX, wi x.fi_.fp.fY, wi x.fi_.fK, wi x.fi_.fR, wi x.fi_.fu, wi x.fi_.fv]
set_option maxHeartbeats 40000000
/-- laws.big -/
def Fq122 (a0 : List Int) : Option (Bool) :=
 some (std.lt 4096 (std.ofN (len a0)))
theorem runq122 (a0 : List Int) (r : Bool) (h : Fq122 a0 = some r) : Fun prog 7 [.c (.bs (len a0) 1 (row gd (encI .u8) a0))] [] (.c (.v (.bool r))) [] true := by
 refine ow [] func7 ntmps7 ?_; unfold Fq122 at h; generalize hU : @len = U_, hG_ : @gd = G_, hA : std = A, hP : prog = P at *; cbv; exact df

def Lq53_x3 (a0 : List Int) : (Int × Int) -> Option ((Int × Int) ⊕ ((Int))) := fun x3 =>
 letO x3.1 fun v1 =>
 letO x3.2 fun v2 =>
 ((
 br (std.lt v1 (std.ofN (len a0)))
 (some (std.lt v1 64))
 (some false)
 ) : Option (Bool)).bind fun y15 =>
 letO y15 fun w21 =>
 br w21
 (req (std.inR v1 (len a0)) <|
 req (std.nz 2147483647) <|
 some (.inl (std.add .i64 v1 1, std.rem (std.add .i64 (std.mul .i64 v2 31) (std.conv .i64 (gd a0 (std.toN v1)))) 2147483647)))
 (some (.inr v2))
/-- spec.l01From -/
def Fq53 (a0 : List Int) : Option (Tl01Source) :=
 (whileP (σ := Int × Int) (ρ := (Int)) (Lq53_x3 a0) (0, 12345)).bind fun y4 =>
 letO y4 fun y4k0 =>
 letO y4k0 fun w26 =>
 some (Tl01Source.mk a0 0 w26)
theorem runq53 (a0 : List Int) (r : Tl01Source) (h : Fq53 a0 = some r) : Fun prog 25 [.c (.bs (len a0) 1 (row gd (encI .u8) a0))] [] (.c (.ptr 64000 0)) [(64000, .var [.bs (len r.gcode) 1 (row gd (encI .u8) r.gcode), wi r.gat, wi r.gseed])] false := by
 refine ow [3] func25 ntmps25 ?_ (hv := (fun h => by cases h)); unfold Fq53 at h; unfold Lq53_x3 at h; generalize hU : @len = U_, hG_ : @gd = G_, hA : std = A, hP : prog = P at *; cbv
 revert h; refine ln (.exit 0) (fun x => (sp 34 [(0, .c (.bs (U_ a0) 1 (row G_ (encI .u8) a0))), (3, .c (.ptr 448 0)), (4, .c (wi x.1))] [(448, .var [.bs (U_ a0) 1 (row G_ (encI .u8) a0), wi 0, wi x.2])])) (fun w => (sp 34 [(3, .c (.ptr 448 0))] [(448, .var [.bs (U_ a0) 1 (row G_ (encI .u8) a0), wi 0, wi w])])) zb ?_ ?_
 ·rintro ⟨v1, v2⟩ z h K hK hY; replace h := oz (oz h); dsimp only at h; cbv; revert h; refine cu (fun y15 => (sp 34 [(0, .c (.bs (U_ a0) 1 (row G_ (encI .u8) a0))), (3, .c (.ptr 448 0)), (4, .c (wi v1)), (15, .c (.v (.bool y15)))] [(448, .var [.bs (U_ a0) 1 (row G_ (encI .u8) a0), wi 0, wi v2])])) (fun y15 S hS h => rg) fun w21 => rz fun h => ?_; cbv
  revert h; refine fk ?_ ?_ <;> intro h <;> cbv
  ·revert h; refine ra fun c23 h => ?_; revert h; refine ra fun c24 h => ?_; exact dm
  exact dx
 intro w26 h s q12; replace h := oz (oz h); cbv; refine ⟨_, q12, ?_⟩; cbv; injection h with h; subst h; exact ⟨_, le_ren 448 64000 (by decide) rfl, lR _, zo, rfl⟩

/-- spec.l01Next -/
def Fq0 (a0 : Tl01Source) (a1 : Int) : Option (Int × Tl01Source) :=
 br (std.le a1 1)
 (some ((0 : Int), a0))
 (br (std.lt a0.gat (std.ofN (len a0.gcode)))
 (req (std.inR a0.gat (len a0.gcode)) <|
 br (std.lt 256 a1)
 (req (std.nz 2147483647) <|
 req (std.nz a1) <|
 some (std.rem (std.rem (std.add .i64 (std.add .i64 (std.mul .i64 a0.gseed 48271) (std.conv .i64 (gd a0.gcode (std.toN a0.gat)))) 1) 2147483647) a1, (Tl01Source.mk a0.gcode (std.add .i64 a0.gat 1) (std.rem (std.add .i64 (std.add .i64 (std.mul .i64 a0.gseed 48271) (std.conv .i64 (gd a0.gcode (std.toN a0.gat)))) 1) 2147483647))))
 (req (std.nz a1) <|
 some (std.rem (std.conv .i64 (gd a0.gcode (std.toN a0.gat))) a1, (Tl01Source.mk a0.gcode (std.add .i64 a0.gat 1) a0.gseed))))
 (req (std.nz 2147483647) <|
 req (std.nz 7) <|
 req (std.nz a1) <|
 some (std.rem (std.quo .i64 (std.rem (std.add .i64 (std.mul .i64 a0.gseed 48271) 11) 2147483647) 7) a1, (Tl01Source.mk a0.gcode a0.gat (std.rem (std.add .i64 (std.mul .i64 a0.gseed 48271) 11) 2147483647)))))
theorem runq0 (a0 : Tl01Source) (a1 : Int) (r : Int × Tl01Source) (h : Fq0 a0 a1 = some r) : Fun prog 28 [.c (.ptr 5 0), .c (wi a1)] [(5, .var [.bs (len a0.gcode) 1 (row gd (encI .u8) a0.gcode), wi a0.gat, wi a0.gseed])] (.c (wi r.1)) [(5, .var [.bs (len r.2.gcode) 1 (row gd (encI .u8) r.2.gcode), wi r.2.gat, wi r.2.gseed])] false := by
 refine ow [] func28 ntmps28 ?_ (hv := (fun h => by cases h)); unfold Fq0 at h; generalize hU : @len = U_, hG_ : @gd = G_, hA : std = A, hP : prog = P at *; cbv; revert h; refine fk ?_ ?_ <;> intro h <;> cbv
 ·exact df
 revert h; refine fk ?_ ?_ <;> intro h <;> cbv
 ·revert h; refine ra fun c1 h => ?_; revert h; refine fk ?_ ?_ <;> intro h <;> cbv
  ·revert h; refine ra fun c2 h => ?_; revert h; refine ra fun c3 h => ?_; exact df
  revert h; refine ra fun c4 h => ?_; exact df
 revert h; refine ra fun c6 h => ?_; revert h; refine ra fun c7 h => ?_; revert h; refine ra fun c8 h => ?_; exact df

def Lq15_x10  : (Int × (List Int) × Int × Int × (List Int)) -> Option ((Int × (List Int) × Int × Int × (List Int)) ⊕ (((List Int) × (List Int) × Int × Int))) := fun x10 =>
 letO x10.1 fun v5 =>
 letO x10.2.1 fun v6 =>
 letO x10.2.2.1 fun v7 =>
 letO x10.2.2.2.1 fun v8 =>
 letO x10.2.2.2.2 fun v9 =>
 br (std.lt 0 v5)
 ((Fq0 (Tl01Source.mk v6 v7 v8) 10).bind fun y22 =>
 req (std.inR y22.1 (std.slen (ByteArray.mk #[97, 98, 99, 100, 120, 121, 122, 48, 49, 57]))) <|
 letO ([std.sat (ByteArray.mk #[97, 98, 99, 100, 120, 121, 122, 48, 49, 57]) (std.toN y22.1)] : List Int) fun l25 =>
 req (std.room (std.nadd (len v9) (len l25)) 1) <|
 letO (v9 ++ l25) fun l27 =>
 some (.inl (std.sub .i64 v5 1, y22.2.gcode, y22.2.gat, y22.2.gseed, l27)))
 (some (.inr (v9, v6, v7, v8)))
/-- spec.l09DrawName -/
def Fq15 (a0 : Tl01Source) : Option (ByteArray × Tl01Source) :=
 letO ([] : List Int) fun l1 =>
 (Fq0 a0 3).bind fun y3 =>
 (whileP (σ := Int × (List Int) × Int × Int × (List Int)) (ρ := ((List Int) × (List Int) × Int × Int)) Lq15_x10 (std.add .i64 1 y3.1, y3.2.gcode, y3.2.gat, y3.2.gseed, l1)).bind fun y11 =>
 letO y11 fun y11k0 =>
 letO y11k0.1 fun w31 =>
 letO y11k0.2.1 fun w32 =>
 letO y11k0.2.2.1 fun w33 =>
 letO y11k0.2.2.2 fun w34 =>
 some (std.ofBytes (len w31) (fun i => gd w31 (0 + i)), (Tl01Source.mk w32 w33 w34))
theorem runq15 (a0 : Tl01Source) (r : ByteArray × Tl01Source) (h : Fq15 a0 = some r) : Fun prog 48 [.c (.ptr 5 0)] [(5, .var [.bs (len a0.gcode) 1 (row gd (encI .u8) a0.gcode), wi a0.gat, wi a0.gseed])] (.c (ws r.1)) [(5, .var [.bs (len r.2.gcode) 1 (row gd (encI .u8) r.2.gcode), wi r.2.gat, wi r.2.gseed])] false := by
 refine ow [] func48 ntmps48 ?_ (hv := (fun h => by cases h)); unfold Fq15 at h; unfold Lq15_x10 at h; have hfq0 := @runq0; generalize hU : @len = U_, hG_ : @gd = G_, hA : std = A, hP : prog = P at *; cbv; revert h; refine rl fun l1 hl1 h => ?_; have e2 : 0 = U_ l1 := by subst hl1 hU; rfl
 refine ⟨_, (co e2), _, row G_ (encI .u8) l1, e2, wO ?_, ?_⟩
 ·intro i hi j hj; rw [<- e2] at hi; subst hl1; subst hG_; omega
 cbv; revert h; refine rk [(5, 5)] [(5, 5)] (hfq0 _ _) (fun _ => yf) fun y3 h => ?_; cbv
 revert h; refine ln (.exit 0) (fun x => (sp 21 [(0, .c (.ptr 5 0)), (3, .c (.os 320 0 (U_ x.2.2.2.2))), (4, .c (wi x.1))] [(5, .var [.bs (U_ x.2.1) 1 (row G_ (encI .u8) x.2.1), wi x.2.2.1, wi x.2.2.2.1]), (320, .arr .rw [] (U_ x.2.2.2.2) 1 (row G_ (encI .u8) x.2.2.2.2))])) (fun w => (sp 21 [(3, .c (.os 320 0 (U_ w.1)))] [(320, .arr .rw [] (U_ w.1) 1 (row G_ (encI .u8) w.1)), (5, .var [.bs (U_ w.2.1) 1 (row G_ (encI .u8) w.2.1), wi w.2.2.1, wi w.2.2.2])])) zb ?_ ?_
 ·rintro ⟨v5, v6, v7, v8, v9⟩ z h K hK hY; replace h := oz (oz (oz (oz (oz h)))); dsimp only at h; cbv; revert h; refine fk ?_ ?_ <;> intro h <;> cbv
  ·revert h; refine rk [(5, 5)] [(5, 5)] (hfq0 _ _) (fun _ => yf) fun y22 h => ?_; cbv; revert h; refine ra fun c24 h => ?_; revert h; refine rl fun l25 hl25 h => ?_; have e26 : 1 = U_ l25 := by subst hl25 hU; rfl
   refine ⟨_, (co e26), _, row G_ (encI .u8) l25, e26, wO ?_, ?_⟩
   ·intro i hi j hj; rw [<- e26] at hi; subst hl25; subst hG_; obtain rfl : i = 0 := (by omega); all_goals obtain rfl : j = 0 := by omega
    all_goals rfl
   cbv; revert h; refine rq fun c29 => rl fun l27 hl27 h => ?_; have e28 := nl hA hU hl27; refine ⟨c29, _, (co e28), _, row G_ (encI .u8) l27, e28, wO ?_, ?_⟩
   ·subst hG_ hU hA; exact app_os (off := 0) (fun _ _ => rfl) hl27 (Nat.le_refl _)
   cbv; exact dm
  exact dx
 rintro ⟨w31, w32, w33, w34⟩ h s q19; replace h := oz (oz (oz (oz (oz h)))); dsimp only at h; cbv; refine ⟨_, q19, ?_⟩; cbv; refine ⟨fun _ _ => rfl, ?_⟩; exact df

/-- spec.l09DrawBox -/
def Fq113 (a0 : Tl01Source) : Option (TRect × Tl01Source) :=
 (Fq0 a0 16).bind fun y1 =>
 (Fq0 y1.2 16).bind fun y3 =>
 (Fq0 y3.2 6).bind fun y5 =>
 (Fq0 y5.2 6).bind fun y7 =>
 some ((TRect.mk (std.sub .i64 y1.1 8) (std.sub .i64 y3.1 8) (std.add .i64 (std.add .i64 (std.sub .i64 y1.1 8) 1) y5.1) (std.add .i64 (std.add .i64 (std.sub .i64 y3.1 8) 1) y7.1)), y7.2)
theorem runq113 (a0 : Tl01Source) (r : TRect × Tl01Source) (h : Fq113 a0 = some r) : Fun prog 110 [.c (.ptr 5 0)] [(5, .var [.bs (len a0.gcode) 1 (row gd (encI .u8) a0.gcode), wi a0.gat, wi a0.gseed])] (.agg [wi r.1.fX0, wi r.1.fY0, wi r.1.fX1, wi r.1.fY1]) [(5, .var [.bs (len r.2.gcode) 1 (row gd (encI .u8) r.2.gcode), wi r.2.gat, wi r.2.gseed])] false := by
 refine ow [] func110 ntmps110 ?_ (hv := (fun h => by cases h)); unfold Fq113 at h; have hfq0 := @runq0; generalize hU : @len = U_, hG_ : @gd = G_, hA : std = A, hP : prog = P at *; cbv; revert h; refine rk [(5, 5)] [(5, 5)] (hfq0 _ _) (fun _ => yf) fun y1 h => ?_; cbv
 revert h; refine rk [(5, 5)] [(5, 5)] (hfq0 _ _) (fun _ => yf) fun y3 h => ?_; cbv; revert h; refine rk [(5, 5)] [(5, 5)] (hfq0 _ _) (fun _ => yf) fun y5 h => ?_; cbv; revert h; refine rk [(5, 5)] [(5, 5)] (hfq0 _ _) (fun _ => yf) fun y7 h => ?_; cbv; exact df

/-- spec.l09DrawShape -/
def Fq64 (a0 : Tl01Source) : Option (TS × Tl01Source) :=
 (Fq0 a0 8).bind fun y1 =>
 (Fq113 y1.2).bind fun y3 =>
 some ((TS.mk y1.1 y3.1), y3.2)
theorem runq64 (a0 : Tl01Source) (r : TS × Tl01Source) (h : Fq64 a0 = some r) : Fun prog 49 [.c (.ptr 5 0)] [(5, .var [.bs (len a0.gcode) 1 (row gd (encI .u8) a0.gcode), wi a0.gat, wi a0.gseed])] (.agg [wi r.1.fy, wi r.1.fb.fX0, wi r.1.fb.fY0, wi r.1.fb.fX1, wi r.1.fb.fY1]) [(5, .var [.bs (len r.2.gcode) 1 (row gd (encI .u8) r.2.gcode), wi r.2.gat, wi r.2.gseed])] false := by
 refine ow [] func49 ntmps49 ?_ (hv := (fun h => by cases h)); unfold Fq64 at h; have hfq0 := @runq0; have hfq113 := @runq113; generalize hU : @len = U_, hG_ : @gd = G_, hA : std = A, hP : prog = P at *; cbv
 revert h; refine rk [(5, 5)] [(5, 5)] (hfq0 _ _) (fun _ => yf) fun y1 h => ?_; cbv; revert h; refine rk [(5, 5)] [(5, 5)] (hfq113 _) (fun _ => yf) fun y3 h => ?_; cbv; exact df
set_option maxHeartbeats 40000000
/-- spec.l09DrawLabel -/
def Fq50 (a0 : Tl01Source) : Option (TB × Tl01Source) :=
 (Fq0 a0 8).bind fun y1 =>
 (Fq0 y1.2 16).bind fun y3 =>
 (Fq0 y3.2 16).bind fun y5 =>
 (Fq15 y5.2).bind fun y7 =>
 some ((TB.mk y1.1 (TPoint.mk (std.sub .i64 y3.1 8) (std.sub .i64 y5.1 8)) y7.1), y7.2)
theorem runq50 (a0 : Tl01Source) (r : TB × Tl01Source) (h : Fq50 a0 = some r) : Fun prog 50 [.c (.ptr 5 0)] [(5, .var [.bs (len a0.gcode) 1 (row gd (encI .u8) a0.gcode), wi a0.gat, wi a0.gseed])] (.agg [wi r.1.fy, wi r.1.fa.fX, wi r.1.fa.fY, ws r.1.fN]) [(5, .var [.bs (len r.2.gcode) 1 (row gd (encI .u8) r.2.gcode), wi r.2.gat, wi r.2.gseed])] false := by
 refine ow [] func50 ntmps50 ?_ (hv := (fun h => by cases h)); unfold Fq50 at h; have hfq0 := @runq0; have hfq15 := @runq15; generalize hU : @len = U_, hG_ : @gd = G_, hA : std = A, hP : prog = P at *; cbv
 revert h; refine rk [(5, 5)] [(5, 5)] (hfq0 _ _) (fun _ => yf) fun y1 h => ?_; cbv; revert h; refine rk [(5, 5)] [(5, 5)] (hfq0 _ _) (fun _ => yf) fun y3 h => ?_; cbv; revert h; refine rk [(5, 5)] [(5, 5)] (hfq0 _ _) (fun _ => yf) fun y5 h => ?_; cbv; revert h; refine rk [(5, 5)] [(5, 5)] (hfq15 _) (fun _ => yf) fun y7 h => ?_; cbv
 exact df

/-- spec.l09DrawInstance -/
def Fq57 (a0 : Tl01Source) (a1 : Int) : Option (TI × Tl01Source) :=
 (Fq0 a0 a1).bind fun y1 =>
 (Fq0 y1.2 8).bind fun y3 =>
 (Fq0 y3.2 24).bind fun y5 =>
 (Fq0 y5.2 24).bind fun y7 =>
 (Fq0 y7.2 3).bind fun y9 =>
 ((
 br (std.eq y9.1 0)
 ((Fq0 y9.2 2).bind fun y22 =>
 (Fq0 y22.2 15).bind fun y24 =>
 some (y24.2.gcode, y24.2.gat, y24.2.gseed, std.add .i64 2 y22.1, std.sub .i64 y24.1 7))
 (some (y9.2.gcode, y9.2.gat, y9.2.gseed, 1, 0))
 ) : Option ((List Int) × Int × Int × Int × Int)).bind fun y11 =>
 letO y11.1 fun w17 =>
 letO y11.2.1 fun w18 =>
 letO y11.2.2.1 fun w19 =>
 letO y11.2.2.2.1 fun w20 =>
 letO y11.2.2.2.2 fun w21 =>
 (Fq0 (Tl01Source.mk w17 w18 w19) 4).bind fun y27 =>
 ((
 br (std.eq y27.1 0)
 ((Fq0 y27.2 15).bind fun y40 =>
 some (y40.2.gcode, y40.2.gat, y40.2.gseed, 2, std.sub .i64 y40.1 7))
 (some (y27.2.gcode, y27.2.gat, y27.2.gseed, 1, 0))
 ) : Option ((List Int) × Int × Int × Int × Int)).bind fun y29 =>
 letO y29.1 fun w35 =>
 letO y29.2.1 fun w36 =>
 letO y29.2.2.1 fun w37 =>
 letO y29.2.2.2.1 fun w38 =>
 letO y29.2.2.2.2 fun w39 =>
 (Fq0 (Tl01Source.mk w35 w36 w37) 24).bind fun y43 =>
 ((
 br (std.eq y43.1 0)
 (some (std.mul .i64 (std.sub .i64 y5.1 12) 6))
 (some (std.sub .i64 y5.1 12))
 ) : Option (Int)).bind fun y45 =>
 letO y45 fun w51 =>
 some ((TI.mk y1.1 (TM.mk y3.1 w51 (std.sub .i64 y7.1 12)) w20 w38 w21 w39), y43.2)
theorem runq57 (a0 : Tl01Source) (a1 : Int) (r : TI × Tl01Source) (h : Fq57 a0 a1 = some r) : Fun prog 51 [.c (.ptr 5 0), .c (wi a1)] [(5, .var [.bs (len a0.gcode) 1 (row gd (encI .u8) a0.gcode), wi a0.gat, wi a0.gseed])] (.agg [wi r.1.fc, wi r.1.fp.fo, wi r.1.fp.fX, wi r.1.fp.fY, wi r.1.fK, wi r.1.fR, wi r.1.fu, wi r.1.fv]) [(5, .var [.bs (len r.2.gcode) 1 (row gd (encI .u8) r.2.gcode), wi r.2.gat, wi r.2.gseed])] false := by
 refine ow [100021, 100032, 100040] func51 ntmps51 ?_ (hv := (fun h => by cases h)); unfold Fq57 at h; have hfq0 := @runq0; generalize hU : @len = U_, hG_ : @gd = G_, hA : std = A, hP : prog = P at *; cbv; revert h; refine rk [(5, 5)] [(5, 5)] (hfq0 _ _) (fun _ => yf) fun y1 h => ?_; cbv
 revert h; refine rk [(5, 5)] [(5, 5)] (hfq0 _ _) (fun _ => yf) fun y3 h => ?_; cbv; revert h; refine rk [(5, 5)] [(5, 5)] (hfq0 _ _) (fun _ => yf) fun y5 h => ?_; cbv; revert h; refine rk [(5, 5)] [(5, 5)] (hfq0 _ _) (fun _ => yf) fun y7 h => ?_; cbv; revert h; refine rk [(5, 5)] [(5, 5)] (hfq0 _ _) (fun _ => yf) fun y9 h => ?_; cbv
 revert h; refine cu (fun y11 => some (sp 48 [(0, .c (.ptr 5 0)), (4, .c (.ptr 256 0)), (5, .c (.ptr 320 0))] [(5, .var [.bs (U_ y11.1) 1 (row G_ (encI .u8) y11.1), wi y11.2.1, wi y11.2.2.1]), (256, .var [wi 0, wi 0, wi 0, wi 0, wi 0, wi 0, wi 0, wi 0]), (320, .var [wi y1.1, wi y3.1, wi (A.sub .i64 y5.1 12), wi (A.sub .i64 y7.1 12), wi y11.2.2.2.1, wi 1, wi y11.2.2.2.2, wi 0])])) ?_ ?_
 ·intro y11 S hS h; cbv; revert h; refine fk ?_ ?_ <;> intro h <;> cbv
  ·revert h; refine rk [(5, 5)] [(5, 5)] (hfq0 _ _) (fun _ => yf) fun y22 h => ?_; cbv; revert h; refine rk [(5, 5)] [(5, 5)] (hfq0 _ _) (fun _ => yf) fun y24 h => ?_; cbv; exact dn
  exact dn
 rintro ⟨w17, w18, w19, w20, w21⟩ h; replace h := oz (oz (oz (oz (oz h)))); dsimp only at h; cbv; revert h; refine rk [(5, 5)] [(5, 5)] (hfq0 _ _) (fun _ => yf) fun y27 h => ?_; cbv
 revert h; refine cu (fun y29 => some (sp 48 [(0, .c (.ptr 5 0)), (4, .c (.ptr 256 0)), (5, .c (.ptr 320 0))] [(5, .var [.bs (U_ y29.1) 1 (row G_ (encI .u8) y29.1), wi y29.2.1, wi y29.2.2.1]), (256, .var [wi 0, wi 0, wi 0, wi 0, wi 0, wi 0, wi 0, wi 0]), (320, .var [wi y1.1, wi y3.1, wi (A.sub .i64 y5.1 12), wi (A.sub .i64 y7.1 12), wi w20, wi y29.2.2.2.1, wi w21, wi y29.2.2.2.2])])) ?_ ?_
 ·intro y29 S hS h; cbv; revert h; refine fk ?_ ?_ <;> intro h <;> cbv
  ·revert h; refine rk [(5, 5)] [(5, 5)] (hfq0 _ _) (fun _ => yf) fun y40 h => ?_; cbv; exact dn
  exact dn
 rintro ⟨w35, w36, w37, w38, w39⟩ h; replace h := oz (oz (oz (oz (oz h)))); dsimp only at h; cbv; revert h; refine rk [(5, 5)] [(5, 5)] (hfq0 _ _) (fun _ => yf) fun y43 h => ?_; cbv
 revert h; refine cu (fun y45 => some (sp 48 [(4, .c (.ptr 256 0)), (5, .c (.ptr 320 0))] [(256, .var [wi 0, wi 0, wi 0, wi 0, wi 0, wi 0, wi 0, wi 0]), (320, .var [wi y1.1, wi y3.1, wi y45, wi (A.sub .i64 y7.1 12), wi w20, wi w38, wi w21, wi w39]), (5, .var [.bs (U_ y43.2.gcode) 1 (row G_ (encI .u8) y43.2.gcode), wi y43.2.gat, wi y43.2.gseed])])) (fun y45 S hS h => rg) fun w51 => rz fun h => ?_
 cbv; exact df

def Lq10_x94 (v3 : Int) : (Int × (List Int) × Int × Int × (List TI)) -> Option ((Int × (List Int) × Int × Int × (List TI)) ⊕ (((List Int) × Int × Int × (List TI)))) := fun x94 =>
 letO x94.1 fun v89 =>
 letO x94.2.1 fun v90 =>
 letO x94.2.2.1 fun v91 =>
 letO x94.2.2.2.1 fun v92 =>
 letO x94.2.2.2.2 fun v93 =>
 ((
 br (std.lt 0 v89)
 (some (std.lt 0 v3))
 (some false)
 ) : Option (Bool)).bind fun y106 =>
 letO y106 fun w112 =>
 br w112
 ((Fq57 (Tl01Source.mk v90 v91 v92) v3).bind fun y114 =>
 letO ([y114.1] : List TI) fun l116 =>
 req (std.room (std.nadd (len v93) (len l116)) 64) <|
 letO (v93 ++ l116) fun l118 =>
 some (.inl (std.sub .i64 v89 1, y114.2.gcode, y114.2.gat, y114.2.gseed, l118)))
 (some (.inr (v90, v91, v92, v93)))
def Lq10_x63  : (Int × (List Int) × Int × Int × (List TB)) -> Option ((Int × (List Int) × Int × Int × (List TB)) ⊕ (((List Int) × Int × Int × (List TB)))) := fun x63 =>
 letO x63.1 fun v58 =>
 letO x63.2.1 fun v59 =>
 letO x63.2.2.1 fun v60 =>
 letO x63.2.2.2.1 fun v61 =>
 letO x63.2.2.2.2 fun v62 =>
 br (std.lt 0 v58)
 ((Fq50 (Tl01Source.mk v59 v60 v61)).bind fun y75 =>
 letO ([y75.1] : List TB) fun l77 =>
 req (std.room (std.nadd (len v62) (len l77)) 40) <|
 letO (v62 ++ l77) fun l79 =>
 some (.inl (std.sub .i64 v58 1, y75.2.gcode, y75.2.gat, y75.2.gseed, l79)))
 (some (.inr (v59, v60, v61, v62)))
def Lq10_x32  : (Int × (List Int) × Int × Int × (List TS)) -> Option ((Int × (List Int) × Int × Int × (List TS)) ⊕ (((List Int) × Int × Int × (List TS)))) := fun x32 =>
 letO x32.1 fun v27 =>
 letO x32.2.1 fun v28 =>
 letO x32.2.2.1 fun v29 =>
 letO x32.2.2.2.1 fun v30 =>
 letO x32.2.2.2.2 fun v31 =>
 br (std.lt 0 v27)
 ((Fq64 (Tl01Source.mk v28 v29 v30)).bind fun y44 =>
 letO ([y44.1] : List TS) fun l46 =>
 req (std.room (std.nadd (len v31) (len l46)) 40) <|
 letO (v31 ++ l46) fun l48 =>
 some (.inl (std.sub .i64 v27 1, y44.2.gcode, y44.2.gat, y44.2.gseed, l48)))
 (some (.inr (v28, v29, v30, v31)))
def Lq10_x8 (y1 : Int × Tl01Source) : (Int × (List Int) × Int × Int × (List TC)) -> Option ((Int × (List Int) × Int × Int × (List TC)) ⊕ (((List Int) × Int × Int × (List TC)))) := fun x8 =>
 letO x8.1 fun v3 =>
 letO x8.2.1 fun v4 =>
 letO x8.2.2.1 fun v5 =>
 letO x8.2.2.2.1 fun v6 =>
 letO x8.2.2.2.2 fun v7 =>
 br (std.lt v3 (std.add .i64 1 y1.1))
 (letO ([std.conv .u8 (std.add .i64 97 v3)] : List Int) fun l20 =>
 (Fq15 (Tl01Source.mk v4 v5 v6)).bind fun y22 =>
 req (std.room (std.nadd (std.slen (std.ofBytes (len l20) (fun i => gd l20 (0 + i)))) (std.slen y22.1)) 1) <|
 (Fq0 y22.2 4).bind fun y25 =>
 (whileP (σ := Int × (List Int) × Int × Int × (List TS)) (ρ := ((List Int) × Int × Int × (List TS))) Lq10_x32 (y25.1, y25.2.gcode, y25.2.gat, y25.2.gseed, ([] : List TS))).bind fun y33 =>
 letO y33 fun y33k0 =>
 letO y33k0.1 fun w52 =>
 letO y33k0.2.1 fun w53 =>
 letO y33k0.2.2.1 fun w54 =>
 letO y33k0.2.2.2 fun w55 =>
 (Fq0 (Tl01Source.mk w52 w53 w54) 3).bind fun y56 =>
 (whileP (σ := Int × (List Int) × Int × Int × (List TB)) (ρ := ((List Int) × Int × Int × (List TB))) Lq10_x63 (y56.1, y56.2.gcode, y56.2.gat, y56.2.gseed, ([] : List TB))).bind fun y64 =>
 letO y64 fun y64k0 =>
 letO y64k0.1 fun w83 =>
 letO y64k0.2.1 fun w84 =>
 letO y64k0.2.2.1 fun w85 =>
 letO y64k0.2.2.2 fun w86 =>
 (Fq0 (Tl01Source.mk w83 w84 w85) 3).bind fun y87 =>
 (whileP (σ := Int × (List Int) × Int × Int × (List TI)) (ρ := ((List Int) × Int × Int × (List TI))) (Lq10_x94 v3) (y87.1, y87.2.gcode, y87.2.gat, y87.2.gseed, ([] : List TI))).bind fun y95 =>
 letO y95 fun y95k0 =>
 letO y95k0.1 fun w122 =>
 letO y95k0.2.1 fun w123 =>
 letO y95k0.2.2.1 fun w124 =>
 letO y95k0.2.2.2 fun w125 =>
 ((
 letO ([(TC.mk (std.scat (std.ofBytes (len l20) (fun i => gd l20 (0 + i))) y22.1) w55 w86 w125)] : List TC) fun l133 =>
 req (std.room (std.nadd (len v7) (len l133)) 88) <|
 letO (v7 ++ l133) fun l135 =>
 some l135
 ) : Option ((List TC))).bind fun y126 =>
 letO y126 fun w132 =>
 some (.inl (std.add .i64 v3 1, w122, w123, w124, w132)))
 (some (.inr (v4, v5, v6, v7)))
/-- spec.l09DrawLibrary -/
def Fq10 (a0 : Tl01Source) : Option (TL × Tl01Source) :=
 (Fq0 a0 4).bind fun y1 =>
 (whileP (σ := Int × (List Int) × Int × Int × (List TC)) (ρ := ((List Int) × Int × Int × (List TC))) (Lq10_x8 y1) (0, y1.2.gcode, y1.2.gat, y1.2.gseed, ([] : List TC))).bind fun y9 =>
 letO y9 fun y9k0 =>
 letO y9k0.1 fun w139 =>
 letO y9k0.2.1 fun w140 =>
 letO y9k0.2.2.1 fun w141 =>
 letO y9k0.2.2.2 fun w142 =>
 some ((TL.mk w142), (Tl01Source.mk w139 w140 w141))
theorem runq10 (a0 : Tl01Source) (r : TL × Tl01Source) (h : Fq10 a0 = some r) : Fun prog 26 [.c (.ptr 5 0)] [(5, .var [.bs (len a0.gcode) 1 (row gd (encI .u8) a0.gcode), wi a0.gat, wi a0.gseed])] (.agg [.os 64000 0 (len r.1.fC)]) [(64000, .arr .rw [] (len r.1.fC) 4 (row gd (oC len gd) r.1.fC)), (5, .var [.bs (len r.2.gcode) 1 (row gd (encI .u8) r.2.gcode), wi r.2.gat, wi r.2.gseed])] false := by
 refine ow [16, 19] func26 ntmps26 ?_ (hv := (fun h => by cases h)); unfold Fq10 at h; unfold Lq10_x8 at h; unfold Lq10_x32 at h; unfold Lq10_x63 at h; unfold Lq10_x94 at h; have hfq0 := @runq0
 have hfq57 := @runq57; have hfq50 := @runq50; have hfq15 := @runq15; have hfq64 := @runq64; generalize hU : @len = U_, hG_ : @gd = G_, hA : std = A, hP : prog = P at *; cbv
 revert h; refine rk [(5, 5)] [(5, 5)] (hfq0 _ _) (fun _ => yf) fun y1 h => ?_; cbv
 revert h; refine ln (.exit 0) (fun x => (sp 79 [(0, .c (.ptr 5 0)), (2, .c (.ptr 128 0)), (3, .c (.ptr 192 0)), (4, .c (wi (A.add .i64 1 y1.1))), (5, .c (wi x.1))] [(5, .var [.bs (U_ x.2.1) 1 (row G_ (encI .u8) x.2.1), wi x.2.2.1, wi x.2.2.2.1]), (128, .var [.v (.slice none 0 0)]), (192, .var [.os 4864 0 (U_ x.2.2.2.2)]), (4864, .arr .rw [] (U_ x.2.2.2.2) 4 (row G_ (oC U_ G_) x.2.2.2.2))])) (fun w => (sp 79 [(2, .c (.ptr 128 0)), (3, .c (.ptr 192 0))] [(128, .var [.v (.slice none 0 0)]), (192, .var [.os 4864 0 (U_ w.2.2.2)]), (5, .var [.bs (U_ w.1) 1 (row G_ (encI .u8) w.1), wi w.2.1, wi w.2.2.1]), (4864, .arr .rw [] (U_ w.2.2.2) 4 (row G_ (oC U_ G_) w.2.2.2))])) ?_ ?_ ?_
 ·show St.le _ _; refine St.le_trans (le_nilV 192 0 4864 4 (row G_ (oC U_ G_) ([] : List TC)) (by decide) (by decide) rfl rfl) ?_; subst hU; exact zb
 ·rintro ⟨v3, v4, v5, v6, v7⟩ z h K hK hY; replace h := oz (oz (oz (oz (oz h)))); dsimp only at h; cbv; revert h; refine fk ?_ ?_ <;> intro h <;> cbv
  ·revert h; refine rl fun l20 hl20 h => ?_; have e21 : 1 = U_ l20 := by subst hl20 hU; rfl
   refine ⟨_, (co e21), _, row G_ (encI .u8) l20, e21, wO ?_, ?_⟩
   ·intro i hi j hj; rw [<- e21] at hi; subst hl20; subst hG_; obtain rfl : i = 0 := (by omega); all_goals obtain rfl : j = 0 := by omega
    all_goals rfl
   cbv; refine ⟨fun _ _ => rfl, ?_⟩; revert h; refine rk [(5, 5)] [(5, 5)] (hfq15 _) (fun _ => yf) fun y22 h => ?_; cbv; revert h; refine ra fun c24 h => ?_; revert h; refine rk [(5, 5)] [(5, 5)] (hfq0 _ _) (fun _ => yf) fun y25 h => ?_; cbv
   revert h; refine ln (.exit 2) (fun x => (sp 79 [(0, .c (.ptr 5 0)), (2, .c (.ptr 128 0)), (3, .c (.ptr 192 0)), (4, .c (wi (A.add .i64 1 y1.1))), (5, .c (wi v3)), (6, .c (.ptr 384 0)), (7, .c (wi x.1))] [(5, .var [.bs (U_ x.2.1) 1 (row G_ (encI .u8) x.2.1), wi x.2.2.1, wi x.2.2.2.1]), (128, .var [.v (.slice none 0 0)]), (192, .var [.os 4864 0 (U_ v7)]), (384, .var [ws (A.scat (A.ofBytes (U_ l20) (fun i => G_ l20 (0 + i))) y22.1), .os 2496 0 (U_ x.2.2.2.2), .v (.slice none 0 0), .v (.slice none 0 0)]), (4864, .arr .rw [] (U_ v7) 4 (row G_ (oC U_ G_) v7)), (2496, .arr .rw [] (U_ x.2.2.2.2) 5 (row G_ (eS) x.2.2.2.2))])) (fun w => (sp 79 [(0, .c (.ptr 5 0)), (2, .c (.ptr 128 0)), (3, .c (.ptr 192 0)), (4, .c (wi (A.add .i64 1 y1.1))), (5, .c (wi v3)), (6, .c (.ptr 384 0))] [(5, .var [.bs (U_ w.1) 1 (row G_ (encI .u8) w.1), wi w.2.1, wi w.2.2.1]), (128, .var [.v (.slice none 0 0)]), (192, .var [.os 4864 0 (U_ v7)]), (384, .var [ws (A.scat (A.ofBytes (U_ l20) (fun i => G_ l20 (0 + i))) y22.1), .os 2496 0 (U_ w.2.2.2), .v (.slice none 0 0), .v (.slice none 0 0)]), (4864, .arr .rw [] (U_ v7) 4 (row G_ (oC U_ G_) v7)), (2496, .arr .rw [] (U_ w.2.2.2) 5 (row G_ (eS) w.2.2.2))])) ?_ ?_ ?_
   ·show St.le _ _; refine St.le_trans (le_nilV 384 1 2496 5 (row G_ (eS) ([] : List TS)) (by decide) (by decide) rfl rfl) ?_; subst hU; exact zb
   ·rintro ⟨v27, v28, v29, v30, v31⟩ z h K hK hY; replace h := oz (oz (oz (oz (oz h)))); dsimp only at h; cbv; revert h; refine fk ?_ ?_ <;> intro h <;> cbv
    ·revert h; refine rk [(5, 5)] [(5, 5)] (hfq64 _) (fun _ => yf) fun y44 h => ?_; cbv; revert h; refine rl fun l46 hl46 h => ?_; have e47 : 1 = U_ l46 := by subst hl46 hU; rfl
     refine ⟨_, (co e47), _, row G_ (eS) l46, e47, wO ?_, ?_⟩
     ·intro i hi j hj; rw [<- e47] at hi; subst hl46; subst hG_; obtain rfl : i = 0 := (by omega) <;> obtain rfl | rfl | rfl | rfl | rfl : j = 0 \/ j = 1 \/ j = 2 \/ j = 3 \/ j = 4 := (by omega)
      all_goals rfl
     cbv; revert h; refine rq fun c50 => rl fun l48 hl48 h => ?_; have e49 := nl hA hU hl48; refine ⟨c50, _, (co e49), _, row G_ (eS) l48, e49, wO ?_, ?_⟩
     ·subst hG_ hU hA; exact app_os (off := 0) (pl_encShape) hl48 (Nat.le_refl _)
     cbv; exact dm
    exact dx
   rintro ⟨w52, w53, w54, w55⟩ h s q41; replace h := oz (oz (oz (oz (oz h)))); dsimp only at h; cbv; refine ⟨_, q41, ?_⟩; cbv; revert h; refine rk [(5, 5)] [(5, 5)] (hfq0 _ _) (fun _ => yf) fun y56 h => ?_; cbv
   revert h; refine ln (.exit 4) (fun x => (sp 79 [(0, .c (.ptr 5 0)), (2, .c (.ptr 128 0)), (3, .c (.ptr 192 0)), (4, .c (wi (A.add .i64 1 y1.1))), (5, .c (wi v3)), (6, .c (.ptr 384 0)), (8, .c (wi x.1))] [(5, .var [.bs (U_ x.2.1) 1 (row G_ (encI .u8) x.2.1), wi x.2.2.1, wi x.2.2.2.1]), (128, .var [.v (.slice none 0 0)]), (192, .var [.os 4864 0 (U_ v7)]), (384, .var [ws (A.scat (A.ofBytes (U_ l20) (fun i => G_ l20 (0 + i))) y22.1), .os 2496 0 (U_ w55), .os 3328 0 (U_ x.2.2.2.2), .v (.slice none 0 0)]), (4864, .arr .rw [] (U_ v7) 4 (row G_ (oC U_ G_) v7)), (2496, .arr .rw [] (U_ w55) 5 (row G_ (eS) w55)), (3328, .arr .rw [] (U_ x.2.2.2.2) 4 (row G_ (eL_0) x.2.2.2.2))])) (fun w => (sp 79 [(0, .c (.ptr 5 0)), (2, .c (.ptr 128 0)), (3, .c (.ptr 192 0)), (4, .c (wi (A.add .i64 1 y1.1))), (5, .c (wi v3)), (6, .c (.ptr 384 0))] [(5, .var [.bs (U_ w.1) 1 (row G_ (encI .u8) w.1), wi w.2.1, wi w.2.2.1]), (128, .var [.v (.slice none 0 0)]), (192, .var [.os 4864 0 (U_ v7)]), (384, .var [ws (A.scat (A.ofBytes (U_ l20) (fun i => G_ l20 (0 + i))) y22.1), .os 2496 0 (U_ w55), .os 3328 0 (U_ w.2.2.2), .v (.slice none 0 0)]), (4864, .arr .rw [] (U_ v7) 4 (row G_ (oC U_ G_) v7)), (2496, .arr .rw [] (U_ w55) 5 (row G_ (eS) w55)), (3328, .arr .rw [] (U_ w.2.2.2) 4 (row G_ (eL_0) w.2.2.2))])) ?_ ?_ ?_
   ·show St.le _ _; refine St.le_trans (le_nilV 384 2 3328 4 (row G_ (eL_0) ([] : List TB)) (by decide) (by decide) rfl rfl) ?_; subst hU; exact zb
   ·rintro ⟨v58, v59, v60, v61, v62⟩ z h K hK hY; replace h := oz (oz (oz (oz (oz h)))); dsimp only at h; cbv; revert h; refine fk ?_ ?_ <;> intro h <;> cbv
    ·revert h; refine rk [(5, 5)] [(5, 5)] (hfq50 _) (fun _ => yf) fun y75 h => ?_; cbv; revert h; refine rl fun l77 hl77 h => ?_; have e78 : 1 = U_ l77 := by subst hl77 hU; rfl
     refine ⟨_, (co e78), _, row G_ (eL_0) l77, e78, wO ?_, ?_⟩
     ·intro i hi j hj; rw [<- e78] at hi; subst hl77; subst hG_; obtain rfl : i = 0 := (by omega) <;> obtain rfl | rfl | rfl | rfl : j = 0 \/ j = 1 \/ j = 2 \/ j = 3 := (by omega)
      all_goals rfl
     cbv; revert h; refine rq fun c81 => rl fun l79 hl79 h => ?_; have e80 := nl hA hU hl79; refine ⟨c81, _, (co e80), _, row G_ (eL_0) l79, e80, wO ?_, ?_⟩
     ·subst hG_ hU hA; exact app_os (off := 0) (pl_encLabel) hl79 (Nat.le_refl _)
     cbv; exact dm
    exact dx
   rintro ⟨w83, w84, w85, w86⟩ h s q72; replace h := oz (oz (oz (oz (oz h)))); dsimp only at h; cbv; refine ⟨_, q72, ?_⟩; cbv; revert h; refine rk [(5, 5)] [(5, 5)] (hfq0 _ _) (fun _ => yf) fun y87 h => ?_; cbv
   revert h; refine ln (.exit 6) (fun x => (sp 79 [(0, .c (.ptr 5 0)), (2, .c (.ptr 128 0)), (3, .c (.ptr 192 0)), (4, .c (wi (A.add .i64 1 y1.1))), (5, .c (wi v3)), (6, .c (.ptr 384 0)), (9, .c (wi x.1))] [(5, .var [.bs (U_ x.2.1) 1 (row G_ (encI .u8) x.2.1), wi x.2.2.1, wi x.2.2.2.1]), (128, .var [.v (.slice none 0 0)]), (192, .var [.os 4864 0 (U_ v7)]), (384, .var [ws (A.scat (A.ofBytes (U_ l20) (fun i => G_ l20 (0 + i))) y22.1), .os 2496 0 (U_ w55), .os 3328 0 (U_ w86), .os 4480 0 (U_ x.2.2.2.2)]), (4864, .arr .rw [] (U_ v7) 4 (row G_ (oC U_ G_) v7)), (2496, .arr .rw [] (U_ w55) 5 (row G_ (eS) w55)), (3328, .arr .rw [] (U_ w86) 4 (row G_ (eL_0) w86)), (4480, .arr .rw [] (U_ x.2.2.2.2) 8 (row G_ (eI) x.2.2.2.2))])) (fun w => (sp 79 [(0, .c (.ptr 5 0)), (2, .c (.ptr 128 0)), (3, .c (.ptr 192 0)), (4, .c (wi (A.add .i64 1 y1.1))), (5, .c (wi v3)), (6, .c (.ptr 384 0))] [(5, .var [.bs (U_ w.1) 1 (row G_ (encI .u8) w.1), wi w.2.1, wi w.2.2.1]), (128, .var [.v (.slice none 0 0)]), (192, .var [.os 4864 0 (U_ v7)]), (384, .var [ws (A.scat (A.ofBytes (U_ l20) (fun i => G_ l20 (0 + i))) y22.1), .os 2496 0 (U_ w55), .os 3328 0 (U_ w86), .os 4480 0 (U_ w.2.2.2)]), (4864, .arr .rw [] (U_ v7) 4 (row G_ (oC U_ G_) v7)), (2496, .arr .rw [] (U_ w55) 5 (row G_ (eS) w55)), (3328, .arr .rw [] (U_ w86) 4 (row G_ (eL_0) w86)), (4480, .arr .rw [] (U_ w.2.2.2) 8 (row G_ (eI) w.2.2.2))])) ?_ ?_ ?_
   ·show St.le _ _; refine St.le_trans (le_nilV 384 3 4480 8 (row G_ (eI) ([] : List TI)) (by decide) (by decide) rfl rfl) ?_; subst hU; exact zb
   ·rintro ⟨v89, v90, v91, v92, v93⟩ z h K hK hY; replace h := oz (oz (oz (oz (oz h)))); dsimp only at h; cbv
    revert h; refine cu (fun y106 => (sp 79 [(0, .c (.ptr 5 0)), (2, .c (.ptr 128 0)), (3, .c (.ptr 192 0)), (4, .c (wi (A.add .i64 1 y1.1))), (5, .c (wi v3)), (6, .c (.ptr 384 0)), (9, .c (wi v89)), (61, .c (.v (.bool y106)))] [(5, .var [.bs (U_ v90) 1 (row G_ (encI .u8) v90), wi v91, wi v92]), (128, .var [.v (.slice none 0 0)]), (192, .var [.os 4864 0 (U_ v7)]), (384, .var [ws (A.scat (A.ofBytes (U_ l20) (fun i => G_ l20 (0 + i))) y22.1), .os 2496 0 (U_ w55), .os 3328 0 (U_ w86), .os 4480 0 (U_ v93)]), (4864, .arr .rw [] (U_ v7) 4 (row G_ (oC U_ G_) v7)), (2496, .arr .rw [] (U_ w55) 5 (row G_ (eS) w55)), (3328, .arr .rw [] (U_ w86) 4 (row G_ (eL_0) w86)), (4480, .arr .rw [] (U_ v93) 8 (row G_ (eI) v93))])) (fun y106 S hS h => rg) fun w112 => rz fun h => ?_
    cbv; revert h; refine fk ?_ ?_ <;> intro h <;> cbv
    ·revert h; refine rk [(5, 5)] [(5, 5)] (hfq57 _ _) (fun _ => yf) fun y114 h => ?_; cbv; revert h; refine rl fun l116 hl116 h => ?_; have e117 : 1 = U_ l116 := by subst hl116 hU; rfl
     refine ⟨_, (co e117), _, row G_ (eI) l116, e117, wO ?_, ?_⟩
     ·intro i hi j hj; rw [<- e117] at hi; subst hl116; subst hG_; obtain rfl : i = 0 := (by omega) <;> obtain rfl | rfl | rfl | rfl | rfl | rfl | rfl | rfl : j = 0 \/ j = 1 \/ j = 2 \/ j = 3 \/ j = 4 \/ j = 5 \/ j = 6 \/ j = 7 := (by omega)
      all_goals rfl
     cbv; revert h; refine rq fun c120 => rl fun l118 hl118 h => ?_; have e119 := nl hA hU hl118; refine ⟨c120, _, (co e119), _, row G_ (eI) l118, e119, wO ?_, ?_⟩
     ·subst hG_ hU hA; exact app_os (off := 0) (pl_encInstance) hl118 (Nat.le_refl _)
     cbv; exact dm
    exact dx
   rintro ⟨w122, w123, w124, w125⟩ h s q103; replace h := oz (oz (oz (oz (oz h)))); dsimp only at h; cbv; refine ⟨_, q103, ?_⟩; cbv
   revert h; refine cu (fun y126 => (sp 79 [(0, .c (.ptr 5 0)), (2, .c (.ptr 128 0)), (3, .c (.ptr 192 0)), (4, .c (wi (A.add .i64 1 y1.1))), (5, .c (wi v3))] [(5, .var [.bs (U_ w122) 1 (row G_ (encI .u8) w122), wi w123, wi w124]), (128, .var [.v (.slice none 0 0)]), (192, .var [.os 4864 0 (U_ y126)]), (4864, .arr .rw [] (U_ y126) 4 (row G_ (oC U_ G_) y126))])) ?_ fun w132 => rz fun h => ?_
   ·intro y126 S hS h; cbv; revert h; refine rl fun l133 hl133 h => ?_; have e134 : 1 = U_ l133 := by subst hl133 hU; rfl
    refine ⟨_, (co e134), _, (pC (fun _ _ => AC.junk) 0 [ws (A.scat (A.ofBytes (U_ l20) (fun i => G_ l20 (0 + i))) y22.1), .os 2496 0 (U_ w55), .os 3328 0 (U_ w86), .os 4480 0 (U_ w125)]), e134, wO ?_, ?_⟩
    ·refine patch_one (by subst hl133 hU; rfl) ?_; exact zr
    cbv; revert h; refine rq fun c137 => rl fun l135 hl135 h => ?_; have e136 := nl hA hU hl135; refine ⟨c137, _, (co e136), _, (pC (row G_ (oC U_ G_) v7) (U_ v7) [ws (A.scat (A.ofBytes (U_ l20) (fun i => G_ l20 (0 + i))) y22.1), .os 2496 0 (U_ w55), .os 3328 0 (U_ w86), .os 4480 0 (U_ w125)]), e136, wO ?_, ?_⟩
    ·subst hU hA; refine patch_joinG (by first | (rw [hl135]; simp [len]; done) | (rw [hl135]; simp [len]; omega) | (subst_vars; simp [len])) ?_; exact zr
    cbv; rw [hl133] at hl135; injection h with h; subst h; subst hS; show St.le _ _; refine St.le_trans (le_foldP 4864 1 2496 rfl rfl rfl (by decide) (by subst hU; exact app_lt hl135) (by decide) rfl (fun _ _ => rC _ _)) ?_; refine St.le_trans (le_foldP 4864 2 3328 rfl rfl rfl (by decide) (by subst hU; exact app_lt hl135) (by decide) rfl (fun _ _ => rC _ _)) ?_
    refine St.le_trans (le_foldP 4864 3 4480 rfl rfl rfl (by decide) (by subst hU; exact app_lt hl135) (by decide) rfl (fun _ _ => rC _ _)) ?_; exact lsp rfl zl ⟨rfl, rfl, rfl, oP (fun _ _ => rC _ _) (by subst hG_ hU hA; exact patch_app hl135 (Nat.le_refl _) zr), tv⟩ rfl
   cbv; exact dm
  exact dx
 rintro ⟨w139, w140, w141, w142⟩ h s q17; replace h := oz (oz (oz (oz (oz h)))); dsimp only at h; cbv; refine ⟨_, q17, ?_⟩; cbv; injection h with h; subst h; exact ⟨_, le_ren 4864 64000 (by decide) rfl, lR _, zo, rfl⟩

/-- spec.l13DrawEdit -/
def Fq76 (a0 : Tl01Source) (a1 : TL) : Option (TE × Tl01Source) :=
 (Fq0 a0 9).bind fun y1 =>
 (Fq0 y1.2 (std.ofN (len a1.fC))).bind fun y3 =>
 req (std.inR y3.1 (len a1.fC)) <|
 ((
 br (std.eq (std.add .i64 1 y1.1) 1)
 ((Fq0 y3.2 (std.add .i64 (std.ofN (len (gd a1.fC (std.toN y3.1)).fS)) 1)).bind fun y35 =>
 (Fq64 y35.2).bind fun y37 =>
 some (y37.2.gcode, y37.2.gat, y37.2.gseed, y35.1, y37.1.fy, y37.1.fb.fX0, y37.1.fb.fY0, y37.1.fb.fX1, y37.1.fb.fY1, y3.1, (ByteArray.mk #[]), 0, 0, 0, (ByteArray.mk #[]), 0, 0, 0, 0, 0, 0, 0, 0))
 (((
 br (std.eq (std.add .i64 1 y1.1) 2)
 ((Fq0 y3.2 (std.add .i64 (std.ofN (len (gd a1.fC (std.toN y3.1)).fS)) 1)).bind fun y63 =>
 some (y63.2.gcode, y63.2.gat, y63.2.gseed, y63.1, y3.1, (ByteArray.mk #[]), 0, 0, 0, (ByteArray.mk #[]), 0, 0, 0, 0, 0, 0, 0, 0))
 (((
 br (std.eq (std.add .i64 1 y1.1) 3)
 ((Fq0 y3.2 (std.add .i64 (std.ofN (len (gd a1.fC (std.toN y3.1)).fL)) 1)).bind fun y89 =>
 (Fq50 y89.2).bind fun y91 =>
 some (y91.2.gcode, y91.2.gat, y91.2.gseed, y89.1, y91.1.fy, y91.1.fa.fX, y91.1.fa.fY, y91.1.fN, y3.1, (ByteArray.mk #[]), 0, 0, 0, 0, 0, 0, 0, 0))
 (((
 br (std.eq (std.add .i64 1 y1.1) 4)
 ((Fq0 y3.2 (std.add .i64 (std.ofN (len (gd a1.fC (std.toN y3.1)).fL)) 1)).bind fun y113 =>
 some (y113.2.gcode, y113.2.gat, y113.2.gseed, y113.1, y3.1, (ByteArray.mk #[]), 0, 0, 0, 0, 0, 0, 0, 0))
 (((
 br (std.eq (std.add .i64 1 y1.1) 5)
 ((Fq0 y3.2 (std.add .i64 (std.ofN (len (gd a1.fC (std.toN y3.1)).fI)) 1)).bind fun y135 =>
 (Fq57 y135.2 (std.imax y3.1 1)).bind fun y137 =>
 some (y137.2.gcode, y137.2.gat, y137.2.gseed, y135.1, y137.1.fc, y137.1.fp.fo, y137.1.fp.fX, y137.1.fp.fY, y137.1.fK, y137.1.fR, y137.1.fu, y137.1.fv, y3.1, (ByteArray.mk #[])))
 (((
 br (std.eq (std.add .i64 1 y1.1) 6)
 ((Fq0 y3.2 (std.add .i64 (std.ofN (len (gd a1.fC (std.toN y3.1)).fI)) 1)).bind fun y151 =>
 some (y151.2.gcode, y151.2.gat, y151.2.gseed, y151.1, y3.1, (ByteArray.mk #[])))
 (((
 br (std.eq (std.add .i64 1 y1.1) 7)
 ((Fq15 y3.2).bind fun y164 =>
 some (y164.2.gcode, y164.2.gat, y164.2.gseed, y164.1, y3.1))
 (((
 br (std.eq (std.add .i64 1 y1.1) 8)
 ((Fq0 y3.2 (std.add .i64 (std.ofN (len a1.fC)) 1)).bind fun y177 =>
 (Fq15 y177.2).bind fun y179 =>
 some (y179.2.gcode, y179.2.gat, y179.2.gseed, y177.1, y179.1))
 (some (y3.2.gcode, y3.2.gat, y3.2.gseed, y3.1, (ByteArray.mk #[])))
 ) : Option ((List Int) × Int × Int × Int × ByteArray)).bind fun y166 =>
 letO y166.1 fun w172 =>
 letO y166.2.1 fun w173 =>
 letO y166.2.2.1 fun w174 =>
 letO y166.2.2.2.1 fun w175 =>
 letO y166.2.2.2.2 fun w176 =>
 some (w172, w173, w174, w176, w175))
 ) : Option ((List Int) × Int × Int × ByteArray × Int)).bind fun y153 =>
 letO y153.1 fun w159 =>
 letO y153.2.1 fun w160 =>
 letO y153.2.2.1 fun w161 =>
 letO y153.2.2.2.1 fun w162 =>
 letO y153.2.2.2.2 fun w163 =>
 some (w159, w160, w161, 0, w163, w162))
 ) : Option ((List Int) × Int × Int × Int × Int × ByteArray)).bind fun y139 =>
 letO y139.1 fun w145 =>
 letO y139.2.1 fun w146 =>
 letO y139.2.2.1 fun w147 =>
 letO y139.2.2.2.1 fun w148 =>
 letO y139.2.2.2.2.1 fun w149 =>
 letO y139.2.2.2.2.2 fun w150 =>
 some (w145, w146, w147, w148, 0, 0, 0, 0, 0, 0, 0, 0, w149, w150))
 ) : Option ((List Int) × Int × Int × Int × Int × Int × Int × Int × Int × Int × Int × Int × Int × ByteArray)).bind fun y115 =>
 letO y115.1 fun w121 =>
 letO y115.2.1 fun w122 =>
 letO y115.2.2.1 fun w123 =>
 letO y115.2.2.2.1 fun w124 =>
 letO y115.2.2.2.2.1 fun w125 =>
 letO y115.2.2.2.2.2.1 fun w126 =>
 letO y115.2.2.2.2.2.2.1 fun w127 =>
 letO y115.2.2.2.2.2.2.2.1 fun w128 =>
 letO y115.2.2.2.2.2.2.2.2.1 fun w129 =>
 letO y115.2.2.2.2.2.2.2.2.2.1 fun w130 =>
 letO y115.2.2.2.2.2.2.2.2.2.2.1 fun w131 =>
 letO y115.2.2.2.2.2.2.2.2.2.2.2.1 fun w132 =>
 letO y115.2.2.2.2.2.2.2.2.2.2.2.2.1 fun w133 =>
 letO y115.2.2.2.2.2.2.2.2.2.2.2.2.2 fun w134 =>
 some (w121, w122, w123, w124, w133, w134, w125, w126, w127, w128, w129, w130, w131, w132))
 ) : Option ((List Int) × Int × Int × Int × Int × ByteArray × Int × Int × Int × Int × Int × Int × Int × Int)).bind fun y93 =>
 letO y93.1 fun w99 =>
 letO y93.2.1 fun w100 =>
 letO y93.2.2.1 fun w101 =>
 letO y93.2.2.2.1 fun w102 =>
 letO y93.2.2.2.2.1 fun w103 =>
 letO y93.2.2.2.2.2.1 fun w104 =>
 letO y93.2.2.2.2.2.2.1 fun w105 =>
 letO y93.2.2.2.2.2.2.2.1 fun w106 =>
 letO y93.2.2.2.2.2.2.2.2.1 fun w107 =>
 letO y93.2.2.2.2.2.2.2.2.2.1 fun w108 =>
 letO y93.2.2.2.2.2.2.2.2.2.2.1 fun w109 =>
 letO y93.2.2.2.2.2.2.2.2.2.2.2.1 fun w110 =>
 letO y93.2.2.2.2.2.2.2.2.2.2.2.2.1 fun w111 =>
 letO y93.2.2.2.2.2.2.2.2.2.2.2.2.2 fun w112 =>
 some (w99, w100, w101, w102, 0, 0, 0, (ByteArray.mk #[]), w103, w104, w105, w106, w107, w108, w109, w110, w111, w112))
 ) : Option ((List Int) × Int × Int × Int × Int × Int × Int × ByteArray × Int × ByteArray × Int × Int × Int × Int × Int × Int × Int × Int)).bind fun y65 =>
 letO y65.1 fun w71 =>
 letO y65.2.1 fun w72 =>
 letO y65.2.2.1 fun w73 =>
 letO y65.2.2.2.1 fun w74 =>
 letO y65.2.2.2.2.1 fun w75 =>
 letO y65.2.2.2.2.2.1 fun w76 =>
 letO y65.2.2.2.2.2.2.1 fun w77 =>
 letO y65.2.2.2.2.2.2.2.1 fun w78 =>
 letO y65.2.2.2.2.2.2.2.2.1 fun w79 =>
 letO y65.2.2.2.2.2.2.2.2.2.1 fun w80 =>
 letO y65.2.2.2.2.2.2.2.2.2.2.1 fun w81 =>
 letO y65.2.2.2.2.2.2.2.2.2.2.2.1 fun w82 =>
 letO y65.2.2.2.2.2.2.2.2.2.2.2.2.1 fun w83 =>
 letO y65.2.2.2.2.2.2.2.2.2.2.2.2.2.1 fun w84 =>
 letO y65.2.2.2.2.2.2.2.2.2.2.2.2.2.2.1 fun w85 =>
 letO y65.2.2.2.2.2.2.2.2.2.2.2.2.2.2.2.1 fun w86 =>
 letO y65.2.2.2.2.2.2.2.2.2.2.2.2.2.2.2.2.1 fun w87 =>
 letO y65.2.2.2.2.2.2.2.2.2.2.2.2.2.2.2.2.2 fun w88 =>
 some (w71, w72, w73, w74, w79, w80, w75, w76, w77, w78, w81, w82, w83, w84, w85, w86, w87, w88))
 ) : Option ((List Int) × Int × Int × Int × Int × ByteArray × Int × Int × Int × ByteArray × Int × Int × Int × Int × Int × Int × Int × Int)).bind fun y39 =>
 letO y39.1 fun w45 =>
 letO y39.2.1 fun w46 =>
 letO y39.2.2.1 fun w47 =>
 letO y39.2.2.2.1 fun w48 =>
 letO y39.2.2.2.2.1 fun w49 =>
 letO y39.2.2.2.2.2.1 fun w50 =>
 letO y39.2.2.2.2.2.2.1 fun w51 =>
 letO y39.2.2.2.2.2.2.2.1 fun w52 =>
 letO y39.2.2.2.2.2.2.2.2.1 fun w53 =>
 letO y39.2.2.2.2.2.2.2.2.2.1 fun w54 =>
 letO y39.2.2.2.2.2.2.2.2.2.2.1 fun w55 =>
 letO y39.2.2.2.2.2.2.2.2.2.2.2.1 fun w56 =>
 letO y39.2.2.2.2.2.2.2.2.2.2.2.2.1 fun w57 =>
 letO y39.2.2.2.2.2.2.2.2.2.2.2.2.2.1 fun w58 =>
 letO y39.2.2.2.2.2.2.2.2.2.2.2.2.2.2.1 fun w59 =>
 letO y39.2.2.2.2.2.2.2.2.2.2.2.2.2.2.2.1 fun w60 =>
 letO y39.2.2.2.2.2.2.2.2.2.2.2.2.2.2.2.2.1 fun w61 =>
 letO y39.2.2.2.2.2.2.2.2.2.2.2.2.2.2.2.2.2 fun w62 =>
 some (w45, w46, w47, w48, 0, 0, 0, 0, 0, w49, w50, w51, w52, w53, w54, w55, w56, w57, w58, w59, w60, w61, w62))
 ) : Option ((List Int) × Int × Int × Int × Int × Int × Int × Int × Int × Int × ByteArray × Int × Int × Int × ByteArray × Int × Int × Int × Int × Int × Int × Int × Int)).bind fun y6 =>
 letO y6.1 fun w12 =>
 letO y6.2.1 fun w13 =>
 letO y6.2.2.1 fun w14 =>
 letO y6.2.2.2.1 fun w15 =>
 letO y6.2.2.2.2.1 fun w16 =>
 letO y6.2.2.2.2.2.1 fun w17 =>
 letO y6.2.2.2.2.2.2.1 fun w18 =>
 letO y6.2.2.2.2.2.2.2.1 fun w19 =>
 letO y6.2.2.2.2.2.2.2.2.1 fun w20 =>
 letO y6.2.2.2.2.2.2.2.2.2.1 fun w21 =>
 letO y6.2.2.2.2.2.2.2.2.2.2.1 fun w22 =>
 letO y6.2.2.2.2.2.2.2.2.2.2.2.1 fun w23 =>
 letO y6.2.2.2.2.2.2.2.2.2.2.2.2.1 fun w24 =>
 letO y6.2.2.2.2.2.2.2.2.2.2.2.2.2.1 fun w25 =>
 letO y6.2.2.2.2.2.2.2.2.2.2.2.2.2.2.1 fun w26 =>
 letO y6.2.2.2.2.2.2.2.2.2.2.2.2.2.2.2.1 fun w27 =>
 letO y6.2.2.2.2.2.2.2.2.2.2.2.2.2.2.2.2.1 fun w28 =>
 letO y6.2.2.2.2.2.2.2.2.2.2.2.2.2.2.2.2.2.1 fun w29 =>
 letO y6.2.2.2.2.2.2.2.2.2.2.2.2.2.2.2.2.2.2.1 fun w30 =>
 letO y6.2.2.2.2.2.2.2.2.2.2.2.2.2.2.2.2.2.2.2.1 fun w31 =>
 letO y6.2.2.2.2.2.2.2.2.2.2.2.2.2.2.2.2.2.2.2.2.1 fun w32 =>
 letO y6.2.2.2.2.2.2.2.2.2.2.2.2.2.2.2.2.2.2.2.2.2.1 fun w33 =>
 letO y6.2.2.2.2.2.2.2.2.2.2.2.2.2.2.2.2.2.2.2.2.2.2 fun w34 =>
 (Fq0 (Tl01Source.mk w12 w13 w14) 40).bind fun y189 =>
 ((
 br (std.eq y189.1 0)
 (some (std.add .i64 w15 1, std.add .i64 1 y1.1, w21, w22, y189.2.gcode, y189.2.gat, y189.2.gseed))
 (((
 br (std.eq y189.1 1)
 (some (std.add .i64 w21 1, std.add .i64 1 y1.1, w22, y189.2.gcode, y189.2.gat, y189.2.gseed))
 (((
 br (std.eq y189.1 2)
 (some ((ByteArray.mk #[120]), std.add .i64 1 y1.1, y189.2.gcode, y189.2.gat, y189.2.gseed))
 (((
 br (std.eq y189.1 3)
 ((Fq0 y189.2 12).bind fun y237 =>
 some (std.sub .i64 y237.1 1, y237.2.gcode, y237.2.gat, y237.2.gseed))
 (some (std.add .i64 1 y1.1, y189.2.gcode, y189.2.gat, y189.2.gseed))
 ) : Option (Int × (List Int) × Int × Int)).bind fun y227 =>
 letO y227.1 fun w233 =>
 letO y227.2.1 fun w234 =>
 letO y227.2.2.1 fun w235 =>
 letO y227.2.2.2 fun w236 =>
 some (w22, w233, w234, w235, w236))
 ) : Option (ByteArray × Int × (List Int) × Int × Int)).bind fun y216 =>
 letO y216.1 fun w222 =>
 letO y216.2.1 fun w223 =>
 letO y216.2.2.1 fun w224 =>
 letO y216.2.2.2.1 fun w225 =>
 letO y216.2.2.2.2 fun w226 =>
 some (w21, w223, w222, w224, w225, w226))
 ) : Option (Int × Int × ByteArray × (List Int) × Int × Int)).bind fun y204 =>
 letO y204.1 fun w210 =>
 letO y204.2.1 fun w211 =>
 letO y204.2.2.1 fun w212 =>
 letO y204.2.2.2.1 fun w213 =>
 letO y204.2.2.2.2.1 fun w214 =>
 letO y204.2.2.2.2.2 fun w215 =>
 some (w15, w211, w210, w212, w213, w214, w215))
 ) : Option (Int × Int × Int × ByteArray × (List Int) × Int × Int)).bind fun y191 =>
 letO y191.1 fun w197 =>
 letO y191.2.1 fun w198 =>
 letO y191.2.2.1 fun w199 =>
 letO y191.2.2.2.1 fun w200 =>
 letO y191.2.2.2.2.1 fun w201 =>
 letO y191.2.2.2.2.2.1 fun w202 =>
 letO y191.2.2.2.2.2.2 fun w203 =>
 some ((TE.mk w198 w199 w197 w200 (TS.mk w16 (TRect.mk w17 w18 w19 w20)) (TB.mk w23 (TPoint.mk w24 w25) w26) (TI.mk w27 (TM.mk w28 w29 w30) w31 w32 w33 w34)), (Tl01Source.mk w201 w202 w203))
theorem runq76 (a0 : Tl01Source) (a1 : TL) (r : TE × Tl01Source) (h : Fq76 a0 a1 = some r) : Fun prog 52 [.c (.ptr 5 0), .agg [.bs (len a1.fC) 4 (row gd (eC len gd) a1.fC)]] [(5, .var [.bs (len a0.gcode) 1 (row gd (encI .u8) a0.gcode), wi a0.gat, wi a0.gseed])] (.agg [wi r.1.fk_, wi r.1.fc, wi r.1.fx, ws r.1.fN, wi r.1.fs_.fy, wi r.1.fs_.fb.fX0, wi r.1.fs_.fb.fY0, wi r.1.fs_.fb.fX1, wi r.1.fs_.fb.fY1, wi r.1.fl_.fy, wi r.1.fl_.fa.fX, wi r.1.fl_.fa.fY, ws r.1.fl_.fN, wi r.1.fi_.fc, wi r.1.fi_.fp.fo, wi r.1.fi_.fp.fX, wi r.1.fi_.fp.fY, wi r.1.fi_.fK, wi r.1.fi_.fR, wi r.1.fi_.fu, wi r.1.fi_.fv]) [(5, .var [.bs (len r.2.gcode) 1 (row gd (encI .u8) r.2.gcode), wi r.2.gat, wi r.2.gseed])] false := by
 refine ow [100026, 100038, 100047, 100059, 100068, 100083, 100092, 100097, 100109, 100115, 100121, 100124] func52 ntmps52 ?_ (hv := (fun h => by cases h)); unfold Fq76 at h; have hfq0 := @runq0; have hfq57 := @runq57; have hfq50 := @runq50
 have hfq15 := @runq15; have hfq64 := @runq64; generalize hU : @len = U_, hG_ : @gd = G_, hA : std = A, hP : prog = P at *; cbv; revert h; refine rk [(5, 5)] [(5, 5)] (hfq0 _ _) (fun _ => yf) fun y1 h => ?_; cbv
 revert h; refine rk [(5, 5)] [(5, 5)] (hfq0 _ _) (fun _ => yf) fun y3 h => ?_; cbv; revert h; refine ra fun c5 h => ?_
 revert h; refine cu (fun y6 => some (sp 131 [(0, .c (.ptr 5 0)), (4, .c (.ptr 256 0)), (6, .c (.ptr 384 0))] [(5, .var [.bs (U_ y6.1) 1 (row G_ (encI .u8) y6.1), wi y6.2.1, wi y6.2.2.1]), (256, .var [wi 0, wi 0, wi 0, ws (ByteArray.mk #[]), wi 0, wi 0, wi 0, wi 0, wi 0, wi 0, wi 0, wi 0, ws (ByteArray.mk #[]), wi 0, wi 0, wi 0, wi 0, wi 0, wi 0, wi 0, wi 0]), (384, .var [wi (A.add .i64 1 y1.1), wi y6.2.2.2.2.2.2.2.2.2.1, wi y6.2.2.2.1, ws y6.2.2.2.2.2.2.2.2.2.2.1, wi y6.2.2.2.2.1, wi y6.2.2.2.2.2.1, wi y6.2.2.2.2.2.2.1, wi y6.2.2.2.2.2.2.2.1, wi y6.2.2.2.2.2.2.2.2.1, wi y6.2.2.2.2.2.2.2.2.2.2.2.1, wi y6.2.2.2.2.2.2.2.2.2.2.2.2.1, wi y6.2.2.2.2.2.2.2.2.2.2.2.2.2.1, ws y6.2.2.2.2.2.2.2.2.2.2.2.2.2.2.1, wi y6.2.2.2.2.2.2.2.2.2.2.2.2.2.2.2.1, wi y6.2.2.2.2.2.2.2.2.2.2.2.2.2.2.2.2.1, wi y6.2.2.2.2.2.2.2.2.2.2.2.2.2.2.2.2.2.1, wi y6.2.2.2.2.2.2.2.2.2.2.2.2.2.2.2.2.2.2.1, wi y6.2.2.2.2.2.2.2.2.2.2.2.2.2.2.2.2.2.2.2.1, wi y6.2.2.2.2.2.2.2.2.2.2.2.2.2.2.2.2.2.2.2.2.1, wi y6.2.2.2.2.2.2.2.2.2.2.2.2.2.2.2.2.2.2.2.2.2.1, wi y6.2.2.2.2.2.2.2.2.2.2.2.2.2.2.2.2.2.2.2.2.2.2])])) ?_ ?_
 ·intro y6 S hS h; cbv; revert h; refine fk ?_ ?_ <;> intro h <;> cbv
  ·revert h; refine rk [(5, 5)] [(5, 5)] (hfq0 _ _) (fun _ => yf) fun y35 h => ?_; cbv; revert h; refine rk [(5, 5)] [(5, 5)] (hfq64 _) (fun _ => yf) fun y37 h => ?_; cbv; exact dn
  revert h; refine cu (fun y39 => some (sp 131 [(0, .c (.ptr 5 0)), (4, .c (.ptr 256 0)), (6, .c (.ptr 384 0))] [(5, .var [.bs (U_ y39.1) 1 (row G_ (encI .u8) y39.1), wi y39.2.1, wi y39.2.2.1]), (256, .var [wi 0, wi 0, wi 0, ws (ByteArray.mk #[]), wi 0, wi 0, wi 0, wi 0, wi 0, wi 0, wi 0, wi 0, ws (ByteArray.mk #[]), wi 0, wi 0, wi 0, wi 0, wi 0, wi 0, wi 0, wi 0]), (384, .var [wi (A.add .i64 1 y1.1), wi y39.2.2.2.2.1, wi y39.2.2.2.1, ws y39.2.2.2.2.2.1, wi 0, wi 0, wi 0, wi 0, wi 0, wi y39.2.2.2.2.2.2.1, wi y39.2.2.2.2.2.2.2.1, wi y39.2.2.2.2.2.2.2.2.1, ws y39.2.2.2.2.2.2.2.2.2.1, wi y39.2.2.2.2.2.2.2.2.2.2.1, wi y39.2.2.2.2.2.2.2.2.2.2.2.1, wi y39.2.2.2.2.2.2.2.2.2.2.2.2.1, wi y39.2.2.2.2.2.2.2.2.2.2.2.2.2.1, wi y39.2.2.2.2.2.2.2.2.2.2.2.2.2.2.1, wi y39.2.2.2.2.2.2.2.2.2.2.2.2.2.2.2.1, wi y39.2.2.2.2.2.2.2.2.2.2.2.2.2.2.2.2.1, wi y39.2.2.2.2.2.2.2.2.2.2.2.2.2.2.2.2.2])])) ?_ ?_
  ·intro y39 S hS h; cbv; revert h; refine fk ?_ ?_ <;> intro h <;> cbv
   ·revert h; refine rk [(5, 5)] [(5, 5)] (hfq0 _ _) (fun _ => yf) fun y63 h => ?_; cbv; exact dn
   revert h; refine cu (fun y65 => some (sp 131 [(0, .c (.ptr 5 0)), (4, .c (.ptr 256 0)), (6, .c (.ptr 384 0))] [(5, .var [.bs (U_ y65.1) 1 (row G_ (encI .u8) y65.1), wi y65.2.1, wi y65.2.2.1]), (256, .var [wi 0, wi 0, wi 0, ws (ByteArray.mk #[]), wi 0, wi 0, wi 0, wi 0, wi 0, wi 0, wi 0, wi 0, ws (ByteArray.mk #[]), wi 0, wi 0, wi 0, wi 0, wi 0, wi 0, wi 0, wi 0]), (384, .var [wi (A.add .i64 1 y1.1), wi y65.2.2.2.2.2.2.2.2.1, wi y65.2.2.2.1, ws y65.2.2.2.2.2.2.2.2.2.1, wi 0, wi 0, wi 0, wi 0, wi 0, wi y65.2.2.2.2.1, wi y65.2.2.2.2.2.1, wi y65.2.2.2.2.2.2.1, ws y65.2.2.2.2.2.2.2.1, wi y65.2.2.2.2.2.2.2.2.2.2.1, wi y65.2.2.2.2.2.2.2.2.2.2.2.1, wi y65.2.2.2.2.2.2.2.2.2.2.2.2.1, wi y65.2.2.2.2.2.2.2.2.2.2.2.2.2.1, wi y65.2.2.2.2.2.2.2.2.2.2.2.2.2.2.1, wi y65.2.2.2.2.2.2.2.2.2.2.2.2.2.2.2.1, wi y65.2.2.2.2.2.2.2.2.2.2.2.2.2.2.2.2.1, wi y65.2.2.2.2.2.2.2.2.2.2.2.2.2.2.2.2.2])])) ?_ ?_
   ·intro y65 S hS h; cbv; revert h; refine fk ?_ ?_ <;> intro h <;> cbv
    ·revert h; refine rk [(5, 5)] [(5, 5)] (hfq0 _ _) (fun _ => yf) fun y89 h => ?_; cbv; revert h; refine rk [(5, 5)] [(5, 5)] (hfq50 _) (fun _ => yf) fun y91 h => ?_; cbv; exact dn
    revert h; refine cu (fun y93 => some (sp 131 [(0, .c (.ptr 5 0)), (4, .c (.ptr 256 0)), (6, .c (.ptr 384 0))] [(5, .var [.bs (U_ y93.1) 1 (row G_ (encI .u8) y93.1), wi y93.2.1, wi y93.2.2.1]), (256, .var [wi 0, wi 0, wi 0, ws (ByteArray.mk #[]), wi 0, wi 0, wi 0, wi 0, wi 0, wi 0, wi 0, wi 0, ws (ByteArray.mk #[]), wi 0, wi 0, wi 0, wi 0, wi 0, wi 0, wi 0, wi 0]), (384, .var [wi (A.add .i64 1 y1.1), wi y93.2.2.2.2.1, wi y93.2.2.2.1, ws y93.2.2.2.2.2.1, wi 0, wi 0, wi 0, wi 0, wi 0, wi 0, wi 0, wi 0, ws (ByteArray.mk #[]), wi y93.2.2.2.2.2.2.1, wi y93.2.2.2.2.2.2.2.1, wi y93.2.2.2.2.2.2.2.2.1, wi y93.2.2.2.2.2.2.2.2.2.1, wi y93.2.2.2.2.2.2.2.2.2.2.1, wi y93.2.2.2.2.2.2.2.2.2.2.2.1, wi y93.2.2.2.2.2.2.2.2.2.2.2.2.1, wi y93.2.2.2.2.2.2.2.2.2.2.2.2.2])])) ?_ ?_
    ·intro y93 S hS h; cbv; revert h; refine fk ?_ ?_ <;> intro h <;> cbv
     ·revert h; refine rk [(5, 5)] [(5, 5)] (hfq0 _ _) (fun _ => yf) fun y113 h => ?_; cbv; exact dn
     revert h; refine cu (fun y115 => some (sp 131 [(0, .c (.ptr 5 0)), (4, .c (.ptr 256 0)), (6, .c (.ptr 384 0))] [(5, .var [.bs (U_ y115.1) 1 (row G_ (encI .u8) y115.1), wi y115.2.1, wi y115.2.2.1]), (256, .var [wi 0, wi 0, wi 0, ws (ByteArray.mk #[]), wi 0, wi 0, wi 0, wi 0, wi 0, wi 0, wi 0, wi 0, ws (ByteArray.mk #[]), wi 0, wi 0, wi 0, wi 0, wi 0, wi 0, wi 0, wi 0]), (384, .var [wi (A.add .i64 1 y1.1), wi y115.2.2.2.2.2.2.2.2.2.2.2.2.1, wi y115.2.2.2.1, ws y115.2.2.2.2.2.2.2.2.2.2.2.2.2, wi 0, wi 0, wi 0, wi 0, wi 0, wi 0, wi 0, wi 0, ws (ByteArray.mk #[]), wi y115.2.2.2.2.1, wi y115.2.2.2.2.2.1, wi y115.2.2.2.2.2.2.1, wi y115.2.2.2.2.2.2.2.1, wi y115.2.2.2.2.2.2.2.2.1, wi y115.2.2.2.2.2.2.2.2.2.1, wi y115.2.2.2.2.2.2.2.2.2.2.1, wi y115.2.2.2.2.2.2.2.2.2.2.2.1])])) ?_ ?_
     ·intro y115 S hS h; cbv; revert h; refine fk ?_ ?_ <;> intro h <;> cbv
      ·revert h; refine rk [(5, 5)] [(5, 5)] (hfq0 _ _) (fun _ => yf) fun y135 h => ?_; cbv; revert h; refine rk [(5, 5)] [(5, 5)] (hfq57 _ _) (fun _ => yf) fun y137 h => ?_; cbv; exact dn
      revert h; refine cu (fun y139 => some (sp 131 [(0, .c (.ptr 5 0)), (4, .c (.ptr 256 0)), (6, .c (.ptr 384 0))] [(5, .var [.bs (U_ y139.1) 1 (row G_ (encI .u8) y139.1), wi y139.2.1, wi y139.2.2.1]), (256, .var [wi 0, wi 0, wi 0, ws (ByteArray.mk #[]), wi 0, wi 0, wi 0, wi 0, wi 0, wi 0, wi 0, wi 0, ws (ByteArray.mk #[]), wi 0, wi 0, wi 0, wi 0, wi 0, wi 0, wi 0, wi 0]), (384, .var [wi (A.add .i64 1 y1.1), wi y139.2.2.2.2.1, wi y139.2.2.2.1, ws y139.2.2.2.2.2, wi 0, wi 0, wi 0, wi 0, wi 0, wi 0, wi 0, wi 0, ws (ByteArray.mk #[]), wi 0, wi 0, wi 0, wi 0, wi 0, wi 0, wi 0, wi 0])])) ?_ ?_
      ·intro y139 S hS h; cbv; revert h; refine fk ?_ ?_ <;> intro h <;> cbv
       ·revert h; refine rk [(5, 5)] [(5, 5)] (hfq0 _ _) (fun _ => yf) fun y151 h => ?_; cbv; exact dn
       revert h; refine cu (fun y153 => some (sp 131 [(0, .c (.ptr 5 0)), (4, .c (.ptr 256 0)), (6, .c (.ptr 384 0))] [(5, .var [.bs (U_ y153.1) 1 (row G_ (encI .u8) y153.1), wi y153.2.1, wi y153.2.2.1]), (256, .var [wi 0, wi 0, wi 0, ws (ByteArray.mk #[]), wi 0, wi 0, wi 0, wi 0, wi 0, wi 0, wi 0, wi 0, ws (ByteArray.mk #[]), wi 0, wi 0, wi 0, wi 0, wi 0, wi 0, wi 0, wi 0]), (384, .var [wi (A.add .i64 1 y1.1), wi y153.2.2.2.2, wi 0, ws y153.2.2.2.1, wi 0, wi 0, wi 0, wi 0, wi 0, wi 0, wi 0, wi 0, ws (ByteArray.mk #[]), wi 0, wi 0, wi 0, wi 0, wi 0, wi 0, wi 0, wi 0])])) ?_ ?_
       ·intro y153 S hS h; cbv; revert h; refine fk ?_ ?_ <;> intro h <;> cbv
        ·revert h; refine rk [(5, 5)] [(5, 5)] (hfq15 _) (fun _ => yf) fun y164 h => ?_; cbv; exact dn
        revert h; refine cu (fun y166 => some (sp 131 [(0, .c (.ptr 5 0)), (4, .c (.ptr 256 0)), (6, .c (.ptr 384 0))] [(5, .var [.bs (U_ y166.1) 1 (row G_ (encI .u8) y166.1), wi y166.2.1, wi y166.2.2.1]), (256, .var [wi 0, wi 0, wi 0, ws (ByteArray.mk #[]), wi 0, wi 0, wi 0, wi 0, wi 0, wi 0, wi 0, wi 0, ws (ByteArray.mk #[]), wi 0, wi 0, wi 0, wi 0, wi 0, wi 0, wi 0, wi 0]), (384, .var [wi (A.add .i64 1 y1.1), wi y166.2.2.2.1, wi 0, ws y166.2.2.2.2, wi 0, wi 0, wi 0, wi 0, wi 0, wi 0, wi 0, wi 0, ws (ByteArray.mk #[]), wi 0, wi 0, wi 0, wi 0, wi 0, wi 0, wi 0, wi 0])])) ?_ ?_
        ·intro y166 S hS h; cbv; revert h; refine fk ?_ ?_ <;> intro h <;> cbv
         ·revert h; refine rk [(5, 5)] [(5, 5)] (hfq0 _ _) (fun _ => yf) fun y177 h => ?_; cbv; revert h; refine rk [(5, 5)] [(5, 5)] (hfq15 _) (fun _ => yf) fun y179 h => ?_; cbv; exact dn
         exact dn
        rintro ⟨w172, w173, w174, w175, w176⟩ h; replace h := oz (oz (oz (oz (oz h)))); dsimp only at h; cbv; exact dn
       rintro ⟨w159, w160, w161, w162, w163⟩ h; replace h := oz (oz (oz (oz (oz h)))); dsimp only at h; cbv; exact dn
      rintro ⟨w145, w146, w147, w148, w149, w150⟩ h; replace h := oz (oz (oz (oz (oz (oz h))))); dsimp only at h; cbv; exact dn
     rintro ⟨w121, w122, w123, w124, w125, w126, w127, w128, w129, w130, w131, w132, w133, w134⟩ h; replace h := oz (oz (oz (oz (oz (oz (oz (oz (oz (oz (oz (oz (oz (oz h))))))))))))); dsimp only at h; cbv; exact dn
    rintro ⟨w99, w100, w101, w102, w103, w104, w105, w106, w107, w108, w109, w110, w111, w112⟩ h; replace h := oz (oz (oz (oz (oz (oz (oz (oz (oz (oz (oz (oz (oz (oz h))))))))))))); dsimp only at h; cbv; exact dn
   rintro ⟨w71, w72, w73, w74, w75, w76, w77, w78, w79, w80, w81, w82, w83, w84, w85, w86, w87, w88⟩ h; replace h := oz (oz (oz (oz (oz (oz (oz (oz (oz (oz (oz (oz (oz (oz (oz (oz (oz (oz h))))))))))))))))); dsimp only at h; cbv; exact dn
  rintro ⟨w45, w46, w47, w48, w49, w50, w51, w52, w53, w54, w55, w56, w57, w58, w59, w60, w61, w62⟩ h; replace h := oz (oz (oz (oz (oz (oz (oz (oz (oz (oz (oz (oz (oz (oz (oz (oz (oz (oz h))))))))))))))))); dsimp only at h; cbv; exact dn
 rintro ⟨w12, w13, w14, w15, w16, w17, w18, w19, w20, w21, w22, w23, w24, w25, w26, w27, w28, w29, w30, w31, w32, w33, w34⟩ h; replace h := oz (oz (oz (oz (oz (oz (oz (oz (oz (oz (oz (oz (oz (oz (oz (oz (oz (oz (oz (oz (oz (oz (oz h)))))))))))))))))))))); dsimp only at h; cbv; revert h; refine rk [(5, 5)] [(5, 5)] (hfq0 _ _) (fun _ => yf) fun y189 h => ?_; cbv
 revert h; refine cu (fun y191 => some (sp 131 [(4, .c (.ptr 256 0)), (6, .c (.ptr 384 0))] [(256, .var [wi 0, wi 0, wi 0, ws (ByteArray.mk #[]), wi 0, wi 0, wi 0, wi 0, wi 0, wi 0, wi 0, wi 0, ws (ByteArray.mk #[]), wi 0, wi 0, wi 0, wi 0, wi 0, wi 0, wi 0, wi 0]), (384, .var [wi y191.2.1, wi y191.2.2.1, wi y191.1, ws y191.2.2.2.1, wi w16, wi w17, wi w18, wi w19, wi w20, wi w23, wi w24, wi w25, ws w26, wi w27, wi w28, wi w29, wi w30, wi w31, wi w32, wi w33, wi w34]), (5, .var [.bs (U_ y191.2.2.2.2.1) 1 (row G_ (encI .u8) y191.2.2.2.2.1), wi y191.2.2.2.2.2.1, wi y191.2.2.2.2.2.2])])) ?_ ?_
 ·intro y191 S hS h; cbv; revert h; refine fk ?_ ?_ <;> intro h <;> cbv
  ·exact dn
  revert h; refine cu (fun y204 => some (sp 131 [(4, .c (.ptr 256 0)), (6, .c (.ptr 384 0))] [(256, .var [wi 0, wi 0, wi 0, ws (ByteArray.mk #[]), wi 0, wi 0, wi 0, wi 0, wi 0, wi 0, wi 0, wi 0, ws (ByteArray.mk #[]), wi 0, wi 0, wi 0, wi 0, wi 0, wi 0, wi 0, wi 0]), (384, .var [wi y204.2.1, wi y204.1, wi w15, ws y204.2.2.1, wi w16, wi w17, wi w18, wi w19, wi w20, wi w23, wi w24, wi w25, ws w26, wi w27, wi w28, wi w29, wi w30, wi w31, wi w32, wi w33, wi w34]), (5, .var [.bs (U_ y204.2.2.2.1) 1 (row G_ (encI .u8) y204.2.2.2.1), wi y204.2.2.2.2.1, wi y204.2.2.2.2.2])])) ?_ ?_
  ·intro y204 S hS h; cbv; revert h; refine fk ?_ ?_ <;> intro h <;> cbv
   ·exact dn
   revert h; refine cu (fun y216 => some (sp 131 [(4, .c (.ptr 256 0)), (6, .c (.ptr 384 0))] [(256, .var [wi 0, wi 0, wi 0, ws (ByteArray.mk #[]), wi 0, wi 0, wi 0, wi 0, wi 0, wi 0, wi 0, wi 0, ws (ByteArray.mk #[]), wi 0, wi 0, wi 0, wi 0, wi 0, wi 0, wi 0, wi 0]), (384, .var [wi y216.2.1, wi w21, wi w15, ws y216.1, wi w16, wi w17, wi w18, wi w19, wi w20, wi w23, wi w24, wi w25, ws w26, wi w27, wi w28, wi w29, wi w30, wi w31, wi w32, wi w33, wi w34]), (5, .var [.bs (U_ y216.2.2.1) 1 (row G_ (encI .u8) y216.2.2.1), wi y216.2.2.2.1, wi y216.2.2.2.2])])) ?_ ?_
   ·intro y216 S hS h; cbv; revert h; refine fk ?_ ?_ <;> intro h <;> cbv
    ·exact dn
    revert h; refine cu (fun y227 => some (sp 131 [(4, .c (.ptr 256 0)), (6, .c (.ptr 384 0))] [(256, .var [wi 0, wi 0, wi 0, ws (ByteArray.mk #[]), wi 0, wi 0, wi 0, wi 0, wi 0, wi 0, wi 0, wi 0, ws (ByteArray.mk #[]), wi 0, wi 0, wi 0, wi 0, wi 0, wi 0, wi 0, wi 0]), (384, .var [wi y227.1, wi w21, wi w15, ws w22, wi w16, wi w17, wi w18, wi w19, wi w20, wi w23, wi w24, wi w25, ws w26, wi w27, wi w28, wi w29, wi w30, wi w31, wi w32, wi w33, wi w34]), (5, .var [.bs (U_ y227.2.1) 1 (row G_ (encI .u8) y227.2.1), wi y227.2.2.1, wi y227.2.2.2])])) ?_ ?_
    ·intro y227 S hS h; cbv; revert h; refine fk ?_ ?_ <;> intro h <;> cbv
     ·revert h; refine rk [(5, 5)] [(5, 5)] (hfq0 _ _) (fun _ => yf) fun y237 h => ?_; cbv; exact dn
     exact dn
    rintro ⟨w233, w234, w235, w236⟩ h; replace h := oz (oz (oz (oz h))); dsimp only at h; cbv; exact dn
   rintro ⟨w222, w223, w224, w225, w226⟩ h; replace h := oz (oz (oz (oz (oz h)))); dsimp only at h; cbv; exact dn
  rintro ⟨w210, w211, w212, w213, w214, w215⟩ h; replace h := oz (oz (oz (oz (oz (oz h))))); dsimp only at h; cbv; exact dn
 rintro ⟨w197, w198, w199, w200, w201, w202, w203⟩ h; replace h := oz (oz (oz (oz (oz (oz (oz h)))))); dsimp only at h; cbv; exact df

def Lq19_x2 (a0 : ByteArray) : (Int) -> Option ((Int) ⊕ ((Unit) ⊕ (Unit))) := fun x2 =>
 letO x2 fun v1 =>
 br (std.lt v1 (std.ofN (std.slen a0)))
 (((
 req (std.inR v1 (std.slen a0)) <|
 br (std.le 97 (std.sat a0 (std.toN v1)))
 (req (std.inR v1 (std.slen a0)) <|
 br (std.le (std.sat a0 (std.toN v1)) 122)
 (some false)
 (req (std.inR v1 (std.slen a0)) <|
 br (std.le 48 (std.sat a0 (std.toN v1)))
 (req (std.inR v1 (std.slen a0)) <|
 some (!(std.le (std.sat a0 (std.toN v1)) 57)))
 (some true)))
 (req (std.inR v1 (std.slen a0)) <|
 br (std.le 48 (std.sat a0 (std.toN v1)))
 (req (std.inR v1 (std.slen a0)) <|
 some (!(std.le (std.sat a0 (std.toN v1)) 57)))
 (some true))
 ) : Option (Bool)).bind fun y14 =>
 letO y14 fun w20 =>
 br w20
 (some (.inr (.inl ())))
 (some (.inl (std.add .i64 v1 1))))
 (some (.inr (.inr ())))
/-- spec.IsName -/
def Fq19 (a0 : ByteArray) : Option (Bool) :=
  (whileP (σ := Int) (ρ := (Unit) ⊕ (Unit)) (Lq19_x2 a0) 0).bind fun y3 =>
  (match y3 with
 | .inl y3k0 => (
  some false)
 | .inr y3m0 =>
  ((
  br (std.le 1 (std.ofN (std.slen a0)))
  (some (std.le (std.ofN (std.slen a0)) 8))
  (some false)
  ) : Option (Bool)).bind fun y33 =>
  letO y33 fun w39 =>
  some w39)
theorem runq19 (a0 : ByteArray) (r : Bool) (h : Fq19 a0 = some r) : Fun prog 58 [.c (ws a0)] [] (.c (.v (.bool r))) [] true := by
 refine ow [4, 6] func58 ntmps58 ?_; unfold Fq19 at h; unfold Lq19_x2 at h; generalize hU : @len = U_, hG_ : @gd = G_, hA : std = A, hP : prog = P at *; cbv
 revert h; refine lc (fun x => (sp 41 [(0, .c (ws a0)), (3, .c (wi x))] [])) (fun y e s => (match y with | .inl w => e = .ret /\ s.le (sp 41 [(2, .c (.v (.bool false)))] []) | .inr w0 => (fun (w : Unit) => e = .exit 0 /\ s.le (sp 41 [(0, .c (ws a0))] [])) w0)) zb ?_ ?_
 ·intro v1 z h K hK hY; replace h := oz h; cbv; revert h; refine fk ?_ ?_ <;> intro h <;> cbv
  ·revert h; refine cu (fun y14 => (sp 41 [(0, .c (ws a0)), (3, .c (wi v1)), (32, .c (.v (.bool y14)))] [])) (fun y14 S hS h => rg) fun w20 => rz fun h => ?_; cbv; revert h; refine fk ?_ ?_ <;> intro h <;> cbv
   ·exact dy
   exact dm
  exact dy
 intro y3 h e12 s13 q11 hne; rcases y3 with y3k0 | y3m0
 ·replace h := h; obtain ⟨rfl, q11⟩ := q11; cbv; injection h with h; subst h; exact ⟨_, q11, lR _, zo, rfl⟩
 ·obtain ⟨rfl, q11⟩ := q11; cbv; refine ⟨_, q11, ?_⟩; cbv; revert h; refine cu (fun y33 => (sp 41 [(2, .c (.v (.bool y33)))] [])) (fun y33 S hS h => rg) fun w39 => rz fun h => ?_; cbv; exact df

/-- spec.l09In -/
def Fq1 (a0 : Int) (a1 : Int) (a2 : Int) : Option (Bool) :=
 ((
 br (std.le a1 a0)
 (some (std.le a0 a2))
 (some false)
 ) : Option (Bool)).bind fun y1 =>
 letO y1 fun w7 =>
 some w7
theorem runq1 (a0 : Int) (a1 : Int) (a2 : Int) (r : Bool) (h : Fq1 a0 a1 a2 = some r) : Fun prog 102 [.c (wi a0), .c (wi a1), .c (wi a2)] [] (.c (.v (.bool r))) [] true := by
 refine ow [1] func102 ntmps102 ?_; unfold Fq1 at h; generalize hU : @len = U_, hG_ : @gd = G_, hA : std = A, hP : prog = P at *; cbv; revert h; refine cu (fun y1 => (sp 15 [(6, .c (.v (.bool y1)))] [])) (fun y1 S hS h => rg) fun w7 => rz fun h => ?_; cbv; exact df
set_option maxHeartbeats 40000000
/-- spec.l09Layer -/
def Fq65 (a0 : Int) : Option (Bool) :=
 (Fq1 a0 0 7).bind fun y1 =>
 some y1
theorem runq65 (a0 : Int) (r : Bool) (h : Fq65 a0 = some r) : Fun prog 116 [.c (wi a0)] [] (.c (.v (.bool r))) [] true := by
 refine ow [] func116 ntmps116 ?_; unfold Fq65 at h; have hfq1 := @runq1; generalize hU : @len = U_, hG_ : @gd = G_, hA : std = A, hP : prog = P at *; cbv; revert h; refine rk0 (hfq1 _ _ _) fun y1 h => ?_; cbv; exact df

/-- spec.l09Rect -/
def Fq117 (a0 : TRect) : Option (Bool) :=
 ((
 br (std.le (-40) a0.fX0)
 (br (std.lt a0.fX0 a0.fX1)
 (br (std.le a0.fX1 40)
 (br (std.le (-40) a0.fY0)
 (br (std.lt a0.fY0 a0.fY1)
 (some (std.le a0.fY1 40))
 (some false))
 (some false))
 (some false))
 (some false))
 (some false)
 ) : Option (Bool)).bind fun y1 =>
 letO y1 fun w7 =>
 some w7
theorem runq117 (a0 : TRect) (r : Bool) (h : Fq117 a0 = some r) : Fun prog 117 [.agg [wi a0.fX0, wi a0.fY0, wi a0.fX1, wi a0.fY1]] [] (.c (.v (.bool r))) [] true := by
 refine ow [1] func117 ntmps117 ?_; unfold Fq117 at h; generalize hU : @len = U_, hG_ : @gd = G_, hA : std = A, hP : prog = P at *; cbv; revert h; refine cu (fun y1 => (sp 35 [(2, .c (.v (.bool y1)))] [])) (fun y1 S hS h => rg) fun w7 => rz fun h => ?_; cbv; exact df

/-- spec.l09Shape -/
def Fq61 (a0 : TS) : Option (Bool) :=
 ((
 (Fq65 a0.fy).bind fun y8 =>
 br y8
 ((Fq117 a0.fb).bind fun y10 =>
 some y10)
 (some false)
 ) : Option (Bool)).bind fun y1 =>
 letO y1 fun w7 =>
 some w7
theorem runq61 (a0 : TS) (r : Bool) (h : Fq61 a0 = some r) : Fun prog 59 [.agg [wi a0.fy, wi a0.fb.fX0, wi a0.fb.fY0, wi a0.fb.fX1, wi a0.fb.fY1]] [] (.c (.v (.bool r))) [] true := by
 refine ow [1] func59 ntmps59 ?_; unfold Fq61 at h; have hfq65 := @runq65; have hfq117 := @runq117; generalize hU : @len = U_, hG_ : @gd = G_, hA : std = A, hP : prog = P at *; cbv; revert h; refine cu (fun y1 => (sp 11 [(2, .c (.v (.bool y1)))] [])) ?_ fun w7 => rz fun h => ?_
 ·intro y1 S hS h; cbv; revert h; refine rk0 (hfq65 _) fun y8 h => ?_; cbv; revert h; refine fk ?_ ?_ <;> intro h <;> cbv
  ·revert h; refine rk0 (hfq117 _) fun y10 h => ?_; cbv; exact dn
  exact dn
 cbv; exact df

/-- spec.l09Unit -/
def Fq97 (a0 : TPoint) : Option (Bool) :=
 ((
 (Fq1 a0.fX (-40) 39).bind fun y8 =>
 br y8
 ((Fq1 a0.fY (-40) 39).bind fun y10 =>
 some y10)
 (some false)
 ) : Option (Bool)).bind fun y1 =>
 letO y1 fun w7 =>
 some w7
theorem runq97 (a0 : TPoint) (r : Bool) (h : Fq97 a0 = some r) : Fun prog 118 [.agg [wi a0.fX, wi a0.fY]] [] (.c (.v (.bool r))) [] true := by
 refine ow [1] func118 ntmps118 ?_; unfold Fq97 at h; have hfq1 := @runq1; generalize hU : @len = U_, hG_ : @gd = G_, hA : std = A, hP : prog = P at *; cbv; revert h; refine cu (fun y1 => (sp 11 [(2, .c (.v (.bool y1)))] [])) ?_ fun w7 => rz fun h => ?_
 ·intro y1 S hS h; cbv; revert h; refine rk0 (hfq1 _ _ _) fun y8 h => ?_; cbv; revert h; refine fk ?_ ?_ <;> intro h <;> cbv
  ·revert h; refine rk0 (hfq1 _ _ _) fun y10 h => ?_; cbv; exact dn
  exact dn
 cbv; exact df

/-- spec.l09Label -/
def Fq62 (a0 : TB) : Option (Bool) :=
 ((
 (Fq65 a0.fy).bind fun y8 =>
 br y8
 ((Fq97 a0.fa).bind fun y10 =>
 br y10
 ((Fq19 a0.fN).bind fun y12 =>
 some y12)
 (some false))
 (some false)
 ) : Option (Bool)).bind fun y1 =>
 letO y1 fun w7 =>
 some w7
theorem runq62 (a0 : TB) (r : Bool) (h : Fq62 a0 = some r) : Fun prog 60 [.agg [wi a0.fy, wi a0.fa.fX, wi a0.fa.fY, ws a0.fN]] [] (.c (.v (.bool r))) [] true := by
 refine ow [1] func60 ntmps60 ?_; unfold Fq62 at h; have hfq19 := @runq19; have hfq65 := @runq65; have hfq97 := @runq97; generalize hU : @len = U_, hG_ : @gd = G_, hA : std = A, hP : prog = P at *; cbv; revert h; refine cu (fun y1 => (sp 16 [(2, .c (.v (.bool y1)))] [])) ?_ fun w7 => rz fun h => ?_
 ·intro y1 S hS h; cbv; revert h; refine rk0 (hfq65 _) fun y8 h => ?_; cbv; revert h; refine fk ?_ ?_ <;> intro h <;> cbv
  ·revert h; refine rk0 (hfq97 _) fun y10 h => ?_; cbv; revert h; refine fk ?_ ?_ <;> intro h <;> cbv
   ·revert h; refine rk0 (hfq19 _) fun y12 h => ?_; cbv; exact dn
   exact dn
  exact dn
 cbv; exact df

/-- spec.l09Transform -/
def Fq111 (a0 : TM) : Option (Bool) :=
 ((
 (Fq1 a0.fo 0 7).bind fun y8 =>
 br y8
 ((Fq1 a0.fX (-80) 80).bind fun y10 =>
 br y10
 ((Fq1 a0.fY (-80) 80).bind fun y12 =>
 some y12)
 (some false))
 (some false)
 ) : Option (Bool)).bind fun y1 =>
 letO y1 fun w7 =>
 some w7
theorem runq111 (a0 : TM) (r : Bool) (h : Fq111 a0 = some r) : Fun prog 119 [.agg [wi a0.fo, wi a0.fX, wi a0.fY]] [] (.c (.v (.bool r))) [] true := by
 refine ow [1] func119 ntmps119 ?_; unfold Fq111 at h; have hfq1 := @runq1; generalize hU : @len = U_, hG_ : @gd = G_, hA : std = A, hP : prog = P at *; cbv; revert h; refine cu (fun y1 => (sp 16 [(2, .c (.v (.bool y1)))] [])) ?_ fun w7 => rz fun h => ?_
 ·intro y1 S hS h; cbv; revert h; refine rk0 (hfq1 _ _ _) fun y8 h => ?_; cbv; revert h; refine fk ?_ ?_ <;> intro h <;> cbv
  ·revert h; refine rk0 (hfq1 _ _ _) fun y10 h => ?_; cbv; revert h; refine fk ?_ ?_ <;> intro h <;> cbv
   ·revert h; refine rk0 (hfq1 _ _ _) fun y12 h => ?_; cbv; exact dn
   exact dn
  exact dn
 cbv; exact df
set_option maxHeartbeats 40000000
/-- spec.l09Instance -/
def Fq49 (a0 : TI) (a1 : Int) : Option (Bool) :=
 ((
 (Fq1 a0.fc 0 (std.sub .i64 a1 1)).bind fun y8 =>
 br (!(y8))
 (some true)
 ((Fq111 a0.fp).bind fun y10 =>
 br (!(y10))
 (some true)
 ((Fq1 a0.fK 1 4).bind fun y12 =>
 br (!(y12))
 (some true)
 ((Fq1 a0.fR 1 4).bind fun y14 =>
 some (!(y14)))))
 ) : Option (Bool)).bind fun y1 =>
 letO y1 fun w7 =>
 br w7
 (some false)
 (((
 (Fq1 a0.fu (-80) 80).bind fun y26 =>
 br (!(y26))
 (some true)
 ((Fq1 a0.fv (-80) 80).bind fun y28 =>
 some (!(y28)))
 ) : Option (Bool)).bind fun y19 =>
 letO y19 fun w25 =>
 br w25
 (some false)
 (((
 br (std.lt 1 a0.fK)
 (br (std.lt 1 a0.fR)
 (some true)
 (some (std.eq a0.fv 0)))
 (br (std.eq a0.fu 0)
 (br (std.lt 1 a0.fR)
 (some true)
 (some (std.eq a0.fv 0)))
 (some false))
 ) : Option (Bool)).bind fun y31 =>
 letO y31 fun w37 =>
 some w37))
theorem runq49 (a0 : TI) (a1 : Int) (r : Bool) (h : Fq49 a0 a1 = some r) : Fun prog 61 [.agg [wi a0.fc, wi a0.fp.fo, wi a0.fp.fX, wi a0.fp.fY, wi a0.fK, wi a0.fR, wi a0.fu, wi a0.fv], .c (wi a1)] [] (.c (.v (.bool r))) [] true := by
 refine ow [1, 3, 5] func61 ntmps61 ?_; unfold Fq49 at h; have hfq1 := @runq1; have hfq111 := @runq111; generalize hU : @len = U_, hG_ : @gd = G_, hA : std = A, hP : prog = P at *; cbv
 revert h; refine cu (fun y1 => (sp 57 [(2, .c (.ptr 128 0)), (28, .c (.v (.bool y1)))] [(128, .var [wi a0.fc, wi a0.fp.fo, wi a0.fp.fX, wi a0.fp.fY, wi a0.fK, wi a0.fR, wi a0.fu, wi a0.fv])])) ?_ fun w7 => rz fun h => ?_
 ·intro y1 S hS h; cbv; revert h; refine rk0 (hfq1 _ _ _) fun y8 h => ?_; cbv; revert h; refine fk ?_ ?_ <;> intro h <;> cbv
  ·exact dn
  revert h; refine rk0 (hfq111 _) fun y10 h => ?_; cbv; revert h; refine fk ?_ ?_ <;> intro h <;> cbv
  ·exact dn
  revert h; refine rk0 (hfq1 _ _ _) fun y12 h => ?_; cbv; revert h; refine fk ?_ ?_ <;> intro h <;> cbv
  ·exact dn
  revert h; refine rk0 (hfq1 _ _ _) fun y14 h => ?_; cbv; exact dn
 cbv; revert h; refine fk ?_ ?_ <;> intro h <;> cbv
 ·exact df
 revert h; refine cu (fun y19 => (sp 57 [(2, .c (.ptr 128 0)), (38, .c (.v (.bool y19)))] [(128, .var [wi a0.fc, wi a0.fp.fo, wi a0.fp.fX, wi a0.fp.fY, wi a0.fK, wi a0.fR, wi a0.fu, wi a0.fv])])) ?_ fun w25 => rz fun h => ?_
 ·intro y19 S hS h; cbv; revert h; refine rk0 (hfq1 _ _ _) fun y26 h => ?_; cbv; revert h; refine fk ?_ ?_ <;> intro h <;> cbv
  ·exact dn
  revert h; refine rk0 (hfq1 _ _ _) fun y28 h => ?_; cbv; exact dn
 cbv; revert h; refine fk ?_ ?_ <;> intro h <;> cbv
 ·exact df
 revert h; refine cu (fun y31 => (sp 57 [(4, .c (.v (.bool y31)))] [])) (fun y31 S hS h => rg) fun w37 => rz fun h => ?_; cbv; exact df

def Lq13_x52 (a0 : TC) (a1 : Int) : (Int) -> Option ((Int) ⊕ ((Bool) ⊕ (Unit))) := fun x52 =>
 letO x52 fun v51 =>
 br (std.lt v51 (std.ofN (len a0.fI)))
 (req (std.inR v51 (len a0.fI)) <|
 (Fq49 (gd a0.fI (std.toN v51)) a1).bind fun y65 =>
 br (!(y65))
 (some (.inr (.inl false)))
 (some (.inl (std.add .i64 v51 1))))
 (some (.inr (.inr ())))
def Lq13_x33 (a0 : TC) : (Int) -> Option ((Int) ⊕ ((Bool) ⊕ (Unit))) := fun x33 =>
 letO x33 fun v32 =>
 br (std.lt v32 (std.ofN (len a0.fL)))
 (req (std.inR v32 (len a0.fL)) <|
 (Fq62 (gd a0.fL (std.toN v32))).bind fun y46 =>
 br (!(y46))
 (some (.inr (.inl false)))
 (some (.inl (std.add .i64 v32 1))))
 (some (.inr (.inr ())))
def Lq13_x14 (a0 : TC) : (Int) -> Option ((Int) ⊕ ((Bool) ⊕ (Unit))) := fun x14 =>
 letO x14 fun v13 =>
 br (std.lt v13 (std.ofN (len a0.fS)))
 (req (std.inR v13 (len a0.fS)) <|
 (Fq61 (gd a0.fS (std.toN v13))).bind fun y27 =>
 br (!(y27))
 (some (.inr (.inl false)))
 (some (.inl (std.add .i64 v13 1))))
 (some (.inr (.inr ())))
/-- spec.l09Cell -/
def Fq13 (a0 : TC) (a1 : Int) : Option (Bool) :=
  ((
  (Fq19 a0.fN).bind fun y8 =>
  br (!(y8))
  (some true)
  (br (std.lt 24 (std.ofN (len a0.fS)))
  (some true)
  (br (std.lt 8 (std.ofN (len a0.fL)))
  (some true)
  (some (std.lt 8 (std.ofN (len a0.fI))))))
  ) : Option (Bool)).bind fun y1 =>
  letO y1 fun w7 =>
  br w7
  (some false)
  ((whileP (σ := Int) (ρ := (Bool) ⊕ (Unit)) (Lq13_x14 a0) 0).bind fun y15 =>
  (match y15 with
 | .inl y15k0 => (
  letO y15k0 fun w31 =>
  some w31)
 | .inr y15m0 =>
  (whileP (σ := Int) (ρ := (Bool) ⊕ (Unit)) (Lq13_x33 a0) 0).bind fun y34 =>
  (match y34 with
 | .inl y34k0 => (
  letO y34k0 fun w50 =>
  some w50)
 | .inr y34m0 =>
  (whileP (σ := Int) (ρ := (Bool) ⊕ (Unit)) (Lq13_x52 a0 a1) 0).bind fun y53 =>
  (match y53 with
 | .inl y53k0 => (
  letO y53k0 fun w69 =>
  some w69)
 | .inr y53m0 =>
  some true))))
theorem runq13 (a0 : TC) (a1 : Int) (r : Bool) (h : Fq13 a0 a1 = some r) : Fun prog 30 [.agg [ws a0.fN, .bs (len a0.fS) 5 (row gd (eS) a0.fS), .bs (len a0.fL) 4 (row gd (eL_0) a0.fL), .bs (len a0.fI) 8 (row gd (eI) a0.fI)], .c (wi a1)] [] (.c (.v (.bool r))) [] true := by
 refine ow [1] func30 ntmps30 ?_; unfold Fq13 at h; unfold Lq13_x14 at h; unfold Lq13_x33 at h; unfold Lq13_x52 at h; have hfq19 := @runq19; have hfq49 := @runq49; have hfq62 := @runq62; have hfq61 := @runq61
 generalize hU : @len = U_, hG_ : @gd = G_, hA : std = A, hP : prog = P at *; cbv
 revert h; refine cu (fun y1 => (sp 73 [(1, .c (wi a1)), (2, .c (.ptr 128 0)), (29, .c (.v (.bool y1)))] [(128, .var [ws a0.fN, .bs (U_ a0.fS) 5 (row G_ (eS) a0.fS), .bs (U_ a0.fL) 4 (row G_ (eL_0) a0.fL), .bs (U_ a0.fI) 8 (row G_ (eI) a0.fI)])])) ?_ fun w7 => rz fun h => ?_
 ·intro y1 S hS h; cbv; revert h; refine rk0 (hfq19 _) fun y8 h => ?_; cbv; revert h; refine fk ?_ ?_ <;> intro h <;> cbv
  ·exact dn
  revert h; refine fk ?_ ?_ <;> intro h <;> cbv
  ·exact dn
  revert h; refine fk ?_ ?_ <;> intro h <;> cbv
  ·exact dn
  exact dn
 cbv; revert h; refine fk ?_ ?_ <;> intro h <;> cbv
 ·exact df
 revert h; refine lc (fun x => (sp 73 [(1, .c (wi a1)), (2, .c (.ptr 128 0)), (5, .c (wi x))] [(128, .var [ws a0.fN, .bs (U_ a0.fS) 5 (row G_ (eS) a0.fS), .bs (U_ a0.fL) 4 (row G_ (eL_0) a0.fL), .bs (U_ a0.fI) 8 (row G_ (eI) a0.fI)])])) (fun y e s => (match y with | .inl w => e = .ret /\ s.le (sp 73 [(4, .c (.v (.bool w)))] []) | .inr w0 => (fun (w : Unit) => e = .exit 0 /\ s.le (sp 73 [(1, .c (wi a1)), (2, .c (.ptr 128 0))] [(128, .var [ws a0.fN, .bs (U_ a0.fS) 5 (row G_ (eS) a0.fS), .bs (U_ a0.fL) 4 (row G_ (eL_0) a0.fL), .bs (U_ a0.fI) 8 (row G_ (eI) a0.fI)])])) w0)) zb ?_ ?_
 ·intro v13 z h K hK hY; replace h := oz h; cbv; revert h; refine fk ?_ ?_ <;> intro h <;> cbv
  ·revert h; refine ra fun c26 h => ?_; revert h; refine rk0 (hfq61 _) fun y27 h => ?_; cbv; revert h; refine fk ?_ ?_ <;> intro h <;> cbv
   ·exact dy
   exact dm
  exact dy
 intro y15 h e24 s25 q23 hne; rcases y15 with y15k0 | y15m0
 ·replace h := h; obtain ⟨rfl, q23⟩ := q23; revert h; refine rz fun h => ?_; cbv; injection h with h; subst h; exact ⟨_, q23, lR _, zo, rfl⟩
 ·obtain ⟨rfl, q23⟩ := q23; cbv; refine ⟨_, q23, ?_⟩; cbv
  revert h; refine lc (fun x => (sp 73 [(1, .c (wi a1)), (2, .c (.ptr 128 0)), (6, .c (wi x))] [(128, .var [ws a0.fN, .bs (U_ a0.fS) 5 (row G_ (eS) a0.fS), .bs (U_ a0.fL) 4 (row G_ (eL_0) a0.fL), .bs (U_ a0.fI) 8 (row G_ (eI) a0.fI)])])) (fun y e s => (match y with | .inl w => e = .ret /\ s.le (sp 73 [(4, .c (.v (.bool w)))] []) | .inr w0 => (fun (w : Unit) => e = .exit 2 /\ s.le (sp 73 [(1, .c (wi a1)), (2, .c (.ptr 128 0))] [(128, .var [ws a0.fN, .bs (U_ a0.fS) 5 (row G_ (eS) a0.fS), .bs (U_ a0.fL) 4 (row G_ (eL_0) a0.fL), .bs (U_ a0.fI) 8 (row G_ (eI) a0.fI)])])) w0)) zb ?_ ?_
  ·intro v32 z h K hK hY; replace h := oz h; cbv; revert h; refine fk ?_ ?_ <;> intro h <;> cbv
   ·revert h; refine ra fun c45 h => ?_; revert h; refine rk0 (hfq62 _) fun y46 h => ?_; cbv; revert h; refine fk ?_ ?_ <;> intro h <;> cbv
    ·exact dy
    exact dm
   exact dy
  intro y34 h e43 s44 q42 hne; rcases y34 with y34k0 | y34m0
  ·replace h := h; obtain ⟨rfl, q42⟩ := q42; revert h; refine rz fun h => ?_; cbv; injection h with h; subst h; exact ⟨_, q42, lR _, zo, rfl⟩
  ·obtain ⟨rfl, q42⟩ := q42; cbv; refine ⟨_, q42, ?_⟩; cbv
   revert h; refine lc (fun x => (sp 73 [(1, .c (wi a1)), (2, .c (.ptr 128 0)), (7, .c (wi x))] [(128, .var [ws a0.fN, .bs (U_ a0.fS) 5 (row G_ (eS) a0.fS), .bs (U_ a0.fL) 4 (row G_ (eL_0) a0.fL), .bs (U_ a0.fI) 8 (row G_ (eI) a0.fI)])])) (fun y e s => (match y with | .inl w => e = .ret /\ s.le (sp 73 [(4, .c (.v (.bool w)))] []) | .inr w0 => (fun (w : Unit) => e = .exit 4 /\ s.le (sp 73 [] [])) w0)) zb ?_ ?_
   ·intro v51 z h K hK hY; replace h := oz h; cbv; revert h; refine fk ?_ ?_ <;> intro h <;> cbv
    ·revert h; refine ra fun c64 h => ?_; revert h; refine rk0 (hfq49 _ _) fun y65 h => ?_; cbv; revert h; refine fk ?_ ?_ <;> intro h <;> cbv
     ·exact dy
     exact dm
    exact dy
   intro y53 h e62 s63 q61 hne; rcases y53 with y53k0 | y53m0
   ·replace h := h; obtain ⟨rfl, q61⟩ := q61; revert h; refine rz fun h => ?_; cbv; injection h with h; subst h; exact ⟨_, q61, lR _, zo, rfl⟩
   ·obtain ⟨rfl, q61⟩ := q61; cbv; refine ⟨_, q61, ?_⟩; cbv; exact df

def Lq9_x26 (a0 : TL) (v9 : Int) : (Int) -> Option ((Int) ⊕ ((Bool) ⊕ (Unit))) := fun x26 =>
 letO x26 fun v25 =>
 br (std.lt v25 v9)
 (req (std.inR v25 (len a0.fC)) <|
 req (std.inR v9 (len a0.fC)) <|
 br (std.seq (gd a0.fC (std.toN v25)).fN (gd a0.fC (std.toN v9)).fN)
 (some (.inr (.inl false)))
 (some (.inl (std.add .i64 v25 1))))
 (some (.inr (.inr ())))
def Lq9_x10 (a0 : TL) : (Int) -> Option ((Int) ⊕ ((Bool) ⊕ (Unit))) := fun x10 =>
  letO x10 fun v9 =>
  br (std.lt v9 (std.ofN (len a0.fC)))
  (req (std.inR v9 (len a0.fC)) <|
  (Fq13 (gd a0.fC (std.toN v9)) v9).bind fun y23 =>
  br (!(y23))
  (some (.inr (.inl false)))
  ((whileP (σ := Int) (ρ := (Bool) ⊕ (Unit)) (Lq9_x26 a0 v9) 0).bind fun y27 =>
  (match y27 with
 | .inl y27k0 => (
  letO y27k0 fun w42 =>
  some (.inr (.inl w42)))
 | .inr y27m0 =>
  some (.inl (std.add .i64 v9 1)))))
  (some (.inr (.inr ())))
/-- spec.IsValidLibrary -/
def Fq9 (a0 : TL) : Option (Bool) :=
  ((
  br (std.lt (std.ofN (len a0.fC)) 1)
  (some true)
  (some (std.lt 8 (std.ofN (len a0.fC))))
  ) : Option (Bool)).bind fun y1 =>
  letO y1 fun w7 =>
  br w7
  (some false)
  ((whileP (σ := Int) (ρ := (Bool) ⊕ (Unit)) (Lq9_x10 a0) 0).bind fun y11 =>
  (match y11 with
 | .inl y11k0 => (
  letO y11k0 fun w45 =>
  some w45)
 | .inr y11m0 =>
  some true))
theorem runq9 (a0 : TL) (r : Bool) (h : Fq9 a0 = some r) : Fun prog 10 [.agg [.bs (len a0.fC) 4 (row gd (eC len gd) a0.fC)]] [] (.c (.v (.bool r))) [] true := by
 refine ow [1] func10 ntmps10 ?_; unfold Fq9 at h; unfold Lq9_x10 at h; unfold Lq9_x26 at h; have hfq13 := @runq13; generalize hU : @len = U_, hG_ : @gd = G_, hA : std = A, hP : prog = P at *; cbv
 revert h; refine cu (fun y1 => (sp 48 [(1, .c (.ptr 64 0)), (14, .c (.v (.bool y1)))] [(64, .var [.bs (U_ a0.fC) 4 (row G_ (eC U_ G_) a0.fC)])])) (fun y1 S hS h => rg) fun w7 => rz fun h => ?_; cbv; revert h; refine fk ?_ ?_ <;> intro h <;> cbv
 ·exact df
 revert h; refine lc (fun x => (sp 48 [(1, .c (.ptr 64 0)), (3, .c (wi x))] [(64, .var [.bs (U_ a0.fC) 4 (row G_ (eC U_ G_) a0.fC)])])) (fun y e s => (match y with | .inl w => e = .ret /\ s.le (sp 48 [(2, .c (.v (.bool w)))] []) | .inr w0 => (fun (w : Unit) => e = .exit 0 /\ s.le (sp 48 [] [])) w0)) zb ?_ ?_
 ·intro v9 z h K hK hY; replace h := oz h; cbv; revert h; refine fk ?_ ?_ <;> intro h <;> cbv
  ·revert h; refine ra fun c22 h => ?_; revert h; refine rk0 (hfq13 _ _) fun y23 h => ?_; cbv; revert h; refine fk ?_ ?_ <;> intro h <;> cbv
   ·exact dy
   revert h; refine lc (fun x => (sp 48 [(1, .c (.ptr 64 0)), (3, .c (wi v9)), (4, .c (wi x))] [(64, .var [.bs (U_ a0.fC) 4 (row G_ (eC U_ G_) a0.fC)])])) (fun y e s => (match y with | .inl w => e = .ret /\ s.le (sp 48 [(2, .c (.v (.bool w)))] []) | .inr w0 => (fun (w : Unit) => e = .exit 2 /\ s.le (sp 48 [(1, .c (.ptr 64 0)), (3, .c (wi v9))] [(64, .var [.bs (U_ a0.fC) 4 (row G_ (eC U_ G_) a0.fC)])])) w0)) zb ?_ ?_
   ·intro v25 z h K hK hY; replace h := oz h; cbv; revert h; refine fk ?_ ?_ <;> intro h <;> cbv
    ·revert h; refine ra fun c38 h => ?_; revert h; refine ra fun c39 h => ?_; revert h; refine fk ?_ ?_ <;> intro h <;> cbv
     ·exact dy
     exact dm
    exact dy
   intro y27 h e36 s37 q35 hne; rcases y27 with y27k0 | y27m0
   ·replace h := h; obtain ⟨rfl, q35⟩ := q35; revert h; refine rl fun w42 hw42 h => ?_; have hw42 : w42 = y27k0 := hw42; subst hw42; cbv; injection h with h; refine hY _ h.symm _ _ (And.intro rfl ?_) (by intro hh; cases hh); refine St.le_trans q35 ?_; exact zb
   ·obtain ⟨rfl, q35⟩ := q35; cbv; refine ⟨_, q35, ?_⟩; cbv; exact dm
  exact dy
 intro y11 h e20 s21 q19 hne; rcases y11 with y11k0 | y11m0
 ·replace h := h; obtain ⟨rfl, q19⟩ := q19; revert h; refine rz fun h => ?_; cbv; injection h with h; subst h; exact ⟨_, q19, lR _, zo, rfl⟩
 ·obtain ⟨rfl, q19⟩ := q19; cbv; refine ⟨_, q19, ?_⟩; cbv; exact df

/-- spec.l13NoShape -/
def Fq75 (a0 : TS) : Option (Bool) :=
 some (std.band (std.eq a0.fy 0) (std.band (std.band (std.eq a0.fb.fX0 0) (std.band (std.eq a0.fb.fY0 0) (std.band (std.eq a0.fb.fX1 0) (std.band (std.eq a0.fb.fY1 0) (true))))) (true)))
theorem runq75 (a0 : TS) (r : Bool) (h : Fq75 a0 = some r) : Fun prog 155 [.agg [wi a0.fy, wi a0.fb.fX0, wi a0.fb.fY0, wi a0.fb.fX1, wi a0.fb.fY1]] [] (.c (.v (.bool r))) [] true := by
 refine ow [] func155 ntmps155 ?_; unfold Fq75 at h; generalize hU : @len = U_, hG_ : @gd = G_, hA : std = A, hP : prog = P at *; cbv; exact df

/-- spec.l13NoLabel -/
def Fq79 (a0 : TB) : Option (Bool) :=
 some (std.band (std.eq a0.fy 0) (std.band (std.band (std.eq a0.fa.fX 0) (std.band (std.eq a0.fa.fY 0) (true))) (std.band (std.seq a0.fN (ByteArray.mk #[])) (true))))
theorem runq79 (a0 : TB) (r : Bool) (h : Fq79 a0 = some r) : Fun prog 156 [.agg [wi a0.fy, wi a0.fa.fX, wi a0.fa.fY, ws a0.fN]] [] (.c (.v (.bool r))) [] true := by
 refine ow [] func156 ntmps156 ?_; unfold Fq79 at h; generalize hU : @len = U_, hG_ : @gd = G_, hA : std = A, hP : prog = P at *; cbv; exact df

/-- spec.l13NoInstance -/
def Fq106 (a0 : TI) : Option (Bool) :=
 some (std.band (std.eq a0.fc 0) (std.band (std.band (std.eq a0.fp.fo 0) (std.band (std.eq a0.fp.fX 0) (std.band (std.eq a0.fp.fY 0) (true)))) (std.band (std.eq a0.fK 0) (std.band (std.eq a0.fR 0) (std.band (std.eq a0.fu 0) (std.band (std.eq a0.fv 0) (true)))))))
theorem runq106 (a0 : TI) (r : Bool) (h : Fq106 a0 = some r) : Fun prog 157 [.agg [wi a0.fc, wi a0.fp.fo, wi a0.fp.fX, wi a0.fp.fY, wi a0.fK, wi a0.fR, wi a0.fu, wi a0.fv]] [] (.c (.v (.bool r))) [] true := by
 refine ow [] func157 ntmps157 ?_; unfold Fq106 at h; generalize hU : @len = U_, hG_ : @gd = G_, hA : std = A, hP : prog = P at *; cbv; exact df
end
end Go.Proofs.YtfoefnkbiofejaaGreat.AM
