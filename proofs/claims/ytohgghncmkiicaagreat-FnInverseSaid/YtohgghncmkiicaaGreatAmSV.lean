/-
  What the functions that the law reaches compute, and that they do. No condition.
-/
import Derived.Test.YtohgghncmkiicaaGreatAmT
import Derived.Test.YtohgghncmkiicaaGreatAmE
import Derived.Deep.LoopGhost
import Derived.Deep.RegionLaw
import Derived.Lib.SliceRun
import Derived.Lib.SlicesDelete
import Derived.Lib.Walk
import Derived.Shelf.Spec.SlicesInsert
import Derived.Shelf.Spec.SlicesInsertGrow
import Derived.Test.YtohgghncmkiicaaGreatChecked
import Derived.WalkKit
namespace Go.Proofs.YtohgghncmkiicaaGreat.AM
noncomputable section
open Go Go.Proofs Go.RowKit
set_option linter.unusedVariables false
set_option linter.unusedSimpArgs false
set_option maxRecDepth 100000

set_option maxHeartbeats 4000000
abbrev wi (x : Int) : AC := .v (.int .i64 x)
abbrev ws (x : ByteArray) : AC := .v (.string x)
theorem zl1 {x0 : AV} : x0.le x0 /\ True := ⟨lR _, tv⟩
theorem zl2 {x0 x1 : AV} : x0.le x0 /\ x1.le x1 /\ True := ⟨lR _, lR _, tv⟩
theorem zl3 {x0 x1 x2 : AV} : x0.le x0 /\ x1.le x1 /\ x2.le x2 /\ True := ⟨lR _, lR _, lR _, tv⟩
theorem zl4 {x0 x1 x2 x3 : AV} : x0.le x0 /\ x1.le x1 /\ x2.le x2 /\ x3.le x3 /\ True := ⟨lR _, lR _, lR _, lR _, tv⟩
theorem zl5 {x0 x1 x2 x3 x4 : AV} : x0.le x0 /\ x1.le x1 /\ x2.le x2 /\ x3.le x3 /\ x4.le x4 /\ True := ⟨lR _, lR _, lR _, lR _, lR _, tv⟩
theorem zl6 {x0 x1 x2 x3 x4 x5 : AV} : x0.le x0 /\ x1.le x1 /\ x2.le x2 /\ x3.le x3 /\ x4.le x4 /\ x5.le x5 /\ True := ⟨lR _, lR _, lR _, lR _, lR _, lR _, tv⟩
theorem zl7 {x0 x1 x2 x3 x4 x5 x6 : AV} : x0.le x0 /\ x1.le x1 /\ x2.le x2 /\ x3.le x3 /\ x4.le x4 /\ x5.le x5 /\ x6.le x6 /\ True := ⟨lR _, lR _, lR _, lR _, lR _, lR _, lR _, tv⟩
theorem zl8 {x0 x1 x2 x3 x4 x5 x6 x7 : AV} : x0.le x0 /\ x1.le x1 /\ x2.le x2 /\ x3.le x3 /\ x4.le x4 /\ x5.le x5 /\ x6.le x6 /\ x7.le x7 /\ True := ⟨lR _, lR _, lR _, lR _, lR _, lR _, lR _, lR _, tv⟩
theorem zl10 {x0 x1 x2 x3 x4 x5 x6 x7 x8 x9 : AV} : x0.le x0 /\ x1.le x1 /\ x2.le x2 /\ x3.le x3 /\ x4.le x4 /\ x5.le x5 /\ x6.le x6 /\ x7.le x7 /\ x8.le x8 /\ x9.le x9 /\ True := ⟨lR _, lR _, lR _, lR _, lR _, lR _, lR _, lR _, lR _, lR _, tv⟩
theorem zs1 {x0 : AV} : AV.les [x0] [x0] := lc (lR _) (ln_)
theorem zs2 {x0 x1 : AV} : AV.les [x0, x1] [x0, x1] := lc (lR _) (lc (lR _) (ln_))
theorem zs3 {x0 x1 x2 : AV} : AV.les [x0, x1, x2] [x0, x1, x2] := lc (lR _) (lc (lR _) (lc (lR _) (ln_)))
theorem evn (n : Nat) (h : n % 2 = 0) {p : Prop} (h1 : n % 2 = 1) : p := by omega
theorem nd {p : Prop} [Decidable p] (h : decide p = false) : ¬ p := of_decide_eq_false h
theorem yd {p : Prop} [Decidable p] (h : decide p = true) : p := of_decide_eq_true h
theorem mixed : Tryz.prog.follows .mixedOrders = true := by kernel_rfl
structure TRect where
 fX0 : Int
 fY0 : Int
 fX1 : Int
 fY1 : Int
instance : Inhabited TRect := ⟨⟨default, default, default, default⟩⟩
def encRect (x : TRect) : Nat -> AC := fun j => match j with
 | 0 => wi x.fX0
 | 1 => wi x.fY0
 | 2 => wi x.fX1
 | _ => wi x.fY1
theorem pl_encRect : ∀ (x : TRect) (j : Nat), plainC (encRect x j) = true := by
 intro x j
 unfold encRect
 split <;> rfl
theorem vl_encRect : ∀ (x : TRect) (j : Nat), valC (encRect x j) = true := by
 intro x j
 unfold encRect
 split <;> rfl
structure TS where
 fy : Int
 fb : TRect
instance : Inhabited TS := ⟨⟨default, default⟩⟩
def eS (x : TS) : Nat -> AC := fun j => match j with
 | 0 => wi x.fy
 | 1 => wi x.fb.fX0
 | 2 => wi x.fb.fY0
 | 3 => wi x.fb.fX1
 | _ => wi x.fb.fY1
theorem pl_encShape : ∀ (x : TS) (j : Nat), plainC (eS x j) = true := by
 intro x j
 unfold eS
 split <;> rfl
theorem vl_encShape : ∀ (x : TS) (j : Nat), valC (eS x j) = true := by
 intro x j
 unfold eS
 split <;> rfl
structure TPoint where
 fX : Int
 fY : Int
instance : Inhabited TPoint := ⟨⟨default, default⟩⟩
def encPoint (x : TPoint) : Nat -> AC := fun j => match j with
 | 0 => wi x.fX
 | _ => wi x.fY
theorem pl_encPoint : ∀ (x : TPoint) (j : Nat), plainC (encPoint x j) = true := by
 intro x j
 unfold encPoint
 split <;> rfl
theorem vl_encPoint : ∀ (x : TPoint) (j : Nat), valC (encPoint x j) = true := by
 intro x j
 unfold encPoint
 split <;> rfl
structure TB where
 fy : Int
 fa : TPoint
 fN : ByteArray
instance : Inhabited TB := ⟨⟨default, default, default⟩⟩
def eL (x : TB) : Nat -> AC := fun j => match j with
 | 0 => wi x.fy
 | 1 => wi x.fa.fX
 | 2 => wi x.fa.fY
 | _ => ws x.fN
theorem pl_encLabel : ∀ (x : TB) (j : Nat), plainC (eL x j) = true := by
 intro x j
 unfold eL
 split <;> rfl
theorem vl_encLabel : ∀ (x : TB) (j : Nat), valC (eL x j) = true := by
 intro x j
 unfold eL
 split <;> rfl
structure TM where
 fo : Int
 fX : Int
 fY : Int
instance : Inhabited TM := ⟨⟨default, default, default⟩⟩
def encTransform (x : TM) : Nat -> AC := fun j => match j with
 | 0 => wi x.fo
 | 1 => wi x.fX
 | _ => wi x.fY
theorem pl_encTransform : ∀ (x : TM) (j : Nat), plainC (encTransform x j) = true := by
 intro x j
 unfold encTransform
 split <;> rfl
theorem vl_encTransform : ∀ (x : TM) (j : Nat), valC (encTransform x j) = true := by
 intro x j
 unfold encTransform
 split <;> rfl
structure TI where
 fc : Int
 fp : TM
 fK : Int
 fR : Int
 fu : Int
 fv : Int
instance : Inhabited TI := ⟨⟨default, default, default, default, default, default⟩⟩
def eI (x : TI) : Nat -> AC := fun j => match j with
 | 0 => wi x.fc
 | 1 => wi x.fp.fo
 | 2 => wi x.fp.fX
 | 3 => wi x.fp.fY
 | 4 => wi x.fK
 | 5 => wi x.fR
 | 6 => wi x.fu
 | _ => wi x.fv
theorem pl_encInstance : ∀ (x : TI) (j : Nat), plainC (eI x j) = true := by
 intro x j
 unfold eI
 split <;> rfl
theorem vl_encInstance : ∀ (x : TI) (j : Nat), valC (eI x j) = true := by
 intro x j
 unfold eI
 split <;> rfl
structure TC where
 fN : ByteArray
 fS : List TS
 fL : List TB
 fI : List TI
instance : Inhabited TC := ⟨⟨default, default, default, default⟩⟩
def eC (LEN : {α : Type} -> List α -> Nat) (GD : {α : Type} -> [Inhabited α] -> List α -> Nat -> α) (x : TC) : Nat -> AC := fun j => match j with
 | 0 => ws x.fN
 | 1 => .bs (LEN x.fS) 5 (row GD (eS) x.fS)
 | 2 => .bs (LEN x.fL) 4 (row GD (eL) x.fL)
 | _ => .bs (LEN x.fI) 8 (row GD (eI) x.fI)
theorem pl_encCell {LEN : {α : Type} -> List α -> Nat} {GD : {α : Type} -> [Inhabited α] -> List α -> Nat -> α} : ∀ (x : TC) (j : Nat), plainC (eC LEN GD x j) = true := by
 intro x j
 unfold eC
 split <;> rfl
def oC (LEN : {α : Type} -> List α -> Nat) (GD : {α : Type} -> [Inhabited α] -> List α -> Nat -> α) (x : TC) : Nat -> AC := fun j => match j with
 | 0 => ws x.fN
 | 1 => .ow (LEN x.fS) 5 (row GD (eS) x.fS)
 | 2 => .ow (LEN x.fL) 4 (row GD (eL) x.fL)
 | _ => .ow (LEN x.fI) 8 (row GD (eI) x.fI)
theorem rC {LEN : {α : Type} -> List α -> Nat} {GD : {α : Type} -> [Inhabited α] -> List α -> Nat -> α} : ∀ (x : TC) (j : Nat), (oC LEN GD x j).ref = [] := by
 intro x j
 unfold oC
 split <;> rfl
theorem ln_oncCell {LEN : {α : Type} -> List α -> Nat} {GD : {α : Type} -> [Inhabited α] -> List α -> Nat -> α} : ∀ (x : TC) (j : Nat), (oC LEN GD x j).lentIn = eC LEN GD x j := by
 intro x j
 unfold oC eC
 split <;> rfl
theorem fl_oncCell {LEN : {α : Type} -> List α -> Nat} {GD : {α : Type} -> [Inhabited α] -> List α -> Nat -> α} : ∀ (x : TC) (j : Nat), (oC LEN GD x j).flat := by
 intro x j
 unfold oC
 split <;> first | trivial | (exact fun i _ j _ => val_v (vl_encShape _ _)) | (exact fun i _ j _ => val_v (vl_encLabel _ _)) | (exact fun i _ j _ => val_v (vl_encInstance _ _))
structure TL where
 fC : List TC
instance : Inhabited TL := ⟨⟨default⟩⟩
def encLibrary (LEN : {α : Type} -> List α -> Nat) (GD : {α : Type} -> [Inhabited α] -> List α -> Nat -> α) (x : TL) : Nat -> AC := fun j => match j with
 | _ => .bs (LEN x.fC) 4 (row GD (eC LEN GD) x.fC)
theorem pl_encLibrary {LEN : {α : Type} -> List α -> Nat} {GD : {α : Type} -> [Inhabited α] -> List α -> Nat -> α} : ∀ (x : TL) (j : Nat), plainC (encLibrary LEN GD x j) = true := by
 intro x j
 unfold encLibrary
 split <;> rfl
structure TE where
 fk : Int
 fc : Int
 fx : Int
 fN : ByteArray
 fs_ : TS
 fl_ : TB
 fi_ : TI
instance : Inhabited TE := ⟨⟨default, default, default, default, default, default, default⟩⟩
def eE (x : TE) : Nat -> AC := fun j => match j with
 | 0 => wi x.fk
 | 1 => wi x.fc
 | 2 => wi x.fx
 | 3 => ws x.fN
 | 4 => wi x.fs_.fy
 | 5 => wi x.fs_.fb.fX0
 | 6 => wi x.fs_.fb.fY0
 | 7 => wi x.fs_.fb.fX1
 | 8 => wi x.fs_.fb.fY1
 | 9 => wi x.fl_.fy
 | 10 => wi x.fl_.fa.fX
 | 11 => wi x.fl_.fa.fY
 | 12 => ws x.fl_.fN
 | 13 => wi x.fi_.fc
 | 14 => wi x.fi_.fp.fo
 | 15 => wi x.fi_.fp.fX
 | 16 => wi x.fi_.fp.fY
 | 17 => wi x.fi_.fK
 | 18 => wi x.fi_.fR
 | 19 => wi x.fi_.fu
 | _ => wi x.fi_.fv
theorem pl_encEdit : ∀ (x : TE) (j : Nat), plainC (eE x j) = true := by
 intro x j
 unfold eE
 split <;> rfl
theorem vl_encEdit : ∀ (x : TE) (j : Nat), valC (eE x j) = true := by
 intro x j
 unfold eE
 split <;> rfl
structure Tl01Source where
 gcode : List Int
 gat : Int
 gseed : Int
instance : Inhabited Tl01Source := ⟨⟨default, default, default⟩⟩
def encl01Source (LEN : {α : Type} -> List α -> Nat) (GD : {α : Type} -> [Inhabited α] -> List α -> Nat -> α) (x : Tl01Source) : Nat -> AC := fun j => match j with
 | 0 => .bs (LEN x.gcode) 1 (row GD (encI .u8) x.gcode)
 | 1 => wi x.gat
 | _ => wi x.gseed
theorem pl_encl01Source {LEN : {α : Type} -> List α -> Nat} {GD : {α : Type} -> [Inhabited α] -> List α -> Nat -> α} : ∀ (x : Tl01Source) (j : Nat), plainC (encl01Source LEN GD x j) = true := by
 intro x j
 unfold encl01Source
 split <;> rfl
def oncl01Source (LEN : {α : Type} -> List α -> Nat) (GD : {α : Type} -> [Inhabited α] -> List α -> Nat -> α) (x : Tl01Source) : Nat -> AC := fun j => match j with
 | 0 => .ow (LEN x.gcode) 1 (row GD (encI .u8) x.gcode)
 | 1 => wi x.gat
 | _ => wi x.gseed
theorem rf_oncl01Source {LEN : {α : Type} -> List α -> Nat} {GD : {α : Type} -> [Inhabited α] -> List α -> Nat -> α} : ∀ (x : Tl01Source) (j : Nat), (oncl01Source LEN GD x j).ref = [] := by
 intro x j
 unfold oncl01Source
 split <;> rfl
theorem ln_oncl01Source {LEN : {α : Type} -> List α -> Nat} {GD : {α : Type} -> [Inhabited α] -> List α -> Nat -> α} : ∀ (x : Tl01Source) (j : Nat), (oncl01Source LEN GD x j).lentIn = encl01Source LEN GD x j := by
 intro x j
 unfold oncl01Source encl01Source
 split <;> rfl
theorem fl_oncl01Source {LEN : {α : Type} -> List α -> Nat} {GD : {α : Type} -> [Inhabited α] -> List α -> Nat -> α} : ∀ (x : Tl01Source) (j : Nat), (oncl01Source LEN GD x j).flat := by
 intro x j
 unfold oncl01Source
 split <;> first | trivial | (exact fun i _ j _ => val_v (rfl))
abbrev cE (x : TE) : List AC := [wi x.fk, wi x.fc, wi x.fx, ws x.fN, wi x.fs_.fy, wi x.fs_.fb.fX0, wi x.fs_.fb.fY0, wi x.fs_.fb.fX1, wi x.fs_.fb.fY1, wi x.fl_.fy, wi x.fl_.fa.fX, wi x.fl_.fa.fY, ws x.fl_.fN, wi x.fi_.fc, wi x.fi_.fp.fo, wi x.fi_.fp.fX, wi x.fi_.fp.fY, wi x.fi_.fK, wi x.fi_.fR, wi x.fi_.fu, wi x.fi_.fv]
set_option maxHeartbeats 4000000
/-- laws.big -/
def Fq87 (a0 : List Int) : Option (Bool) :=
 some (std.lt 4096 (std.ofN (len a0)))
theorem runq87 (a0 : List Int) (r : Bool) (h : Fq87 a0 = some r) : Fun Tryz.prog 42 [.c (.bs (len a0) 1 (row gd (encI .u8) a0))] [] (.c (.v (.bool r))) [] true := by
 refine Fun.of_wp (oneOf []) tok mixed Tryz.func42 (by kernel_rfl) rfl Tryz.ntmps42 rfl trivial (fun _ => ⟨trivial, tv⟩) ?_
 unfold Fq87 at h
 generalize hLEN : @len = LEN, hGD : @gd = GD, hA : std = A, hP : Tryz.prog = P at *
 cbv
 injection h with h
 subst h
 refine ⟨(sp 6 [(2, .c (.v (.bool (A.lt 4096 (A.ofN (LEN a0))))))] []), ?_, ?_⟩
 ·exact lsp rfl zl1 trivial rfl
 ·exact ⟨lR _, trivial, rfl⟩

def Lq44_x3 (a0 : List Int) : (Int × Int) -> Option ((Int × Int) ⊕ ((Int))) := fun x3 =>
 letO x3.1 fun v1 =>
 letO x3.2 fun v2 =>
 ((
 br (std.lt v1 (std.ofN (len a0)))
 (some (std.lt v1 64))
 (some false)
 ) : Option (Bool)).bind fun y15 =>
 letO y15 fun w21 =>
 br w21
 (req (std.inR v1 (len a0)) <|
 req (std.nz 2147483647) <|
 some (.inl (std.add .i64 v1 1, std.rem (std.add .i64 (std.mul .i64 v2 31) (std.conv .i64 (gd a0 (std.toN v1)))) 2147483647)))
 (some (.inr v2))
/-- spec.l01From -/
def Fq44 (a0 : List Int) : Option (Tl01Source) :=
 (whileP (σ := Int × Int) (ρ := (Int)) (Lq44_x3 a0) (0, 12345)).bind fun y4 =>
 letO y4 fun y4k0 =>
 letO y4k0 fun w26 =>
 some (Tl01Source.mk a0 0 w26)
theorem runq44 (a0 : List Int) (r : Tl01Source) (h : Fq44 a0 = some r) : Fun Tryz.prog 87 [.c (.bs (len a0) 1 (row gd (encI .u8) a0))] [] (.c (.ptr 64000 0)) [(64000, .var [.bs (len r.gcode) 1 (row gd (encI .u8) r.gcode), wi r.gat, wi r.gseed])] false := by
 refine Fun.of_wp (oneOf [3]) tok mixed Tryz.func87 (by kernel_rfl) rfl Tryz.ntmps87 rfl trivial (fun h => by cases h) ?_
 unfold Fq44 at h
 unfold Lq44_x3 at h
 generalize hLEN : @len = LEN, hGD : @gd = GD, hA : std = A, hP : Tryz.prog = P at *
 cbv
 replace h := ob_ h
 obtain ⟨y4, hr5, hN6⟩ := h
 refine loop_cut hr5 (fun x => (sp 34 [(0, .c (.bs (LEN a0) 1 (row GD (encI .u8) a0))), (3, .c (.ptr 448 0)), (4, .c (wi x.1))] [(448, .var [.bs (LEN a0) 1 (row GD (encI .u8) a0), wi 0, wi x.2])])) ?_ (fun y e s => (fun (w : Int) => e = .exit 0 /\ s.le (sp 34 [(3, .c (.ptr 448 0))] [(448, .var [.bs (LEN a0) 1 (row GD (encI .u8) a0), wi 0, wi w])])) y) ?_ ?_
 ·clear hr5 hN6
  show St.le _ _
  exact lsp rfl zl3 ⟨rfl, tv⟩ rfl
 ·clear hr5 hN6
  intro x z10 h K8 hK9 hY7
  obtain ⟨x0_, x1_⟩ := x
  replace h := ol h
  obtain ⟨v1, hv1, h⟩ := h
  have hv1 : v1 = x0_ := hv1
  subst hv1
  replace h := ol h
  obtain ⟨v2, hv2, h⟩ := h
  have hv2 : v2 = x1_ := hv2
  subst hv2
  cbv
  replace h := ob_ h
  obtain ⟨y15, hy16, h⟩ := h
  obtain ⟨S19, hS20⟩ : ∃ S, S = (sp 34 [(0, .c (.bs (LEN a0) 1 (row GD (encI .u8) a0))), (3, .c (.ptr 448 0)), (4, .c (wi v1)), (15, .c (.v (.bool y15)))] [(448, .var [.bs (LEN a0) 1 (row GD (encI .u8) a0), wi 0, wi v2])]) := ⟨_, rfl⟩
  refine ⟨S19, ?_, ?_⟩
  ·clear h
   have h := hy16
   clear hy16
   cbv
   refine fork (fun b22 => ?_) (fun b22 => ?_)
   ·replace h := ot b22 h
    cbv
    injection h with h
    subst h
    subst hS20
    exact lsp rfl zl4 ⟨rfl, tv⟩ rfl
   ·replace h := og b22 h
    cbv
    injection h with h
    subst h
    subst hS20
    exact lsp rfl zl4 ⟨rfl, tv⟩ rfl
  ·clear hy16
   subst hS20
   replace h := ol h
   obtain ⟨w21, hw21, h⟩ := h
   have hw21 : w21 = y15 := hw21
   subst hw21
   cbv
   refine fork (fun b25 => ?_) (fun b25 => ?_)
   ·replace h := ot b25 h
    cbv
    replace h := oq_ h
    obtain ⟨c23, h⟩ := h
    refine ⟨⟨c23, tv⟩, ?_⟩
    replace h := oq_ h
    obtain ⟨c24, h⟩ := h
    refine ⟨c24, ?_⟩
    injection h with h
    refine hK9 _ h.symm _ ?_
    exact lsp rfl zl3 ⟨rfl, tv⟩ rfl
   ·replace h := og b25 h
    cbv
    injection h with h
    refine hY7 _ h.symm _ _ (And.intro rfl ?_) (by intro hh; cases hh)
    exact lsp rfl zl1 ⟨rfl, tv⟩ rfl
 ·clear hr5
  have h := hN6
  clear hN6
  intro e13 s14 q12 hne
  replace h := ol h
  obtain ⟨y4k0, hyk, h⟩ := h
  have hyk : y4k0 = y4 := hyk
  subst hyk
  obtain ⟨rfl, q12⟩ := q12
  replace h := ol h
  obtain ⟨w26, hw26, h⟩ := h
  have hw26 : w26 = y4k0 := hw26
  subst hw26
  cbv
  refine ⟨_, q12, ?_⟩
  cbv
  injection h with h
  subst h
  refine ⟨(sp 34 [(2, .c (.ptr 64000 0))] [(64000, .var [.bs (LEN a0) 1 (row GD (encI .u8) a0), wi 0, wi w26])]), ?_, ?_⟩
  ·refine St.le_trans (le_ren 448 64000 (by decide) rfl) ?_
   exact lsp rfl zl1 ⟨rfl, tv⟩ rfl
  ·exact ⟨lR _, ⟨rfl, tv⟩, rfl⟩

/-- spec.l01Next -/
def Fq0 (a0 : Tl01Source) (a1 : Int) : Option (Int × Tl01Source) :=
 br (std.le a1 1)
 (some ((0 : Int), a0))
 (br (std.lt a0.gat (std.ofN (len a0.gcode)))
 (req (std.inR a0.gat (len a0.gcode)) <|
 br (std.lt 256 a1)
 (req (std.nz 2147483647) <|
 req (std.nz a1) <|
 some (std.rem (std.rem (std.add .i64 (std.add .i64 (std.mul .i64 a0.gseed 48271) (std.conv .i64 (gd a0.gcode (std.toN a0.gat)))) 1) 2147483647) a1, (Tl01Source.mk a0.gcode (std.add .i64 a0.gat 1) (std.rem (std.add .i64 (std.add .i64 (std.mul .i64 a0.gseed 48271) (std.conv .i64 (gd a0.gcode (std.toN a0.gat)))) 1) 2147483647))))
 (req (std.nz a1) <|
 some (std.rem (std.conv .i64 (gd a0.gcode (std.toN a0.gat))) a1, (Tl01Source.mk a0.gcode (std.add .i64 a0.gat 1) a0.gseed))))
 (req (std.nz 2147483647) <|
 req (std.nz 7) <|
 req (std.nz a1) <|
 some (std.rem (std.quo .i64 (std.rem (std.add .i64 (std.mul .i64 a0.gseed 48271) 11) 2147483647) 7) a1, (Tl01Source.mk a0.gcode a0.gat (std.rem (std.add .i64 (std.mul .i64 a0.gseed 48271) 11) 2147483647)))))
theorem runq0 (a0 : Tl01Source) (a1 : Int) (r : Int × Tl01Source) (h : Fq0 a0 a1 = some r) : Fun Tryz.prog 89 [.c (.ptr 5 0), .c (wi a1)] [(5, .var [.bs (len a0.gcode) 1 (row gd (encI .u8) a0.gcode), wi a0.gat, wi a0.gseed])] (.c (wi r.1)) [(5, .var [.bs (len r.2.gcode) 1 (row gd (encI .u8) r.2.gcode), wi r.2.gat, wi r.2.gseed])] false := by
 refine Fun.of_wp (oneOf []) tok mixed Tryz.func89 (by kernel_rfl) rfl Tryz.ntmps89 rfl trivial (fun h => by cases h) ?_
 unfold Fq0 at h
 generalize hLEN : @len = LEN, hGD : @gd = GD, hA : std = A, hP : Tryz.prog = P at *
 cbv
 refine fork (fun b10 => ?_) (fun b10 => ?_)
 ·replace h := ot b10 h
  cbv
  injection h with h
  subst h
  refine ⟨(sp 76 [(4, .c (wi 0))] [(5, .var [.bs (LEN a0.gcode) 1 (row GD (encI .u8) a0.gcode), wi a0.gat, wi a0.gseed])]), ?_, ?_⟩
  ·exact lsp rfl zl1 ⟨rfl, tv⟩ rfl
  ·exact ⟨lR _, ⟨rfl, tv⟩, rfl⟩
 ·replace h := og b10 h
  cbv
  refine fork (fun b9 => ?_) (fun b9 => ?_)
  ·replace h := ot b9 h
   cbv
   replace h := oq_ h
   obtain ⟨c1, h⟩ := h
   refine ⟨⟨c1, tv⟩, ?_⟩
   refine fork (fun b5 => ?_) (fun b5 => ?_)
   ·replace h := ot b5 h
    cbv
    replace h := oq_ h
    obtain ⟨c2, h⟩ := h
    refine ⟨c2, ?_⟩
    replace h := oq_ h
    obtain ⟨c3, h⟩ := h
    refine ⟨c3, ?_⟩
    injection h with h
    subst h
    refine ⟨(sp 76 [(4, .c (wi (A.rem (A.rem (A.add .i64 (A.add .i64 (A.mul .i64 a0.gseed 48271) (A.conv .i64 (GD a0.gcode (A.toN a0.gat)))) 1) 2147483647) a1)))] [(5, .var [.bs (LEN a0.gcode) 1 (row GD (encI .u8) a0.gcode), wi (A.add .i64 a0.gat 1), wi (A.rem (A.add .i64 (A.add .i64 (A.mul .i64 a0.gseed 48271) (A.conv .i64 (GD a0.gcode (A.toN a0.gat)))) 1) 2147483647)])]), ?_, ?_⟩
    ·exact lsp rfl zl1 ⟨rfl, tv⟩ rfl
    ·exact ⟨lR _, ⟨rfl, tv⟩, rfl⟩
   ·replace h := og b5 h
    cbv
    replace h := oq_ h
    obtain ⟨c4, h⟩ := h
    refine ⟨c4, ?_⟩
    injection h with h
    subst h
    refine ⟨(sp 76 [(4, .c (wi (A.rem (A.conv .i64 (GD a0.gcode (A.toN a0.gat))) a1)))] [(5, .var [.bs (LEN a0.gcode) 1 (row GD (encI .u8) a0.gcode), wi (A.add .i64 a0.gat 1), wi a0.gseed])]), ?_, ?_⟩
    ·exact lsp rfl zl1 ⟨rfl, tv⟩ rfl
    ·exact ⟨lR _, ⟨rfl, tv⟩, rfl⟩
  ·replace h := og b9 h
   cbv
   replace h := oq_ h
   obtain ⟨c6, h⟩ := h
   refine ⟨c6, ?_⟩
   replace h := oq_ h
   obtain ⟨c7, h⟩ := h
   refine ⟨c7, ?_⟩
   replace h := oq_ h
   obtain ⟨c8, h⟩ := h
   refine ⟨c8, ?_⟩
   injection h with h
   subst h
   refine ⟨(sp 76 [(4, .c (wi (A.rem (A.quo .i64 (A.rem (A.add .i64 (A.mul .i64 a0.gseed 48271) 11) 2147483647) 7) a1)))] [(5, .var [.bs (LEN a0.gcode) 1 (row GD (encI .u8) a0.gcode), wi a0.gat, wi (A.rem (A.add .i64 (A.mul .i64 a0.gseed 48271) 11) 2147483647)])]), ?_, ?_⟩
   ·exact lsp rfl zl1 ⟨rfl, tv⟩ rfl
   ·exact ⟨lR _, ⟨rfl, tv⟩, rfl⟩

def Lq6_x10  : (Int × (List Int) × Int × Int × (List Int)) -> Option ((Int × (List Int) × Int × Int × (List Int)) ⊕ (((List Int) × (List Int) × Int × Int))) := fun x10 =>
 letO x10.1 fun v5 =>
 letO x10.2.1 fun v6 =>
 letO x10.2.2.1 fun v7 =>
 letO x10.2.2.2.1 fun v8 =>
 letO x10.2.2.2.2 fun v9 =>
 br (std.lt 0 v5)
 ((Fq0 (Tl01Source.mk v6 v7 v8) 10).bind fun y22 =>
 req (std.inR y22.1 (std.slen (ByteArray.mk #[97, 98, 99, 100, 120, 121, 122, 48, 49, 57]))) <|
 letO ([std.sat (ByteArray.mk #[97, 98, 99, 100, 120, 121, 122, 48, 49, 57]) (std.toN y22.1)] : List Int) fun l25 =>
 req (std.room (std.nadd (len v9) (len l25)) 1) <|
 letO (v9 ++ l25) fun l27 =>
 some (.inl (std.sub .i64 v5 1, y22.2.gcode, y22.2.gat, y22.2.gseed, l27)))
 (some (.inr (v9, v6, v7, v8)))
/-- spec.l09DrawName -/
def Fq6 (a0 : Tl01Source) : Option (ByteArray × Tl01Source) :=
 letO ([] : List Int) fun l1 =>
 (Fq0 a0 3).bind fun y3 =>
 (whileP (σ := Int × (List Int) × Int × Int × (List Int)) (ρ := ((List Int) × (List Int) × Int × Int)) Lq6_x10 (std.add .i64 1 y3.1, y3.2.gcode, y3.2.gat, y3.2.gseed, l1)).bind fun y11 =>
 letO y11 fun y11k0 =>
 letO y11k0.1 fun w31 =>
 letO y11k0.2.1 fun w32 =>
 letO y11k0.2.2.1 fun w33 =>
 letO y11k0.2.2.2 fun w34 =>
 some (std.ofBytes (len w31) (fun i => gd w31 (0 + i)), (Tl01Source.mk w32 w33 w34))
theorem runq6 (a0 : Tl01Source) (r : ByteArray × Tl01Source) (h : Fq6 a0 = some r) : Fun Tryz.prog 154 [.c (.ptr 5 0)] [(5, .var [.bs (len a0.gcode) 1 (row gd (encI .u8) a0.gcode), wi a0.gat, wi a0.gseed])] (.c (ws r.1)) [(5, .var [.bs (len r.2.gcode) 1 (row gd (encI .u8) r.2.gcode), wi r.2.gat, wi r.2.gseed])] false := by
 refine Fun.of_wp (oneOf []) tok mixed Tryz.func154 (by kernel_rfl) rfl Tryz.ntmps154 rfl trivial (fun h => by cases h) ?_
 unfold Fq6 at h
 unfold Lq6_x10 at h
 have hfq0 := @runq0
 generalize hLEN : @len = LEN, hGD : @gd = GD, hA : std = A, hP : Tryz.prog = P at *
 cbv
 replace h := ol h
 obtain ⟨l1, hl1, h⟩ := h
 have e2 : 0 = LEN l1 := by subst hl1 hLEN; rfl
 refine ⟨_, congrArg (fun n => AV.c (AC.os 320 0 n)) e2, _, row GD (encI .u8) l1, e2, wkOf ?_, ?_⟩
 ·intro i hi j hj
  rw [<- e2] at hi
  subst hl1
  subst hGD
  omega
 cbv
 replace h := ob_ h
 obtain ⟨y3, hy4, h⟩ := h
 refine ⟨⟨_, _, _, _, _, [(5, 5)], [(5, 5)]⟩, hfq0 _ _ _ hy4, ⟨zs2, ⟨rfl, tv⟩, rfl, rfl, rfl, rfl, ⟨fun _ => rfl, tv⟩, rfl⟩, ?_⟩
 cbv
 replace h := ob_ h
 obtain ⟨y11, hr12, hN13⟩ := h
 refine loop_cut hr12 (fun x => (sp 21 [(0, .c (.ptr 5 0)), (3, .c (.os 320 0 (LEN x.2.2.2.2))), (4, .c (wi x.1))] [(5, .var [.bs (LEN x.2.1) 1 (row GD (encI .u8) x.2.1), wi x.2.2.1, wi x.2.2.2.1]), (320, .arr .rw [] (LEN x.2.2.2.2) 1 (row GD (encI .u8) x.2.2.2.2))])) ?_ (fun y e s => (fun (w : (List Int) × (List Int) × Int × Int) => e = .exit 0 /\ s.le (sp 21 [(3, .c (.os 320 0 (LEN w.1)))] [(320, .arr .rw [] (LEN w.1) 1 (row GD (encI .u8) w.1)), (5, .var [.bs (LEN w.2.1) 1 (row GD (encI .u8) w.2.1), wi w.2.2.1, wi w.2.2.2])])) y) ?_ ?_
 ·clear hr12 hN13
  show St.le _ _
  exact lsp rfl zl3 ⟨rfl, oS, tv⟩ rfl
 ·clear hr12 hN13
  intro x z17 h K15 hK16 hY14
  obtain ⟨x0_, x1_, x2_, x3_, x4_⟩ := x
  replace h := ol h
  obtain ⟨v5, hv5, h⟩ := h
  have hv5 : v5 = x0_ := hv5
  subst hv5
  replace h := ol h
  obtain ⟨v6, hv6, h⟩ := h
  have hv6 : v6 = x1_ := hv6
  subst hv6
  replace h := ol h
  obtain ⟨v7, hv7, h⟩ := h
  have hv7 : v7 = x2_ := hv7
  subst hv7
  replace h := ol h
  obtain ⟨v8, hv8, h⟩ := h
  have hv8 : v8 = x3_ := hv8
  subst hv8
  replace h := ol h
  obtain ⟨v9, hv9, h⟩ := h
  have hv9 : v9 = x4_ := hv9
  subst hv9
  cbv
  refine fork (fun b30 => ?_) (fun b30 => ?_)
  ·replace h := ot b30 h
   cbv
   replace h := ob_ h
   obtain ⟨y22, hy23, h⟩ := h
   refine ⟨⟨_, _, _, _, _, [(5, 5)], [(5, 5)]⟩, hfq0 _ _ _ hy23, ⟨zs2, ⟨rfl, tv⟩, rfl, rfl, rfl, rfl, ⟨fun _ => rfl, tv⟩, rfl⟩, ?_⟩
   cbv
   replace h := oq_ h
   obtain ⟨c24, h⟩ := h
   refine ⟨c24, ?_⟩
   replace h := ol h
   obtain ⟨l25, hl25, h⟩ := h
   have e26 : 1 = LEN l25 := by subst hl25 hLEN; rfl
   refine ⟨_, congrArg (fun n => AV.c (AC.os 1088 0 n)) e26, _, row GD (encI .u8) l25, e26, wkOf ?_, ?_⟩
   ·intro i hi j hj
    rw [<- e26] at hi
    subst hl25
    subst hGD
    obtain rfl : i = 0 := (by omega)
    all_goals obtain rfl : j = 0 := by omega
    all_goals rfl
   cbv
   replace h := oq_ h
   obtain ⟨c29, h⟩ := h
   replace h := ol h
   obtain ⟨l27, hl27, h⟩ := h
   have e28 : A.nadd (LEN v9) (LEN l25) = LEN l27 := by subst hl27 hLEN hA; simp [std, len]
   refine ⟨c29, _, congrArg (fun n => AV.c (AC.os 320 0 n)) e28, _, row GD (encI .u8) l27, e28, wkOf ?_, ?_⟩
   ·subst hGD hLEN hA
    exact app_os (off := 0) (fun _ _ => rfl) hl27 (Nat.le_refl _)
   cbv
   injection h with h
   refine hK16 _ h.symm _ ?_
   exact lsp rfl zl3 ⟨rfl, oS, tv⟩ rfl
  ·replace h := og b30 h
   cbv
   injection h with h
   refine hY14 _ h.symm _ _ (And.intro rfl ?_) (by intro hh; cases hh)
   exact lsp rfl zl1 ⟨oS, rfl, tv⟩ rfl
 ·clear hr12
  have h := hN13
  clear hN13
  intro e20 s21 q19 hne
  replace h := ol h
  obtain ⟨y11k0, hyk, h⟩ := h
  have hyk : y11k0 = y11 := hyk
  subst hyk
  obtain ⟨rfl, q19⟩ := q19
  obtain ⟨y11k0_0, y11k0_1, y11k0_2, y11k0_3⟩ := y11k0
  replace h := ol h
  obtain ⟨w31, hw31, h⟩ := h
  have hw31 : w31 = y11k0_0 := hw31
  subst hw31
  replace h := ol h
  obtain ⟨w32, hw32, h⟩ := h
  have hw32 : w32 = y11k0_1 := hw32
  subst hw32
  replace h := ol h
  obtain ⟨w33, hw33, h⟩ := h
  have hw33 : w33 = y11k0_2 := hw33
  subst hw33
  replace h := ol h
  obtain ⟨w34, hw34, h⟩ := h
  have hw34 : w34 = y11k0_3 := hw34
  subst hw34
  cbv
  refine ⟨_, q19, ?_⟩
  cbv
  refine ⟨fun _ _ => rfl, ?_⟩
  injection h with h
  subst h
  refine ⟨(sp 21 [(2, .c (ws (A.ofBytes (LEN w31) (fun i => GD w31 (0 + i)))))] [(5, .var [.bs (LEN w32) 1 (row GD (encI .u8) w32), wi w33, wi w34])]), ?_, ?_⟩
  ·exact lsp rfl zl1 ⟨rfl, tv⟩ rfl
  ·exact ⟨lR _, ⟨rfl, tv⟩, rfl⟩

/-- spec.l09DrawBox -/
def Fq72 (a0 : Tl01Source) : Option (TRect × Tl01Source) :=
 (Fq0 a0 16).bind fun y1 =>
 (Fq0 y1.2 16).bind fun y3 =>
 (Fq0 y3.2 6).bind fun y5 =>
 (Fq0 y5.2 6).bind fun y7 =>
 some ((TRect.mk (std.sub .i64 y1.1 8) (std.sub .i64 y3.1 8) (std.add .i64 (std.add .i64 (std.sub .i64 y1.1 8) 1) y5.1) (std.add .i64 (std.add .i64 (std.sub .i64 y3.1 8) 1) y7.1)), y7.2)
theorem runq72 (a0 : Tl01Source) (r : TRect × Tl01Source) (h : Fq72 a0 = some r) : Fun Tryz.prog 233 [.c (.ptr 5 0)] [(5, .var [.bs (len a0.gcode) 1 (row gd (encI .u8) a0.gcode), wi a0.gat, wi a0.gseed])] (.agg [wi r.1.fX0, wi r.1.fY0, wi r.1.fX1, wi r.1.fY1]) [(5, .var [.bs (len r.2.gcode) 1 (row gd (encI .u8) r.2.gcode), wi r.2.gat, wi r.2.gseed])] false := by
 refine Fun.of_wp (oneOf []) tok mixed Tryz.func233 (by kernel_rfl) rfl Tryz.ntmps233 rfl trivial (fun h => by cases h) ?_
 unfold Fq72 at h
 have hfq0 := @runq0
 generalize hLEN : @len = LEN, hGD : @gd = GD, hA : std = A, hP : Tryz.prog = P at *
 cbv
 replace h := ob_ h
 obtain ⟨y1, hy2, h⟩ := h
 refine ⟨⟨_, _, _, _, _, [(5, 5)], [(5, 5)]⟩, hfq0 _ _ _ hy2, ⟨zs2, ⟨rfl, tv⟩, rfl, rfl, rfl, rfl, ⟨fun _ => rfl, tv⟩, rfl⟩, ?_⟩
 cbv
 replace h := ob_ h
 obtain ⟨y3, hy4, h⟩ := h
 refine ⟨⟨_, _, _, _, _, [(5, 5)], [(5, 5)]⟩, hfq0 _ _ _ hy4, ⟨zs2, ⟨rfl, tv⟩, rfl, rfl, rfl, rfl, ⟨fun _ => rfl, tv⟩, rfl⟩, ?_⟩
 cbv
 replace h := ob_ h
 obtain ⟨y5, hy6, h⟩ := h
 refine ⟨⟨_, _, _, _, _, [(5, 5)], [(5, 5)]⟩, hfq0 _ _ _ hy6, ⟨zs2, ⟨rfl, tv⟩, rfl, rfl, rfl, rfl, ⟨fun _ => rfl, tv⟩, rfl⟩, ?_⟩
 cbv
 replace h := ob_ h
 obtain ⟨y7, hy8, h⟩ := h
 refine ⟨⟨_, _, _, _, _, [(5, 5)], [(5, 5)]⟩, hfq0 _ _ _ hy8, ⟨zs2, ⟨rfl, tv⟩, rfl, rfl, rfl, rfl, ⟨fun _ => rfl, tv⟩, rfl⟩, ?_⟩
 cbv
 injection h with h
 subst h
 refine ⟨(sp 24 [(2, .c (.ptr 128 0))] [(128, .var [wi (A.sub .i64 y1.1 8), wi (A.sub .i64 y3.1 8), wi (A.add .i64 (A.add .i64 (A.sub .i64 y1.1 8) 1) y5.1), wi (A.add .i64 (A.add .i64 (A.sub .i64 y3.1 8) 1) y7.1)]), (5, .var [.bs (LEN y7.2.gcode) 1 (row GD (encI .u8) y7.2.gcode), wi y7.2.gat, wi y7.2.gseed])]), ?_, ?_⟩
 ·exact lsp rfl zl1 ⟨rfl, rfl, tv⟩ rfl
 ·exact ⟨lR _, ⟨rfl, tv⟩, rfl⟩

/-- spec.l09DrawShape -/
def Fq18 (a0 : Tl01Source) : Option (TS × Tl01Source) :=
 (Fq0 a0 8).bind fun y1 =>
 (Fq72 y1.2).bind fun y3 =>
 some ((TS.mk y1.1 y3.1), y3.2)
theorem runq18 (a0 : Tl01Source) (r : TS × Tl01Source) (h : Fq18 a0 = some r) : Fun Tryz.prog 155 [.c (.ptr 5 0)] [(5, .var [.bs (len a0.gcode) 1 (row gd (encI .u8) a0.gcode), wi a0.gat, wi a0.gseed])] (.agg [wi r.1.fy, wi r.1.fb.fX0, wi r.1.fb.fY0, wi r.1.fb.fX1, wi r.1.fb.fY1]) [(5, .var [.bs (len r.2.gcode) 1 (row gd (encI .u8) r.2.gcode), wi r.2.gat, wi r.2.gseed])] false := by
 refine Fun.of_wp (oneOf []) tok mixed Tryz.func155 (by kernel_rfl) rfl Tryz.ntmps155 rfl trivial (fun h => by cases h) ?_
 unfold Fq18 at h
 have hfq0 := @runq0
 have hfq72 := @runq72
 generalize hLEN : @len = LEN, hGD : @gd = GD, hA : std = A, hP : Tryz.prog = P at *
 cbv
 replace h := ob_ h
 obtain ⟨y1, hy2, h⟩ := h
 refine ⟨⟨_, _, _, _, _, [(5, 5)], [(5, 5)]⟩, hfq0 _ _ _ hy2, ⟨zs2, ⟨rfl, tv⟩, rfl, rfl, rfl, rfl, ⟨fun _ => rfl, tv⟩, rfl⟩, ?_⟩
 cbv
 replace h := ob_ h
 obtain ⟨y3, hy4, h⟩ := h
 refine ⟨⟨_, _, _, _, _, [(5, 5)], [(5, 5)]⟩, hfq72 _ _ hy4, ⟨zs1, ⟨rfl, tv⟩, rfl, rfl, rfl, rfl, ⟨fun _ => rfl, tv⟩, rfl⟩, ?_⟩
 cbv
 injection h with h
 subst h
 refine ⟨(sp 8 [(2, .c (.ptr 128 0))] [(128, .var [wi y1.1, wi y3.1.fX0, wi y3.1.fY0, wi y3.1.fX1, wi y3.1.fY1]), (5, .var [.bs (LEN y3.2.gcode) 1 (row GD (encI .u8) y3.2.gcode), wi y3.2.gat, wi y3.2.gseed])]), ?_, ?_⟩
 ·exact lsp rfl zl1 ⟨rfl, rfl, tv⟩ rfl
 ·exact ⟨lR _, ⟨rfl, tv⟩, rfl⟩
set_option maxHeartbeats 4000000
/-- spec.l09DrawLabel -/
def Fq37 (a0 : Tl01Source) : Option (TB × Tl01Source) :=
 (Fq0 a0 8).bind fun y1 =>
 (Fq0 y1.2 16).bind fun y3 =>
 (Fq0 y3.2 16).bind fun y5 =>
 (Fq6 y5.2).bind fun y7 =>
 some ((TB.mk y1.1 (TPoint.mk (std.sub .i64 y3.1 8) (std.sub .i64 y5.1 8)) y7.1), y7.2)
theorem runq37 (a0 : Tl01Source) (r : TB × Tl01Source) (h : Fq37 a0 = some r) : Fun Tryz.prog 156 [.c (.ptr 5 0)] [(5, .var [.bs (len a0.gcode) 1 (row gd (encI .u8) a0.gcode), wi a0.gat, wi a0.gseed])] (.agg [wi r.1.fy, wi r.1.fa.fX, wi r.1.fa.fY, ws r.1.fN]) [(5, .var [.bs (len r.2.gcode) 1 (row gd (encI .u8) r.2.gcode), wi r.2.gat, wi r.2.gseed])] false := by
 refine Fun.of_wp (oneOf []) tok mixed Tryz.func156 (by kernel_rfl) rfl Tryz.ntmps156 rfl trivial (fun h => by cases h) ?_
 unfold Fq37 at h
 have hfq0 := @runq0
 have hfq6 := @runq6
 generalize hLEN : @len = LEN, hGD : @gd = GD, hA : std = A, hP : Tryz.prog = P at *
 cbv
 replace h := ob_ h
 obtain ⟨y1, hy2, h⟩ := h
 refine ⟨⟨_, _, _, _, _, [(5, 5)], [(5, 5)]⟩, hfq0 _ _ _ hy2, ⟨zs2, ⟨rfl, tv⟩, rfl, rfl, rfl, rfl, ⟨fun _ => rfl, tv⟩, rfl⟩, ?_⟩
 cbv
 replace h := ob_ h
 obtain ⟨y3, hy4, h⟩ := h
 refine ⟨⟨_, _, _, _, _, [(5, 5)], [(5, 5)]⟩, hfq0 _ _ _ hy4, ⟨zs2, ⟨rfl, tv⟩, rfl, rfl, rfl, rfl, ⟨fun _ => rfl, tv⟩, rfl⟩, ?_⟩
 cbv
 replace h := ob_ h
 obtain ⟨y5, hy6, h⟩ := h
 refine ⟨⟨_, _, _, _, _, [(5, 5)], [(5, 5)]⟩, hfq0 _ _ _ hy6, ⟨zs2, ⟨rfl, tv⟩, rfl, rfl, rfl, rfl, ⟨fun _ => rfl, tv⟩, rfl⟩, ?_⟩
 cbv
 replace h := ob_ h
 obtain ⟨y7, hy8, h⟩ := h
 refine ⟨⟨_, _, _, _, _, [(5, 5)], [(5, 5)]⟩, hfq6 _ _ hy8, ⟨zs1, ⟨rfl, tv⟩, rfl, rfl, rfl, rfl, ⟨fun _ => rfl, tv⟩, rfl⟩, ?_⟩
 cbv
 injection h with h
 subst h
 refine ⟨(sp 15 [(2, .c (.ptr 128 0))] [(128, .var [wi y1.1, wi (A.sub .i64 y3.1 8), wi (A.sub .i64 y5.1 8), ws y7.1]), (5, .var [.bs (LEN y7.2.gcode) 1 (row GD (encI .u8) y7.2.gcode), wi y7.2.gat, wi y7.2.gseed])]), ?_, ?_⟩
 ·exact lsp rfl zl1 ⟨rfl, rfl, tv⟩ rfl
 ·exact ⟨lR _, ⟨rfl, tv⟩, rfl⟩

/-- spec.l09DrawInstance -/
def Fq19 (a0 : Tl01Source) (a1 : Int) : Option (TI × Tl01Source) :=
 (Fq0 a0 a1).bind fun y1 =>
 (Fq0 y1.2 8).bind fun y3 =>
 (Fq0 y3.2 24).bind fun y5 =>
 (Fq0 y5.2 24).bind fun y7 =>
 (Fq0 y7.2 3).bind fun y9 =>
 ((
 br (std.eq y9.1 0)
 ((Fq0 y9.2 2).bind fun y22 =>
 (Fq0 y22.2 15).bind fun y24 =>
 some (y24.2.gcode, y24.2.gat, y24.2.gseed, std.add .i64 2 y22.1, std.sub .i64 y24.1 7))
 (some (y9.2.gcode, y9.2.gat, y9.2.gseed, 1, 0))
 ) : Option ((List Int) × Int × Int × Int × Int)).bind fun y11 =>
 letO y11.1 fun w17 =>
 letO y11.2.1 fun w18 =>
 letO y11.2.2.1 fun w19 =>
 letO y11.2.2.2.1 fun w20 =>
 letO y11.2.2.2.2 fun w21 =>
 (Fq0 (Tl01Source.mk w17 w18 w19) 4).bind fun y27 =>
 ((
 br (std.eq y27.1 0)
 ((Fq0 y27.2 15).bind fun y40 =>
 some (y40.2.gcode, y40.2.gat, y40.2.gseed, 2, std.sub .i64 y40.1 7))
 (some (y27.2.gcode, y27.2.gat, y27.2.gseed, 1, 0))
 ) : Option ((List Int) × Int × Int × Int × Int)).bind fun y29 =>
 letO y29.1 fun w35 =>
 letO y29.2.1 fun w36 =>
 letO y29.2.2.1 fun w37 =>
 letO y29.2.2.2.1 fun w38 =>
 letO y29.2.2.2.2 fun w39 =>
 (Fq0 (Tl01Source.mk w35 w36 w37) 24).bind fun y43 =>
 ((
 br (std.eq y43.1 0)
 (some (std.mul .i64 (std.sub .i64 y5.1 12) 6))
 (some (std.sub .i64 y5.1 12))
 ) : Option (Int)).bind fun y45 =>
 letO y45 fun w51 =>
 some ((TI.mk y1.1 (TM.mk y3.1 w51 (std.sub .i64 y7.1 12)) w20 w38 w21 w39), y43.2)
theorem runq19 (a0 : Tl01Source) (a1 : Int) (r : TI × Tl01Source) (h : Fq19 a0 a1 = some r) : Fun Tryz.prog 157 [.c (.ptr 5 0), .c (wi a1)] [(5, .var [.bs (len a0.gcode) 1 (row gd (encI .u8) a0.gcode), wi a0.gat, wi a0.gseed])] (.agg [wi r.1.fc, wi r.1.fp.fo, wi r.1.fp.fX, wi r.1.fp.fY, wi r.1.fK, wi r.1.fR, wi r.1.fu, wi r.1.fv]) [(5, .var [.bs (len r.2.gcode) 1 (row gd (encI .u8) r.2.gcode), wi r.2.gat, wi r.2.gseed])] false := by
 refine Fun.of_wp (oneOf [100021, 100032, 100040]) tok mixed Tryz.func157 (by kernel_rfl) rfl Tryz.ntmps157 rfl trivial (fun h => by cases h) ?_
 unfold Fq19 at h
 have hfq0 := @runq0
 generalize hLEN : @len = LEN, hGD : @gd = GD, hA : std = A, hP : Tryz.prog = P at *
 cbv
 replace h := ob_ h
 obtain ⟨y1, hy2, h⟩ := h
 refine ⟨⟨_, _, _, _, _, [(5, 5)], [(5, 5)]⟩, hfq0 _ _ _ hy2, ⟨zs2, ⟨rfl, tv⟩, rfl, rfl, rfl, rfl, ⟨fun _ => rfl, tv⟩, rfl⟩, ?_⟩
 cbv
 replace h := ob_ h
 obtain ⟨y3, hy4, h⟩ := h
 refine ⟨⟨_, _, _, _, _, [(5, 5)], [(5, 5)]⟩, hfq0 _ _ _ hy4, ⟨zs2, ⟨rfl, tv⟩, rfl, rfl, rfl, rfl, ⟨fun _ => rfl, tv⟩, rfl⟩, ?_⟩
 cbv
 replace h := ob_ h
 obtain ⟨y5, hy6, h⟩ := h
 refine ⟨⟨_, _, _, _, _, [(5, 5)], [(5, 5)]⟩, hfq0 _ _ _ hy6, ⟨zs2, ⟨rfl, tv⟩, rfl, rfl, rfl, rfl, ⟨fun _ => rfl, tv⟩, rfl⟩, ?_⟩
 cbv
 replace h := ob_ h
 obtain ⟨y7, hy8, h⟩ := h
 refine ⟨⟨_, _, _, _, _, [(5, 5)], [(5, 5)]⟩, hfq0 _ _ _ hy8, ⟨zs2, ⟨rfl, tv⟩, rfl, rfl, rfl, rfl, ⟨fun _ => rfl, tv⟩, rfl⟩, ?_⟩
 cbv
 replace h := ob_ h
 obtain ⟨y9, hy10, h⟩ := h
 refine ⟨⟨_, _, _, _, _, [(5, 5)], [(5, 5)]⟩, hfq0 _ _ _ hy10, ⟨zs2, ⟨rfl, tv⟩, rfl, rfl, rfl, rfl, ⟨fun _ => rfl, tv⟩, rfl⟩, ?_⟩
 cbv
 replace h := ob_ h
 obtain ⟨y11, hy12, h⟩ := h
 obtain ⟨S15, hS16⟩ : ∃ S, S = some (sp 48 [(0, .c (.ptr 5 0)), (4, .c (.ptr 256 0)), (5, .c (.ptr 320 0))] [(5, .var [.bs (LEN y11.1) 1 (row GD (encI .u8) y11.1), wi y11.2.1, wi y11.2.2.1]), (256, .var [wi 0, wi 0, wi 0, wi 0, wi 0, wi 0, wi 0, wi 0]), (320, .var [wi y1.1, wi y3.1, wi (A.sub .i64 y5.1 12), wi (A.sub .i64 y7.1 12), wi y11.2.2.2.1, wi 1, wi y11.2.2.2.2, wi 0])]) := ⟨_, rfl⟩
 refine ⟨S15, ?_, ?_⟩
 ·clear h
  have h := hy12
  clear hy12
  cbv
  refine fork (fun b26 => ?_) (fun b26 => ?_)
  ·replace h := ot b26 h
   cbv
   replace h := ob_ h
   obtain ⟨y22, hy23, h⟩ := h
   refine ⟨⟨_, _, _, _, _, [(5, 5)], [(5, 5)]⟩, hfq0 _ _ _ hy23, ⟨zs2, ⟨rfl, tv⟩, rfl, rfl, rfl, rfl, ⟨fun _ => rfl, tv⟩, rfl⟩, ?_⟩
   cbv
   replace h := ob_ h
   obtain ⟨y24, hy25, h⟩ := h
   refine ⟨⟨_, _, _, _, _, [(5, 5)], [(5, 5)]⟩, hfq0 _ _ _ hy25, ⟨zs2, ⟨rfl, tv⟩, rfl, rfl, rfl, rfl, ⟨fun _ => rfl, tv⟩, rfl⟩, ?_⟩
   cbv
   injection h with h
   subst h
   subst hS16
   exact lsp rfl zl3 ⟨rfl, rfl, rfl, tv⟩ rfl
  ·replace h := og b26 h
   cbv
   injection h with h
   subst h
   subst hS16
   exact lsp rfl zl3 ⟨rfl, rfl, rfl, tv⟩ rfl
 ·clear hy12
  subst hS16
  obtain ⟨y11_0, y11_1, y11_2, y11_3, y11_4⟩ := y11
  replace h := ol h
  obtain ⟨w17, hw17, h⟩ := h
  have hw17 : w17 = y11_0 := hw17
  subst hw17
  replace h := ol h
  obtain ⟨w18, hw18, h⟩ := h
  have hw18 : w18 = y11_1 := hw18
  subst hw18
  replace h := ol h
  obtain ⟨w19, hw19, h⟩ := h
  have hw19 : w19 = y11_2 := hw19
  subst hw19
  replace h := ol h
  obtain ⟨w20, hw20, h⟩ := h
  have hw20 : w20 = y11_3 := hw20
  subst hw20
  replace h := ol h
  obtain ⟨w21, hw21, h⟩ := h
  have hw21 : w21 = y11_4 := hw21
  subst hw21
  cbv
  replace h := ob_ h
  obtain ⟨y27, hy28, h⟩ := h
  refine ⟨⟨_, _, _, _, _, [(5, 5)], [(5, 5)]⟩, hfq0 _ _ _ hy28, ⟨zs2, ⟨rfl, tv⟩, rfl, rfl, rfl, rfl, ⟨fun _ => rfl, tv⟩, rfl⟩, ?_⟩
  cbv
  replace h := ob_ h
  obtain ⟨y29, hy30, h⟩ := h
  obtain ⟨S33, hS34⟩ : ∃ S, S = some (sp 48 [(0, .c (.ptr 5 0)), (4, .c (.ptr 256 0)), (5, .c (.ptr 320 0))] [(5, .var [.bs (LEN y29.1) 1 (row GD (encI .u8) y29.1), wi y29.2.1, wi y29.2.2.1]), (256, .var [wi 0, wi 0, wi 0, wi 0, wi 0, wi 0, wi 0, wi 0]), (320, .var [wi y1.1, wi y3.1, wi (A.sub .i64 y5.1 12), wi (A.sub .i64 y7.1 12), wi w20, wi y29.2.2.2.1, wi w21, wi y29.2.2.2.2])]) := ⟨_, rfl⟩
  refine ⟨S33, ?_, ?_⟩
  ·clear h
   have h := hy30
   clear hy30
   cbv
   refine fork (fun b42 => ?_) (fun b42 => ?_)
   ·replace h := ot b42 h
    cbv
    replace h := ob_ h
    obtain ⟨y40, hy41, h⟩ := h
    refine ⟨⟨_, _, _, _, _, [(5, 5)], [(5, 5)]⟩, hfq0 _ _ _ hy41, ⟨zs2, ⟨rfl, tv⟩, rfl, rfl, rfl, rfl, ⟨fun _ => rfl, tv⟩, rfl⟩, ?_⟩
    cbv
    injection h with h
    subst h
    subst hS34
    exact lsp rfl zl3 ⟨rfl, rfl, rfl, tv⟩ rfl
   ·replace h := og b42 h
    cbv
    injection h with h
    subst h
    subst hS34
    exact lsp rfl zl3 ⟨rfl, rfl, rfl, tv⟩ rfl
  ·clear hy30
   subst hS34
   obtain ⟨y29_0, y29_1, y29_2, y29_3, y29_4⟩ := y29
   replace h := ol h
   obtain ⟨w35, hw35, h⟩ := h
   have hw35 : w35 = y29_0 := hw35
   subst hw35
   replace h := ol h
   obtain ⟨w36, hw36, h⟩ := h
   have hw36 : w36 = y29_1 := hw36
   subst hw36
   replace h := ol h
   obtain ⟨w37, hw37, h⟩ := h
   have hw37 : w37 = y29_2 := hw37
   subst hw37
   replace h := ol h
   obtain ⟨w38, hw38, h⟩ := h
   have hw38 : w38 = y29_3 := hw38
   subst hw38
   replace h := ol h
   obtain ⟨w39, hw39, h⟩ := h
   have hw39 : w39 = y29_4 := hw39
   subst hw39
   cbv
   replace h := ob_ h
   obtain ⟨y43, hy44, h⟩ := h
   refine ⟨⟨_, _, _, _, _, [(5, 5)], [(5, 5)]⟩, hfq0 _ _ _ hy44, ⟨zs2, ⟨rfl, tv⟩, rfl, rfl, rfl, rfl, ⟨fun _ => rfl, tv⟩, rfl⟩, ?_⟩
   cbv
   replace h := ob_ h
   obtain ⟨y45, hy46, h⟩ := h
   obtain ⟨S49, hS50⟩ : ∃ S, S = some (sp 48 [(4, .c (.ptr 256 0)), (5, .c (.ptr 320 0))] [(256, .var [wi 0, wi 0, wi 0, wi 0, wi 0, wi 0, wi 0, wi 0]), (320, .var [wi y1.1, wi y3.1, wi y45, wi (A.sub .i64 y7.1 12), wi w20, wi w38, wi w21, wi w39]), (5, .var [.bs (LEN y43.2.gcode) 1 (row GD (encI .u8) y43.2.gcode), wi y43.2.gat, wi y43.2.gseed])]) := ⟨_, rfl⟩
   refine ⟨S49, ?_, ?_⟩
   ·clear h
    have h := hy46
    clear hy46
    cbv
    refine fork (fun b52 => ?_) (fun b52 => ?_)
    ·replace h := ot b52 h
     cbv
     injection h with h
     subst h
     subst hS50
     exact lsp rfl zl2 ⟨rfl, rfl, rfl, tv⟩ rfl
    ·replace h := og b52 h
     cbv
     injection h with h
     subst h
     subst hS50
     exact lsp rfl zl2 ⟨rfl, rfl, rfl, tv⟩ rfl
   ·clear hy46
    subst hS50
    replace h := ol h
    obtain ⟨w51, hw51, h⟩ := h
    have hw51 : w51 = y45 := hw51
    subst hw51
    cbv
    injection h with h
    subst h
    refine ⟨(sp 48 [(4, .c (.ptr 256 0))] [(256, .var [wi y1.1, wi y3.1, wi w51, wi (A.sub .i64 y7.1 12), wi w20, wi w38, wi w21, wi w39]), (5, .var [.bs (LEN y43.2.gcode) 1 (row GD (encI .u8) y43.2.gcode), wi y43.2.gat, wi y43.2.gseed])]), ?_, ?_⟩
    ·exact lsp rfl zl1 ⟨rfl, rfl, tv⟩ rfl
    ·exact ⟨lR _, ⟨rfl, tv⟩, rfl⟩

def Lq4_x94 (v3 : Int) : (Int × (List Int) × Int × Int × (List TI)) -> Option ((Int × (List Int) × Int × Int × (List TI)) ⊕ (((List Int) × Int × Int × (List TI)))) := fun x94 =>
 letO x94.1 fun v89 =>
 letO x94.2.1 fun v90 =>
 letO x94.2.2.1 fun v91 =>
 letO x94.2.2.2.1 fun v92 =>
 letO x94.2.2.2.2 fun v93 =>
 ((
 br (std.lt 0 v89)
 (some (std.lt 0 v3))
 (some false)
 ) : Option (Bool)).bind fun y106 =>
 letO y106 fun w112 =>
 br w112
 ((Fq19 (Tl01Source.mk v90 v91 v92) v3).bind fun y114 =>
 letO ([y114.1] : List TI) fun l116 =>
 req (std.room (std.nadd (len v93) (len l116)) 64) <|
 letO (v93 ++ l116) fun l118 =>
 some (.inl (std.sub .i64 v89 1, y114.2.gcode, y114.2.gat, y114.2.gseed, l118)))
 (some (.inr (v90, v91, v92, v93)))
def Lq4_x63  : (Int × (List Int) × Int × Int × (List TB)) -> Option ((Int × (List Int) × Int × Int × (List TB)) ⊕ (((List Int) × Int × Int × (List TB)))) := fun x63 =>
 letO x63.1 fun v58 =>
 letO x63.2.1 fun v59 =>
 letO x63.2.2.1 fun v60 =>
 letO x63.2.2.2.1 fun v61 =>
 letO x63.2.2.2.2 fun v62 =>
 br (std.lt 0 v58)
 ((Fq37 (Tl01Source.mk v59 v60 v61)).bind fun y75 =>
 letO ([y75.1] : List TB) fun l77 =>
 req (std.room (std.nadd (len v62) (len l77)) 40) <|
 letO (v62 ++ l77) fun l79 =>
 some (.inl (std.sub .i64 v58 1, y75.2.gcode, y75.2.gat, y75.2.gseed, l79)))
 (some (.inr (v59, v60, v61, v62)))
def Lq4_x32  : (Int × (List Int) × Int × Int × (List TS)) -> Option ((Int × (List Int) × Int × Int × (List TS)) ⊕ (((List Int) × Int × Int × (List TS)))) := fun x32 =>
 letO x32.1 fun v27 =>
 letO x32.2.1 fun v28 =>
 letO x32.2.2.1 fun v29 =>
 letO x32.2.2.2.1 fun v30 =>
 letO x32.2.2.2.2 fun v31 =>
 br (std.lt 0 v27)
 ((Fq18 (Tl01Source.mk v28 v29 v30)).bind fun y44 =>
 letO ([y44.1] : List TS) fun l46 =>
 req (std.room (std.nadd (len v31) (len l46)) 40) <|
 letO (v31 ++ l46) fun l48 =>
 some (.inl (std.sub .i64 v27 1, y44.2.gcode, y44.2.gat, y44.2.gseed, l48)))
 (some (.inr (v28, v29, v30, v31)))
def Lq4_x8 (y1 : Int × Tl01Source) : (Int × (List Int) × Int × Int × (List TC)) -> Option ((Int × (List Int) × Int × Int × (List TC)) ⊕ (((List Int) × Int × Int × (List TC)))) := fun x8 =>
 letO x8.1 fun v3 =>
 letO x8.2.1 fun v4 =>
 letO x8.2.2.1 fun v5 =>
 letO x8.2.2.2.1 fun v6 =>
 letO x8.2.2.2.2 fun v7 =>
 br (std.lt v3 (std.add .i64 1 y1.1))
 (letO ([std.conv .u8 (std.add .i64 97 v3)] : List Int) fun l20 =>
 (Fq6 (Tl01Source.mk v4 v5 v6)).bind fun y22 =>
 req (std.room (std.nadd (std.slen (std.ofBytes (len l20) (fun i => gd l20 (0 + i)))) (std.slen y22.1)) 1) <|
 (Fq0 y22.2 4).bind fun y25 =>
 (whileP (σ := Int × (List Int) × Int × Int × (List TS)) (ρ := ((List Int) × Int × Int × (List TS))) Lq4_x32 (y25.1, y25.2.gcode, y25.2.gat, y25.2.gseed, ([] : List TS))).bind fun y33 =>
 letO y33 fun y33k0 =>
 letO y33k0.1 fun w52 =>
 letO y33k0.2.1 fun w53 =>
 letO y33k0.2.2.1 fun w54 =>
 letO y33k0.2.2.2 fun w55 =>
 (Fq0 (Tl01Source.mk w52 w53 w54) 3).bind fun y56 =>
 (whileP (σ := Int × (List Int) × Int × Int × (List TB)) (ρ := ((List Int) × Int × Int × (List TB))) Lq4_x63 (y56.1, y56.2.gcode, y56.2.gat, y56.2.gseed, ([] : List TB))).bind fun y64 =>
 letO y64 fun y64k0 =>
 letO y64k0.1 fun w83 =>
 letO y64k0.2.1 fun w84 =>
 letO y64k0.2.2.1 fun w85 =>
 letO y64k0.2.2.2 fun w86 =>
 (Fq0 (Tl01Source.mk w83 w84 w85) 3).bind fun y87 =>
 (whileP (σ := Int × (List Int) × Int × Int × (List TI)) (ρ := ((List Int) × Int × Int × (List TI))) (Lq4_x94 v3) (y87.1, y87.2.gcode, y87.2.gat, y87.2.gseed, ([] : List TI))).bind fun y95 =>
 letO y95 fun y95k0 =>
 letO y95k0.1 fun w122 =>
 letO y95k0.2.1 fun w123 =>
 letO y95k0.2.2.1 fun w124 =>
 letO y95k0.2.2.2 fun w125 =>
 ((
 letO ([(TC.mk (std.scat (std.ofBytes (len l20) (fun i => gd l20 (0 + i))) y22.1) w55 w86 w125)] : List TC) fun l133 =>
 req (std.room (std.nadd (len v7) (len l133)) 88) <|
 letO (v7 ++ l133) fun l135 =>
 some l135
 ) : Option ((List TC))).bind fun y126 =>
 letO y126 fun w132 =>
 some (.inl (std.add .i64 v3 1, w122, w123, w124, w132)))
 (some (.inr (v4, v5, v6, v7)))
/-- spec.l09DrawLibrary -/
def Fq4 (a0 : Tl01Source) : Option (TL × Tl01Source) :=
 (Fq0 a0 4).bind fun y1 =>
 (whileP (σ := Int × (List Int) × Int × Int × (List TC)) (ρ := ((List Int) × Int × Int × (List TC))) (Lq4_x8 y1) (0, y1.2.gcode, y1.2.gat, y1.2.gseed, ([] : List TC))).bind fun y9 =>
 letO y9 fun y9k0 =>
 letO y9k0.1 fun w139 =>
 letO y9k0.2.1 fun w140 =>
 letO y9k0.2.2.1 fun w141 =>
 letO y9k0.2.2.2 fun w142 =>
 some ((TL.mk w142), (Tl01Source.mk w139 w140 w141))
theorem runq4 (a0 : Tl01Source) (r : TL × Tl01Source) (h : Fq4 a0 = some r) : Fun Tryz.prog 88 [.c (.ptr 5 0)] [(5, .var [.bs (len a0.gcode) 1 (row gd (encI .u8) a0.gcode), wi a0.gat, wi a0.gseed])] (.agg [.os 64000 0 (len r.1.fC)]) [(64000, .arr .rw [] (len r.1.fC) 4 (row gd (oC len gd) r.1.fC)), (5, .var [.bs (len r.2.gcode) 1 (row gd (encI .u8) r.2.gcode), wi r.2.gat, wi r.2.gseed])] false := by
 refine Fun.of_wp (oneOf [16, 19]) tok mixed Tryz.func88 (by kernel_rfl) rfl Tryz.ntmps88 rfl trivial (fun h => by cases h) ?_
 unfold Fq4 at h
 unfold Lq4_x8 at h
 unfold Lq4_x32 at h
 unfold Lq4_x63 at h
 unfold Lq4_x94 at h
 have hfq0 := @runq0
 have hfq19 := @runq19
 have hfq37 := @runq37
 have hfq6 := @runq6
 have hfq18 := @runq18
 generalize hLEN : @len = LEN, hGD : @gd = GD, hA : std = A, hP : Tryz.prog = P at *
 cbv
 replace h := ob_ h
 obtain ⟨y1, hy2, h⟩ := h
 refine ⟨⟨_, _, _, _, _, [(5, 5)], [(5, 5)]⟩, hfq0 _ _ _ hy2, ⟨zs2, ⟨rfl, tv⟩, rfl, rfl, rfl, rfl, ⟨fun _ => rfl, tv⟩, rfl⟩, ?_⟩
 cbv
 replace h := ob_ h
 obtain ⟨y9, hr10, hN11⟩ := h
 refine loop_cut hr10 (fun x => (sp 79 [(0, .c (.ptr 5 0)), (2, .c (.ptr 128 0)), (3, .c (.ptr 192 0)), (4, .c (wi (A.add .i64 1 y1.1))), (5, .c (wi x.1))] [(5, .var [.bs (LEN x.2.1) 1 (row GD (encI .u8) x.2.1), wi x.2.2.1, wi x.2.2.2.1]), (128, .var [.v (.slice none 0 0)]), (192, .var [.os 4864 0 (LEN x.2.2.2.2)]), (4864, .arr .rw [] (LEN x.2.2.2.2) 4 (row GD (oC LEN GD) x.2.2.2.2))])) ?_ (fun y e s => (fun (w : (List Int) × Int × Int × (List TC)) => e = .exit 0 /\ s.le (sp 79 [(2, .c (.ptr 128 0)), (3, .c (.ptr 192 0))] [(128, .var [.v (.slice none 0 0)]), (192, .var [.os 4864 0 (LEN w.2.2.2)]), (5, .var [.bs (LEN w.1) 1 (row GD (encI .u8) w.1), wi w.2.1, wi w.2.2.1]), (4864, .arr .rw [] (LEN w.2.2.2) 4 (row GD (oC LEN GD) w.2.2.2))])) y) ?_ ?_
 ·clear hr10 hN11
  show St.le _ _
  refine St.le_trans (le_nilV 192 0 4864 4 (row GD (oC LEN GD) ([] : List TC)) (by decide) (by decide) rfl rfl) ?_
  subst hLEN
  exact lsp rfl zl5 ⟨rfl, rfl, rfl, oS, tv⟩ rfl
 ·clear hr10 hN11
  intro x z15 h K13 hK14 hY12
  obtain ⟨x0_, x1_, x2_, x3_, x4_⟩ := x
  replace h := ol h
  obtain ⟨v3, hv3, h⟩ := h
  have hv3 : v3 = x0_ := hv3
  subst hv3
  replace h := ol h
  obtain ⟨v4, hv4, h⟩ := h
  have hv4 : v4 = x1_ := hv4
  subst hv4
  replace h := ol h
  obtain ⟨v5, hv5, h⟩ := h
  have hv5 : v5 = x2_ := hv5
  subst hv5
  replace h := ol h
  obtain ⟨v6, hv6, h⟩ := h
  have hv6 : v6 = x3_ := hv6
  subst hv6
  replace h := ol h
  obtain ⟨v7, hv7, h⟩ := h
  have hv7 : v7 = x4_ := hv7
  subst hv7
  cbv
  refine fork (fun b138 => ?_) (fun b138 => ?_)
  ·replace h := ot b138 h
   cbv
   replace h := ol h
   obtain ⟨l20, hl20, h⟩ := h
   have e21 : 1 = LEN l20 := by subst hl20 hLEN; rfl
   refine ⟨_, congrArg (fun n => AV.c (AC.os 1408 0 n)) e21, _, row GD (encI .u8) l20, e21, wkOf ?_, ?_⟩
   ·intro i hi j hj
    rw [<- e21] at hi
    subst hl20
    subst hGD
    obtain rfl : i = 0 := (by omega)
    all_goals obtain rfl : j = 0 := by omega
    all_goals rfl
   cbv
   refine ⟨fun _ _ => rfl, ?_⟩
   replace h := ob_ h
   obtain ⟨y22, hy23, h⟩ := h
   refine ⟨⟨_, _, _, _, _, [(5, 5)], [(5, 5)]⟩, hfq6 _ _ hy23, ⟨zs1, ⟨rfl, tv⟩, rfl, rfl, rfl, rfl, ⟨fun _ => rfl, tv⟩, rfl⟩, ?_⟩
   cbv
   replace h := oq_ h
   obtain ⟨c24, h⟩ := h
   refine ⟨c24, ?_⟩
   replace h := ob_ h
   obtain ⟨y25, hy26, h⟩ := h
   refine ⟨⟨_, _, _, _, _, [(5, 5)], [(5, 5)]⟩, hfq0 _ _ _ hy26, ⟨zs2, ⟨rfl, tv⟩, rfl, rfl, rfl, rfl, ⟨fun _ => rfl, tv⟩, rfl⟩, ?_⟩
   cbv
   replace h := ob_ h
   obtain ⟨y33, hr34, hN35⟩ := h
   refine loop_cut hr34 (fun x => (sp 79 [(0, .c (.ptr 5 0)), (2, .c (.ptr 128 0)), (3, .c (.ptr 192 0)), (4, .c (wi (A.add .i64 1 y1.1))), (5, .c (wi v3)), (6, .c (.ptr 384 0)), (7, .c (wi x.1))] [(5, .var [.bs (LEN x.2.1) 1 (row GD (encI .u8) x.2.1), wi x.2.2.1, wi x.2.2.2.1]), (128, .var [.v (.slice none 0 0)]), (192, .var [.os 4864 0 (LEN v7)]), (384, .var [ws (A.scat (A.ofBytes (LEN l20) (fun i => GD l20 (0 + i))) y22.1), .os 2496 0 (LEN x.2.2.2.2), .v (.slice none 0 0), .v (.slice none 0 0)]), (4864, .arr .rw [] (LEN v7) 4 (row GD (oC LEN GD) v7)), (2496, .arr .rw [] (LEN x.2.2.2.2) 5 (row GD (eS) x.2.2.2.2))])) ?_ (fun y e s => (fun (w : (List Int) × Int × Int × (List TS)) => e = .exit 2 /\ s.le (sp 79 [(0, .c (.ptr 5 0)), (2, .c (.ptr 128 0)), (3, .c (.ptr 192 0)), (4, .c (wi (A.add .i64 1 y1.1))), (5, .c (wi v3)), (6, .c (.ptr 384 0))] [(5, .var [.bs (LEN w.1) 1 (row GD (encI .u8) w.1), wi w.2.1, wi w.2.2.1]), (128, .var [.v (.slice none 0 0)]), (192, .var [.os 4864 0 (LEN v7)]), (384, .var [ws (A.scat (A.ofBytes (LEN l20) (fun i => GD l20 (0 + i))) y22.1), .os 2496 0 (LEN w.2.2.2), .v (.slice none 0 0), .v (.slice none 0 0)]), (4864, .arr .rw [] (LEN v7) 4 (row GD (oC LEN GD) v7)), (2496, .arr .rw [] (LEN w.2.2.2) 5 (row GD (eS) w.2.2.2))])) y) ?_ ?_
   ·clear hr34 hN35
    show St.le _ _
    refine St.le_trans (le_nilV 384 1 2496 5 (row GD (eS) ([] : List TS)) (by decide) (by decide) rfl rfl) ?_
    subst hLEN
    exact lsp rfl zl7 ⟨rfl, rfl, rfl, rfl, oS, oS, tv⟩ rfl
   ·clear hr34 hN35
    intro x z39 h K37 hK38 hY36
    obtain ⟨x0_, x1_, x2_, x3_, x4_⟩ := x
    replace h := ol h
    obtain ⟨v27, hv27, h⟩ := h
    have hv27 : v27 = x0_ := hv27
    subst hv27
    replace h := ol h
    obtain ⟨v28, hv28, h⟩ := h
    have hv28 : v28 = x1_ := hv28
    subst hv28
    replace h := ol h
    obtain ⟨v29, hv29, h⟩ := h
    have hv29 : v29 = x2_ := hv29
    subst hv29
    replace h := ol h
    obtain ⟨v30, hv30, h⟩ := h
    have hv30 : v30 = x3_ := hv30
    subst hv30
    replace h := ol h
    obtain ⟨v31, hv31, h⟩ := h
    have hv31 : v31 = x4_ := hv31
    subst hv31
    cbv
    refine fork (fun b51 => ?_) (fun b51 => ?_)
    ·replace h := ot b51 h
     cbv
     replace h := ob_ h
     obtain ⟨y44, hy45, h⟩ := h
     refine ⟨⟨_, _, _, _, _, [(5, 5)], [(5, 5)]⟩, hfq18 _ _ hy45, ⟨zs1, ⟨rfl, tv⟩, rfl, rfl, rfl, rfl, ⟨fun _ => rfl, tv⟩, rfl⟩, ?_⟩
     cbv
     replace h := ol h
     obtain ⟨l46, hl46, h⟩ := h
     have e47 : 1 = LEN l46 := by subst hl46 hLEN; rfl
     refine ⟨_, congrArg (fun n => AV.c (AC.os 2432 0 n)) e47, _, row GD (eS) l46, e47, wkOf ?_, ?_⟩
     ·intro i hi j hj
      rw [<- e47] at hi
      subst hl46
      subst hGD
      obtain rfl : i = 0 := (by omega) <;> obtain rfl | rfl | rfl | rfl | rfl : j = 0 \/ j = 1 \/ j = 2 \/ j = 3 \/ j = 4 := (by omega)
      all_goals rfl
     cbv
     replace h := oq_ h
     obtain ⟨c50, h⟩ := h
     replace h := ol h
     obtain ⟨l48, hl48, h⟩ := h
     have e49 : A.nadd (LEN v31) (LEN l46) = LEN l48 := by subst hl48 hLEN hA; simp [std, len]
     refine ⟨c50, _, congrArg (fun n => AV.c (AC.os 2496 0 n)) e49, _, row GD (eS) l48, e49, wkOf ?_, ?_⟩
     ·subst hGD hLEN hA
      exact app_os (off := 0) (pl_encShape) hl48 (Nat.le_refl _)
     cbv
     injection h with h
     refine hK38 _ h.symm _ ?_
     exact lsp rfl zl7 ⟨rfl, rfl, rfl, rfl, oS, oS, tv⟩ rfl
    ·replace h := og b51 h
     cbv
     injection h with h
     refine hY36 _ h.symm _ _ (And.intro rfl ?_) (by intro hh; cases hh)
     exact lsp rfl zl6 ⟨rfl, rfl, rfl, rfl, oS, oS, tv⟩ rfl
   ·clear hr34
    have h := hN35
    clear hN35
    intro e42 s43 q41 hne
    replace h := ol h
    obtain ⟨y33k0, hyk, h⟩ := h
    have hyk : y33k0 = y33 := hyk
    subst hyk
    obtain ⟨rfl, q41⟩ := q41
    obtain ⟨y33k0_0, y33k0_1, y33k0_2, y33k0_3⟩ := y33k0
    replace h := ol h
    obtain ⟨w52, hw52, h⟩ := h
    have hw52 : w52 = y33k0_0 := hw52
    subst hw52
    replace h := ol h
    obtain ⟨w53, hw53, h⟩ := h
    have hw53 : w53 = y33k0_1 := hw53
    subst hw53
    replace h := ol h
    obtain ⟨w54, hw54, h⟩ := h
    have hw54 : w54 = y33k0_2 := hw54
    subst hw54
    replace h := ol h
    obtain ⟨w55, hw55, h⟩ := h
    have hw55 : w55 = y33k0_3 := hw55
    subst hw55
    cbv
    refine ⟨_, q41, ?_⟩
    cbv
    replace h := ob_ h
    obtain ⟨y56, hy57, h⟩ := h
    refine ⟨⟨_, _, _, _, _, [(5, 5)], [(5, 5)]⟩, hfq0 _ _ _ hy57, ⟨zs2, ⟨rfl, tv⟩, rfl, rfl, rfl, rfl, ⟨fun _ => rfl, tv⟩, rfl⟩, ?_⟩
    cbv
    replace h := ob_ h
    obtain ⟨y64, hr65, hN66⟩ := h
    refine loop_cut hr65 (fun x => (sp 79 [(0, .c (.ptr 5 0)), (2, .c (.ptr 128 0)), (3, .c (.ptr 192 0)), (4, .c (wi (A.add .i64 1 y1.1))), (5, .c (wi v3)), (6, .c (.ptr 384 0)), (8, .c (wi x.1))] [(5, .var [.bs (LEN x.2.1) 1 (row GD (encI .u8) x.2.1), wi x.2.2.1, wi x.2.2.2.1]), (128, .var [.v (.slice none 0 0)]), (192, .var [.os 4864 0 (LEN v7)]), (384, .var [ws (A.scat (A.ofBytes (LEN l20) (fun i => GD l20 (0 + i))) y22.1), .os 2496 0 (LEN w55), .os 3328 0 (LEN x.2.2.2.2), .v (.slice none 0 0)]), (4864, .arr .rw [] (LEN v7) 4 (row GD (oC LEN GD) v7)), (2496, .arr .rw [] (LEN w55) 5 (row GD (eS) w55)), (3328, .arr .rw [] (LEN x.2.2.2.2) 4 (row GD (eL) x.2.2.2.2))])) ?_ (fun y e s => (fun (w : (List Int) × Int × Int × (List TB)) => e = .exit 4 /\ s.le (sp 79 [(0, .c (.ptr 5 0)), (2, .c (.ptr 128 0)), (3, .c (.ptr 192 0)), (4, .c (wi (A.add .i64 1 y1.1))), (5, .c (wi v3)), (6, .c (.ptr 384 0))] [(5, .var [.bs (LEN w.1) 1 (row GD (encI .u8) w.1), wi w.2.1, wi w.2.2.1]), (128, .var [.v (.slice none 0 0)]), (192, .var [.os 4864 0 (LEN v7)]), (384, .var [ws (A.scat (A.ofBytes (LEN l20) (fun i => GD l20 (0 + i))) y22.1), .os 2496 0 (LEN w55), .os 3328 0 (LEN w.2.2.2), .v (.slice none 0 0)]), (4864, .arr .rw [] (LEN v7) 4 (row GD (oC LEN GD) v7)), (2496, .arr .rw [] (LEN w55) 5 (row GD (eS) w55)), (3328, .arr .rw [] (LEN w.2.2.2) 4 (row GD (eL) w.2.2.2))])) y) ?_ ?_
    ·clear hr65 hN66
     show St.le _ _
     refine St.le_trans (le_nilV 384 2 3328 4 (row GD (eL) ([] : List TB)) (by decide) (by decide) rfl rfl) ?_
     subst hLEN
     exact lsp rfl zl7 ⟨rfl, rfl, rfl, rfl, oS, oS, oS, tv⟩ rfl
    ·clear hr65 hN66
     intro x z70 h K68 hK69 hY67
     obtain ⟨x0_, x1_, x2_, x3_, x4_⟩ := x
     replace h := ol h
     obtain ⟨v58, hv58, h⟩ := h
     have hv58 : v58 = x0_ := hv58
     subst hv58
     replace h := ol h
     obtain ⟨v59, hv59, h⟩ := h
     have hv59 : v59 = x1_ := hv59
     subst hv59
     replace h := ol h
     obtain ⟨v60, hv60, h⟩ := h
     have hv60 : v60 = x2_ := hv60
     subst hv60
     replace h := ol h
     obtain ⟨v61, hv61, h⟩ := h
     have hv61 : v61 = x3_ := hv61
     subst hv61
     replace h := ol h
     obtain ⟨v62, hv62, h⟩ := h
     have hv62 : v62 = x4_ := hv62
     subst hv62
     cbv
     refine fork (fun b82 => ?_) (fun b82 => ?_)
     ·replace h := ot b82 h
      cbv
      replace h := ob_ h
      obtain ⟨y75, hy76, h⟩ := h
      refine ⟨⟨_, _, _, _, _, [(5, 5)], [(5, 5)]⟩, hfq37 _ _ hy76, ⟨zs1, ⟨rfl, tv⟩, rfl, rfl, rfl, rfl, ⟨fun _ => rfl, tv⟩, rfl⟩, ?_⟩
      cbv
      replace h := ol h
      obtain ⟨l77, hl77, h⟩ := h
      have e78 : 1 = LEN l77 := by subst hl77 hLEN; rfl
      refine ⟨_, congrArg (fun n => AV.c (AC.os 3264 0 n)) e78, _, row GD (eL) l77, e78, wkOf ?_, ?_⟩
      ·intro i hi j hj
       rw [<- e78] at hi
       subst hl77
       subst hGD
       obtain rfl : i = 0 := (by omega) <;> obtain rfl | rfl | rfl | rfl : j = 0 \/ j = 1 \/ j = 2 \/ j = 3 := (by omega)
       all_goals rfl
      cbv
      replace h := oq_ h
      obtain ⟨c81, h⟩ := h
      replace h := ol h
      obtain ⟨l79, hl79, h⟩ := h
      have e80 : A.nadd (LEN v62) (LEN l77) = LEN l79 := by subst hl79 hLEN hA; simp [std, len]
      refine ⟨c81, _, congrArg (fun n => AV.c (AC.os 3328 0 n)) e80, _, row GD (eL) l79, e80, wkOf ?_, ?_⟩
      ·subst hGD hLEN hA
       exact app_os (off := 0) (pl_encLabel) hl79 (Nat.le_refl _)
      cbv
      injection h with h
      refine hK69 _ h.symm _ ?_
      exact lsp rfl zl7 ⟨rfl, rfl, rfl, rfl, oS, oS, oS, tv⟩ rfl
     ·replace h := og b82 h
      cbv
      injection h with h
      refine hY67 _ h.symm _ _ (And.intro rfl ?_) (by intro hh; cases hh)
      exact lsp rfl zl6 ⟨rfl, rfl, rfl, rfl, oS, oS, oS, tv⟩ rfl
    ·clear hr65
     have h := hN66
     clear hN66
     intro e73 s74 q72 hne
     replace h := ol h
     obtain ⟨y64k0, hyk, h⟩ := h
     have hyk : y64k0 = y64 := hyk
     subst hyk
     obtain ⟨rfl, q72⟩ := q72
     obtain ⟨y64k0_0, y64k0_1, y64k0_2, y64k0_3⟩ := y64k0
     replace h := ol h
     obtain ⟨w83, hw83, h⟩ := h
     have hw83 : w83 = y64k0_0 := hw83
     subst hw83
     replace h := ol h
     obtain ⟨w84, hw84, h⟩ := h
     have hw84 : w84 = y64k0_1 := hw84
     subst hw84
     replace h := ol h
     obtain ⟨w85, hw85, h⟩ := h
     have hw85 : w85 = y64k0_2 := hw85
     subst hw85
     replace h := ol h
     obtain ⟨w86, hw86, h⟩ := h
     have hw86 : w86 = y64k0_3 := hw86
     subst hw86
     cbv
     refine ⟨_, q72, ?_⟩
     cbv
     replace h := ob_ h
     obtain ⟨y87, hy88, h⟩ := h
     refine ⟨⟨_, _, _, _, _, [(5, 5)], [(5, 5)]⟩, hfq0 _ _ _ hy88, ⟨zs2, ⟨rfl, tv⟩, rfl, rfl, rfl, rfl, ⟨fun _ => rfl, tv⟩, rfl⟩, ?_⟩
     cbv
     replace h := ob_ h
     obtain ⟨y95, hr96, hN97⟩ := h
     refine loop_cut hr96 (fun x => (sp 79 [(0, .c (.ptr 5 0)), (2, .c (.ptr 128 0)), (3, .c (.ptr 192 0)), (4, .c (wi (A.add .i64 1 y1.1))), (5, .c (wi v3)), (6, .c (.ptr 384 0)), (9, .c (wi x.1))] [(5, .var [.bs (LEN x.2.1) 1 (row GD (encI .u8) x.2.1), wi x.2.2.1, wi x.2.2.2.1]), (128, .var [.v (.slice none 0 0)]), (192, .var [.os 4864 0 (LEN v7)]), (384, .var [ws (A.scat (A.ofBytes (LEN l20) (fun i => GD l20 (0 + i))) y22.1), .os 2496 0 (LEN w55), .os 3328 0 (LEN w86), .os 4480 0 (LEN x.2.2.2.2)]), (4864, .arr .rw [] (LEN v7) 4 (row GD (oC LEN GD) v7)), (2496, .arr .rw [] (LEN w55) 5 (row GD (eS) w55)), (3328, .arr .rw [] (LEN w86) 4 (row GD (eL) w86)), (4480, .arr .rw [] (LEN x.2.2.2.2) 8 (row GD (eI) x.2.2.2.2))])) ?_ (fun y e s => (fun (w : (List Int) × Int × Int × (List TI)) => e = .exit 6 /\ s.le (sp 79 [(0, .c (.ptr 5 0)), (2, .c (.ptr 128 0)), (3, .c (.ptr 192 0)), (4, .c (wi (A.add .i64 1 y1.1))), (5, .c (wi v3)), (6, .c (.ptr 384 0))] [(5, .var [.bs (LEN w.1) 1 (row GD (encI .u8) w.1), wi w.2.1, wi w.2.2.1]), (128, .var [.v (.slice none 0 0)]), (192, .var [.os 4864 0 (LEN v7)]), (384, .var [ws (A.scat (A.ofBytes (LEN l20) (fun i => GD l20 (0 + i))) y22.1), .os 2496 0 (LEN w55), .os 3328 0 (LEN w86), .os 4480 0 (LEN w.2.2.2)]), (4864, .arr .rw [] (LEN v7) 4 (row GD (oC LEN GD) v7)), (2496, .arr .rw [] (LEN w55) 5 (row GD (eS) w55)), (3328, .arr .rw [] (LEN w86) 4 (row GD (eL) w86)), (4480, .arr .rw [] (LEN w.2.2.2) 8 (row GD (eI) w.2.2.2))])) y) ?_ ?_
     ·clear hr96 hN97
      show St.le _ _
      refine St.le_trans (le_nilV 384 3 4480 8 (row GD (eI) ([] : List TI)) (by decide) (by decide) rfl rfl) ?_
      subst hLEN
      exact lsp rfl zl7 ⟨rfl, rfl, rfl, rfl, oS, oS, oS, oS, tv⟩ rfl
     ·clear hr96 hN97
      intro x z101 h K99 hK100 hY98
      obtain ⟨x0_, x1_, x2_, x3_, x4_⟩ := x
      replace h := ol h
      obtain ⟨v89, hv89, h⟩ := h
      have hv89 : v89 = x0_ := hv89
      subst hv89
      replace h := ol h
      obtain ⟨v90, hv90, h⟩ := h
      have hv90 : v90 = x1_ := hv90
      subst hv90
      replace h := ol h
      obtain ⟨v91, hv91, h⟩ := h
      have hv91 : v91 = x2_ := hv91
      subst hv91
      replace h := ol h
      obtain ⟨v92, hv92, h⟩ := h
      have hv92 : v92 = x3_ := hv92
      subst hv92
      replace h := ol h
      obtain ⟨v93, hv93, h⟩ := h
      have hv93 : v93 = x4_ := hv93
      subst hv93
      cbv
      replace h := ob_ h
      obtain ⟨y106, hy107, h⟩ := h
      obtain ⟨S110, hS111⟩ : ∃ S, S = (sp 79 [(0, .c (.ptr 5 0)), (2, .c (.ptr 128 0)), (3, .c (.ptr 192 0)), (4, .c (wi (A.add .i64 1 y1.1))), (5, .c (wi v3)), (6, .c (.ptr 384 0)), (9, .c (wi v89)), (61, .c (.v (.bool y106)))] [(5, .var [.bs (LEN v90) 1 (row GD (encI .u8) v90), wi v91, wi v92]), (128, .var [.v (.slice none 0 0)]), (192, .var [.os 4864 0 (LEN v7)]), (384, .var [ws (A.scat (A.ofBytes (LEN l20) (fun i => GD l20 (0 + i))) y22.1), .os 2496 0 (LEN w55), .os 3328 0 (LEN w86), .os 4480 0 (LEN v93)]), (4864, .arr .rw [] (LEN v7) 4 (row GD (oC LEN GD) v7)), (2496, .arr .rw [] (LEN w55) 5 (row GD (eS) w55)), (3328, .arr .rw [] (LEN w86) 4 (row GD (eL) w86)), (4480, .arr .rw [] (LEN v93) 8 (row GD (eI) v93))]) := ⟨_, rfl⟩
      refine ⟨S110, ?_, ?_⟩
      ·clear h
       have h := hy107
       clear hy107
       cbv
       refine fork (fun b113 => ?_) (fun b113 => ?_)
       ·replace h := ot b113 h
        cbv
        injection h with h
        subst h
        subst hS111
        exact lsp rfl zl8 ⟨rfl, rfl, rfl, rfl, oS, oS, oS, oS, tv⟩ rfl
       ·replace h := og b113 h
        cbv
        injection h with h
        subst h
        subst hS111
        exact lsp rfl zl8 ⟨rfl, rfl, rfl, rfl, oS, oS, oS, oS, tv⟩ rfl
      ·clear hy107
       subst hS111
       replace h := ol h
       obtain ⟨w112, hw112, h⟩ := h
       have hw112 : w112 = y106 := hw112
       subst hw112
       cbv
       refine fork (fun b121 => ?_) (fun b121 => ?_)
       ·replace h := ot b121 h
        cbv
        replace h := ob_ h
        obtain ⟨y114, hy115, h⟩ := h
        refine ⟨⟨_, _, _, _, _, [(5, 5)], [(5, 5)]⟩, hfq19 _ _ _ hy115, ⟨zs2, ⟨rfl, tv⟩, rfl, rfl, rfl, rfl, ⟨fun _ => rfl, tv⟩, rfl⟩, ?_⟩
        cbv
        replace h := ol h
        obtain ⟨l116, hl116, h⟩ := h
        have e117 : 1 = LEN l116 := by subst hl116 hLEN; rfl
        refine ⟨_, congrArg (fun n => AV.c (AC.os 4416 0 n)) e117, _, row GD (eI) l116, e117, wkOf ?_, ?_⟩
        ·intro i hi j hj
         rw [<- e117] at hi
         subst hl116
         subst hGD
         obtain rfl : i = 0 := (by omega) <;> obtain rfl | rfl | rfl | rfl | rfl | rfl | rfl | rfl : j = 0 \/ j = 1 \/ j = 2 \/ j = 3 \/ j = 4 \/ j = 5 \/ j = 6 \/ j = 7 := (by omega)
         all_goals rfl
        cbv
        replace h := oq_ h
        obtain ⟨c120, h⟩ := h
        replace h := ol h
        obtain ⟨l118, hl118, h⟩ := h
        have e119 : A.nadd (LEN v93) (LEN l116) = LEN l118 := by subst hl118 hLEN hA; simp [std, len]
        refine ⟨c120, _, congrArg (fun n => AV.c (AC.os 4480 0 n)) e119, _, row GD (eI) l118, e119, wkOf ?_, ?_⟩
        ·subst hGD hLEN hA
         exact app_os (off := 0) (pl_encInstance) hl118 (Nat.le_refl _)
        cbv
        injection h with h
        refine hK100 _ h.symm _ ?_
        exact lsp rfl zl7 ⟨rfl, rfl, rfl, rfl, oS, oS, oS, oS, tv⟩ rfl
       ·replace h := og b121 h
        cbv
        injection h with h
        refine hY98 _ h.symm _ _ (And.intro rfl ?_) (by intro hh; cases hh)
        exact lsp rfl zl6 ⟨rfl, rfl, rfl, rfl, oS, oS, oS, oS, tv⟩ rfl
     ·clear hr96
      have h := hN97
      clear hN97
      intro e104 s105 q103 hne
      replace h := ol h
      obtain ⟨y95k0, hyk, h⟩ := h
      have hyk : y95k0 = y95 := hyk
      subst hyk
      obtain ⟨rfl, q103⟩ := q103
      obtain ⟨y95k0_0, y95k0_1, y95k0_2, y95k0_3⟩ := y95k0
      replace h := ol h
      obtain ⟨w122, hw122, h⟩ := h
      have hw122 : w122 = y95k0_0 := hw122
      subst hw122
      replace h := ol h
      obtain ⟨w123, hw123, h⟩ := h
      have hw123 : w123 = y95k0_1 := hw123
      subst hw123
      replace h := ol h
      obtain ⟨w124, hw124, h⟩ := h
      have hw124 : w124 = y95k0_2 := hw124
      subst hw124
      replace h := ol h
      obtain ⟨w125, hw125, h⟩ := h
      have hw125 : w125 = y95k0_3 := hw125
      subst hw125
      cbv
      refine ⟨_, q103, ?_⟩
      cbv
      replace h := ob_ h
      obtain ⟨y126, hy127, h⟩ := h
      obtain ⟨S130, hS131⟩ : ∃ S, S = (sp 79 [(0, .c (.ptr 5 0)), (2, .c (.ptr 128 0)), (3, .c (.ptr 192 0)), (4, .c (wi (A.add .i64 1 y1.1))), (5, .c (wi v3))] [(5, .var [.bs (LEN w122) 1 (row GD (encI .u8) w122), wi w123, wi w124]), (128, .var [.v (.slice none 0 0)]), (192, .var [.os 4864 0 (LEN y126)]), (4864, .arr .rw [] (LEN y126) 4 (row GD (oC LEN GD) y126))]) := ⟨_, rfl⟩
      refine ⟨S130, ?_, ?_⟩
      ·clear h
       have h := hy127
       clear hy127
       cbv
       replace h := ol h
       obtain ⟨l133, hl133, h⟩ := h
       have e134 : 1 = LEN l133 := by subst hl133 hLEN; rfl
       refine ⟨_, congrArg (fun n => AV.c (AC.os 4800 0 n)) e134, _, (pC (fun _ _ => AC.junk) 0 [ws (A.scat (A.ofBytes (LEN l20) (fun i => GD l20 (0 + i))) y22.1), .os 2496 0 (LEN w55), .os 3328 0 (LEN w86), .os 4480 0 (LEN w125)]), e134, wkOf ?_, ?_⟩
       ·refine patch_one (by subst hl133 hLEN; rfl) ?_
        intro j hj
        match j, hj with | 0, _ => (rfl) | 1, _ => (rfl) | 2, _ => (rfl) | 3, _ => (rfl) | (j_ + 4), h_ => omega
       cbv
       replace h := oq_ h
       obtain ⟨c137, h⟩ := h
       replace h := ol h
       obtain ⟨l135, hl135, h⟩ := h
       have e136 : A.nadd (LEN v7) (LEN l133) = LEN l135 := by subst hl135 hLEN hA; simp [std, len]
       refine ⟨c137, _, congrArg (fun n => AV.c (AC.os 4864 0 n)) e136, _, (pC (row GD (oC LEN GD) v7) (LEN v7) [ws (A.scat (A.ofBytes (LEN l20) (fun i => GD l20 (0 + i))) y22.1), .os 2496 0 (LEN w55), .os 3328 0 (LEN w86), .os 4480 0 (LEN w125)]), e136, wkOf ?_, ?_⟩
       ·subst hLEN hA
        refine patch_joinG (by first | (rw [hl135]; simp [len]; done) | (rw [hl135]; simp [len]; omega) | (subst_vars; simp [len])) ?_
        intro j hj
        match j, hj with | 0, _ => (rfl) | 1, _ => (rfl) | 2, _ => (rfl) | 3, _ => (rfl) | (j_ + 4), h_ => omega
       cbv
       rw [hl133] at hl135
       injection h with h
       subst h
       subst hS131
       refine St.le_trans (le_foldP 4864 1 2496 rfl rfl rfl (by decide) (by subst hLEN; exact app_lt hl135) (by decide) rfl (fun _ _ => rC _ _)) ?_
       refine St.le_trans (le_foldP 4864 2 3328 rfl rfl rfl (by decide) (by subst hLEN; exact app_lt hl135) (by decide) rfl (fun _ _ => rC _ _)) ?_
       refine St.le_trans (le_foldP 4864 3 4480 rfl rfl rfl (by decide) (by subst hLEN; exact app_lt hl135) (by decide) rfl (fun _ _ => rC _ _)) ?_
       exact lsp rfl zl5 ⟨rfl, rfl, rfl, ⟨fun hw => hw, fun c hc => (by cases hc), .inr (fun i _ j _ z hz => (noref (rC _ _) hz).elim), rfl, rfl, (by subst hGD hLEN hA; exact patch_app hl135 (Nat.le_refl _) (by intro j hj; match j, hj with | 0, _ => rfl | 1, _ => rfl | 2, _ => rfl | 3, _ => rfl | (j_ + 4), h_ => omega))⟩, tv⟩ rfl
      ·clear hy127
       subst hS131
       replace h := ol h
       obtain ⟨w132, hw132, h⟩ := h
       have hw132 : w132 = y126 := hw132
       subst hw132
       cbv
       injection h with h
       refine hK14 _ h.symm _ ?_
       exact lsp rfl zl5 ⟨rfl, rfl, rfl, oS, tv⟩ rfl
  ·replace h := og b138 h
   cbv
   injection h with h
   refine hY12 _ h.symm _ _ (And.intro rfl ?_) (by intro hh; cases hh)
   exact lsp rfl zl2 ⟨rfl, rfl, rfl, oS, tv⟩ rfl
 ·clear hr10
  have h := hN11
  clear hN11
  intro e18 s19 q17 hne
  replace h := ol h
  obtain ⟨y9k0, hyk, h⟩ := h
  have hyk : y9k0 = y9 := hyk
  subst hyk
  obtain ⟨rfl, q17⟩ := q17
  obtain ⟨y9k0_0, y9k0_1, y9k0_2, y9k0_3⟩ := y9k0
  replace h := ol h
  obtain ⟨w139, hw139, h⟩ := h
  have hw139 : w139 = y9k0_0 := hw139
  subst hw139
  replace h := ol h
  obtain ⟨w140, hw140, h⟩ := h
  have hw140 : w140 = y9k0_1 := hw140
  subst hw140
  replace h := ol h
  obtain ⟨w141, hw141, h⟩ := h
  have hw141 : w141 = y9k0_2 := hw141
  subst hw141
  replace h := ol h
  obtain ⟨w142, hw142, h⟩ := h
  have hw142 : w142 = y9k0_3 := hw142
  subst hw142
  cbv
  refine ⟨_, q17, ?_⟩
  cbv
  injection h with h
  subst h
  refine ⟨(sp 79 [(2, .c (.ptr 128 0))] [(128, .var [.os 64000 0 (LEN w142)]), (5, .var [.bs (LEN w139) 1 (row GD (encI .u8) w139), wi w140, wi w141]), (64000, .arr .rw [] (LEN w142) 4 (row GD (oC LEN GD) w142))]), ?_, ?_⟩
  ·refine St.le_trans (le_ren 4864 64000 (by decide) rfl) ?_
   exact lsp rfl zl1 ⟨rfl, rfl, oS, tv⟩ rfl
  ·exact ⟨lR _, ⟨oS, rfl, tv⟩, rfl⟩

def Lq30_x167 (y1 : TL × Tl01Source) (y3 : Int × Tl01Source) : (Int × (List Int) × Int × Int × (List TC)) -> Option ((Int × (List Int) × Int × Int × (List TC)) ⊕ (((List Int) × Int × Int × (List TC)))) := fun x167 =>
 letO x167.1 fun v162 =>
 letO x167.2.1 fun v163 =>
 letO x167.2.2.1 fun v164 =>
 letO x167.2.2.2.1 fun v165 =>
 letO x167.2.2.2.2 fun v166 =>
 br (std.lt v162 25)
 (((
 (Fq18 (Tl01Source.mk v163 v164 v165)).bind fun y189 =>
 letO ([y189.1] : List TS) fun l191 =>
 req (std.room (std.nadd (len (gd v166 (std.nadd 0 (std.toN y3.1))).fS) (len l191)) 40) <|
 letO ((gd v166 (std.nadd 0 (std.toN y3.1))).fS ++ l191) fun l193 =>
 req (len y1.1.fC = len v166) <|
 letO (List.set v166 (std.nadd 0 (std.toN y3.1)) (TC.mk (gd v166 (std.nadd 0 (std.toN y3.1))).fN l193 (gd v166 (std.nadd 0 (std.toN y3.1))).fL (gd v166 (std.nadd 0 (std.toN y3.1))).fI)) fun l196 =>
 some (y189.2.gcode, y189.2.gat, y189.2.gseed, l196)
 ) : Option ((List Int) × Int × Int × (List TC))).bind fun y179 =>
 letO y179.1 fun w185 =>
 letO y179.2.1 fun w186 =>
 letO y179.2.2.1 fun w187 =>
 letO y179.2.2.2 fun w188 =>
 some (.inl (std.add .i64 v162 1, w185, w186, w187, w188)))
 (some (.inr (v163, v164, v165, v166)))
/-- spec.l09DrawAny -/
def Fq30 (a0 : Tl01Source) : Option (TL × Tl01Source) :=
 (Fq4 a0).bind fun y1 =>
 (Fq0 y1.2 (std.ofN (len y1.1.fC))).bind fun y3 =>
 req (std.inR y3.1 (len y1.1.fC)) <|
 (Fq0 y3.2 16).bind fun y6 =>
 ((
 br (std.eq y6.1 0)
 (((
 req (std.inR 0 (len y1.1.fC)) <|
 letO (List.set y1.1.fC (std.nadd 0 (std.toN y3.1)) (TC.mk (gd y1.1.fC (std.nadd 0 (std.toN 0))).fN (gd y1.1.fC (std.nadd 0 (std.toN y3.1))).fS (gd y1.1.fC (std.nadd 0 (std.toN y3.1))).fL (gd y1.1.fC (std.nadd 0 (std.toN y3.1))).fI)) fun l26 =>
 some l26
 ) : Option ((List TC))).bind fun y18 =>
 letO y18 fun w24 =>
 some (w24, y6.2.gcode, y6.2.gat, y6.2.gseed))
 (((
 br (std.eq y6.1 1)
 (((
 letO ([(ByteArray.mk #[]), (ByteArray.mk #[65]), (ByteArray.mk #[97, 98, 99, 100, 101, 102, 103, 104, 105]), (ByteArray.mk #[97, 32, 98])] : List ByteArray) fun l47 =>
 (Fq0 y6.2 4).bind fun y49 =>
 req (std.inR y49.1 (len l47)) <|
 letO (List.set y1.1.fC (std.nadd 0 (std.toN y3.1)) (TC.mk (gd l47 (std.nadd 0 (std.toN y49.1))) (gd y1.1.fC (std.nadd 0 (std.toN y3.1))).fS (gd y1.1.fC (std.nadd 0 (std.toN y3.1))).fL (gd y1.1.fC (std.nadd 0 (std.toN y3.1))).fI)) fun l52 =>
 some (y49.2.gcode, y49.2.gat, y49.2.gseed, l52)
 ) : Option ((List Int) × Int × Int × (List TC))).bind fun y37 =>
 letO y37.1 fun w43 =>
 letO y37.2.1 fun w44 =>
 letO y37.2.2.1 fun w45 =>
 letO y37.2.2.2 fun w46 =>
 some (w43, w44, w45, w46))
 (((
 br (std.eq y6.1 2)
 (((
 (Fq0 y6.2 12).bind fun y73 =>
 (Fq0 y73.2 90).bind fun y75 =>
 (Fq0 y75.2 90).bind fun y77 =>
 (Fq0 y77.2 90).bind fun y79 =>
 (Fq0 y79.2 90).bind fun y81 =>
 letO ([(TS.mk (std.sub .i64 y73.1 2) (TRect.mk (std.sub .i64 y75.1 45) (std.sub .i64 y77.1 45) (std.sub .i64 y79.1 45) (std.sub .i64 y81.1 45)))] : List TS) fun l83 =>
 req (std.room (std.nadd (len (gd y1.1.fC (std.nadd 0 (std.toN y3.1))).fS) (len l83)) 40) <|
 letO ((gd y1.1.fC (std.nadd 0 (std.toN y3.1))).fS ++ l83) fun l85 =>
 letO (List.set y1.1.fC (std.nadd 0 (std.toN y3.1)) (TC.mk (gd y1.1.fC (std.nadd 0 (std.toN y3.1))).fN l85 (gd y1.1.fC (std.nadd 0 (std.toN y3.1))).fL (gd y1.1.fC (std.nadd 0 (std.toN y3.1))).fI)) fun l88 =>
 some (y81.2.gcode, y81.2.gat, y81.2.gseed, l88)
 ) : Option ((List Int) × Int × Int × (List TC))).bind fun y63 =>
 letO y63.1 fun w69 =>
 letO y63.2.1 fun w70 =>
 letO y63.2.2.1 fun w71 =>
 letO y63.2.2.2 fun w72 =>
 some (w69, w70, w71, w72))
 (((
 br (std.eq y6.1 3)
 ((Fq19 y6.2 (std.add .i64 y3.1 1)).bind fun y99 =>
 (Fq0 y99.2 6).bind fun y101 =>
 (Fq0 y101.2 200).bind fun y103 =>
 ((
 letO ([(TI.mk y99.1.fc y99.1.fp y99.1.fK y101.1 y99.1.fu (std.sub .i64 y103.1 100))] : List TI) fun l112 =>
 req (std.room (std.nadd (len (gd y1.1.fC (std.nadd 0 (std.toN y3.1))).fI) (len l112)) 64) <|
 letO ((gd y1.1.fC (std.nadd 0 (std.toN y3.1))).fI ++ l112) fun l114 =>
 letO (List.set y1.1.fC (std.nadd 0 (std.toN y3.1)) (TC.mk (gd y1.1.fC (std.nadd 0 (std.toN y3.1))).fN (gd y1.1.fC (std.nadd 0 (std.toN y3.1))).fS (gd y1.1.fC (std.nadd 0 (std.toN y3.1))).fL l114)) fun l117 =>
 some l117
 ) : Option ((List TC))).bind fun y105 =>
 letO y105 fun w111 =>
 some (y103.2.gcode, y103.2.gat, y103.2.gseed, w111))
 (((
 br (std.eq y6.1 4)
 (((
 (Fq0 y6.2 10).bind fun y138 =>
 (Fq0 y138.2 90).bind fun y140 =>
 (Fq0 y140.2 90).bind fun y142 =>
 (Fq6 y142.2).bind fun y144 =>
 letO ([(TB.mk (std.sub .i64 y138.1 1) (TPoint.mk (std.sub .i64 y140.1 45) (std.sub .i64 y142.1 45)) y144.1)] : List TB) fun l146 =>
 req (std.room (std.nadd (len (gd y1.1.fC (std.nadd 0 (std.toN y3.1))).fL) (len l146)) 40) <|
 letO ((gd y1.1.fC (std.nadd 0 (std.toN y3.1))).fL ++ l146) fun l148 =>
 letO (List.set y1.1.fC (std.nadd 0 (std.toN y3.1)) (TC.mk (gd y1.1.fC (std.nadd 0 (std.toN y3.1))).fN (gd y1.1.fC (std.nadd 0 (std.toN y3.1))).fS l148 (gd y1.1.fC (std.nadd 0 (std.toN y3.1))).fI)) fun l151 =>
 some (y144.2.gcode, y144.2.gat, y144.2.gseed, l151)
 ) : Option ((List Int) × Int × Int × (List TC))).bind fun y128 =>
 letO y128.1 fun w134 =>
 letO y128.2.1 fun w135 =>
 letO y128.2.2.1 fun w136 =>
 letO y128.2.2.2 fun w137 =>
 some (w134, w135, w136, w137))
 (((
 br (std.eq y6.1 5)
 ((whileP (σ := Int × (List Int) × Int × Int × (List TC)) (ρ := ((List Int) × Int × Int × (List TC))) (Lq30_x167 y1 y3) (0, y6.2.gcode, y6.2.gat, y6.2.gseed, y1.1.fC)).bind fun y168 =>
 letO y168 fun y168k0 =>
 letO y168k0.1 fun w199 =>
 letO y168k0.2.1 fun w200 =>
 letO y168k0.2.2.1 fun w201 =>
 letO y168k0.2.2.2 fun w202 =>
 some (w199, w200, w201, w202))
 (some (y6.2.gcode, y6.2.gat, y6.2.gseed, y1.1.fC))
 ) : Option ((List Int) × Int × Int × (List TC))).bind fun y152 =>
 letO y152.1 fun w158 =>
 letO y152.2.1 fun w159 =>
 letO y152.2.2.1 fun w160 =>
 letO y152.2.2.2 fun w161 =>
 some (w158, w159, w160, w161))
 ) : Option ((List Int) × Int × Int × (List TC))).bind fun y118 =>
 letO y118.1 fun w124 =>
 letO y118.2.1 fun w125 =>
 letO y118.2.2.1 fun w126 =>
 letO y118.2.2.2 fun w127 =>
 some (w124, w125, w126, w127))
 ) : Option ((List Int) × Int × Int × (List TC))).bind fun y89 =>
 letO y89.1 fun w95 =>
 letO y89.2.1 fun w96 =>
 letO y89.2.2.1 fun w97 =>
 letO y89.2.2.2 fun w98 =>
 some (w95, w96, w97, w98))
 ) : Option ((List Int) × Int × Int × (List TC))).bind fun y53 =>
 letO y53.1 fun w59 =>
 letO y53.2.1 fun w60 =>
 letO y53.2.2.1 fun w61 =>
 letO y53.2.2.2 fun w62 =>
 some (w59, w60, w61, w62))
 ) : Option ((List Int) × Int × Int × (List TC))).bind fun y27 =>
 letO y27.1 fun w33 =>
 letO y27.2.1 fun w34 =>
 letO y27.2.2.1 fun w35 =>
 letO y27.2.2.2 fun w36 =>
 some (w36, w33, w34, w35))
 ) : Option ((List TC) × (List Int) × Int × Int)).bind fun y8 =>
 letO y8.1 fun w14 =>
 letO y8.2.1 fun w15 =>
 letO y8.2.2.1 fun w16 =>
 letO y8.2.2.2 fun w17 =>
 req (len y1.1.fC = len w14) <|
 some ((TL.mk w14), (Tl01Source.mk w15 w16 w17))
theorem runq30 (a0 : Tl01Source) (r : TL × Tl01Source) (h : Fq30 a0 = some r) : Fun Tryz.prog 90 [.c (.ptr 5 0)] [(5, .var [.bs (len a0.gcode) 1 (row gd (encI .u8) a0.gcode), wi a0.gat, wi a0.gseed])] (.agg [.os 64000 0 (len r.1.fC)]) [(64000, .arr .rw [] (len r.1.fC) 4 (row gd (oC len gd) r.1.fC)), (5, .var [.bs (len r.2.gcode) 1 (row gd (encI .u8) r.2.gcode), wi r.2.gat, wi r.2.gseed])] false := by
 refine Fun.of_wp (oneOf [6, 8, 10, 15, 17, 22, 100021, 100031, 100041, 100069, 100092, 100116]) tok mixed Tryz.func90 (by kernel_rfl) rfl Tryz.ntmps90 rfl trivial (fun h => by cases h) ?_
 unfold Fq30 at h
 unfold Lq30_x167 at h
 have hfq0 := @runq0
 have hfq19 := @runq19
 have hfq4 := @runq4
 have hfq6 := @runq6
 have hfq18 := @runq18
 generalize hLEN : @len = LEN, hGD : @gd = GD, hA : std = A, hP : Tryz.prog = P at *
 cbv
 replace h := ob_ h
 obtain ⟨y1, hy2, h⟩ := h
 refine ⟨⟨_, _, _, _, _, [(5, 5)], [(64000, 576), (5, 5)]⟩, hfq4 _ _ hy2, ⟨zs1, ⟨rfl, tv⟩, rfl, rfl, rfl, rfl, ⟨evn 64000 rfl, fun _ => rfl, tv⟩, rfl⟩, _, rfl, _, _, rfl, fun _ _ _ _ => .refl _, ?_⟩
 cbv
 replace h := ob_ h
 obtain ⟨y3, hy4, h⟩ := h
 refine ⟨⟨_, _, _, _, _, [(5, 5)], [(5, 5)]⟩, hfq0 _ _ _ hy4, ⟨zs2, ⟨rfl, tv⟩, rfl, rfl, rfl, rfl, ⟨fun _ => rfl, tv⟩, rfl⟩, ?_⟩
 cbv
 replace h := oq_ h
 obtain ⟨c5, h⟩ := h
 refine ⟨⟨c5, tv⟩, ?_⟩
 replace h := ob_ h
 obtain ⟨y6, hy7, h⟩ := h
 refine ⟨⟨_, _, _, _, _, [(5, 5)], [(5, 5)]⟩, hfq0 _ _ _ hy7, ⟨zs2, ⟨rfl, tv⟩, rfl, rfl, rfl, rfl, ⟨fun _ => rfl, tv⟩, rfl⟩, ?_⟩
 cbv
 replace h := ob_ h
 obtain ⟨y8, hy9, h⟩ := h
 obtain ⟨S12, hS13⟩ : ∃ S, S = some (sp 134 [(2, .c (.ptr 128 0)), (3, .c (.ptr 192 0))] [(128, .var [.v (.slice none 0 0)]), (192, .var [.os 576 0 (LEN y1.1.fC)]), (5, .var [.bs (LEN y8.2.1) 1 (row GD (encI .u8) y8.2.1), wi y8.2.2.1, wi y8.2.2.2]), (576, .arr .rw [] (LEN y1.1.fC) 4 (row GD (oC LEN GD) y8.1))]) := ⟨_, rfl⟩
 refine ⟨S12, ?_, ?_⟩
 ·clear h
  have h := hy9
  clear hy9
  cbv
  refine fork (fun b208 => ?_) (fun b208 => ?_)
  ·replace h := ot b208 h
   cbv
   replace h := ob_ h
   obtain ⟨y18, hy19, h⟩ := h
   obtain ⟨S22, hS23⟩ : ∃ S, S = (sp 134 [(2, .c (.ptr 128 0)), (3, .c (.ptr 192 0))] [(128, .var [.v (.slice none 0 0)]), (192, .var [.os 576 0 (LEN y1.1.fC)]), (5, .var [.bs (LEN y6.2.gcode) 1 (row GD (encI .u8) y6.2.gcode), wi y6.2.gat, wi y6.2.gseed]), (576, .arr .rw [] (LEN y1.1.fC) 4 (row GD (oC LEN GD) y18))]) := ⟨_, rfl⟩
   refine ⟨S22, ?_, ?_⟩
   ·clear h
    have h := hy19
    clear hy19
    cbv
    replace h := oq_ h
    obtain ⟨c25, h⟩ := h
    refine ⟨⟨c25, tv⟩, ?_⟩
    refine And.intro (by subst hA; have p := ix c25; first | exact p | exact ⟨p, tv⟩ | exact ⟨p, trivial, tv⟩) ?_
    refine And.intro (by subst hA; have p := ix c5; first | exact p | exact ⟨p, tv⟩ | exact ⟨p, trivial, tv⟩) ?_
    refine ⟨_, rfl, _, (pC (row GD (oC LEN GD) y1.1.fC) (A.nadd 0 (A.toN y3.1)) [ws (GD y1.1.fC (A.nadd 0 (A.toN 0))).fN, .ow (LEN (GD y1.1.fC (A.nadd 0 (A.toN y3.1))).fS) 5 (row GD (eS) (GD y1.1.fC (A.nadd 0 (A.toN y3.1))).fS), .ow (LEN (GD y1.1.fC (A.nadd 0 (A.toN y3.1))).fL) 4 (row GD (eL) (GD y1.1.fC (A.nadd 0 (A.toN y3.1))).fL), .ow (LEN (GD y1.1.fC (A.nadd 0 (A.toN y3.1))).fI) 8 (row GD (eI) (GD y1.1.fC (A.nadd 0 (A.toN y3.1))).fI)]), rfl, wkOf ?_, ?_⟩
    ·refine patch_of ?_
     intro j hj
     match j, hj with | 0, _ => (rfl) | 1, _ => (rfl) | 2, _ => (rfl) | 3, _ => (rfl) | (j_ + 4), h_ => omega
    cbv
    replace h := ol h
    obtain ⟨l26, hl26, h⟩ := h
    injection h with h
    subst h
    subst hS23
    exact lsp rfl zl2 ⟨rfl, rfl, rfl, ⟨fun hw => hw, fun c hc => (by cases hc), .inr (fun i _ j _ z hz => (noref (rC _ _) hz).elim), rfl, rfl, (by subst hGD hLEN hA; exact patch_set hl26 (ix c5) (by intro j hj; match j, hj with | 0, _ => rfl | 1, _ => rfl | 2, _ => rfl | 3, _ => rfl | (j_ + 4), h_ => omega))⟩, tv⟩ rfl
   ·clear hy19
    subst hS23
    replace h := ol h
    obtain ⟨w24, hw24, h⟩ := h
    have hw24 : w24 = y18 := hw24
    subst hw24
    cbv
    injection h with h
    subst h
    subst hS13
    exact lsp rfl zl2 ⟨rfl, rfl, rfl, oS, tv⟩ rfl
  ·replace h := og b208 h
   cbv
   replace h := ob_ h
   obtain ⟨y27, hy28, h⟩ := h
   obtain ⟨S31, hS32⟩ : ∃ S, S = some (sp 134 [(2, .c (.ptr 128 0)), (3, .c (.ptr 192 0))] [(128, .var [.v (.slice none 0 0)]), (192, .var [.os 576 0 (LEN y1.1.fC)]), (5, .var [.bs (LEN y27.1) 1 (row GD (encI .u8) y27.1), wi y27.2.1, wi y27.2.2.1]), (576, .arr .rw [] (LEN y1.1.fC) 4 (row GD (oC LEN GD) y27.2.2.2))]) := ⟨_, rfl⟩
   refine ⟨S31, ?_, ?_⟩
   ·clear h
    have h := hy28
    clear hy28
    cbv
    refine fork (fun b207 => ?_) (fun b207 => ?_)
    ·replace h := ot b207 h
     cbv
     replace h := ob_ h
     obtain ⟨y37, hy38, h⟩ := h
     obtain ⟨S41, hS42⟩ : ∃ S, S = (sp 134 [(2, .c (.ptr 128 0)), (3, .c (.ptr 192 0))] [(128, .var [.v (.slice none 0 0)]), (192, .var [.os 576 0 (LEN y1.1.fC)]), (5, .var [.bs (LEN y37.1) 1 (row GD (encI .u8) y37.1), wi y37.2.1, wi y37.2.2.1]), (576, .arr .rw [] (LEN y1.1.fC) 4 (row GD (oC LEN GD) y37.2.2.2))]) := ⟨_, rfl⟩
     refine ⟨S41, ?_, ?_⟩
     ·clear h
      have h := hy38
      clear hy38
      cbv
      replace h := ol h
      obtain ⟨l47, hl47, h⟩ := h
      have e48 : 4 = LEN l47 := by subst hl47 hLEN; rfl
      refine ⟨_, congrArg (fun n => AV.c (AC.os 2176 0 n)) e48, _, row GD (encS) l47, e48, wkOf ?_, ?_⟩
      ·intro i hi j hj
       rw [<- e48] at hi
       subst hl47
       subst hGD
       obtain rfl | rfl | rfl | rfl : i = 0 \/ i = 1 \/ i = 2 \/ i = 3 := (by omega)
       all_goals obtain rfl : j = 0 := by omega
       all_goals rfl
      cbv
      replace h := ob_ h
      obtain ⟨y49, hy50, h⟩ := h
      refine ⟨⟨_, _, _, _, _, [(5, 5)], [(5, 5)]⟩, hfq0 _ _ _ hy50, ⟨zs2, ⟨rfl, tv⟩, rfl, rfl, rfl, rfl, ⟨fun _ => rfl, tv⟩, rfl⟩, ?_⟩
      cbv
      replace h := oq_ h
      obtain ⟨c51, h⟩ := h
      refine ⟨⟨c51, tv⟩, ?_⟩
      refine And.intro (by subst hA; have p := ix c51; first | exact p | exact ⟨p, tv⟩ | exact ⟨p, trivial, tv⟩) ?_
      refine And.intro (by subst hA; have p := ix c5; first | exact p | exact ⟨p, tv⟩ | exact ⟨p, trivial, tv⟩) ?_
      refine ⟨_, rfl, _, (pC (row GD (oC LEN GD) y1.1.fC) (A.nadd 0 (A.toN y3.1)) [ws (GD l47 (A.nadd 0 (A.toN y49.1))), .ow (LEN (GD y1.1.fC (A.nadd 0 (A.toN y3.1))).fS) 5 (row GD (eS) (GD y1.1.fC (A.nadd 0 (A.toN y3.1))).fS), .ow (LEN (GD y1.1.fC (A.nadd 0 (A.toN y3.1))).fL) 4 (row GD (eL) (GD y1.1.fC (A.nadd 0 (A.toN y3.1))).fL), .ow (LEN (GD y1.1.fC (A.nadd 0 (A.toN y3.1))).fI) 8 (row GD (eI) (GD y1.1.fC (A.nadd 0 (A.toN y3.1))).fI)]), rfl, wkOf ?_, ?_⟩
      ·refine patch_of ?_
       intro j hj
       match j, hj with | 0, _ => (rfl) | 1, _ => (rfl) | 2, _ => (rfl) | 3, _ => (rfl) | (j_ + 4), h_ => omega
      cbv
      replace h := ol h
      obtain ⟨l52, hl52, h⟩ := h
      injection h with h
      subst h
      subst hS42
      exact lsp rfl zl2 ⟨rfl, rfl, rfl, ⟨fun hw => hw, fun c hc => (by cases hc), .inr (fun i _ j _ z hz => (noref (rC _ _) hz).elim), rfl, rfl, (by subst hGD hLEN hA; exact patch_set hl52 (ix c5) (by intro j hj; match j, hj with | 0, _ => rfl | 1, _ => rfl | 2, _ => rfl | 3, _ => rfl | (j_ + 4), h_ => omega))⟩, tv⟩ rfl
     ·clear hy38
      subst hS42
      obtain ⟨y37_0, y37_1, y37_2, y37_3⟩ := y37
      replace h := ol h
      obtain ⟨w43, hw43, h⟩ := h
      have hw43 : w43 = y37_0 := hw43
      subst hw43
      replace h := ol h
      obtain ⟨w44, hw44, h⟩ := h
      have hw44 : w44 = y37_1 := hw44
      subst hw44
      replace h := ol h
      obtain ⟨w45, hw45, h⟩ := h
      have hw45 : w45 = y37_2 := hw45
      subst hw45
      replace h := ol h
      obtain ⟨w46, hw46, h⟩ := h
      have hw46 : w46 = y37_3 := hw46
      subst hw46
      cbv
      injection h with h
      subst h
      subst hS32
      exact lsp rfl zl2 ⟨rfl, rfl, rfl, oS, tv⟩ rfl
    ·replace h := og b207 h
     cbv
     replace h := ob_ h
     obtain ⟨y53, hy54, h⟩ := h
     obtain ⟨S57, hS58⟩ : ∃ S, S = some (sp 134 [(2, .c (.ptr 128 0)), (3, .c (.ptr 192 0))] [(128, .var [.v (.slice none 0 0)]), (192, .var [.os 576 0 (LEN y1.1.fC)]), (5, .var [.bs (LEN y53.1) 1 (row GD (encI .u8) y53.1), wi y53.2.1, wi y53.2.2.1]), (576, .arr .rw [] (LEN y1.1.fC) 4 (row GD (oC LEN GD) y53.2.2.2))]) := ⟨_, rfl⟩
     refine ⟨S57, ?_, ?_⟩
     ·clear h
      have h := hy54
      clear hy54
      cbv
      refine fork (fun b206 => ?_) (fun b206 => ?_)
      ·replace h := ot b206 h
       cbv
       replace h := ob_ h
       obtain ⟨y63, hy64, h⟩ := h
       obtain ⟨S67, hS68⟩ : ∃ S, S = (sp 134 [(2, .c (.ptr 128 0)), (3, .c (.ptr 192 0))] [(128, .var [.v (.slice none 0 0)]), (192, .var [.os 576 0 (LEN y1.1.fC)]), (5, .var [.bs (LEN y63.1) 1 (row GD (encI .u8) y63.1), wi y63.2.1, wi y63.2.2.1]), (576, .arr .rw [] (LEN y1.1.fC) 4 (row GD (oC LEN GD) y63.2.2.2))]) := ⟨_, rfl⟩
       refine ⟨S67, ?_, ?_⟩
       ·clear h
        have h := hy64
        clear hy64
        cbv
        refine And.intro (by subst hA; have p := ix c5; first | exact p | exact ⟨p, tv⟩ | exact ⟨p, trivial, tv⟩) ?_
        refine ⟨_, rfl, _, (pC (row GD (oC LEN GD) y1.1.fC) (A.nadd 0 (A.toN y3.1)) [ws (GD y1.1.fC (A.nadd 0 (A.toN y3.1))).fN, .os 3010 0 (LEN (GD y1.1.fC (A.nadd 0 (A.toN y3.1))).fS), .ow (LEN (GD y1.1.fC (A.nadd 0 (A.toN y3.1))).fL) 4 (row GD (eL) (GD y1.1.fC (A.nadd 0 (A.toN y3.1))).fL), .ow (LEN (GD y1.1.fC (A.nadd 0 (A.toN y3.1))).fI) 8 (row GD (eI) (GD y1.1.fC (A.nadd 0 (A.toN y3.1))).fI)]), rfl, wkOf ?_, ?_⟩
        ·refine patch_of ?_
         intro j hj
         match j, hj with | 0, _ => (rfl) | 1, _ => (rfl) | 2, _ => (rfl) | 3, _ => (rfl) | (j_ + 4), h_ => omega
        refine ⟨_, row GD (eS) (GD y1.1.fC (A.nadd 0 (A.toN y3.1))).fS, rfl, wkOf ?_, ?_⟩
        ·exact fun i _ j _ => plain_cp (pl_encShape _ _)
        cbv
        replace h := ob_ h
        obtain ⟨y73, hy74, h⟩ := h
        refine ⟨⟨_, _, _, _, _, [(5, 5)], [(5, 5)]⟩, hfq0 _ _ _ hy74, ⟨zs2, ⟨rfl, tv⟩, rfl, rfl, rfl, rfl, ⟨fun _ => rfl, tv⟩, rfl⟩, ?_⟩
        cbv
        replace h := ob_ h
        obtain ⟨y75, hy76, h⟩ := h
        refine ⟨⟨_, _, _, _, _, [(5, 5)], [(5, 5)]⟩, hfq0 _ _ _ hy76, ⟨zs2, ⟨rfl, tv⟩, rfl, rfl, rfl, rfl, ⟨fun _ => rfl, tv⟩, rfl⟩, ?_⟩
        cbv
        replace h := ob_ h
        obtain ⟨y77, hy78, h⟩ := h
        refine ⟨⟨_, _, _, _, _, [(5, 5)], [(5, 5)]⟩, hfq0 _ _ _ hy78, ⟨zs2, ⟨rfl, tv⟩, rfl, rfl, rfl, rfl, ⟨fun _ => rfl, tv⟩, rfl⟩, ?_⟩
        cbv
        replace h := ob_ h
        obtain ⟨y79, hy80, h⟩ := h
        refine ⟨⟨_, _, _, _, _, [(5, 5)], [(5, 5)]⟩, hfq0 _ _ _ hy80, ⟨zs2, ⟨rfl, tv⟩, rfl, rfl, rfl, rfl, ⟨fun _ => rfl, tv⟩, rfl⟩, ?_⟩
        cbv
        replace h := ob_ h
        obtain ⟨y81, hy82, h⟩ := h
        refine ⟨⟨_, _, _, _, _, [(5, 5)], [(5, 5)]⟩, hfq0 _ _ _ hy82, ⟨zs2, ⟨rfl, tv⟩, rfl, rfl, rfl, rfl, ⟨fun _ => rfl, tv⟩, rfl⟩, ?_⟩
        cbv
        replace h := ol h
        obtain ⟨l83, hl83, h⟩ := h
        have e84 : 1 = LEN l83 := by subst hl83 hLEN; rfl
        refine ⟨_, congrArg (fun n => AV.c (AC.os 4160 0 n)) e84, _, row GD (eS) l83, e84, wkOf ?_, ?_⟩
        ·intro i hi j hj
         rw [<- e84] at hi
         subst hl83
         subst hGD
         obtain rfl : i = 0 := (by omega) <;> obtain rfl | rfl | rfl | rfl | rfl : j = 0 \/ j = 1 \/ j = 2 \/ j = 3 \/ j = 4 := (by omega)
         all_goals rfl
        cbv
        replace h := oq_ h
        obtain ⟨c87, h⟩ := h
        replace h := ol h
        obtain ⟨l85, hl85, h⟩ := h
        have e86 : A.nadd (LEN (GD y1.1.fC (A.nadd 0 (A.toN y3.1))).fS) (LEN l83) = LEN l85 := by subst hl85 hLEN hA; simp [std, len]
        refine ⟨c87, _, congrArg (fun n => AV.c (AC.os 3010 0 n)) e86, _, row GD (eS) l85, e86, wkOf ?_, ?_⟩
        ·subst hGD hLEN hA
         exact app_os (off := 0) (pl_encShape) hl85 (Nat.le_refl _)
        cbv
        refine And.intro (by subst hA; have p := ix c5; first | exact p | exact ⟨p, tv⟩ | exact ⟨p, trivial, tv⟩) ?_
        refine ⟨_, rfl, _, (pC (row GD (oC LEN GD) y1.1.fC) (A.nadd 0 (A.toN y3.1)) [ws (GD y1.1.fC (A.nadd 0 (A.toN y3.1))).fN, .os 3010 0 (LEN l85), .ow (LEN (GD y1.1.fC (A.nadd 0 (A.toN y3.1))).fL) 4 (row GD (eL) (GD y1.1.fC (A.nadd 0 (A.toN y3.1))).fL), .ow (LEN (GD y1.1.fC (A.nadd 0 (A.toN y3.1))).fI) 8 (row GD (eI) (GD y1.1.fC (A.nadd 0 (A.toN y3.1))).fI)]), rfl, wkOf ?_, ?_⟩
        ·first | refine patch_of2 ?_ | refine patch_of2K (fun _ _ => rC _ _) ?_
         intro j hj
         match j, hj with | 0, _ => (rfl) | 1, _ => (rfl) | 2, _ => (rfl) | 3, _ => (rfl) | (j_ + 4), h_ => omega
        cbv
        replace h := ol h
        obtain ⟨l88, hl88, h⟩ := h
        injection h with h
        subst h
        subst hS68
        refine St.le_trans (le_foldP 576 1 3010 rfl rfl rfl (by decide) (by subst hA; exact ix c5) (by decide) rfl (fun _ _ => rC _ _)) ?_
        exact lsp rfl zl2 ⟨rfl, rfl, rfl, ⟨fun hw => hw, fun c hc => (by cases hc), .inr (fun i _ j _ z hz => (noref (rC _ _) hz).elim), rfl, rfl, (by subst hGD hLEN hA; exact patch_set hl88 (ix c5) (by intro j hj; match j, hj with | 0, _ => rfl | 1, _ => rfl | 2, _ => rfl | 3, _ => rfl | (j_ + 4), h_ => omega))⟩, tv⟩ rfl
       ·clear hy64
        subst hS68
        obtain ⟨y63_0, y63_1, y63_2, y63_3⟩ := y63
        replace h := ol h
        obtain ⟨w69, hw69, h⟩ := h
        have hw69 : w69 = y63_0 := hw69
        subst hw69
        replace h := ol h
        obtain ⟨w70, hw70, h⟩ := h
        have hw70 : w70 = y63_1 := hw70
        subst hw70
        replace h := ol h
        obtain ⟨w71, hw71, h⟩ := h
        have hw71 : w71 = y63_2 := hw71
        subst hw71
        replace h := ol h
        obtain ⟨w72, hw72, h⟩ := h
        have hw72 : w72 = y63_3 := hw72
        subst hw72
        cbv
        injection h with h
        subst h
        subst hS58
        exact lsp rfl zl2 ⟨rfl, rfl, rfl, oS, tv⟩ rfl
      ·replace h := og b206 h
       cbv
       replace h := ob_ h
       obtain ⟨y89, hy90, h⟩ := h
       obtain ⟨S93, hS94⟩ : ∃ S, S = some (sp 134 [(2, .c (.ptr 128 0)), (3, .c (.ptr 192 0))] [(128, .var [.v (.slice none 0 0)]), (192, .var [.os 576 0 (LEN y1.1.fC)]), (5, .var [.bs (LEN y89.1) 1 (row GD (encI .u8) y89.1), wi y89.2.1, wi y89.2.2.1]), (576, .arr .rw [] (LEN y1.1.fC) 4 (row GD (oC LEN GD) y89.2.2.2))]) := ⟨_, rfl⟩
       refine ⟨S93, ?_, ?_⟩
       ·clear h
        have h := hy90
        clear hy90
        cbv
        refine fork (fun b205 => ?_) (fun b205 => ?_)
        ·replace h := ot b205 h
         cbv
         replace h := ob_ h
         obtain ⟨y99, hy100, h⟩ := h
         refine ⟨⟨_, _, _, _, _, [(5, 5)], [(5, 5)]⟩, hfq19 _ _ _ hy100, ⟨zs2, ⟨rfl, tv⟩, rfl, rfl, rfl, rfl, ⟨fun _ => rfl, tv⟩, rfl⟩, ?_⟩
         cbv
         replace h := ob_ h
         obtain ⟨y101, hy102, h⟩ := h
         refine ⟨⟨_, _, _, _, _, [(5, 5)], [(5, 5)]⟩, hfq0 _ _ _ hy102, ⟨zs2, ⟨rfl, tv⟩, rfl, rfl, rfl, rfl, ⟨fun _ => rfl, tv⟩, rfl⟩, ?_⟩
         cbv
         replace h := ob_ h
         obtain ⟨y103, hy104, h⟩ := h
         refine ⟨⟨_, _, _, _, _, [(5, 5)], [(5, 5)]⟩, hfq0 _ _ _ hy104, ⟨zs2, ⟨rfl, tv⟩, rfl, rfl, rfl, rfl, ⟨fun _ => rfl, tv⟩, rfl⟩, ?_⟩
         cbv
         replace h := ob_ h
         obtain ⟨y105, hy106, h⟩ := h
         obtain ⟨S109, hS110⟩ : ∃ S, S = (sp 134 [(2, .c (.ptr 128 0)), (3, .c (.ptr 192 0))] [(128, .var [.v (.slice none 0 0)]), (192, .var [.os 576 0 (LEN y1.1.fC)]), (5, .var [.bs (LEN y103.2.gcode) 1 (row GD (encI .u8) y103.2.gcode), wi y103.2.gat, wi y103.2.gseed]), (576, .arr .rw [] (LEN y1.1.fC) 4 (row GD (oC LEN GD) y105))]) := ⟨_, rfl⟩
         refine ⟨S109, ?_, ?_⟩
         ·clear h
          have h := hy106
          clear hy106
          cbv
          refine And.intro (by subst hA; have p := ix c5; first | exact p | exact ⟨p, tv⟩ | exact ⟨p, trivial, tv⟩) ?_
          refine ⟨_, rfl, _, (pC (row GD (oC LEN GD) y1.1.fC) (A.nadd 0 (A.toN y3.1)) [ws (GD y1.1.fC (A.nadd 0 (A.toN y3.1))).fN, .ow (LEN (GD y1.1.fC (A.nadd 0 (A.toN y3.1))).fS) 5 (row GD (eS) (GD y1.1.fC (A.nadd 0 (A.toN y3.1))).fS), .ow (LEN (GD y1.1.fC (A.nadd 0 (A.toN y3.1))).fL) 4 (row GD (eL) (GD y1.1.fC (A.nadd 0 (A.toN y3.1))).fL), .os 5506 0 (LEN (GD y1.1.fC (A.nadd 0 (A.toN y3.1))).fI)]), rfl, wkOf ?_, ?_⟩
          ·refine patch_of ?_
           intro j hj
           match j, hj with | 0, _ => (rfl) | 1, _ => (rfl) | 2, _ => (rfl) | 3, _ => (rfl) | (j_ + 4), h_ => omega
          refine ⟨_, row GD (eI) (GD y1.1.fC (A.nadd 0 (A.toN y3.1))).fI, rfl, wkOf ?_, ?_⟩
          ·exact fun i _ j _ => plain_cp (pl_encInstance _ _)
          cbv
          replace h := ol h
          obtain ⟨l112, hl112, h⟩ := h
          have e113 : 1 = LEN l112 := by subst hl112 hLEN; rfl
          refine ⟨_, congrArg (fun n => AV.c (AC.os 5632 0 n)) e113, _, row GD (eI) l112, e113, wkOf ?_, ?_⟩
          ·intro i hi j hj
           rw [<- e113] at hi
           subst hl112
           subst hGD
           obtain rfl : i = 0 := (by omega) <;> obtain rfl | rfl | rfl | rfl | rfl | rfl | rfl | rfl : j = 0 \/ j = 1 \/ j = 2 \/ j = 3 \/ j = 4 \/ j = 5 \/ j = 6 \/ j = 7 := (by omega)
           all_goals rfl
          cbv
          replace h := oq_ h
          obtain ⟨c116, h⟩ := h
          replace h := ol h
          obtain ⟨l114, hl114, h⟩ := h
          have e115 : A.nadd (LEN (GD y1.1.fC (A.nadd 0 (A.toN y3.1))).fI) (LEN l112) = LEN l114 := by subst hl114 hLEN hA; simp [std, len]
          refine ⟨c116, _, congrArg (fun n => AV.c (AC.os 5506 0 n)) e115, _, row GD (eI) l114, e115, wkOf ?_, ?_⟩
          ·subst hGD hLEN hA
           exact app_os (off := 0) (pl_encInstance) hl114 (Nat.le_refl _)
          cbv
          refine And.intro (by subst hA; have p := ix c5; first | exact p | exact ⟨p, tv⟩ | exact ⟨p, trivial, tv⟩) ?_
          refine ⟨_, rfl, _, (pC (row GD (oC LEN GD) y1.1.fC) (A.nadd 0 (A.toN y3.1)) [ws (GD y1.1.fC (A.nadd 0 (A.toN y3.1))).fN, .ow (LEN (GD y1.1.fC (A.nadd 0 (A.toN y3.1))).fS) 5 (row GD (eS) (GD y1.1.fC (A.nadd 0 (A.toN y3.1))).fS), .ow (LEN (GD y1.1.fC (A.nadd 0 (A.toN y3.1))).fL) 4 (row GD (eL) (GD y1.1.fC (A.nadd 0 (A.toN y3.1))).fL), .os 5506 0 (LEN l114)]), rfl, wkOf ?_, ?_⟩
          ·first | refine patch_of2 ?_ | refine patch_of2K (fun _ _ => rC _ _) ?_
           intro j hj
           match j, hj with | 0, _ => (rfl) | 1, _ => (rfl) | 2, _ => (rfl) | 3, _ => (rfl) | (j_ + 4), h_ => omega
          cbv
          replace h := ol h
          obtain ⟨l117, hl117, h⟩ := h
          injection h with h
          subst h
          subst hS110
          refine St.le_trans (le_foldP 576 3 5506 rfl rfl rfl (by decide) (by subst hA; exact ix c5) (by decide) rfl (fun _ _ => rC _ _)) ?_
          exact lsp rfl zl2 ⟨rfl, rfl, rfl, ⟨fun hw => hw, fun c hc => (by cases hc), .inr (fun i _ j _ z hz => (noref (rC _ _) hz).elim), rfl, rfl, (by subst hGD hLEN hA; exact patch_set hl117 (ix c5) (by intro j hj; match j, hj with | 0, _ => rfl | 1, _ => rfl | 2, _ => rfl | 3, _ => rfl | (j_ + 4), h_ => omega))⟩, tv⟩ rfl
         ·clear hy106
          subst hS110
          replace h := ol h
          obtain ⟨w111, hw111, h⟩ := h
          have hw111 : w111 = y105 := hw111
          subst hw111
          cbv
          injection h with h
          subst h
          subst hS94
          exact lsp rfl zl2 ⟨rfl, rfl, rfl, oS, tv⟩ rfl
        ·replace h := og b205 h
         cbv
         replace h := ob_ h
         obtain ⟨y118, hy119, h⟩ := h
         obtain ⟨S122, hS123⟩ : ∃ S, S = some (sp 134 [(2, .c (.ptr 128 0)), (3, .c (.ptr 192 0))] [(128, .var [.v (.slice none 0 0)]), (192, .var [.os 576 0 (LEN y1.1.fC)]), (5, .var [.bs (LEN y118.1) 1 (row GD (encI .u8) y118.1), wi y118.2.1, wi y118.2.2.1]), (576, .arr .rw [] (LEN y1.1.fC) 4 (row GD (oC LEN GD) y118.2.2.2))]) := ⟨_, rfl⟩
         refine ⟨S122, ?_, ?_⟩
         ·clear h
          have h := hy119
          clear hy119
          cbv
          refine fork (fun b204 => ?_) (fun b204 => ?_)
          ·replace h := ot b204 h
           cbv
           replace h := ob_ h
           obtain ⟨y128, hy129, h⟩ := h
           obtain ⟨S132, hS133⟩ : ∃ S, S = (sp 134 [(2, .c (.ptr 128 0)), (3, .c (.ptr 192 0))] [(128, .var [.v (.slice none 0 0)]), (192, .var [.os 576 0 (LEN y1.1.fC)]), (5, .var [.bs (LEN y128.1) 1 (row GD (encI .u8) y128.1), wi y128.2.1, wi y128.2.2.1]), (576, .arr .rw [] (LEN y1.1.fC) 4 (row GD (oC LEN GD) y128.2.2.2))]) := ⟨_, rfl⟩
           refine ⟨S132, ?_, ?_⟩
           ·clear h
            have h := hy129
            clear hy129
            cbv
            refine And.intro (by subst hA; have p := ix c5; first | exact p | exact ⟨p, tv⟩ | exact ⟨p, trivial, tv⟩) ?_
            refine ⟨_, rfl, _, (pC (row GD (oC LEN GD) y1.1.fC) (A.nadd 0 (A.toN y3.1)) [ws (GD y1.1.fC (A.nadd 0 (A.toN y3.1))).fN, .ow (LEN (GD y1.1.fC (A.nadd 0 (A.toN y3.1))).fS) 5 (row GD (eS) (GD y1.1.fC (A.nadd 0 (A.toN y3.1))).fS), .os 6274 0 (LEN (GD y1.1.fC (A.nadd 0 (A.toN y3.1))).fL), .ow (LEN (GD y1.1.fC (A.nadd 0 (A.toN y3.1))).fI) 8 (row GD (eI) (GD y1.1.fC (A.nadd 0 (A.toN y3.1))).fI)]), rfl, wkOf ?_, ?_⟩
            ·refine patch_of ?_
             intro j hj
             match j, hj with | 0, _ => (rfl) | 1, _ => (rfl) | 2, _ => (rfl) | 3, _ => (rfl) | (j_ + 4), h_ => omega
            refine ⟨_, row GD (eL) (GD y1.1.fC (A.nadd 0 (A.toN y3.1))).fL, rfl, wkOf ?_, ?_⟩
            ·exact fun i _ j _ => plain_cp (pl_encLabel _ _)
            cbv
            replace h := ob_ h
            obtain ⟨y138, hy139, h⟩ := h
            refine ⟨⟨_, _, _, _, _, [(5, 5)], [(5, 5)]⟩, hfq0 _ _ _ hy139, ⟨zs2, ⟨rfl, tv⟩, rfl, rfl, rfl, rfl, ⟨fun _ => rfl, tv⟩, rfl⟩, ?_⟩
            cbv
            replace h := ob_ h
            obtain ⟨y140, hy141, h⟩ := h
            refine ⟨⟨_, _, _, _, _, [(5, 5)], [(5, 5)]⟩, hfq0 _ _ _ hy141, ⟨zs2, ⟨rfl, tv⟩, rfl, rfl, rfl, rfl, ⟨fun _ => rfl, tv⟩, rfl⟩, ?_⟩
            cbv
            replace h := ob_ h
            obtain ⟨y142, hy143, h⟩ := h
            refine ⟨⟨_, _, _, _, _, [(5, 5)], [(5, 5)]⟩, hfq0 _ _ _ hy143, ⟨zs2, ⟨rfl, tv⟩, rfl, rfl, rfl, rfl, ⟨fun _ => rfl, tv⟩, rfl⟩, ?_⟩
            cbv
            replace h := ob_ h
            obtain ⟨y144, hy145, h⟩ := h
            refine ⟨⟨_, _, _, _, _, [(5, 5)], [(5, 5)]⟩, hfq6 _ _ hy145, ⟨zs1, ⟨rfl, tv⟩, rfl, rfl, rfl, rfl, ⟨fun _ => rfl, tv⟩, rfl⟩, ?_⟩
            cbv
            replace h := ol h
            obtain ⟨l146, hl146, h⟩ := h
            have e147 : 1 = LEN l146 := by subst hl146 hLEN; rfl
            refine ⟨_, congrArg (fun n => AV.c (AC.os 7168 0 n)) e147, _, row GD (eL) l146, e147, wkOf ?_, ?_⟩
            ·intro i hi j hj
             rw [<- e147] at hi
             subst hl146
             subst hGD
             obtain rfl : i = 0 := (by omega) <;> obtain rfl | rfl | rfl | rfl : j = 0 \/ j = 1 \/ j = 2 \/ j = 3 := (by omega)
             all_goals rfl
            cbv
            replace h := oq_ h
            obtain ⟨c150, h⟩ := h
            replace h := ol h
            obtain ⟨l148, hl148, h⟩ := h
            have e149 : A.nadd (LEN (GD y1.1.fC (A.nadd 0 (A.toN y3.1))).fL) (LEN l146) = LEN l148 := by subst hl148 hLEN hA; simp [std, len]
            refine ⟨c150, _, congrArg (fun n => AV.c (AC.os 6274 0 n)) e149, _, row GD (eL) l148, e149, wkOf ?_, ?_⟩
            ·subst hGD hLEN hA
             exact app_os (off := 0) (pl_encLabel) hl148 (Nat.le_refl _)
            cbv
            refine And.intro (by subst hA; have p := ix c5; first | exact p | exact ⟨p, tv⟩ | exact ⟨p, trivial, tv⟩) ?_
            refine ⟨_, rfl, _, (pC (row GD (oC LEN GD) y1.1.fC) (A.nadd 0 (A.toN y3.1)) [ws (GD y1.1.fC (A.nadd 0 (A.toN y3.1))).fN, .ow (LEN (GD y1.1.fC (A.nadd 0 (A.toN y3.1))).fS) 5 (row GD (eS) (GD y1.1.fC (A.nadd 0 (A.toN y3.1))).fS), .os 6274 0 (LEN l148), .ow (LEN (GD y1.1.fC (A.nadd 0 (A.toN y3.1))).fI) 8 (row GD (eI) (GD y1.1.fC (A.nadd 0 (A.toN y3.1))).fI)]), rfl, wkOf ?_, ?_⟩
            ·first | refine patch_of2 ?_ | refine patch_of2K (fun _ _ => rC _ _) ?_
             intro j hj
             match j, hj with | 0, _ => (rfl) | 1, _ => (rfl) | 2, _ => (rfl) | 3, _ => (rfl) | (j_ + 4), h_ => omega
            cbv
            replace h := ol h
            obtain ⟨l151, hl151, h⟩ := h
            injection h with h
            subst h
            subst hS133
            refine St.le_trans (le_foldP 576 2 6274 rfl rfl rfl (by decide) (by subst hA; exact ix c5) (by decide) rfl (fun _ _ => rC _ _)) ?_
            exact lsp rfl zl2 ⟨rfl, rfl, rfl, ⟨fun hw => hw, fun c hc => (by cases hc), .inr (fun i _ j _ z hz => (noref (rC _ _) hz).elim), rfl, rfl, (by subst hGD hLEN hA; exact patch_set hl151 (ix c5) (by intro j hj; match j, hj with | 0, _ => rfl | 1, _ => rfl | 2, _ => rfl | 3, _ => rfl | (j_ + 4), h_ => omega))⟩, tv⟩ rfl
           ·clear hy129
            subst hS133
            obtain ⟨y128_0, y128_1, y128_2, y128_3⟩ := y128
            replace h := ol h
            obtain ⟨w134, hw134, h⟩ := h
            have hw134 : w134 = y128_0 := hw134
            subst hw134
            replace h := ol h
            obtain ⟨w135, hw135, h⟩ := h
            have hw135 : w135 = y128_1 := hw135
            subst hw135
            replace h := ol h
            obtain ⟨w136, hw136, h⟩ := h
            have hw136 : w136 = y128_2 := hw136
            subst hw136
            replace h := ol h
            obtain ⟨w137, hw137, h⟩ := h
            have hw137 : w137 = y128_3 := hw137
            subst hw137
            cbv
            injection h with h
            subst h
            subst hS123
            exact lsp rfl zl2 ⟨rfl, rfl, rfl, oS, tv⟩ rfl
          ·replace h := og b204 h
           cbv
           replace h := ob_ h
           obtain ⟨y152, hy153, h⟩ := h
           obtain ⟨S156, hS157⟩ : ∃ S, S = some (sp 134 [(2, .c (.ptr 128 0)), (3, .c (.ptr 192 0))] [(128, .var [.v (.slice none 0 0)]), (192, .var [.os 576 0 (LEN y1.1.fC)]), (5, .var [.bs (LEN y152.1) 1 (row GD (encI .u8) y152.1), wi y152.2.1, wi y152.2.2.1]), (576, .arr .rw [] (LEN y1.1.fC) 4 (row GD (oC LEN GD) y152.2.2.2))]) := ⟨_, rfl⟩
           refine ⟨S156, ?_, ?_⟩
           ·clear h
            have h := hy153
            clear hy153
            cbv
            refine fork (fun b203 => ?_) (fun b203 => ?_)
            ·replace h := ot b203 h
             cbv
             replace h := ob_ h
             obtain ⟨y168, hr169, hN170⟩ := h
             refine loop_cut hr169 (fun x => (sp 134 [(0, .c (.ptr 5 0)), (2, .c (.ptr 128 0)), (3, .c (.ptr 192 0)), (5, .c (.ep 576 (A.nadd 0 (A.toN y3.1)) 0)), (7, .c (wi x.1))] [(5, .var [.bs (LEN x.2.1) 1 (row GD (encI .u8) x.2.1), wi x.2.2.1, wi x.2.2.2.1]), (128, .var [.v (.slice none 0 0)]), (192, .var [.os 576 0 (LEN y1.1.fC)]), (576, .arr .rw [] (LEN y1.1.fC) 4 (row GD (oC LEN GD) x.2.2.2.2))])) ?_ (fun y e s => (fun (w : (List Int) × Int × Int × (List TC)) => e = .exit 1 /\ s.le (sp 134 [(2, .c (.ptr 128 0)), (3, .c (.ptr 192 0))] [(128, .var [.v (.slice none 0 0)]), (192, .var [.os 576 0 (LEN y1.1.fC)]), (5, .var [.bs (LEN w.1) 1 (row GD (encI .u8) w.1), wi w.2.1, wi w.2.2.1]), (576, .arr .rw [] (LEN y1.1.fC) 4 (row GD (oC LEN GD) w.2.2.2))])) y) ?_ ?_
             ·clear hr169 hN170
              show St.le _ _
              exact lsp rfl zl5 ⟨rfl, rfl, rfl, oS, tv⟩ rfl
             ·clear hr169 hN170
              intro x z174 h K172 hK173 hY171
              obtain ⟨x0_, x1_, x2_, x3_, x4_⟩ := x
              replace h := ol h
              obtain ⟨v162, hv162, h⟩ := h
              have hv162 : v162 = x0_ := hv162
              subst hv162
              replace h := ol h
              obtain ⟨v163, hv163, h⟩ := h
              have hv163 : v163 = x1_ := hv163
              subst hv163
              replace h := ol h
              obtain ⟨v164, hv164, h⟩ := h
              have hv164 : v164 = x2_ := hv164
              subst hv164
              replace h := ol h
              obtain ⟨v165, hv165, h⟩ := h
              have hv165 : v165 = x3_ := hv165
              subst hv165
              replace h := ol h
              obtain ⟨v166, hv166, h⟩ := h
              have hv166 : v166 = x4_ := hv166
              subst hv166
              cbv
              refine fork (fun b198 => ?_) (fun b198 => ?_)
              ·replace h := ot b198 h
               cbv
               replace h := ob_ h
               obtain ⟨y179, hy180, h⟩ := h
               obtain ⟨S183, hS184⟩ : ∃ S, S = (sp 134 [(0, .c (.ptr 5 0)), (2, .c (.ptr 128 0)), (3, .c (.ptr 192 0)), (5, .c (.ep 576 (A.nadd 0 (A.toN y3.1)) 0)), (7, .c (wi v162))] [(5, .var [.bs (LEN y179.1) 1 (row GD (encI .u8) y179.1), wi y179.2.1, wi y179.2.2.1]), (128, .var [.v (.slice none 0 0)]), (192, .var [.os 576 0 (LEN y1.1.fC)]), (576, .arr .rw [] (LEN y1.1.fC) 4 (row GD (oC LEN GD) y179.2.2.2))]) := ⟨_, rfl⟩
               refine ⟨S183, ?_, ?_⟩
               ·clear h
                have h := hy180
                clear hy180
                cbv
                refine And.intro (by subst hA; have p := ix c5; first | exact p | exact ⟨p, tv⟩ | exact ⟨p, trivial, tv⟩) ?_
                refine ⟨_, rfl, _, (pC (row GD (oC LEN GD) v166) (A.nadd 0 (A.toN y3.1)) [ws (GD v166 (A.nadd 0 (A.toN y3.1))).fN, .os 8066 0 (LEN (GD v166 (A.nadd 0 (A.toN y3.1))).fS), .ow (LEN (GD v166 (A.nadd 0 (A.toN y3.1))).fL) 4 (row GD (eL) (GD v166 (A.nadd 0 (A.toN y3.1))).fL), .ow (LEN (GD v166 (A.nadd 0 (A.toN y3.1))).fI) 8 (row GD (eI) (GD v166 (A.nadd 0 (A.toN y3.1))).fI)]), rfl, wkOf ?_, ?_⟩
                ·refine patch_of ?_
                 intro j hj
                 match j, hj with | 0, _ => (rfl) | 1, _ => (rfl) | 2, _ => (rfl) | 3, _ => (rfl) | (j_ + 4), h_ => omega
                refine ⟨_, row GD (eS) (GD v166 (A.nadd 0 (A.toN y3.1))).fS, rfl, wkOf ?_, ?_⟩
                ·exact fun i _ j _ => plain_cp (pl_encShape _ _)
                cbv
                replace h := ob_ h
                obtain ⟨y189, hy190, h⟩ := h
                refine ⟨⟨_, _, _, _, _, [(5, 5)], [(5, 5)]⟩, hfq18 _ _ hy190, ⟨zs1, ⟨rfl, tv⟩, rfl, rfl, rfl, rfl, ⟨fun _ => rfl, tv⟩, rfl⟩, ?_⟩
                cbv
                replace h := ol h
                obtain ⟨l191, hl191, h⟩ := h
                have e192 : 1 = LEN l191 := by subst hl191 hLEN; rfl
                refine ⟨_, congrArg (fun n => AV.c (AC.os 8256 0 n)) e192, _, row GD (eS) l191, e192, wkOf ?_, ?_⟩
                ·intro i hi j hj
                 rw [<- e192] at hi
                 subst hl191
                 subst hGD
                 obtain rfl : i = 0 := (by omega) <;> obtain rfl | rfl | rfl | rfl | rfl : j = 0 \/ j = 1 \/ j = 2 \/ j = 3 \/ j = 4 := (by omega)
                 all_goals rfl
                cbv
                replace h := oq_ h
                obtain ⟨c195, h⟩ := h
                replace h := ol h
                obtain ⟨l193, hl193, h⟩ := h
                have e194 : A.nadd (LEN (GD v166 (A.nadd 0 (A.toN y3.1))).fS) (LEN l191) = LEN l193 := by subst hl193 hLEN hA; simp [std, len]
                refine ⟨c195, _, congrArg (fun n => AV.c (AC.os 8066 0 n)) e194, _, row GD (eS) l193, e194, wkOf ?_, ?_⟩
                ·subst hGD hLEN hA
                 exact app_os (off := 0) (pl_encShape) hl193 (Nat.le_refl _)
                cbv
                refine And.intro (by subst hA; have p := ix c5; first | exact p | exact ⟨p, tv⟩ | exact ⟨p, trivial, tv⟩) ?_
                refine ⟨_, rfl, _, (pC (row GD (oC LEN GD) v166) (A.nadd 0 (A.toN y3.1)) [ws (GD v166 (A.nadd 0 (A.toN y3.1))).fN, .os 8066 0 (LEN l193), .ow (LEN (GD v166 (A.nadd 0 (A.toN y3.1))).fL) 4 (row GD (eL) (GD v166 (A.nadd 0 (A.toN y3.1))).fL), .ow (LEN (GD v166 (A.nadd 0 (A.toN y3.1))).fI) 8 (row GD (eI) (GD v166 (A.nadd 0 (A.toN y3.1))).fI)]), rfl, wkOf ?_, ?_⟩
                ·first | refine patch_of2 ?_ | refine patch_of2K (fun _ _ => rC _ _) ?_
                 intro j hj
                 match j, hj with | 0, _ => (rfl) | 1, _ => (rfl) | 2, _ => (rfl) | 3, _ => (rfl) | (j_ + 4), h_ => omega
                cbv
                replace h := oq_ h
                obtain ⟨c197, h⟩ := h
                replace h := ol h
                obtain ⟨l196, hl196, h⟩ := h
                injection h with h
                subst h
                subst hS184
                refine St.le_trans (le_foldP 576 1 8066 rfl rfl rfl (by decide) (by subst hA; exact ix c5) (by decide) rfl (fun _ _ => rC _ _)) ?_
                exact lsp rfl zl5 ⟨rfl, rfl, rfl, ⟨fun hw => hw, fun c hc => (by cases hc), .inr (fun i _ j _ z hz => (noref (rC _ _) hz).elim), rfl, rfl, (by subst hGD hLEN hA; exact patch_set hl196 (ix (by rw [<- c197]; exact c5)) (by intro j hj; match j, hj with | 0, _ => rfl | 1, _ => rfl | 2, _ => rfl | 3, _ => rfl | (j_ + 4), h_ => omega))⟩, tv⟩ rfl
               ·clear hy180
                subst hS184
                obtain ⟨y179_0, y179_1, y179_2, y179_3⟩ := y179
                replace h := ol h
                obtain ⟨w185, hw185, h⟩ := h
                have hw185 : w185 = y179_0 := hw185
                subst hw185
                replace h := ol h
                obtain ⟨w186, hw186, h⟩ := h
                have hw186 : w186 = y179_1 := hw186
                subst hw186
                replace h := ol h
                obtain ⟨w187, hw187, h⟩ := h
                have hw187 : w187 = y179_2 := hw187
                subst hw187
                replace h := ol h
                obtain ⟨w188, hw188, h⟩ := h
                have hw188 : w188 = y179_3 := hw188
                subst hw188
                cbv
                injection h with h
                refine hK173 _ h.symm _ ?_
                exact lsp rfl zl5 ⟨rfl, rfl, rfl, oS, tv⟩ rfl
              ·replace h := og b198 h
               cbv
               injection h with h
               refine hY171 _ h.symm _ _ (And.intro rfl ?_) (by intro hh; cases hh)
               exact lsp rfl zl2 ⟨rfl, rfl, rfl, oS, tv⟩ rfl
             ·clear hr169
              have h := hN170
              clear hN170
              intro e177 s178 q176 hne
              replace h := ol h
              obtain ⟨y168k0, hyk, h⟩ := h
              have hyk : y168k0 = y168 := hyk
              subst hyk
              obtain ⟨rfl, q176⟩ := q176
              obtain ⟨y168k0_0, y168k0_1, y168k0_2, y168k0_3⟩ := y168k0
              replace h := ol h
              obtain ⟨w199, hw199, h⟩ := h
              have hw199 : w199 = y168k0_0 := hw199
              subst hw199
              replace h := ol h
              obtain ⟨w200, hw200, h⟩ := h
              have hw200 : w200 = y168k0_1 := hw200
              subst hw200
              replace h := ol h
              obtain ⟨w201, hw201, h⟩ := h
              have hw201 : w201 = y168k0_2 := hw201
              subst hw201
              replace h := ol h
              obtain ⟨w202, hw202, h⟩ := h
              have hw202 : w202 = y168k0_3 := hw202
              subst hw202
              cbv
              refine ⟨_, q176, ?_⟩
              cbv
              injection h with h
              subst h
              subst hS157
              exact lsp rfl zl2 ⟨rfl, rfl, rfl, oS, tv⟩ rfl
            ·replace h := og b203 h
             cbv
             injection h with h
             subst h
             subst hS157
             exact lsp rfl zl2 ⟨rfl, rfl, rfl, oS, tv⟩ rfl
           ·clear hy153
            subst hS157
            obtain ⟨y152_0, y152_1, y152_2, y152_3⟩ := y152
            replace h := ol h
            obtain ⟨w158, hw158, h⟩ := h
            have hw158 : w158 = y152_0 := hw158
            subst hw158
            replace h := ol h
            obtain ⟨w159, hw159, h⟩ := h
            have hw159 : w159 = y152_1 := hw159
            subst hw159
            replace h := ol h
            obtain ⟨w160, hw160, h⟩ := h
            have hw160 : w160 = y152_2 := hw160
            subst hw160
            replace h := ol h
            obtain ⟨w161, hw161, h⟩ := h
            have hw161 : w161 = y152_3 := hw161
            subst hw161
            cbv
            injection h with h
            subst h
            subst hS123
            exact lsp rfl zl2 ⟨rfl, rfl, rfl, oS, tv⟩ rfl
         ·clear hy119
          subst hS123
          obtain ⟨y118_0, y118_1, y118_2, y118_3⟩ := y118
          replace h := ol h
          obtain ⟨w124, hw124, h⟩ := h
          have hw124 : w124 = y118_0 := hw124
          subst hw124
          replace h := ol h
          obtain ⟨w125, hw125, h⟩ := h
          have hw125 : w125 = y118_1 := hw125
          subst hw125
          replace h := ol h
          obtain ⟨w126, hw126, h⟩ := h
          have hw126 : w126 = y118_2 := hw126
          subst hw126
          replace h := ol h
          obtain ⟨w127, hw127, h⟩ := h
          have hw127 : w127 = y118_3 := hw127
          subst hw127
          cbv
          injection h with h
          subst h
          subst hS94
          exact lsp rfl zl2 ⟨rfl, rfl, rfl, oS, tv⟩ rfl
       ·clear hy90
        subst hS94
        obtain ⟨y89_0, y89_1, y89_2, y89_3⟩ := y89
        replace h := ol h
        obtain ⟨w95, hw95, h⟩ := h
        have hw95 : w95 = y89_0 := hw95
        subst hw95
        replace h := ol h
        obtain ⟨w96, hw96, h⟩ := h
        have hw96 : w96 = y89_1 := hw96
        subst hw96
        replace h := ol h
        obtain ⟨w97, hw97, h⟩ := h
        have hw97 : w97 = y89_2 := hw97
        subst hw97
        replace h := ol h
        obtain ⟨w98, hw98, h⟩ := h
        have hw98 : w98 = y89_3 := hw98
        subst hw98
        cbv
        injection h with h
        subst h
        subst hS58
        exact lsp rfl zl2 ⟨rfl, rfl, rfl, oS, tv⟩ rfl
     ·clear hy54
      subst hS58
      obtain ⟨y53_0, y53_1, y53_2, y53_3⟩ := y53
      replace h := ol h
      obtain ⟨w59, hw59, h⟩ := h
      have hw59 : w59 = y53_0 := hw59
      subst hw59
      replace h := ol h
      obtain ⟨w60, hw60, h⟩ := h
      have hw60 : w60 = y53_1 := hw60
      subst hw60
      replace h := ol h
      obtain ⟨w61, hw61, h⟩ := h
      have hw61 : w61 = y53_2 := hw61
      subst hw61
      replace h := ol h
      obtain ⟨w62, hw62, h⟩ := h
      have hw62 : w62 = y53_3 := hw62
      subst hw62
      cbv
      injection h with h
      subst h
      subst hS32
      exact lsp rfl zl2 ⟨rfl, rfl, rfl, oS, tv⟩ rfl
   ·clear hy28
    subst hS32
    obtain ⟨y27_0, y27_1, y27_2, y27_3⟩ := y27
    replace h := ol h
    obtain ⟨w33, hw33, h⟩ := h
    have hw33 : w33 = y27_0 := hw33
    subst hw33
    replace h := ol h
    obtain ⟨w34, hw34, h⟩ := h
    have hw34 : w34 = y27_1 := hw34
    subst hw34
    replace h := ol h
    obtain ⟨w35, hw35, h⟩ := h
    have hw35 : w35 = y27_2 := hw35
    subst hw35
    replace h := ol h
    obtain ⟨w36, hw36, h⟩ := h
    have hw36 : w36 = y27_3 := hw36
    subst hw36
    cbv
    injection h with h
    subst h
    subst hS13
    exact lsp rfl zl2 ⟨rfl, rfl, rfl, oS, tv⟩ rfl
 ·clear hy9
  subst hS13
  obtain ⟨y8_0, y8_1, y8_2, y8_3⟩ := y8
  replace h := ol h
  obtain ⟨w14, hw14, h⟩ := h
  have hw14 : w14 = y8_0 := hw14
  subst hw14
  replace h := ol h
  obtain ⟨w15, hw15, h⟩ := h
  have hw15 : w15 = y8_1 := hw15
  subst hw15
  replace h := ol h
  obtain ⟨w16, hw16, h⟩ := h
  have hw16 : w16 = y8_2 := hw16
  subst hw16
  replace h := ol h
  obtain ⟨w17, hw17, h⟩ := h
  have hw17 : w17 = y8_3 := hw17
  subst hw17
  cbv
  replace h := oq_ h
  obtain ⟨c209, h⟩ := h
  injection h with h
  subst h
  refine ⟨(sp 134 [(2, .c (.ptr 128 0))] [(128, .var [.os 64000 0 (LEN w14)]), (5, .var [.bs (LEN w15) 1 (row GD (encI .u8) w15), wi w16, wi w17]), (64000, .arr .rw [] (LEN w14) 4 (row GD (oC LEN GD) w14))]), ?_, ?_⟩
  ·refine St.le_trans (le_ren 576 64000 (by decide) rfl) ?_
   rw [c209]
   exact lsp rfl zl1 ⟨rfl, rfl, oS, tv⟩ rfl
  ·exact ⟨lR _, ⟨oS, rfl, tv⟩, rfl⟩

/-- spec.l13DrawEdit -/
def Fq48 (a0 : Tl01Source) (a1 : TL) : Option (TE × Tl01Source × (List TC)) :=
 (Fq0 a0 9).bind fun y1 =>
 (Fq0 y1.2 (std.ofN (len a1.fC))).bind fun y3 =>
 req (std.inR y3.1 (len a1.fC)) <|
 ((
 br (std.eq (std.add .i64 1 y1.1) 1)
 ((Fq0 y3.2 (std.add .i64 (std.ofN (len (gd a1.fC (std.nadd 0 (std.toN y3.1))).fS)) 1)).bind fun y36 =>
 (Fq18 y36.2).bind fun y38 =>
 some (y38.2.gcode, y38.2.gat, y38.2.gseed, y36.1, y38.1.fy, y38.1.fb.fX0, y38.1.fb.fY0, y38.1.fb.fX1, y38.1.fb.fY1, a1.fC, y3.1, (ByteArray.mk #[]), 0, 0, 0, (ByteArray.mk #[]), 0, 0, 0, 0, 0, 0, 0, 0))
 (((
 br (std.eq (std.add .i64 1 y1.1) 2)
 ((Fq0 y3.2 (std.add .i64 (std.ofN (len (gd a1.fC (std.nadd 0 (std.toN y3.1))).fS)) 1)).bind fun y65 =>
 some (y65.2.gcode, y65.2.gat, y65.2.gseed, y65.1, a1.fC, y3.1, (ByteArray.mk #[]), 0, 0, 0, (ByteArray.mk #[]), 0, 0, 0, 0, 0, 0, 0, 0))
 (((
 br (std.eq (std.add .i64 1 y1.1) 3)
 ((Fq0 y3.2 (std.add .i64 (std.ofN (len (gd a1.fC (std.nadd 0 (std.toN y3.1))).fL)) 1)).bind fun y92 =>
 (Fq37 y92.2).bind fun y94 =>
 some (y94.2.gcode, y94.2.gat, y94.2.gseed, y92.1, y94.1.fy, y94.1.fa.fX, y94.1.fa.fY, y94.1.fN, a1.fC, y3.1, (ByteArray.mk #[]), 0, 0, 0, 0, 0, 0, 0, 0))
 (((
 br (std.eq (std.add .i64 1 y1.1) 4)
 ((Fq0 y3.2 (std.add .i64 (std.ofN (len (gd a1.fC (std.nadd 0 (std.toN y3.1))).fL)) 1)).bind fun y117 =>
 some (y117.2.gcode, y117.2.gat, y117.2.gseed, y117.1, a1.fC, y3.1, (ByteArray.mk #[]), 0, 0, 0, 0, 0, 0, 0, 0))
 (((
 br (std.eq (std.add .i64 1 y1.1) 5)
 ((Fq0 y3.2 (std.add .i64 (std.ofN (len (gd a1.fC (std.nadd 0 (std.toN y3.1))).fI)) 1)).bind fun y140 =>
 (Fq19 y140.2 (std.imax y3.1 1)).bind fun y142 =>
 some (y142.2.gcode, y142.2.gat, y142.2.gseed, y140.1, y142.1.fc, y142.1.fp.fo, y142.1.fp.fX, y142.1.fp.fY, y142.1.fK, y142.1.fR, y142.1.fu, y142.1.fv, a1.fC, y3.1, (ByteArray.mk #[])))
 (((
 br (std.eq (std.add .i64 1 y1.1) 6)
 ((Fq0 y3.2 (std.add .i64 (std.ofN (len (gd a1.fC (std.nadd 0 (std.toN y3.1))).fI)) 1)).bind fun y157 =>
 some (y157.2.gcode, y157.2.gat, y157.2.gseed, y157.1, a1.fC, y3.1, (ByteArray.mk #[])))
 (((
 br (std.eq (std.add .i64 1 y1.1) 7)
 ((Fq6 y3.2).bind fun y171 =>
 some (y171.2.gcode, y171.2.gat, y171.2.gseed, y171.1, a1.fC, y3.1))
 (((
 br (std.eq (std.add .i64 1 y1.1) 8)
 ((Fq0 y3.2 (std.add .i64 (std.ofN (len a1.fC)) 1)).bind fun y185 =>
 (Fq6 y185.2).bind fun y187 =>
 some (y187.2.gcode, y187.2.gat, y187.2.gseed, y185.1, y187.1, a1.fC))
 (some (y3.2.gcode, y3.2.gat, y3.2.gseed, y3.1, (ByteArray.mk #[]), a1.fC))
 ) : Option ((List Int) × Int × Int × Int × ByteArray × (List TC))).bind fun y173 =>
 letO y173.1 fun w179 =>
 letO y173.2.1 fun w180 =>
 letO y173.2.2.1 fun w181 =>
 letO y173.2.2.2.1 fun w182 =>
 letO y173.2.2.2.2.1 fun w183 =>
 letO y173.2.2.2.2.2 fun w184 =>
 some (w179, w180, w181, w183, w184, w182))
 ) : Option ((List Int) × Int × Int × ByteArray × (List TC) × Int)).bind fun y159 =>
 letO y159.1 fun w165 =>
 letO y159.2.1 fun w166 =>
 letO y159.2.2.1 fun w167 =>
 letO y159.2.2.2.1 fun w168 =>
 letO y159.2.2.2.2.1 fun w169 =>
 letO y159.2.2.2.2.2 fun w170 =>
 some (w165, w166, w167, 0, w169, w170, w168))
 ) : Option ((List Int) × Int × Int × Int × (List TC) × Int × ByteArray)).bind fun y144 =>
 letO y144.1 fun w150 =>
 letO y144.2.1 fun w151 =>
 letO y144.2.2.1 fun w152 =>
 letO y144.2.2.2.1 fun w153 =>
 letO y144.2.2.2.2.1 fun w154 =>
 letO y144.2.2.2.2.2.1 fun w155 =>
 letO y144.2.2.2.2.2.2 fun w156 =>
 some (w150, w151, w152, w153, 0, 0, 0, 0, 0, 0, 0, 0, w154, w155, w156))
 ) : Option ((List Int) × Int × Int × Int × Int × Int × Int × Int × Int × Int × Int × Int × (List TC) × Int × ByteArray)).bind fun y119 =>
 letO y119.1 fun w125 =>
 letO y119.2.1 fun w126 =>
 letO y119.2.2.1 fun w127 =>
 letO y119.2.2.2.1 fun w128 =>
 letO y119.2.2.2.2.1 fun w129 =>
 letO y119.2.2.2.2.2.1 fun w130 =>
 letO y119.2.2.2.2.2.2.1 fun w131 =>
 letO y119.2.2.2.2.2.2.2.1 fun w132 =>
 letO y119.2.2.2.2.2.2.2.2.1 fun w133 =>
 letO y119.2.2.2.2.2.2.2.2.2.1 fun w134 =>
 letO y119.2.2.2.2.2.2.2.2.2.2.1 fun w135 =>
 letO y119.2.2.2.2.2.2.2.2.2.2.2.1 fun w136 =>
 letO y119.2.2.2.2.2.2.2.2.2.2.2.2.1 fun w137 =>
 letO y119.2.2.2.2.2.2.2.2.2.2.2.2.2.1 fun w138 =>
 letO y119.2.2.2.2.2.2.2.2.2.2.2.2.2.2 fun w139 =>
 some (w125, w126, w127, w128, w137, w138, w139, w129, w130, w131, w132, w133, w134, w135, w136))
 ) : Option ((List Int) × Int × Int × Int × (List TC) × Int × ByteArray × Int × Int × Int × Int × Int × Int × Int × Int)).bind fun y96 =>
 letO y96.1 fun w102 =>
 letO y96.2.1 fun w103 =>
 letO y96.2.2.1 fun w104 =>
 letO y96.2.2.2.1 fun w105 =>
 letO y96.2.2.2.2.1 fun w106 =>
 letO y96.2.2.2.2.2.1 fun w107 =>
 letO y96.2.2.2.2.2.2.1 fun w108 =>
 letO y96.2.2.2.2.2.2.2.1 fun w109 =>
 letO y96.2.2.2.2.2.2.2.2.1 fun w110 =>
 letO y96.2.2.2.2.2.2.2.2.2.1 fun w111 =>
 letO y96.2.2.2.2.2.2.2.2.2.2.1 fun w112 =>
 letO y96.2.2.2.2.2.2.2.2.2.2.2.1 fun w113 =>
 letO y96.2.2.2.2.2.2.2.2.2.2.2.2.1 fun w114 =>
 letO y96.2.2.2.2.2.2.2.2.2.2.2.2.2.1 fun w115 =>
 letO y96.2.2.2.2.2.2.2.2.2.2.2.2.2.2 fun w116 =>
 some (w102, w103, w104, w105, 0, 0, 0, (ByteArray.mk #[]), w106, w107, w108, w109, w110, w111, w112, w113, w114, w115, w116))
 ) : Option ((List Int) × Int × Int × Int × Int × Int × Int × ByteArray × (List TC) × Int × ByteArray × Int × Int × Int × Int × Int × Int × Int × Int)).bind fun y67 =>
 letO y67.1 fun w73 =>
 letO y67.2.1 fun w74 =>
 letO y67.2.2.1 fun w75 =>
 letO y67.2.2.2.1 fun w76 =>
 letO y67.2.2.2.2.1 fun w77 =>
 letO y67.2.2.2.2.2.1 fun w78 =>
 letO y67.2.2.2.2.2.2.1 fun w79 =>
 letO y67.2.2.2.2.2.2.2.1 fun w80 =>
 letO y67.2.2.2.2.2.2.2.2.1 fun w81 =>
 letO y67.2.2.2.2.2.2.2.2.2.1 fun w82 =>
 letO y67.2.2.2.2.2.2.2.2.2.2.1 fun w83 =>
 letO y67.2.2.2.2.2.2.2.2.2.2.2.1 fun w84 =>
 letO y67.2.2.2.2.2.2.2.2.2.2.2.2.1 fun w85 =>
 letO y67.2.2.2.2.2.2.2.2.2.2.2.2.2.1 fun w86 =>
 letO y67.2.2.2.2.2.2.2.2.2.2.2.2.2.2.1 fun w87 =>
 letO y67.2.2.2.2.2.2.2.2.2.2.2.2.2.2.2.1 fun w88 =>
 letO y67.2.2.2.2.2.2.2.2.2.2.2.2.2.2.2.2.1 fun w89 =>
 letO y67.2.2.2.2.2.2.2.2.2.2.2.2.2.2.2.2.2.1 fun w90 =>
 letO y67.2.2.2.2.2.2.2.2.2.2.2.2.2.2.2.2.2.2 fun w91 =>
 some (w73, w74, w75, w76, w81, w82, w83, w77, w78, w79, w80, w84, w85, w86, w87, w88, w89, w90, w91))
 ) : Option ((List Int) × Int × Int × Int × (List TC) × Int × ByteArray × Int × Int × Int × ByteArray × Int × Int × Int × Int × Int × Int × Int × Int)).bind fun y40 =>
 letO y40.1 fun w46 =>
 letO y40.2.1 fun w47 =>
 letO y40.2.2.1 fun w48 =>
 letO y40.2.2.2.1 fun w49 =>
 letO y40.2.2.2.2.1 fun w50 =>
 letO y40.2.2.2.2.2.1 fun w51 =>
 letO y40.2.2.2.2.2.2.1 fun w52 =>
 letO y40.2.2.2.2.2.2.2.1 fun w53 =>
 letO y40.2.2.2.2.2.2.2.2.1 fun w54 =>
 letO y40.2.2.2.2.2.2.2.2.2.1 fun w55 =>
 letO y40.2.2.2.2.2.2.2.2.2.2.1 fun w56 =>
 letO y40.2.2.2.2.2.2.2.2.2.2.2.1 fun w57 =>
 letO y40.2.2.2.2.2.2.2.2.2.2.2.2.1 fun w58 =>
 letO y40.2.2.2.2.2.2.2.2.2.2.2.2.2.1 fun w59 =>
 letO y40.2.2.2.2.2.2.2.2.2.2.2.2.2.2.1 fun w60 =>
 letO y40.2.2.2.2.2.2.2.2.2.2.2.2.2.2.2.1 fun w61 =>
 letO y40.2.2.2.2.2.2.2.2.2.2.2.2.2.2.2.2.1 fun w62 =>
 letO y40.2.2.2.2.2.2.2.2.2.2.2.2.2.2.2.2.2.1 fun w63 =>
 letO y40.2.2.2.2.2.2.2.2.2.2.2.2.2.2.2.2.2.2 fun w64 =>
 some (w46, w47, w48, w49, 0, 0, 0, 0, 0, w50, w51, w52, w53, w54, w55, w56, w57, w58, w59, w60, w61, w62, w63, w64))
 ) : Option ((List Int) × Int × Int × Int × Int × Int × Int × Int × Int × (List TC) × Int × ByteArray × Int × Int × Int × ByteArray × Int × Int × Int × Int × Int × Int × Int × Int)).bind fun y6 =>
 letO y6.1 fun w12 =>
 letO y6.2.1 fun w13 =>
 letO y6.2.2.1 fun w14 =>
 letO y6.2.2.2.1 fun w15 =>
 letO y6.2.2.2.2.1 fun w16 =>
 letO y6.2.2.2.2.2.1 fun w17 =>
 letO y6.2.2.2.2.2.2.1 fun w18 =>
 letO y6.2.2.2.2.2.2.2.1 fun w19 =>
 letO y6.2.2.2.2.2.2.2.2.1 fun w20 =>
 letO y6.2.2.2.2.2.2.2.2.2.1 fun w21 =>
 letO y6.2.2.2.2.2.2.2.2.2.2.1 fun w22 =>
 letO y6.2.2.2.2.2.2.2.2.2.2.2.1 fun w23 =>
 letO y6.2.2.2.2.2.2.2.2.2.2.2.2.1 fun w24 =>
 letO y6.2.2.2.2.2.2.2.2.2.2.2.2.2.1 fun w25 =>
 letO y6.2.2.2.2.2.2.2.2.2.2.2.2.2.2.1 fun w26 =>
 letO y6.2.2.2.2.2.2.2.2.2.2.2.2.2.2.2.1 fun w27 =>
 letO y6.2.2.2.2.2.2.2.2.2.2.2.2.2.2.2.2.1 fun w28 =>
 letO y6.2.2.2.2.2.2.2.2.2.2.2.2.2.2.2.2.2.1 fun w29 =>
 letO y6.2.2.2.2.2.2.2.2.2.2.2.2.2.2.2.2.2.2.1 fun w30 =>
 letO y6.2.2.2.2.2.2.2.2.2.2.2.2.2.2.2.2.2.2.2.1 fun w31 =>
 letO y6.2.2.2.2.2.2.2.2.2.2.2.2.2.2.2.2.2.2.2.2.1 fun w32 =>
 letO y6.2.2.2.2.2.2.2.2.2.2.2.2.2.2.2.2.2.2.2.2.2.1 fun w33 =>
 letO y6.2.2.2.2.2.2.2.2.2.2.2.2.2.2.2.2.2.2.2.2.2.2.1 fun w34 =>
 letO y6.2.2.2.2.2.2.2.2.2.2.2.2.2.2.2.2.2.2.2.2.2.2.2 fun w35 =>
 (Fq0 (Tl01Source.mk w12 w13 w14) 40).bind fun y197 =>
 ((
 br (std.eq y197.1 0)
 (some (std.add .i64 w15 1, std.add .i64 1 y1.1, w22, w23, y197.2.gcode, y197.2.gat, y197.2.gseed))
 (((
 br (std.eq y197.1 1)
 (some (std.add .i64 w22 1, std.add .i64 1 y1.1, w23, y197.2.gcode, y197.2.gat, y197.2.gseed))
 (((
 br (std.eq y197.1 2)
 (some ((ByteArray.mk #[120]), std.add .i64 1 y1.1, y197.2.gcode, y197.2.gat, y197.2.gseed))
 (((
 br (std.eq y197.1 3)
 ((Fq0 y197.2 12).bind fun y245 =>
 some (std.sub .i64 y245.1 1, y245.2.gcode, y245.2.gat, y245.2.gseed))
 (some (std.add .i64 1 y1.1, y197.2.gcode, y197.2.gat, y197.2.gseed))
 ) : Option (Int × (List Int) × Int × Int)).bind fun y235 =>
 letO y235.1 fun w241 =>
 letO y235.2.1 fun w242 =>
 letO y235.2.2.1 fun w243 =>
 letO y235.2.2.2 fun w244 =>
 some (w23, w241, w242, w243, w244))
 ) : Option (ByteArray × Int × (List Int) × Int × Int)).bind fun y224 =>
 letO y224.1 fun w230 =>
 letO y224.2.1 fun w231 =>
 letO y224.2.2.1 fun w232 =>
 letO y224.2.2.2.1 fun w233 =>
 letO y224.2.2.2.2 fun w234 =>
 some (w22, w231, w230, w232, w233, w234))
 ) : Option (Int × Int × ByteArray × (List Int) × Int × Int)).bind fun y212 =>
 letO y212.1 fun w218 =>
 letO y212.2.1 fun w219 =>
 letO y212.2.2.1 fun w220 =>
 letO y212.2.2.2.1 fun w221 =>
 letO y212.2.2.2.2.1 fun w222 =>
 letO y212.2.2.2.2.2 fun w223 =>
 some (w15, w219, w218, w220, w221, w222, w223))
 ) : Option (Int × Int × Int × ByteArray × (List Int) × Int × Int)).bind fun y199 =>
 letO y199.1 fun w205 =>
 letO y199.2.1 fun w206 =>
 letO y199.2.2.1 fun w207 =>
 letO y199.2.2.2.1 fun w208 =>
 letO y199.2.2.2.2.1 fun w209 =>
 letO y199.2.2.2.2.2.1 fun w210 =>
 letO y199.2.2.2.2.2.2 fun w211 =>
 req (len a1.fC = len w21) <|
 some ((TE.mk w206 w207 w205 w208 (TS.mk w16 (TRect.mk w17 w18 w19 w20)) (TB.mk w24 (TPoint.mk w25 w26) w27) (TI.mk w28 (TM.mk w29 w30 w31) w32 w33 w34 w35)), (Tl01Source.mk w209 w210 w211), w21)
theorem runq48 (a0 : Tl01Source) (a1 : TL) (r : TE × Tl01Source × (List TC)) (h : Fq48 a0 a1 = some r) : Fun Tryz.prog 91 [.c (.ptr 5 0), .agg [.os 7 0 (len a1.fC)]] [(5, .var [.bs (len a0.gcode) 1 (row gd (encI .u8) a0.gcode), wi a0.gat, wi a0.gseed]), (7, .arr .rw [] (len a1.fC) 4 (row gd (oC len gd) a1.fC))] (.agg [wi r.1.fk, wi r.1.fc, wi r.1.fx, ws r.1.fN, wi r.1.fs_.fy, wi r.1.fs_.fb.fX0, wi r.1.fs_.fb.fY0, wi r.1.fs_.fb.fX1, wi r.1.fs_.fb.fY1, wi r.1.fl_.fy, wi r.1.fl_.fa.fX, wi r.1.fl_.fa.fY, ws r.1.fl_.fN, wi r.1.fi_.fc, wi r.1.fi_.fp.fo, wi r.1.fi_.fp.fX, wi r.1.fi_.fp.fY, wi r.1.fi_.fK, wi r.1.fi_.fR, wi r.1.fi_.fu, wi r.1.fi_.fv]) [(5, .var [.bs (len r.2.1.gcode) 1 (row gd (encI .u8) r.2.1.gcode), wi r.2.1.gat, wi r.2.1.gseed]), (7, .arr .rw [] (len r.2.2) 4 (row gd (oC len gd) r.2.2))] false := by
 refine Fun.of_wp (oneOf [100026, 100038, 100047, 100059, 100068, 100083, 100092, 100097, 100109, 100115, 100121, 100124]) tok mixed Tryz.func91 (by kernel_rfl) rfl Tryz.ntmps91 rfl ⟨fun i _ j _ k hk => (noref (rC _ _) hk).elim, tv⟩ (fun h => by cases h) ?_
 unfold Fq48 at h
 have hfq0 := @runq0
 have hfq19 := @runq19
 have hfq37 := @runq37
 have hfq6 := @runq6
 have hfq18 := @runq18
 generalize hLEN : @len = LEN, hGD : @gd = GD, hA : std = A, hP : Tryz.prog = P at *
 cbv
 replace h := ob_ h
 obtain ⟨y1, hy2, h⟩ := h
 refine ⟨⟨_, _, _, _, _, [(5, 5)], [(5, 5)]⟩, hfq0 _ _ _ hy2, ⟨zs2, ⟨rfl, tv⟩, rfl, rfl, rfl, rfl, ⟨fun _ => rfl, tv⟩, rfl⟩, ?_⟩
 cbv
 replace h := ob_ h
 obtain ⟨y3, hy4, h⟩ := h
 refine ⟨⟨_, _, _, _, _, [(5, 5)], [(5, 5)]⟩, hfq0 _ _ _ hy4, ⟨zs2, ⟨rfl, tv⟩, rfl, rfl, rfl, rfl, ⟨fun _ => rfl, tv⟩, rfl⟩, ?_⟩
 cbv
 replace h := oq_ h
 obtain ⟨c5, h⟩ := h
 refine ⟨⟨c5, tv⟩, ?_⟩
 refine And.intro (by subst hA; have p := ix c5; first | exact p | exact ⟨p, tv⟩ | exact ⟨p, trivial, tv⟩) ?_
 refine ⟨_, rfl, _, (pC (row GD (oC LEN GD) a1.fC) (A.nadd 0 (A.toN y3.1)) [ws (GD a1.fC (A.nadd 0 (A.toN y3.1))).fN, .os 1476 0 (LEN (GD a1.fC (A.nadd 0 (A.toN y3.1))).fS), .os 1478 0 (LEN (GD a1.fC (A.nadd 0 (A.toN y3.1))).fL), .os 1480 0 (LEN (GD a1.fC (A.nadd 0 (A.toN y3.1))).fI)]), rfl, wkOf ?_, ?_⟩
 ·refine patch_of ?_
  intro j hj
  match j, hj with | 0, _ => (rfl) | 1, _ => (rfl) | 2, _ => (rfl) | 3, _ => (rfl) | (j_ + 4), h_ => omega
 refine ⟨_, row GD (eS) (GD a1.fC (A.nadd 0 (A.toN y3.1))).fS, rfl, wkOf ?_, ?_⟩
 ·exact fun i _ j _ => plain_cp (pl_encShape _ _)
 refine ⟨_, row GD (eL) (GD a1.fC (A.nadd 0 (A.toN y3.1))).fL, rfl, wkOf ?_, ?_⟩
 ·exact fun i _ j _ => plain_cp (pl_encLabel _ _)
 refine ⟨_, row GD (eI) (GD a1.fC (A.nadd 0 (A.toN y3.1))).fI, rfl, wkOf ?_, ?_⟩
 ·exact fun i _ j _ => plain_cp (pl_encInstance _ _)
 cbv
 replace h := ob_ h
 obtain ⟨y6, hy7, h⟩ := h
 obtain ⟨S10, hS11⟩ : ∃ S, S = some (sp 131 [(0, .c (.ptr 5 0)), (4, .c (.ptr 256 0)), (6, .c (.ptr 384 0))] [(5, .var [.bs (LEN y6.1) 1 (row GD (encI .u8) y6.1), wi y6.2.1, wi y6.2.2.1]), (256, .var [wi 0, wi 0, wi 0, ws (ByteArray.mk #[]), wi 0, wi 0, wi 0, wi 0, wi 0, wi 0, wi 0, wi 0, ws (ByteArray.mk #[]), wi 0, wi 0, wi 0, wi 0, wi 0, wi 0, wi 0, wi 0]), (384, .var [wi (A.add .i64 1 y1.1), wi y6.2.2.2.2.2.2.2.2.2.2.1, wi y6.2.2.2.1, ws y6.2.2.2.2.2.2.2.2.2.2.2.1, wi y6.2.2.2.2.1, wi y6.2.2.2.2.2.1, wi y6.2.2.2.2.2.2.1, wi y6.2.2.2.2.2.2.2.1, wi y6.2.2.2.2.2.2.2.2.1, wi y6.2.2.2.2.2.2.2.2.2.2.2.2.1, wi y6.2.2.2.2.2.2.2.2.2.2.2.2.2.1, wi y6.2.2.2.2.2.2.2.2.2.2.2.2.2.2.1, ws y6.2.2.2.2.2.2.2.2.2.2.2.2.2.2.2.1, wi y6.2.2.2.2.2.2.2.2.2.2.2.2.2.2.2.2.1, wi y6.2.2.2.2.2.2.2.2.2.2.2.2.2.2.2.2.2.1, wi y6.2.2.2.2.2.2.2.2.2.2.2.2.2.2.2.2.2.2.1, wi y6.2.2.2.2.2.2.2.2.2.2.2.2.2.2.2.2.2.2.2.1, wi y6.2.2.2.2.2.2.2.2.2.2.2.2.2.2.2.2.2.2.2.2.1, wi y6.2.2.2.2.2.2.2.2.2.2.2.2.2.2.2.2.2.2.2.2.2.1, wi y6.2.2.2.2.2.2.2.2.2.2.2.2.2.2.2.2.2.2.2.2.2.2.1, wi y6.2.2.2.2.2.2.2.2.2.2.2.2.2.2.2.2.2.2.2.2.2.2.2]), (7, .arr .rw [] (LEN a1.fC) 4 (row GD (oC LEN GD) y6.2.2.2.2.2.2.2.2.2.1))]) := ⟨_, rfl⟩
 refine ⟨S10, ?_, ?_⟩
 ·clear h
  have h := hy7
  clear hy7
  cbv
  refine fork (fun b196 => ?_) (fun b196 => ?_)
  ·replace h := ot b196 h
   cbv
   replace h := ob_ h
   obtain ⟨y36, hy37, h⟩ := h
   refine ⟨⟨_, _, _, _, _, [(5, 5)], [(5, 5)]⟩, hfq0 _ _ _ hy37, ⟨zs2, ⟨rfl, tv⟩, rfl, rfl, rfl, rfl, ⟨fun _ => rfl, tv⟩, rfl⟩, ?_⟩
   cbv
   replace h := ob_ h
   obtain ⟨y38, hy39, h⟩ := h
   refine ⟨⟨_, _, _, _, _, [(5, 5)], [(5, 5)]⟩, hfq18 _ _ hy39, ⟨zs1, ⟨rfl, tv⟩, rfl, rfl, rfl, rfl, ⟨fun _ => rfl, tv⟩, rfl⟩, ?_⟩
   cbv
   injection h with h
   subst h
   subst hS11
   refine St.le_trans (le_foldP 7 1 1476 rfl rfl rfl (by decide) (by subst hA; exact ix c5) (by decide) rfl (fun _ _ => rC _ _)) ?_
   refine St.le_trans (le_foldP 7 2 1478 rfl rfl rfl (by decide) (by subst hA; exact ix c5) (by decide) rfl (fun _ _ => rC _ _)) ?_
   refine St.le_trans (le_foldP 7 3 1480 rfl rfl rfl (by decide) (by subst hA; exact ix c5) (by decide) rfl (fun _ _ => rC _ _)) ?_
   exact lsp rfl zl3 ⟨rfl, rfl, rfl, ⟨fun hw => hw, fun c hc => (by cases hc), .inr (fun i _ j _ z hz => (noref (rC _ _) hz).elim), rfl, rfl, (by subst hGD hLEN hA; exact patch_same (by intro j hj; match j, hj with | 0, _ => rfl | 1, _ => rfl | 2, _ => rfl | 3, _ => rfl | (j_ + 4), h_ => omega))⟩, tv⟩ rfl
  ·replace h := og b196 h
   cbv
   replace h := ob_ h
   obtain ⟨y40, hy41, h⟩ := h
   obtain ⟨S44, hS45⟩ : ∃ S, S = some (sp 131 [(0, .c (.ptr 5 0)), (4, .c (.ptr 256 0)), (6, .c (.ptr 384 0))] [(5, .var [.bs (LEN y40.1) 1 (row GD (encI .u8) y40.1), wi y40.2.1, wi y40.2.2.1]), (256, .var [wi 0, wi 0, wi 0, ws (ByteArray.mk #[]), wi 0, wi 0, wi 0, wi 0, wi 0, wi 0, wi 0, wi 0, ws (ByteArray.mk #[]), wi 0, wi 0, wi 0, wi 0, wi 0, wi 0, wi 0, wi 0]), (384, .var [wi (A.add .i64 1 y1.1), wi y40.2.2.2.2.2.1, wi y40.2.2.2.1, ws y40.2.2.2.2.2.2.1, wi 0, wi 0, wi 0, wi 0, wi 0, wi y40.2.2.2.2.2.2.2.1, wi y40.2.2.2.2.2.2.2.2.1, wi y40.2.2.2.2.2.2.2.2.2.1, ws y40.2.2.2.2.2.2.2.2.2.2.1, wi y40.2.2.2.2.2.2.2.2.2.2.2.1, wi y40.2.2.2.2.2.2.2.2.2.2.2.2.1, wi y40.2.2.2.2.2.2.2.2.2.2.2.2.2.1, wi y40.2.2.2.2.2.2.2.2.2.2.2.2.2.2.1, wi y40.2.2.2.2.2.2.2.2.2.2.2.2.2.2.2.1, wi y40.2.2.2.2.2.2.2.2.2.2.2.2.2.2.2.2.1, wi y40.2.2.2.2.2.2.2.2.2.2.2.2.2.2.2.2.2.1, wi y40.2.2.2.2.2.2.2.2.2.2.2.2.2.2.2.2.2.2]), (7, .arr .rw [] (LEN a1.fC) 4 (row GD (oC LEN GD) y40.2.2.2.2.1))]) := ⟨_, rfl⟩
   refine ⟨S44, ?_, ?_⟩
   ·clear h
    have h := hy41
    clear hy41
    cbv
    refine fork (fun b195 => ?_) (fun b195 => ?_)
    ·replace h := ot b195 h
     cbv
     replace h := ob_ h
     obtain ⟨y65, hy66, h⟩ := h
     refine ⟨⟨_, _, _, _, _, [(5, 5)], [(5, 5)]⟩, hfq0 _ _ _ hy66, ⟨zs2, ⟨rfl, tv⟩, rfl, rfl, rfl, rfl, ⟨fun _ => rfl, tv⟩, rfl⟩, ?_⟩
     cbv
     injection h with h
     subst h
     subst hS45
     refine St.le_trans (le_foldP 7 1 1476 rfl rfl rfl (by decide) (by subst hA; exact ix c5) (by decide) rfl (fun _ _ => rC _ _)) ?_
     refine St.le_trans (le_foldP 7 2 1478 rfl rfl rfl (by decide) (by subst hA; exact ix c5) (by decide) rfl (fun _ _ => rC _ _)) ?_
     refine St.le_trans (le_foldP 7 3 1480 rfl rfl rfl (by decide) (by subst hA; exact ix c5) (by decide) rfl (fun _ _ => rC _ _)) ?_
     exact lsp rfl zl3 ⟨rfl, rfl, rfl, ⟨fun hw => hw, fun c hc => (by cases hc), .inr (fun i _ j _ z hz => (noref (rC _ _) hz).elim), rfl, rfl, (by subst hGD hLEN hA; exact patch_same (by intro j hj; match j, hj with | 0, _ => rfl | 1, _ => rfl | 2, _ => rfl | 3, _ => rfl | (j_ + 4), h_ => omega))⟩, tv⟩ rfl
    ·replace h := og b195 h
     cbv
     replace h := ob_ h
     obtain ⟨y67, hy68, h⟩ := h
     obtain ⟨S71, hS72⟩ : ∃ S, S = some (sp 131 [(0, .c (.ptr 5 0)), (4, .c (.ptr 256 0)), (6, .c (.ptr 384 0))] [(5, .var [.bs (LEN y67.1) 1 (row GD (encI .u8) y67.1), wi y67.2.1, wi y67.2.2.1]), (256, .var [wi 0, wi 0, wi 0, ws (ByteArray.mk #[]), wi 0, wi 0, wi 0, wi 0, wi 0, wi 0, wi 0, wi 0, ws (ByteArray.mk #[]), wi 0, wi 0, wi 0, wi 0, wi 0, wi 0, wi 0, wi 0]), (384, .var [wi (A.add .i64 1 y1.1), wi y67.2.2.2.2.2.2.2.2.2.1, wi y67.2.2.2.1, ws y67.2.2.2.2.2.2.2.2.2.2.1, wi 0, wi 0, wi 0, wi 0, wi 0, wi y67.2.2.2.2.1, wi y67.2.2.2.2.2.1, wi y67.2.2.2.2.2.2.1, ws y67.2.2.2.2.2.2.2.1, wi y67.2.2.2.2.2.2.2.2.2.2.2.1, wi y67.2.2.2.2.2.2.2.2.2.2.2.2.1, wi y67.2.2.2.2.2.2.2.2.2.2.2.2.2.1, wi y67.2.2.2.2.2.2.2.2.2.2.2.2.2.2.1, wi y67.2.2.2.2.2.2.2.2.2.2.2.2.2.2.2.1, wi y67.2.2.2.2.2.2.2.2.2.2.2.2.2.2.2.2.1, wi y67.2.2.2.2.2.2.2.2.2.2.2.2.2.2.2.2.2.1, wi y67.2.2.2.2.2.2.2.2.2.2.2.2.2.2.2.2.2.2]), (7, .arr .rw [] (LEN a1.fC) 4 (row GD (oC LEN GD) y67.2.2.2.2.2.2.2.2.1))]) := ⟨_, rfl⟩
     refine ⟨S71, ?_, ?_⟩
     ·clear h
      have h := hy68
      clear hy68
      cbv
      refine fork (fun b194 => ?_) (fun b194 => ?_)
      ·replace h := ot b194 h
       cbv
       replace h := ob_ h
       obtain ⟨y92, hy93, h⟩ := h
       refine ⟨⟨_, _, _, _, _, [(5, 5)], [(5, 5)]⟩, hfq0 _ _ _ hy93, ⟨zs2, ⟨rfl, tv⟩, rfl, rfl, rfl, rfl, ⟨fun _ => rfl, tv⟩, rfl⟩, ?_⟩
       cbv
       replace h := ob_ h
       obtain ⟨y94, hy95, h⟩ := h
       refine ⟨⟨_, _, _, _, _, [(5, 5)], [(5, 5)]⟩, hfq37 _ _ hy95, ⟨zs1, ⟨rfl, tv⟩, rfl, rfl, rfl, rfl, ⟨fun _ => rfl, tv⟩, rfl⟩, ?_⟩
       cbv
       injection h with h
       subst h
       subst hS72
       refine St.le_trans (le_foldP 7 1 1476 rfl rfl rfl (by decide) (by subst hA; exact ix c5) (by decide) rfl (fun _ _ => rC _ _)) ?_
       refine St.le_trans (le_foldP 7 2 1478 rfl rfl rfl (by decide) (by subst hA; exact ix c5) (by decide) rfl (fun _ _ => rC _ _)) ?_
       refine St.le_trans (le_foldP 7 3 1480 rfl rfl rfl (by decide) (by subst hA; exact ix c5) (by decide) rfl (fun _ _ => rC _ _)) ?_
       exact lsp rfl zl3 ⟨rfl, rfl, rfl, ⟨fun hw => hw, fun c hc => (by cases hc), .inr (fun i _ j _ z hz => (noref (rC _ _) hz).elim), rfl, rfl, (by subst hGD hLEN hA; exact patch_same (by intro j hj; match j, hj with | 0, _ => rfl | 1, _ => rfl | 2, _ => rfl | 3, _ => rfl | (j_ + 4), h_ => omega))⟩, tv⟩ rfl
      ·replace h := og b194 h
       cbv
       replace h := ob_ h
       obtain ⟨y96, hy97, h⟩ := h
       obtain ⟨S100, hS101⟩ : ∃ S, S = some (sp 131 [(0, .c (.ptr 5 0)), (4, .c (.ptr 256 0)), (6, .c (.ptr 384 0))] [(5, .var [.bs (LEN y96.1) 1 (row GD (encI .u8) y96.1), wi y96.2.1, wi y96.2.2.1]), (256, .var [wi 0, wi 0, wi 0, ws (ByteArray.mk #[]), wi 0, wi 0, wi 0, wi 0, wi 0, wi 0, wi 0, wi 0, ws (ByteArray.mk #[]), wi 0, wi 0, wi 0, wi 0, wi 0, wi 0, wi 0, wi 0]), (384, .var [wi (A.add .i64 1 y1.1), wi y96.2.2.2.2.2.1, wi y96.2.2.2.1, ws y96.2.2.2.2.2.2.1, wi 0, wi 0, wi 0, wi 0, wi 0, wi 0, wi 0, wi 0, ws (ByteArray.mk #[]), wi y96.2.2.2.2.2.2.2.1, wi y96.2.2.2.2.2.2.2.2.1, wi y96.2.2.2.2.2.2.2.2.2.1, wi y96.2.2.2.2.2.2.2.2.2.2.1, wi y96.2.2.2.2.2.2.2.2.2.2.2.1, wi y96.2.2.2.2.2.2.2.2.2.2.2.2.1, wi y96.2.2.2.2.2.2.2.2.2.2.2.2.2.1, wi y96.2.2.2.2.2.2.2.2.2.2.2.2.2.2]), (7, .arr .rw [] (LEN a1.fC) 4 (row GD (oC LEN GD) y96.2.2.2.2.1))]) := ⟨_, rfl⟩
       refine ⟨S100, ?_, ?_⟩
       ·clear h
        have h := hy97
        clear hy97
        cbv
        refine fork (fun b193 => ?_) (fun b193 => ?_)
        ·replace h := ot b193 h
         cbv
         replace h := ob_ h
         obtain ⟨y117, hy118, h⟩ := h
         refine ⟨⟨_, _, _, _, _, [(5, 5)], [(5, 5)]⟩, hfq0 _ _ _ hy118, ⟨zs2, ⟨rfl, tv⟩, rfl, rfl, rfl, rfl, ⟨fun _ => rfl, tv⟩, rfl⟩, ?_⟩
         cbv
         injection h with h
         subst h
         subst hS101
         refine St.le_trans (le_foldP 7 1 1476 rfl rfl rfl (by decide) (by subst hA; exact ix c5) (by decide) rfl (fun _ _ => rC _ _)) ?_
         refine St.le_trans (le_foldP 7 2 1478 rfl rfl rfl (by decide) (by subst hA; exact ix c5) (by decide) rfl (fun _ _ => rC _ _)) ?_
         refine St.le_trans (le_foldP 7 3 1480 rfl rfl rfl (by decide) (by subst hA; exact ix c5) (by decide) rfl (fun _ _ => rC _ _)) ?_
         exact lsp rfl zl3 ⟨rfl, rfl, rfl, ⟨fun hw => hw, fun c hc => (by cases hc), .inr (fun i _ j _ z hz => (noref (rC _ _) hz).elim), rfl, rfl, (by subst hGD hLEN hA; exact patch_same (by intro j hj; match j, hj with | 0, _ => rfl | 1, _ => rfl | 2, _ => rfl | 3, _ => rfl | (j_ + 4), h_ => omega))⟩, tv⟩ rfl
        ·replace h := og b193 h
         cbv
         replace h := ob_ h
         obtain ⟨y119, hy120, h⟩ := h
         obtain ⟨S123, hS124⟩ : ∃ S, S = some (sp 131 [(0, .c (.ptr 5 0)), (4, .c (.ptr 256 0)), (6, .c (.ptr 384 0))] [(5, .var [.bs (LEN y119.1) 1 (row GD (encI .u8) y119.1), wi y119.2.1, wi y119.2.2.1]), (256, .var [wi 0, wi 0, wi 0, ws (ByteArray.mk #[]), wi 0, wi 0, wi 0, wi 0, wi 0, wi 0, wi 0, wi 0, ws (ByteArray.mk #[]), wi 0, wi 0, wi 0, wi 0, wi 0, wi 0, wi 0, wi 0]), (384, .var [wi (A.add .i64 1 y1.1), wi y119.2.2.2.2.2.2.2.2.2.2.2.2.2.1, wi y119.2.2.2.1, ws y119.2.2.2.2.2.2.2.2.2.2.2.2.2.2, wi 0, wi 0, wi 0, wi 0, wi 0, wi 0, wi 0, wi 0, ws (ByteArray.mk #[]), wi y119.2.2.2.2.1, wi y119.2.2.2.2.2.1, wi y119.2.2.2.2.2.2.1, wi y119.2.2.2.2.2.2.2.1, wi y119.2.2.2.2.2.2.2.2.1, wi y119.2.2.2.2.2.2.2.2.2.1, wi y119.2.2.2.2.2.2.2.2.2.2.1, wi y119.2.2.2.2.2.2.2.2.2.2.2.1]), (7, .arr .rw [] (LEN a1.fC) 4 (row GD (oC LEN GD) y119.2.2.2.2.2.2.2.2.2.2.2.2.1))]) := ⟨_, rfl⟩
         refine ⟨S123, ?_, ?_⟩
         ·clear h
          have h := hy120
          clear hy120
          cbv
          refine fork (fun b192 => ?_) (fun b192 => ?_)
          ·replace h := ot b192 h
           cbv
           replace h := ob_ h
           obtain ⟨y140, hy141, h⟩ := h
           refine ⟨⟨_, _, _, _, _, [(5, 5)], [(5, 5)]⟩, hfq0 _ _ _ hy141, ⟨zs2, ⟨rfl, tv⟩, rfl, rfl, rfl, rfl, ⟨fun _ => rfl, tv⟩, rfl⟩, ?_⟩
           cbv
           replace h := ob_ h
           obtain ⟨y142, hy143, h⟩ := h
           refine ⟨⟨_, _, _, _, _, [(5, 5)], [(5, 5)]⟩, hfq19 _ _ _ hy143, ⟨zs2, ⟨rfl, tv⟩, rfl, rfl, rfl, rfl, ⟨fun _ => rfl, tv⟩, rfl⟩, ?_⟩
           cbv
           injection h with h
           subst h
           subst hS124
           refine St.le_trans (le_foldP 7 1 1476 rfl rfl rfl (by decide) (by subst hA; exact ix c5) (by decide) rfl (fun _ _ => rC _ _)) ?_
           refine St.le_trans (le_foldP 7 2 1478 rfl rfl rfl (by decide) (by subst hA; exact ix c5) (by decide) rfl (fun _ _ => rC _ _)) ?_
           refine St.le_trans (le_foldP 7 3 1480 rfl rfl rfl (by decide) (by subst hA; exact ix c5) (by decide) rfl (fun _ _ => rC _ _)) ?_
           exact lsp rfl zl3 ⟨rfl, rfl, rfl, ⟨fun hw => hw, fun c hc => (by cases hc), .inr (fun i _ j _ z hz => (noref (rC _ _) hz).elim), rfl, rfl, (by subst hGD hLEN hA; exact patch_same (by intro j hj; match j, hj with | 0, _ => rfl | 1, _ => rfl | 2, _ => rfl | 3, _ => rfl | (j_ + 4), h_ => omega))⟩, tv⟩ rfl
          ·replace h := og b192 h
           cbv
           replace h := ob_ h
           obtain ⟨y144, hy145, h⟩ := h
           obtain ⟨S148, hS149⟩ : ∃ S, S = some (sp 131 [(0, .c (.ptr 5 0)), (4, .c (.ptr 256 0)), (6, .c (.ptr 384 0))] [(5, .var [.bs (LEN y144.1) 1 (row GD (encI .u8) y144.1), wi y144.2.1, wi y144.2.2.1]), (256, .var [wi 0, wi 0, wi 0, ws (ByteArray.mk #[]), wi 0, wi 0, wi 0, wi 0, wi 0, wi 0, wi 0, wi 0, ws (ByteArray.mk #[]), wi 0, wi 0, wi 0, wi 0, wi 0, wi 0, wi 0, wi 0]), (384, .var [wi (A.add .i64 1 y1.1), wi y144.2.2.2.2.2.1, wi y144.2.2.2.1, ws y144.2.2.2.2.2.2, wi 0, wi 0, wi 0, wi 0, wi 0, wi 0, wi 0, wi 0, ws (ByteArray.mk #[]), wi 0, wi 0, wi 0, wi 0, wi 0, wi 0, wi 0, wi 0]), (7, .arr .rw [] (LEN a1.fC) 4 (row GD (oC LEN GD) y144.2.2.2.2.1))]) := ⟨_, rfl⟩
           refine ⟨S148, ?_, ?_⟩
           ·clear h
            have h := hy145
            clear hy145
            cbv
            refine fork (fun b191 => ?_) (fun b191 => ?_)
            ·replace h := ot b191 h
             cbv
             replace h := ob_ h
             obtain ⟨y157, hy158, h⟩ := h
             refine ⟨⟨_, _, _, _, _, [(5, 5)], [(5, 5)]⟩, hfq0 _ _ _ hy158, ⟨zs2, ⟨rfl, tv⟩, rfl, rfl, rfl, rfl, ⟨fun _ => rfl, tv⟩, rfl⟩, ?_⟩
             cbv
             injection h with h
             subst h
             subst hS149
             refine St.le_trans (le_foldP 7 1 1476 rfl rfl rfl (by decide) (by subst hA; exact ix c5) (by decide) rfl (fun _ _ => rC _ _)) ?_
             refine St.le_trans (le_foldP 7 2 1478 rfl rfl rfl (by decide) (by subst hA; exact ix c5) (by decide) rfl (fun _ _ => rC _ _)) ?_
             refine St.le_trans (le_foldP 7 3 1480 rfl rfl rfl (by decide) (by subst hA; exact ix c5) (by decide) rfl (fun _ _ => rC _ _)) ?_
             exact lsp rfl zl3 ⟨rfl, rfl, rfl, ⟨fun hw => hw, fun c hc => (by cases hc), .inr (fun i _ j _ z hz => (noref (rC _ _) hz).elim), rfl, rfl, (by subst hGD hLEN hA; exact patch_same (by intro j hj; match j, hj with | 0, _ => rfl | 1, _ => rfl | 2, _ => rfl | 3, _ => rfl | (j_ + 4), h_ => omega))⟩, tv⟩ rfl
            ·replace h := og b191 h
             cbv
             replace h := ob_ h
             obtain ⟨y159, hy160, h⟩ := h
             obtain ⟨S163, hS164⟩ : ∃ S, S = some (sp 131 [(0, .c (.ptr 5 0)), (4, .c (.ptr 256 0)), (6, .c (.ptr 384 0))] [(5, .var [.bs (LEN y159.1) 1 (row GD (encI .u8) y159.1), wi y159.2.1, wi y159.2.2.1]), (256, .var [wi 0, wi 0, wi 0, ws (ByteArray.mk #[]), wi 0, wi 0, wi 0, wi 0, wi 0, wi 0, wi 0, wi 0, ws (ByteArray.mk #[]), wi 0, wi 0, wi 0, wi 0, wi 0, wi 0, wi 0, wi 0]), (384, .var [wi (A.add .i64 1 y1.1), wi y159.2.2.2.2.2, wi 0, ws y159.2.2.2.1, wi 0, wi 0, wi 0, wi 0, wi 0, wi 0, wi 0, wi 0, ws (ByteArray.mk #[]), wi 0, wi 0, wi 0, wi 0, wi 0, wi 0, wi 0, wi 0]), (7, .arr .rw [] (LEN a1.fC) 4 (row GD (oC LEN GD) y159.2.2.2.2.1))]) := ⟨_, rfl⟩
             refine ⟨S163, ?_, ?_⟩
             ·clear h
              have h := hy160
              clear hy160
              cbv
              refine fork (fun b190 => ?_) (fun b190 => ?_)
              ·replace h := ot b190 h
               cbv
               replace h := ob_ h
               obtain ⟨y171, hy172, h⟩ := h
               refine ⟨⟨_, _, _, _, _, [(5, 5)], [(5, 5)]⟩, hfq6 _ _ hy172, ⟨zs1, ⟨rfl, tv⟩, rfl, rfl, rfl, rfl, ⟨fun _ => rfl, tv⟩, rfl⟩, ?_⟩
               cbv
               injection h with h
               subst h
               subst hS164
               refine St.le_trans (le_foldP 7 1 1476 rfl rfl rfl (by decide) (by subst hA; exact ix c5) (by decide) rfl (fun _ _ => rC _ _)) ?_
               refine St.le_trans (le_foldP 7 2 1478 rfl rfl rfl (by decide) (by subst hA; exact ix c5) (by decide) rfl (fun _ _ => rC _ _)) ?_
               refine St.le_trans (le_foldP 7 3 1480 rfl rfl rfl (by decide) (by subst hA; exact ix c5) (by decide) rfl (fun _ _ => rC _ _)) ?_
               exact lsp rfl zl3 ⟨rfl, rfl, rfl, ⟨fun hw => hw, fun c hc => (by cases hc), .inr (fun i _ j _ z hz => (noref (rC _ _) hz).elim), rfl, rfl, (by subst hGD hLEN hA; exact patch_same (by intro j hj; match j, hj with | 0, _ => rfl | 1, _ => rfl | 2, _ => rfl | 3, _ => rfl | (j_ + 4), h_ => omega))⟩, tv⟩ rfl
              ·replace h := og b190 h
               cbv
               replace h := ob_ h
               obtain ⟨y173, hy174, h⟩ := h
               obtain ⟨S177, hS178⟩ : ∃ S, S = some (sp 131 [(0, .c (.ptr 5 0)), (4, .c (.ptr 256 0)), (6, .c (.ptr 384 0))] [(5, .var [.bs (LEN y173.1) 1 (row GD (encI .u8) y173.1), wi y173.2.1, wi y173.2.2.1]), (256, .var [wi 0, wi 0, wi 0, ws (ByteArray.mk #[]), wi 0, wi 0, wi 0, wi 0, wi 0, wi 0, wi 0, wi 0, ws (ByteArray.mk #[]), wi 0, wi 0, wi 0, wi 0, wi 0, wi 0, wi 0, wi 0]), (384, .var [wi (A.add .i64 1 y1.1), wi y173.2.2.2.1, wi 0, ws y173.2.2.2.2.1, wi 0, wi 0, wi 0, wi 0, wi 0, wi 0, wi 0, wi 0, ws (ByteArray.mk #[]), wi 0, wi 0, wi 0, wi 0, wi 0, wi 0, wi 0, wi 0]), (7, .arr .rw [] (LEN a1.fC) 4 (row GD (oC LEN GD) y173.2.2.2.2.2))]) := ⟨_, rfl⟩
               refine ⟨S177, ?_, ?_⟩
               ·clear h
                have h := hy174
                clear hy174
                cbv
                refine fork (fun b189 => ?_) (fun b189 => ?_)
                ·replace h := ot b189 h
                 cbv
                 replace h := ob_ h
                 obtain ⟨y185, hy186, h⟩ := h
                 refine ⟨⟨_, _, _, _, _, [(5, 5)], [(5, 5)]⟩, hfq0 _ _ _ hy186, ⟨zs2, ⟨rfl, tv⟩, rfl, rfl, rfl, rfl, ⟨fun _ => rfl, tv⟩, rfl⟩, ?_⟩
                 cbv
                 replace h := ob_ h
                 obtain ⟨y187, hy188, h⟩ := h
                 refine ⟨⟨_, _, _, _, _, [(5, 5)], [(5, 5)]⟩, hfq6 _ _ hy188, ⟨zs1, ⟨rfl, tv⟩, rfl, rfl, rfl, rfl, ⟨fun _ => rfl, tv⟩, rfl⟩, ?_⟩
                 cbv
                 injection h with h
                 subst h
                 subst hS178
                 refine St.le_trans (le_foldP 7 1 1476 rfl rfl rfl (by decide) (by subst hA; exact ix c5) (by decide) rfl (fun _ _ => rC _ _)) ?_
                 refine St.le_trans (le_foldP 7 2 1478 rfl rfl rfl (by decide) (by subst hA; exact ix c5) (by decide) rfl (fun _ _ => rC _ _)) ?_
                 refine St.le_trans (le_foldP 7 3 1480 rfl rfl rfl (by decide) (by subst hA; exact ix c5) (by decide) rfl (fun _ _ => rC _ _)) ?_
                 exact lsp rfl zl3 ⟨rfl, rfl, rfl, ⟨fun hw => hw, fun c hc => (by cases hc), .inr (fun i _ j _ z hz => (noref (rC _ _) hz).elim), rfl, rfl, (by subst hGD hLEN hA; exact patch_same (by intro j hj; match j, hj with | 0, _ => rfl | 1, _ => rfl | 2, _ => rfl | 3, _ => rfl | (j_ + 4), h_ => omega))⟩, tv⟩ rfl
                ·replace h := og b189 h
                 cbv
                 injection h with h
                 subst h
                 subst hS178
                 refine St.le_trans (le_foldP 7 1 1476 rfl rfl rfl (by decide) (by subst hA; exact ix c5) (by decide) rfl (fun _ _ => rC _ _)) ?_
                 refine St.le_trans (le_foldP 7 2 1478 rfl rfl rfl (by decide) (by subst hA; exact ix c5) (by decide) rfl (fun _ _ => rC _ _)) ?_
                 refine St.le_trans (le_foldP 7 3 1480 rfl rfl rfl (by decide) (by subst hA; exact ix c5) (by decide) rfl (fun _ _ => rC _ _)) ?_
                 exact lsp rfl zl3 ⟨rfl, rfl, rfl, ⟨fun hw => hw, fun c hc => (by cases hc), .inr (fun i _ j _ z hz => (noref (rC _ _) hz).elim), rfl, rfl, (by subst hGD hLEN hA; exact patch_same (by intro j hj; match j, hj with | 0, _ => rfl | 1, _ => rfl | 2, _ => rfl | 3, _ => rfl | (j_ + 4), h_ => omega))⟩, tv⟩ rfl
               ·clear hy174
                subst hS178
                obtain ⟨y173_0, y173_1, y173_2, y173_3, y173_4, y173_5⟩ := y173
                replace h := ol h
                obtain ⟨w179, hw179, h⟩ := h
                have hw179 : w179 = y173_0 := hw179
                subst hw179
                replace h := ol h
                obtain ⟨w180, hw180, h⟩ := h
                have hw180 : w180 = y173_1 := hw180
                subst hw180
                replace h := ol h
                obtain ⟨w181, hw181, h⟩ := h
                have hw181 : w181 = y173_2 := hw181
                subst hw181
                replace h := ol h
                obtain ⟨w182, hw182, h⟩ := h
                have hw182 : w182 = y173_3 := hw182
                subst hw182
                replace h := ol h
                obtain ⟨w183, hw183, h⟩ := h
                have hw183 : w183 = y173_4 := hw183
                subst hw183
                replace h := ol h
                obtain ⟨w184, hw184, h⟩ := h
                have hw184 : w184 = y173_5 := hw184
                subst hw184
                cbv
                injection h with h
                subst h
                subst hS164
                exact lsp rfl zl3 ⟨rfl, rfl, rfl, oS, tv⟩ rfl
             ·clear hy160
              subst hS164
              obtain ⟨y159_0, y159_1, y159_2, y159_3, y159_4, y159_5⟩ := y159
              replace h := ol h
              obtain ⟨w165, hw165, h⟩ := h
              have hw165 : w165 = y159_0 := hw165
              subst hw165
              replace h := ol h
              obtain ⟨w166, hw166, h⟩ := h
              have hw166 : w166 = y159_1 := hw166
              subst hw166
              replace h := ol h
              obtain ⟨w167, hw167, h⟩ := h
              have hw167 : w167 = y159_2 := hw167
              subst hw167
              replace h := ol h
              obtain ⟨w168, hw168, h⟩ := h
              have hw168 : w168 = y159_3 := hw168
              subst hw168
              replace h := ol h
              obtain ⟨w169, hw169, h⟩ := h
              have hw169 : w169 = y159_4 := hw169
              subst hw169
              replace h := ol h
              obtain ⟨w170, hw170, h⟩ := h
              have hw170 : w170 = y159_5 := hw170
              subst hw170
              cbv
              injection h with h
              subst h
              subst hS149
              exact lsp rfl zl3 ⟨rfl, rfl, rfl, oS, tv⟩ rfl
           ·clear hy145
            subst hS149
            obtain ⟨y144_0, y144_1, y144_2, y144_3, y144_4, y144_5, y144_6⟩ := y144
            replace h := ol h
            obtain ⟨w150, hw150, h⟩ := h
            have hw150 : w150 = y144_0 := hw150
            subst hw150
            replace h := ol h
            obtain ⟨w151, hw151, h⟩ := h
            have hw151 : w151 = y144_1 := hw151
            subst hw151
            replace h := ol h
            obtain ⟨w152, hw152, h⟩ := h
            have hw152 : w152 = y144_2 := hw152
            subst hw152
            replace h := ol h
            obtain ⟨w153, hw153, h⟩ := h
            have hw153 : w153 = y144_3 := hw153
            subst hw153
            replace h := ol h
            obtain ⟨w154, hw154, h⟩ := h
            have hw154 : w154 = y144_4 := hw154
            subst hw154
            replace h := ol h
            obtain ⟨w155, hw155, h⟩ := h
            have hw155 : w155 = y144_5 := hw155
            subst hw155
            replace h := ol h
            obtain ⟨w156, hw156, h⟩ := h
            have hw156 : w156 = y144_6 := hw156
            subst hw156
            cbv
            injection h with h
            subst h
            subst hS124
            exact lsp rfl zl3 ⟨rfl, rfl, rfl, oS, tv⟩ rfl
         ·clear hy120
          subst hS124
          obtain ⟨y119_0, y119_1, y119_2, y119_3, y119_4, y119_5, y119_6, y119_7, y119_8, y119_9, y119_10, y119_11, y119_12, y119_13, y119_14⟩ := y119
          replace h := ol h
          obtain ⟨w125, hw125, h⟩ := h
          have hw125 : w125 = y119_0 := hw125
          subst hw125
          replace h := ol h
          obtain ⟨w126, hw126, h⟩ := h
          have hw126 : w126 = y119_1 := hw126
          subst hw126
          replace h := ol h
          obtain ⟨w127, hw127, h⟩ := h
          have hw127 : w127 = y119_2 := hw127
          subst hw127
          replace h := ol h
          obtain ⟨w128, hw128, h⟩ := h
          have hw128 : w128 = y119_3 := hw128
          subst hw128
          replace h := ol h
          obtain ⟨w129, hw129, h⟩ := h
          have hw129 : w129 = y119_4 := hw129
          subst hw129
          replace h := ol h
          obtain ⟨w130, hw130, h⟩ := h
          have hw130 : w130 = y119_5 := hw130
          subst hw130
          replace h := ol h
          obtain ⟨w131, hw131, h⟩ := h
          have hw131 : w131 = y119_6 := hw131
          subst hw131
          replace h := ol h
          obtain ⟨w132, hw132, h⟩ := h
          have hw132 : w132 = y119_7 := hw132
          subst hw132
          replace h := ol h
          obtain ⟨w133, hw133, h⟩ := h
          have hw133 : w133 = y119_8 := hw133
          subst hw133
          replace h := ol h
          obtain ⟨w134, hw134, h⟩ := h
          have hw134 : w134 = y119_9 := hw134
          subst hw134
          replace h := ol h
          obtain ⟨w135, hw135, h⟩ := h
          have hw135 : w135 = y119_10 := hw135
          subst hw135
          replace h := ol h
          obtain ⟨w136, hw136, h⟩ := h
          have hw136 : w136 = y119_11 := hw136
          subst hw136
          replace h := ol h
          obtain ⟨w137, hw137, h⟩ := h
          have hw137 : w137 = y119_12 := hw137
          subst hw137
          replace h := ol h
          obtain ⟨w138, hw138, h⟩ := h
          have hw138 : w138 = y119_13 := hw138
          subst hw138
          replace h := ol h
          obtain ⟨w139, hw139, h⟩ := h
          have hw139 : w139 = y119_14 := hw139
          subst hw139
          cbv
          injection h with h
          subst h
          subst hS101
          exact lsp rfl zl3 ⟨rfl, rfl, rfl, oS, tv⟩ rfl
       ·clear hy97
        subst hS101
        obtain ⟨y96_0, y96_1, y96_2, y96_3, y96_4, y96_5, y96_6, y96_7, y96_8, y96_9, y96_10, y96_11, y96_12, y96_13, y96_14⟩ := y96
        replace h := ol h
        obtain ⟨w102, hw102, h⟩ := h
        have hw102 : w102 = y96_0 := hw102
        subst hw102
        replace h := ol h
        obtain ⟨w103, hw103, h⟩ := h
        have hw103 : w103 = y96_1 := hw103
        subst hw103
        replace h := ol h
        obtain ⟨w104, hw104, h⟩ := h
        have hw104 : w104 = y96_2 := hw104
        subst hw104
        replace h := ol h
        obtain ⟨w105, hw105, h⟩ := h
        have hw105 : w105 = y96_3 := hw105
        subst hw105
        replace h := ol h
        obtain ⟨w106, hw106, h⟩ := h
        have hw106 : w106 = y96_4 := hw106
        subst hw106
        replace h := ol h
        obtain ⟨w107, hw107, h⟩ := h
        have hw107 : w107 = y96_5 := hw107
        subst hw107
        replace h := ol h
        obtain ⟨w108, hw108, h⟩ := h
        have hw108 : w108 = y96_6 := hw108
        subst hw108
        replace h := ol h
        obtain ⟨w109, hw109, h⟩ := h
        have hw109 : w109 = y96_7 := hw109
        subst hw109
        replace h := ol h
        obtain ⟨w110, hw110, h⟩ := h
        have hw110 : w110 = y96_8 := hw110
        subst hw110
        replace h := ol h
        obtain ⟨w111, hw111, h⟩ := h
        have hw111 : w111 = y96_9 := hw111
        subst hw111
        replace h := ol h
        obtain ⟨w112, hw112, h⟩ := h
        have hw112 : w112 = y96_10 := hw112
        subst hw112
        replace h := ol h
        obtain ⟨w113, hw113, h⟩ := h
        have hw113 : w113 = y96_11 := hw113
        subst hw113
        replace h := ol h
        obtain ⟨w114, hw114, h⟩ := h
        have hw114 : w114 = y96_12 := hw114
        subst hw114
        replace h := ol h
        obtain ⟨w115, hw115, h⟩ := h
        have hw115 : w115 = y96_13 := hw115
        subst hw115
        replace h := ol h
        obtain ⟨w116, hw116, h⟩ := h
        have hw116 : w116 = y96_14 := hw116
        subst hw116
        cbv
        injection h with h
        subst h
        subst hS72
        exact lsp rfl zl3 ⟨rfl, rfl, rfl, oS, tv⟩ rfl
     ·clear hy68
      subst hS72
      obtain ⟨y67_0, y67_1, y67_2, y67_3, y67_4, y67_5, y67_6, y67_7, y67_8, y67_9, y67_10, y67_11, y67_12, y67_13, y67_14, y67_15, y67_16, y67_17, y67_18⟩ := y67
      replace h := ol h
      obtain ⟨w73, hw73, h⟩ := h
      have hw73 : w73 = y67_0 := hw73
      subst hw73
      replace h := ol h
      obtain ⟨w74, hw74, h⟩ := h
      have hw74 : w74 = y67_1 := hw74
      subst hw74
      replace h := ol h
      obtain ⟨w75, hw75, h⟩ := h
      have hw75 : w75 = y67_2 := hw75
      subst hw75
      replace h := ol h
      obtain ⟨w76, hw76, h⟩ := h
      have hw76 : w76 = y67_3 := hw76
      subst hw76
      replace h := ol h
      obtain ⟨w77, hw77, h⟩ := h
      have hw77 : w77 = y67_4 := hw77
      subst hw77
      replace h := ol h
      obtain ⟨w78, hw78, h⟩ := h
      have hw78 : w78 = y67_5 := hw78
      subst hw78
      replace h := ol h
      obtain ⟨w79, hw79, h⟩ := h
      have hw79 : w79 = y67_6 := hw79
      subst hw79
      replace h := ol h
      obtain ⟨w80, hw80, h⟩ := h
      have hw80 : w80 = y67_7 := hw80
      subst hw80
      replace h := ol h
      obtain ⟨w81, hw81, h⟩ := h
      have hw81 : w81 = y67_8 := hw81
      subst hw81
      replace h := ol h
      obtain ⟨w82, hw82, h⟩ := h
      have hw82 : w82 = y67_9 := hw82
      subst hw82
      replace h := ol h
      obtain ⟨w83, hw83, h⟩ := h
      have hw83 : w83 = y67_10 := hw83
      subst hw83
      replace h := ol h
      obtain ⟨w84, hw84, h⟩ := h
      have hw84 : w84 = y67_11 := hw84
      subst hw84
      replace h := ol h
      obtain ⟨w85, hw85, h⟩ := h
      have hw85 : w85 = y67_12 := hw85
      subst hw85
      replace h := ol h
      obtain ⟨w86, hw86, h⟩ := h
      have hw86 : w86 = y67_13 := hw86
      subst hw86
      replace h := ol h
      obtain ⟨w87, hw87, h⟩ := h
      have hw87 : w87 = y67_14 := hw87
      subst hw87
      replace h := ol h
      obtain ⟨w88, hw88, h⟩ := h
      have hw88 : w88 = y67_15 := hw88
      subst hw88
      replace h := ol h
      obtain ⟨w89, hw89, h⟩ := h
      have hw89 : w89 = y67_16 := hw89
      subst hw89
      replace h := ol h
      obtain ⟨w90, hw90, h⟩ := h
      have hw90 : w90 = y67_17 := hw90
      subst hw90
      replace h := ol h
      obtain ⟨w91, hw91, h⟩ := h
      have hw91 : w91 = y67_18 := hw91
      subst hw91
      cbv
      injection h with h
      subst h
      subst hS45
      exact lsp rfl zl3 ⟨rfl, rfl, rfl, oS, tv⟩ rfl
   ·clear hy41
    subst hS45
    obtain ⟨y40_0, y40_1, y40_2, y40_3, y40_4, y40_5, y40_6, y40_7, y40_8, y40_9, y40_10, y40_11, y40_12, y40_13, y40_14, y40_15, y40_16, y40_17, y40_18⟩ := y40
    replace h := ol h
    obtain ⟨w46, hw46, h⟩ := h
    have hw46 : w46 = y40_0 := hw46
    subst hw46
    replace h := ol h
    obtain ⟨w47, hw47, h⟩ := h
    have hw47 : w47 = y40_1 := hw47
    subst hw47
    replace h := ol h
    obtain ⟨w48, hw48, h⟩ := h
    have hw48 : w48 = y40_2 := hw48
    subst hw48
    replace h := ol h
    obtain ⟨w49, hw49, h⟩ := h
    have hw49 : w49 = y40_3 := hw49
    subst hw49
    replace h := ol h
    obtain ⟨w50, hw50, h⟩ := h
    have hw50 : w50 = y40_4 := hw50
    subst hw50
    replace h := ol h
    obtain ⟨w51, hw51, h⟩ := h
    have hw51 : w51 = y40_5 := hw51
    subst hw51
    replace h := ol h
    obtain ⟨w52, hw52, h⟩ := h
    have hw52 : w52 = y40_6 := hw52
    subst hw52
    replace h := ol h
    obtain ⟨w53, hw53, h⟩ := h
    have hw53 : w53 = y40_7 := hw53
    subst hw53
    replace h := ol h
    obtain ⟨w54, hw54, h⟩ := h
    have hw54 : w54 = y40_8 := hw54
    subst hw54
    replace h := ol h
    obtain ⟨w55, hw55, h⟩ := h
    have hw55 : w55 = y40_9 := hw55
    subst hw55
    replace h := ol h
    obtain ⟨w56, hw56, h⟩ := h
    have hw56 : w56 = y40_10 := hw56
    subst hw56
    replace h := ol h
    obtain ⟨w57, hw57, h⟩ := h
    have hw57 : w57 = y40_11 := hw57
    subst hw57
    replace h := ol h
    obtain ⟨w58, hw58, h⟩ := h
    have hw58 : w58 = y40_12 := hw58
    subst hw58
    replace h := ol h
    obtain ⟨w59, hw59, h⟩ := h
    have hw59 : w59 = y40_13 := hw59
    subst hw59
    replace h := ol h
    obtain ⟨w60, hw60, h⟩ := h
    have hw60 : w60 = y40_14 := hw60
    subst hw60
    replace h := ol h
    obtain ⟨w61, hw61, h⟩ := h
    have hw61 : w61 = y40_15 := hw61
    subst hw61
    replace h := ol h
    obtain ⟨w62, hw62, h⟩ := h
    have hw62 : w62 = y40_16 := hw62
    subst hw62
    replace h := ol h
    obtain ⟨w63, hw63, h⟩ := h
    have hw63 : w63 = y40_17 := hw63
    subst hw63
    replace h := ol h
    obtain ⟨w64, hw64, h⟩ := h
    have hw64 : w64 = y40_18 := hw64
    subst hw64
    cbv
    injection h with h
    subst h
    subst hS11
    exact lsp rfl zl3 ⟨rfl, rfl, rfl, oS, tv⟩ rfl
 ·clear hy7
  subst hS11
  obtain ⟨y6_0, y6_1, y6_2, y6_3, y6_4, y6_5, y6_6, y6_7, y6_8, y6_9, y6_10, y6_11, y6_12, y6_13, y6_14, y6_15, y6_16, y6_17, y6_18, y6_19, y6_20, y6_21, y6_22, y6_23⟩ := y6
  replace h := ol h
  obtain ⟨w12, hw12, h⟩ := h
  have hw12 : w12 = y6_0 := hw12
  subst hw12
  replace h := ol h
  obtain ⟨w13, hw13, h⟩ := h
  have hw13 : w13 = y6_1 := hw13
  subst hw13
  replace h := ol h
  obtain ⟨w14, hw14, h⟩ := h
  have hw14 : w14 = y6_2 := hw14
  subst hw14
  replace h := ol h
  obtain ⟨w15, hw15, h⟩ := h
  have hw15 : w15 = y6_3 := hw15
  subst hw15
  replace h := ol h
  obtain ⟨w16, hw16, h⟩ := h
  have hw16 : w16 = y6_4 := hw16
  subst hw16
  replace h := ol h
  obtain ⟨w17, hw17, h⟩ := h
  have hw17 : w17 = y6_5 := hw17
  subst hw17
  replace h := ol h
  obtain ⟨w18, hw18, h⟩ := h
  have hw18 : w18 = y6_6 := hw18
  subst hw18
  replace h := ol h
  obtain ⟨w19, hw19, h⟩ := h
  have hw19 : w19 = y6_7 := hw19
  subst hw19
  replace h := ol h
  obtain ⟨w20, hw20, h⟩ := h
  have hw20 : w20 = y6_8 := hw20
  subst hw20
  replace h := ol h
  obtain ⟨w21, hw21, h⟩ := h
  have hw21 : w21 = y6_9 := hw21
  subst hw21
  replace h := ol h
  obtain ⟨w22, hw22, h⟩ := h
  have hw22 : w22 = y6_10 := hw22
  subst hw22
  replace h := ol h
  obtain ⟨w23, hw23, h⟩ := h
  have hw23 : w23 = y6_11 := hw23
  subst hw23
  replace h := ol h
  obtain ⟨w24, hw24, h⟩ := h
  have hw24 : w24 = y6_12 := hw24
  subst hw24
  replace h := ol h
  obtain ⟨w25, hw25, h⟩ := h
  have hw25 : w25 = y6_13 := hw25
  subst hw25
  replace h := ol h
  obtain ⟨w26, hw26, h⟩ := h
  have hw26 : w26 = y6_14 := hw26
  subst hw26
  replace h := ol h
  obtain ⟨w27, hw27, h⟩ := h
  have hw27 : w27 = y6_15 := hw27
  subst hw27
  replace h := ol h
  obtain ⟨w28, hw28, h⟩ := h
  have hw28 : w28 = y6_16 := hw28
  subst hw28
  replace h := ol h
  obtain ⟨w29, hw29, h⟩ := h
  have hw29 : w29 = y6_17 := hw29
  subst hw29
  replace h := ol h
  obtain ⟨w30, hw30, h⟩ := h
  have hw30 : w30 = y6_18 := hw30
  subst hw30
  replace h := ol h
  obtain ⟨w31, hw31, h⟩ := h
  have hw31 : w31 = y6_19 := hw31
  subst hw31
  replace h := ol h
  obtain ⟨w32, hw32, h⟩ := h
  have hw32 : w32 = y6_20 := hw32
  subst hw32
  replace h := ol h
  obtain ⟨w33, hw33, h⟩ := h
  have hw33 : w33 = y6_21 := hw33
  subst hw33
  replace h := ol h
  obtain ⟨w34, hw34, h⟩ := h
  have hw34 : w34 = y6_22 := hw34
  subst hw34
  replace h := ol h
  obtain ⟨w35, hw35, h⟩ := h
  have hw35 : w35 = y6_23 := hw35
  subst hw35
  cbv
  replace h := ob_ h
  obtain ⟨y197, hy198, h⟩ := h
  refine ⟨⟨_, _, _, _, _, [(5, 5)], [(5, 5)]⟩, hfq0 _ _ _ hy198, ⟨zs2, ⟨rfl, tv⟩, rfl, rfl, rfl, rfl, ⟨fun _ => rfl, tv⟩, rfl⟩, ?_⟩
  cbv
  replace h := ob_ h
  obtain ⟨y199, hy200, h⟩ := h
  obtain ⟨S203, hS204⟩ : ∃ S, S = some (sp 131 [(4, .c (.ptr 256 0)), (6, .c (.ptr 384 0))] [(256, .var [wi 0, wi 0, wi 0, ws (ByteArray.mk #[]), wi 0, wi 0, wi 0, wi 0, wi 0, wi 0, wi 0, wi 0, ws (ByteArray.mk #[]), wi 0, wi 0, wi 0, wi 0, wi 0, wi 0, wi 0, wi 0]), (384, .var [wi y199.2.1, wi y199.2.2.1, wi y199.1, ws y199.2.2.2.1, wi w16, wi w17, wi w18, wi w19, wi w20, wi w24, wi w25, wi w26, ws w27, wi w28, wi w29, wi w30, wi w31, wi w32, wi w33, wi w34, wi w35]), (5, .var [.bs (LEN y199.2.2.2.2.1) 1 (row GD (encI .u8) y199.2.2.2.2.1), wi y199.2.2.2.2.2.1, wi y199.2.2.2.2.2.2]), (7, .arr .rw [] (LEN a1.fC) 4 (row GD (oC LEN GD) w21))]) := ⟨_, rfl⟩
  refine ⟨S203, ?_, ?_⟩
  ·clear h
   have h := hy200
   clear hy200
   cbv
   refine fork (fun b250 => ?_) (fun b250 => ?_)
   ·replace h := ot b250 h
    cbv
    injection h with h
    subst h
    subst hS204
    exact lsp rfl zl2 ⟨rfl, rfl, rfl, oS, tv⟩ rfl
   ·replace h := og b250 h
    cbv
    replace h := ob_ h
    obtain ⟨y212, hy213, h⟩ := h
    obtain ⟨S216, hS217⟩ : ∃ S, S = some (sp 131 [(4, .c (.ptr 256 0)), (6, .c (.ptr 384 0))] [(256, .var [wi 0, wi 0, wi 0, ws (ByteArray.mk #[]), wi 0, wi 0, wi 0, wi 0, wi 0, wi 0, wi 0, wi 0, ws (ByteArray.mk #[]), wi 0, wi 0, wi 0, wi 0, wi 0, wi 0, wi 0, wi 0]), (384, .var [wi y212.2.1, wi y212.1, wi w15, ws y212.2.2.1, wi w16, wi w17, wi w18, wi w19, wi w20, wi w24, wi w25, wi w26, ws w27, wi w28, wi w29, wi w30, wi w31, wi w32, wi w33, wi w34, wi w35]), (5, .var [.bs (LEN y212.2.2.2.1) 1 (row GD (encI .u8) y212.2.2.2.1), wi y212.2.2.2.2.1, wi y212.2.2.2.2.2]), (7, .arr .rw [] (LEN a1.fC) 4 (row GD (oC LEN GD) w21))]) := ⟨_, rfl⟩
    refine ⟨S216, ?_, ?_⟩
    ·clear h
     have h := hy213
     clear hy213
     cbv
     refine fork (fun b249 => ?_) (fun b249 => ?_)
     ·replace h := ot b249 h
      cbv
      injection h with h
      subst h
      subst hS217
      exact lsp rfl zl2 ⟨rfl, rfl, rfl, oS, tv⟩ rfl
     ·replace h := og b249 h
      cbv
      replace h := ob_ h
      obtain ⟨y224, hy225, h⟩ := h
      obtain ⟨S228, hS229⟩ : ∃ S, S = some (sp 131 [(4, .c (.ptr 256 0)), (6, .c (.ptr 384 0))] [(256, .var [wi 0, wi 0, wi 0, ws (ByteArray.mk #[]), wi 0, wi 0, wi 0, wi 0, wi 0, wi 0, wi 0, wi 0, ws (ByteArray.mk #[]), wi 0, wi 0, wi 0, wi 0, wi 0, wi 0, wi 0, wi 0]), (384, .var [wi y224.2.1, wi w22, wi w15, ws y224.1, wi w16, wi w17, wi w18, wi w19, wi w20, wi w24, wi w25, wi w26, ws w27, wi w28, wi w29, wi w30, wi w31, wi w32, wi w33, wi w34, wi w35]), (5, .var [.bs (LEN y224.2.2.1) 1 (row GD (encI .u8) y224.2.2.1), wi y224.2.2.2.1, wi y224.2.2.2.2]), (7, .arr .rw [] (LEN a1.fC) 4 (row GD (oC LEN GD) w21))]) := ⟨_, rfl⟩
      refine ⟨S228, ?_, ?_⟩
      ·clear h
       have h := hy225
       clear hy225
       cbv
       refine fork (fun b248 => ?_) (fun b248 => ?_)
       ·replace h := ot b248 h
        cbv
        injection h with h
        subst h
        subst hS229
        exact lsp rfl zl2 ⟨rfl, rfl, rfl, oS, tv⟩ rfl
       ·replace h := og b248 h
        cbv
        replace h := ob_ h
        obtain ⟨y235, hy236, h⟩ := h
        obtain ⟨S239, hS240⟩ : ∃ S, S = some (sp 131 [(4, .c (.ptr 256 0)), (6, .c (.ptr 384 0))] [(256, .var [wi 0, wi 0, wi 0, ws (ByteArray.mk #[]), wi 0, wi 0, wi 0, wi 0, wi 0, wi 0, wi 0, wi 0, ws (ByteArray.mk #[]), wi 0, wi 0, wi 0, wi 0, wi 0, wi 0, wi 0, wi 0]), (384, .var [wi y235.1, wi w22, wi w15, ws w23, wi w16, wi w17, wi w18, wi w19, wi w20, wi w24, wi w25, wi w26, ws w27, wi w28, wi w29, wi w30, wi w31, wi w32, wi w33, wi w34, wi w35]), (5, .var [.bs (LEN y235.2.1) 1 (row GD (encI .u8) y235.2.1), wi y235.2.2.1, wi y235.2.2.2]), (7, .arr .rw [] (LEN a1.fC) 4 (row GD (oC LEN GD) w21))]) := ⟨_, rfl⟩
        refine ⟨S239, ?_, ?_⟩
        ·clear h
         have h := hy236
         clear hy236
         cbv
         refine fork (fun b247 => ?_) (fun b247 => ?_)
         ·replace h := ot b247 h
          cbv
          replace h := ob_ h
          obtain ⟨y245, hy246, h⟩ := h
          refine ⟨⟨_, _, _, _, _, [(5, 5)], [(5, 5)]⟩, hfq0 _ _ _ hy246, ⟨zs2, ⟨rfl, tv⟩, rfl, rfl, rfl, rfl, ⟨fun _ => rfl, tv⟩, rfl⟩, ?_⟩
          cbv
          injection h with h
          subst h
          subst hS240
          exact lsp rfl zl2 ⟨rfl, rfl, rfl, oS, tv⟩ rfl
         ·replace h := og b247 h
          cbv
          injection h with h
          subst h
          subst hS240
          exact lsp rfl zl2 ⟨rfl, rfl, rfl, oS, tv⟩ rfl
        ·clear hy236
         subst hS240
         obtain ⟨y235_0, y235_1, y235_2, y235_3⟩ := y235
         replace h := ol h
         obtain ⟨w241, hw241, h⟩ := h
         have hw241 : w241 = y235_0 := hw241
         subst hw241
         replace h := ol h
         obtain ⟨w242, hw242, h⟩ := h
         have hw242 : w242 = y235_1 := hw242
         subst hw242
         replace h := ol h
         obtain ⟨w243, hw243, h⟩ := h
         have hw243 : w243 = y235_2 := hw243
         subst hw243
         replace h := ol h
         obtain ⟨w244, hw244, h⟩ := h
         have hw244 : w244 = y235_3 := hw244
         subst hw244
         cbv
         injection h with h
         subst h
         subst hS229
         exact lsp rfl zl2 ⟨rfl, rfl, rfl, oS, tv⟩ rfl
      ·clear hy225
       subst hS229
       obtain ⟨y224_0, y224_1, y224_2, y224_3, y224_4⟩ := y224
       replace h := ol h
       obtain ⟨w230, hw230, h⟩ := h
       have hw230 : w230 = y224_0 := hw230
       subst hw230
       replace h := ol h
       obtain ⟨w231, hw231, h⟩ := h
       have hw231 : w231 = y224_1 := hw231
       subst hw231
       replace h := ol h
       obtain ⟨w232, hw232, h⟩ := h
       have hw232 : w232 = y224_2 := hw232
       subst hw232
       replace h := ol h
       obtain ⟨w233, hw233, h⟩ := h
       have hw233 : w233 = y224_3 := hw233
       subst hw233
       replace h := ol h
       obtain ⟨w234, hw234, h⟩ := h
       have hw234 : w234 = y224_4 := hw234
       subst hw234
       cbv
       injection h with h
       subst h
       subst hS217
       exact lsp rfl zl2 ⟨rfl, rfl, rfl, oS, tv⟩ rfl
    ·clear hy213
     subst hS217
     obtain ⟨y212_0, y212_1, y212_2, y212_3, y212_4, y212_5⟩ := y212
     replace h := ol h
     obtain ⟨w218, hw218, h⟩ := h
     have hw218 : w218 = y212_0 := hw218
     subst hw218
     replace h := ol h
     obtain ⟨w219, hw219, h⟩ := h
     have hw219 : w219 = y212_1 := hw219
     subst hw219
     replace h := ol h
     obtain ⟨w220, hw220, h⟩ := h
     have hw220 : w220 = y212_2 := hw220
     subst hw220
     replace h := ol h
     obtain ⟨w221, hw221, h⟩ := h
     have hw221 : w221 = y212_3 := hw221
     subst hw221
     replace h := ol h
     obtain ⟨w222, hw222, h⟩ := h
     have hw222 : w222 = y212_4 := hw222
     subst hw222
     replace h := ol h
     obtain ⟨w223, hw223, h⟩ := h
     have hw223 : w223 = y212_5 := hw223
     subst hw223
     cbv
     injection h with h
     subst h
     subst hS204
     exact lsp rfl zl2 ⟨rfl, rfl, rfl, oS, tv⟩ rfl
  ·clear hy200
   subst hS204
   obtain ⟨y199_0, y199_1, y199_2, y199_3, y199_4, y199_5, y199_6⟩ := y199
   replace h := ol h
   obtain ⟨w205, hw205, h⟩ := h
   have hw205 : w205 = y199_0 := hw205
   subst hw205
   replace h := ol h
   obtain ⟨w206, hw206, h⟩ := h
   have hw206 : w206 = y199_1 := hw206
   subst hw206
   replace h := ol h
   obtain ⟨w207, hw207, h⟩ := h
   have hw207 : w207 = y199_2 := hw207
   subst hw207
   replace h := ol h
   obtain ⟨w208, hw208, h⟩ := h
   have hw208 : w208 = y199_3 := hw208
   subst hw208
   replace h := ol h
   obtain ⟨w209, hw209, h⟩ := h
   have hw209 : w209 = y199_4 := hw209
   subst hw209
   replace h := ol h
   obtain ⟨w210, hw210, h⟩ := h
   have hw210 : w210 = y199_5 := hw210
   subst hw210
   replace h := ol h
   obtain ⟨w211, hw211, h⟩ := h
   have hw211 : w211 = y199_6 := hw211
   subst hw211
   cbv
   replace h := oq_ h
   obtain ⟨c251, h⟩ := h
   injection h with h
   subst h
   refine ⟨(sp 131 [(4, .c (.ptr 256 0))] [(256, .var [wi w206, wi w207, wi w205, ws w208, wi w16, wi w17, wi w18, wi w19, wi w20, wi w24, wi w25, wi w26, ws w27, wi w28, wi w29, wi w30, wi w31, wi w32, wi w33, wi w34, wi w35]), (5, .var [.bs (LEN w209) 1 (row GD (encI .u8) w209), wi w210, wi w211]), (7, .arr .rw [] (LEN w21) 4 (row GD (oC LEN GD) w21))]), ?_, ?_⟩
   ·rw [c251]
    exact lsp rfl zl1 ⟨rfl, rfl, oS, tv⟩ rfl
   ·exact ⟨lR _, ⟨rfl, oS, tv⟩, rfl⟩

def Lq10_x2 (a0 : ByteArray) : (Int) -> Option ((Int) ⊕ ((Unit) ⊕ (Unit))) := fun x2 =>
 letO x2 fun v1 =>
 br (std.lt v1 (std.ofN (std.slen a0)))
 (((
 req (std.inR v1 (std.slen a0)) <|
 br (std.le 97 (std.sat a0 (std.toN v1)))
 (req (std.inR v1 (std.slen a0)) <|
 br (std.le (std.sat a0 (std.toN v1)) 122)
 (some false)
 (req (std.inR v1 (std.slen a0)) <|
 br (std.le 48 (std.sat a0 (std.toN v1)))
 (req (std.inR v1 (std.slen a0)) <|
 some (!(std.le (std.sat a0 (std.toN v1)) 57)))
 (some true)))
 (req (std.inR v1 (std.slen a0)) <|
 br (std.le 48 (std.sat a0 (std.toN v1)))
 (req (std.inR v1 (std.slen a0)) <|
 some (!(std.le (std.sat a0 (std.toN v1)) 57)))
 (some true))
 ) : Option (Bool)).bind fun y14 =>
 letO y14 fun w20 =>
 br w20
 (some (.inr (.inl ())))
 (some (.inl (std.add .i64 v1 1))))
 (some (.inr (.inr ())))
/-- spec.IsName -/
def Fq10 (a0 : ByteArray) : Option (Bool) :=
 (whileP (σ := Int) (ρ := (Unit) ⊕ (Unit)) (Lq10_x2 a0) 0).bind fun y3 =>
 (match y3 with
 | .inl y3k0 => (
 some false)
 | .inr y3m0 =>
 ((
 br (std.le 1 (std.ofN (std.slen a0)))
 (some (std.le (std.ofN (std.slen a0)) 8))
 (some false)
 ) : Option (Bool)).bind fun y33 =>
 letO y33 fun w39 =>
 some w39)
theorem runq10 (a0 : ByteArray) (r : Bool) (h : Fq10 a0 = some r) : Fun Tryz.prog 173 [.c (ws a0)] [] (.c (.v (.bool r))) [] true := by
 refine Fun.of_wp (oneOf [4, 6]) tok mixed Tryz.func173 (by kernel_rfl) rfl Tryz.ntmps173 rfl trivial (fun _ => ⟨trivial, tv⟩) ?_
 unfold Fq10 at h
 unfold Lq10_x2 at h
 generalize hLEN : @len = LEN, hGD : @gd = GD, hA : std = A, hP : Tryz.prog = P at *
 cbv
 replace h := ob_ h
 obtain ⟨y3, hr4, hN5⟩ := h
 refine loop_cut hr4 (fun x => (sp 41 [(0, .c (ws a0)), (3, .c (wi x))] [])) ?_ (fun y e s => (match y with | .inl w => e = .ret /\ s.le (sp 41 [(2, .c (.v (.bool false)))] []) | .inr w0 => (fun (w : Unit) => e = .exit 0 /\ s.le (sp 41 [(0, .c (ws a0))] [])) w0)) ?_ ?_
 ·clear hr4 hN5
  show St.le _ _
  exact lsp rfl zl2 trivial rfl
 ·clear hr4 hN5
  intro x z9 h K7 hK8 hY6
  replace h := ol h
  obtain ⟨v1, hv1, h⟩ := h
  have hv1 : v1 = x := hv1
  subst hv1
  cbv
  refine fork (fun b32 => ?_) (fun b32 => ?_)
  ·replace h := ot b32 h
   cbv
   replace h := ob_ h
   obtain ⟨y14, hy15, h⟩ := h
   obtain ⟨S18, hS19⟩ : ∃ S, S = (sp 41 [(0, .c (ws a0)), (3, .c (wi v1)), (32, .c (.v (.bool y14)))] []) := ⟨_, rfl⟩
   refine ⟨S18, ?_, ?_⟩
   ·clear h
    have h := hy15
    clear hy15
    cbv
    replace h := oq_ h
    obtain ⟨c21, h⟩ := h
    refine ⟨c21, ?_⟩
    refine fork (fun b30 => ?_) (fun b30 => ?_)
    ·replace h := ot b30 h
     cbv
     replace h := oq_ h
     obtain ⟨c22, h⟩ := h
     refine ⟨c22, ?_⟩
     refine fork (fun b26 => ?_) (fun b26 => ?_)
     ·replace h := ot b26 h
      cbv
      injection h with h
      subst h
      subst hS19
      exact lsp rfl zl3 trivial rfl
     ·replace h := og b26 h
      cbv
      replace h := oq_ h
      obtain ⟨c23, h⟩ := h
      refine ⟨c23, ?_⟩
      refine fork (fun b25 => ?_) (fun b25 => ?_)
      ·replace h := ot b25 h
       cbv
       replace h := oq_ h
       obtain ⟨c24, h⟩ := h
       refine ⟨c24, ?_⟩
       injection h with h
       subst h
       subst hS19
       exact lsp rfl zl3 trivial rfl
      ·replace h := og b25 h
       cbv
       injection h with h
       subst h
       subst hS19
       exact lsp rfl zl3 trivial rfl
    ·replace h := og b30 h
     cbv
     replace h := oq_ h
     obtain ⟨c27, h⟩ := h
     refine ⟨c27, ?_⟩
     refine fork (fun b29 => ?_) (fun b29 => ?_)
     ·replace h := ot b29 h
      cbv
      replace h := oq_ h
      obtain ⟨c28, h⟩ := h
      refine ⟨c28, ?_⟩
      injection h with h
      subst h
      subst hS19
      exact lsp rfl zl3 trivial rfl
     ·replace h := og b29 h
      cbv
      injection h with h
      subst h
      subst hS19
      exact lsp rfl zl3 trivial rfl
   ·clear hy15
    subst hS19
    replace h := ol h
    obtain ⟨w20, hw20, h⟩ := h
    have hw20 : w20 = y14 := hw20
    subst hw20
    cbv
    refine fork (fun b31 => ?_) (fun b31 => ?_)
    ·replace h := ot b31 h
     cbv
     injection h with h
     refine hY6 _ h.symm _ _ (And.intro rfl ?_) (by intro hh; cases hh)
     exact lsp rfl zl1 trivial rfl
    ·replace h := og b31 h
     cbv
     injection h with h
     refine hK8 _ h.symm _ ?_
     exact lsp rfl zl2 trivial rfl
  ·replace h := og b32 h
   cbv
   injection h with h
   refine hY6 _ h.symm _ _ (And.intro rfl ?_) (by intro hh; cases hh)
   exact lsp rfl zl1 trivial rfl
 ·clear hr4
  have h := hN5
  clear hN5
  intro e12 s13 q11 hne
  rcases y3 with y3k0 | y3m0
  ·replace h := h
   obtain ⟨rfl, q11⟩ := q11
   cbv
   injection h with h
   subst h
   refine ⟨(sp 41 [(2, .c (.v (.bool false)))] []), ?_, ?_⟩
   ·refine St.le_trans q11 ?_
    exact lsp rfl zl1 trivial rfl
   ·exact ⟨lR _, trivial, rfl⟩
  ·obtain ⟨rfl, q11⟩ := q11
   cbv
   refine ⟨_, q11, ?_⟩
   cbv
   replace h := ob_ h
   obtain ⟨y33, hy34, h⟩ := h
   obtain ⟨S37, hS38⟩ : ∃ S, S = (sp 41 [(2, .c (.v (.bool y33)))] []) := ⟨_, rfl⟩
   refine ⟨S37, ?_, ?_⟩
   ·clear h
    have h := hy34
    clear hy34
    cbv
    refine fork (fun b40 => ?_) (fun b40 => ?_)
    ·replace h := ot b40 h
     cbv
     injection h with h
     subst h
     subst hS38
     exact lsp rfl zl1 trivial rfl
    ·replace h := og b40 h
     cbv
     injection h with h
     subst h
     subst hS38
     exact lsp rfl zl1 trivial rfl
   ·clear hy34
    subst hS38
    replace h := ol h
    obtain ⟨w39, hw39, h⟩ := h
    have hw39 : w39 = y33 := hw39
    subst hw39
    cbv
    injection h with h
    subst h
    refine ⟨(sp 41 [(2, .c (.v (.bool w39)))] []), ?_, ?_⟩
    ·exact lsp rfl zl1 trivial rfl
    ·exact ⟨lR _, trivial, rfl⟩
set_option maxHeartbeats 4000000
/-- spec.l09In -/
def Fq1 (a0 : Int) (a1 : Int) (a2 : Int) : Option (Bool) :=
 ((
 br (std.le a1 a0)
 (some (std.le a0 a2))
 (some false)
 ) : Option (Bool)).bind fun y1 =>
 letO y1 fun w7 =>
 some w7
theorem runq1 (a0 : Int) (a1 : Int) (a2 : Int) (r : Bool) (h : Fq1 a0 a1 a2 = some r) : Fun Tryz.prog 134 [.c (wi a0), .c (wi a1), .c (wi a2)] [] (.c (.v (.bool r))) [] true := by
 refine Fun.of_wp (oneOf [1]) tok mixed Tryz.func134 (by kernel_rfl) rfl Tryz.ntmps134 rfl trivial (fun _ => ⟨trivial, tv⟩) ?_
 unfold Fq1 at h
 generalize hLEN : @len = LEN, hGD : @gd = GD, hA : std = A, hP : Tryz.prog = P at *
 cbv
 replace h := ob_ h
 obtain ⟨y1, hy2, h⟩ := h
 obtain ⟨S5, hS6⟩ : ∃ S, S = (sp 15 [(6, .c (.v (.bool y1)))] []) := ⟨_, rfl⟩
 refine ⟨S5, ?_, ?_⟩
 ·clear h
  have h := hy2
  clear hy2
  cbv
  refine fork (fun b8 => ?_) (fun b8 => ?_)
  ·replace h := ot b8 h
   cbv
   injection h with h
   subst h
   subst hS6
   exact lsp rfl zl1 trivial rfl
  ·replace h := og b8 h
   cbv
   injection h with h
   subst h
   subst hS6
   exact lsp rfl zl1 trivial rfl
 ·clear hy2
  subst hS6
  replace h := ol h
  obtain ⟨w7, hw7, h⟩ := h
  have hw7 : w7 = y1 := hw7
  subst hw7
  cbv
  injection h with h
  subst h
  refine ⟨(sp 15 [(6, .c (.v (.bool w7)))] []), ?_, ?_⟩
  ·exact lsp rfl zl1 trivial rfl
  ·exact ⟨lR _, trivial, rfl⟩

/-- spec.l09Layer -/
def Fq27 (a0 : Int) : Option (Bool) :=
 (Fq1 a0 0 7).bind fun y1 =>
 some y1
theorem runq27 (a0 : Int) (r : Bool) (h : Fq27 a0 = some r) : Fun Tryz.prog 240 [.c (wi a0)] [] (.c (.v (.bool r))) [] true := by
 refine Fun.of_wp (oneOf []) tok mixed Tryz.func240 (by kernel_rfl) rfl Tryz.ntmps240 rfl trivial (fun _ => ⟨trivial, tv⟩) ?_
 unfold Fq27 at h
 have hfq1 := @runq1
 generalize hLEN : @len = LEN, hGD : @gd = GD, hA : std = A, hP : Tryz.prog = P at *
 cbv
 replace h := ob_ h
 obtain ⟨y1, hy2, h⟩ := h
 refine ⟨⟨_, _, _, _, _, [], []⟩, hfq1 _ _ _ _ hy2, ⟨zs3, trivial, rfl, rfl, rfl, rfl, trivial, rfl⟩, ?_⟩
 cbv
 injection h with h
 subst h
 refine ⟨(sp 5 [(2, .c (.v (.bool y1)))] []), ?_, ?_⟩
 ·exact lsp rfl zl1 trivial rfl
 ·exact ⟨lR _, trivial, rfl⟩

/-- spec.l09Rect -/
def Fq78 (a0 : TRect) : Option (Bool) :=
 ((
 br (std.le (-40) a0.fX0)
 (br (std.lt a0.fX0 a0.fX1)
 (br (std.le a0.fX1 40)
 (br (std.le (-40) a0.fY0)
 (br (std.lt a0.fY0 a0.fY1)
 (some (std.le a0.fY1 40))
 (some false))
 (some false))
 (some false))
 (some false))
 (some false)
 ) : Option (Bool)).bind fun y1 =>
 letO y1 fun w7 =>
 some w7
theorem runq78 (a0 : TRect) (r : Bool) (h : Fq78 a0 = some r) : Fun Tryz.prog 241 [.agg [wi a0.fX0, wi a0.fY0, wi a0.fX1, wi a0.fY1]] [] (.c (.v (.bool r))) [] true := by
 refine Fun.of_wp (oneOf [1]) tok mixed Tryz.func241 (by kernel_rfl) rfl Tryz.ntmps241 rfl trivial (fun _ => ⟨trivial, tv⟩) ?_
 unfold Fq78 at h
 generalize hLEN : @len = LEN, hGD : @gd = GD, hA : std = A, hP : Tryz.prog = P at *
 cbv
 replace h := ob_ h
 obtain ⟨y1, hy2, h⟩ := h
 obtain ⟨S5, hS6⟩ : ∃ S, S = (sp 35 [(2, .c (.v (.bool y1)))] []) := ⟨_, rfl⟩
 refine ⟨S5, ?_, ?_⟩
 ·clear h
  have h := hy2
  clear hy2
  cbv
  refine fork (fun b12 => ?_) (fun b12 => ?_)
  ·replace h := ot b12 h
   cbv
   refine fork (fun b11 => ?_) (fun b11 => ?_)
   ·replace h := ot b11 h
    cbv
    refine fork (fun b10 => ?_) (fun b10 => ?_)
    ·replace h := ot b10 h
     cbv
     refine fork (fun b9 => ?_) (fun b9 => ?_)
     ·replace h := ot b9 h
      cbv
      refine fork (fun b8 => ?_) (fun b8 => ?_)
      ·replace h := ot b8 h
       cbv
       injection h with h
       subst h
       subst hS6
       exact lsp rfl zl1 trivial rfl
      ·replace h := og b8 h
       cbv
       injection h with h
       subst h
       subst hS6
       exact lsp rfl zl1 trivial rfl
     ·replace h := og b9 h
      cbv
      injection h with h
      subst h
      subst hS6
      exact lsp rfl zl1 trivial rfl
    ·replace h := og b10 h
     cbv
     injection h with h
     subst h
     subst hS6
     exact lsp rfl zl1 trivial rfl
   ·replace h := og b11 h
    cbv
    injection h with h
    subst h
    subst hS6
    exact lsp rfl zl1 trivial rfl
  ·replace h := og b12 h
   cbv
   injection h with h
   subst h
   subst hS6
   exact lsp rfl zl1 trivial rfl
 ·clear hy2
  subst hS6
  replace h := ol h
  obtain ⟨w7, hw7, h⟩ := h
  have hw7 : w7 = y1 := hw7
  subst hw7
  cbv
  injection h with h
  subst h
  refine ⟨(sp 35 [(2, .c (.v (.bool w7)))] []), ?_, ?_⟩
  ·exact lsp rfl zl1 trivial rfl
  ·exact ⟨lR _, trivial, rfl⟩

/-- spec.l09Shape -/
def Fq31 (a0 : TS) : Option (Bool) :=
 ((
 (Fq27 a0.fy).bind fun y8 =>
 br y8
 ((Fq78 a0.fb).bind fun y10 =>
 some y10)
 (some false)
 ) : Option (Bool)).bind fun y1 =>
 letO y1 fun w7 =>
 some w7
theorem runq31 (a0 : TS) (r : Bool) (h : Fq31 a0 = some r) : Fun Tryz.prog 174 [.agg [wi a0.fy, wi a0.fb.fX0, wi a0.fb.fY0, wi a0.fb.fX1, wi a0.fb.fY1]] [] (.c (.v (.bool r))) [] true := by
 refine Fun.of_wp (oneOf [1]) tok mixed Tryz.func174 (by kernel_rfl) rfl Tryz.ntmps174 rfl trivial (fun _ => ⟨trivial, tv⟩) ?_
 unfold Fq31 at h
 have hfq27 := @runq27
 have hfq78 := @runq78
 generalize hLEN : @len = LEN, hGD : @gd = GD, hA : std = A, hP : Tryz.prog = P at *
 cbv
 replace h := ob_ h
 obtain ⟨y1, hy2, h⟩ := h
 obtain ⟨S5, hS6⟩ : ∃ S, S = (sp 11 [(2, .c (.v (.bool y1)))] []) := ⟨_, rfl⟩
 refine ⟨S5, ?_, ?_⟩
 ·clear h
  have h := hy2
  clear hy2
  cbv
  replace h := ob_ h
  obtain ⟨y8, hy9, h⟩ := h
  refine ⟨⟨_, _, _, _, _, [], []⟩, hfq27 _ _ hy9, ⟨zs1, trivial, rfl, rfl, rfl, rfl, trivial, rfl⟩, ?_⟩
  cbv
  refine fork (fun b12 => ?_) (fun b12 => ?_)
  ·replace h := ot b12 h
   cbv
   replace h := ob_ h
   obtain ⟨y10, hy11, h⟩ := h
   refine ⟨⟨_, _, _, _, _, [], []⟩, hfq78 _ _ hy11, ⟨zs1, trivial, rfl, rfl, rfl, rfl, trivial, rfl⟩, ?_⟩
   cbv
   injection h with h
   subst h
   subst hS6
   exact lsp rfl zl1 trivial rfl
  ·replace h := og b12 h
   cbv
   injection h with h
   subst h
   subst hS6
   exact lsp rfl zl1 trivial rfl
 ·clear hy2
  subst hS6
  replace h := ol h
  obtain ⟨w7, hw7, h⟩ := h
  have hw7 : w7 = y1 := hw7
  subst hw7
  cbv
  injection h with h
  subst h
  refine ⟨(sp 11 [(2, .c (.v (.bool w7)))] []), ?_, ?_⟩
  ·exact lsp rfl zl1 trivial rfl
  ·exact ⟨lR _, trivial, rfl⟩

/-- spec.l09Unit -/
def Fq79 (a0 : TPoint) : Option (Bool) :=
 ((
 (Fq1 a0.fX (-40) 39).bind fun y8 =>
 br y8
 ((Fq1 a0.fY (-40) 39).bind fun y10 =>
 some y10)
 (some false)
 ) : Option (Bool)).bind fun y1 =>
 letO y1 fun w7 =>
 some w7
theorem runq79 (a0 : TPoint) (r : Bool) (h : Fq79 a0 = some r) : Fun Tryz.prog 242 [.agg [wi a0.fX, wi a0.fY]] [] (.c (.v (.bool r))) [] true := by
 refine Fun.of_wp (oneOf [1]) tok mixed Tryz.func242 (by kernel_rfl) rfl Tryz.ntmps242 rfl trivial (fun _ => ⟨trivial, tv⟩) ?_
 unfold Fq79 at h
 have hfq1 := @runq1
 generalize hLEN : @len = LEN, hGD : @gd = GD, hA : std = A, hP : Tryz.prog = P at *
 cbv
 replace h := ob_ h
 obtain ⟨y1, hy2, h⟩ := h
 obtain ⟨S5, hS6⟩ : ∃ S, S = (sp 11 [(2, .c (.v (.bool y1)))] []) := ⟨_, rfl⟩
 refine ⟨S5, ?_, ?_⟩
 ·clear h
  have h := hy2
  clear hy2
  cbv
  replace h := ob_ h
  obtain ⟨y8, hy9, h⟩ := h
  refine ⟨⟨_, _, _, _, _, [], []⟩, hfq1 _ _ _ _ hy9, ⟨zs3, trivial, rfl, rfl, rfl, rfl, trivial, rfl⟩, ?_⟩
  cbv
  refine fork (fun b12 => ?_) (fun b12 => ?_)
  ·replace h := ot b12 h
   cbv
   replace h := ob_ h
   obtain ⟨y10, hy11, h⟩ := h
   refine ⟨⟨_, _, _, _, _, [], []⟩, hfq1 _ _ _ _ hy11, ⟨zs3, trivial, rfl, rfl, rfl, rfl, trivial, rfl⟩, ?_⟩
   cbv
   injection h with h
   subst h
   subst hS6
   exact lsp rfl zl1 trivial rfl
  ·replace h := og b12 h
   cbv
   injection h with h
   subst h
   subst hS6
   exact lsp rfl zl1 trivial rfl
 ·clear hy2
  subst hS6
  replace h := ol h
  obtain ⟨w7, hw7, h⟩ := h
  have hw7 : w7 = y1 := hw7
  subst hw7
  cbv
  injection h with h
  subst h
  refine ⟨(sp 11 [(2, .c (.v (.bool w7)))] []), ?_, ?_⟩
  ·exact lsp rfl zl1 trivial rfl
  ·exact ⟨lR _, trivial, rfl⟩

/-- spec.l09Label -/
def Fq28 (a0 : TB) : Option (Bool) :=
 ((
 (Fq27 a0.fy).bind fun y8 =>
 br y8
 ((Fq79 a0.fa).bind fun y10 =>
 br y10
 ((Fq10 a0.fN).bind fun y12 =>
 some y12)
 (some false))
 (some false)
 ) : Option (Bool)).bind fun y1 =>
 letO y1 fun w7 =>
 some w7
theorem runq28 (a0 : TB) (r : Bool) (h : Fq28 a0 = some r) : Fun Tryz.prog 175 [.agg [wi a0.fy, wi a0.fa.fX, wi a0.fa.fY, ws a0.fN]] [] (.c (.v (.bool r))) [] true := by
 refine Fun.of_wp (oneOf [1]) tok mixed Tryz.func175 (by kernel_rfl) rfl Tryz.ntmps175 rfl trivial (fun _ => ⟨trivial, tv⟩) ?_
 unfold Fq28 at h
 have hfq10 := @runq10
 have hfq27 := @runq27
 have hfq79 := @runq79
 generalize hLEN : @len = LEN, hGD : @gd = GD, hA : std = A, hP : Tryz.prog = P at *
 cbv
 replace h := ob_ h
 obtain ⟨y1, hy2, h⟩ := h
 obtain ⟨S5, hS6⟩ : ∃ S, S = (sp 16 [(2, .c (.v (.bool y1)))] []) := ⟨_, rfl⟩
 refine ⟨S5, ?_, ?_⟩
 ·clear h
  have h := hy2
  clear hy2
  cbv
  replace h := ob_ h
  obtain ⟨y8, hy9, h⟩ := h
  refine ⟨⟨_, _, _, _, _, [], []⟩, hfq27 _ _ hy9, ⟨zs1, trivial, rfl, rfl, rfl, rfl, trivial, rfl⟩, ?_⟩
  cbv
  refine fork (fun b15 => ?_) (fun b15 => ?_)
  ·replace h := ot b15 h
   cbv
   replace h := ob_ h
   obtain ⟨y10, hy11, h⟩ := h
   refine ⟨⟨_, _, _, _, _, [], []⟩, hfq79 _ _ hy11, ⟨zs1, trivial, rfl, rfl, rfl, rfl, trivial, rfl⟩, ?_⟩
   cbv
   refine fork (fun b14 => ?_) (fun b14 => ?_)
   ·replace h := ot b14 h
    cbv
    replace h := ob_ h
    obtain ⟨y12, hy13, h⟩ := h
    refine ⟨⟨_, _, _, _, _, [], []⟩, hfq10 _ _ hy13, ⟨zs1, trivial, rfl, rfl, rfl, rfl, trivial, rfl⟩, ?_⟩
    cbv
    injection h with h
    subst h
    subst hS6
    exact lsp rfl zl1 trivial rfl
   ·replace h := og b14 h
    cbv
    injection h with h
    subst h
    subst hS6
    exact lsp rfl zl1 trivial rfl
  ·replace h := og b15 h
   cbv
   injection h with h
   subst h
   subst hS6
   exact lsp rfl zl1 trivial rfl
 ·clear hy2
  subst hS6
  replace h := ol h
  obtain ⟨w7, hw7, h⟩ := h
  have hw7 : w7 = y1 := hw7
  subst hw7
  cbv
  injection h with h
  subst h
  refine ⟨(sp 16 [(2, .c (.v (.bool w7)))] []), ?_, ?_⟩
  ·exact lsp rfl zl1 trivial rfl
  ·exact ⟨lR _, trivial, rfl⟩
set_option maxHeartbeats 4000000
/-- spec.l09Transform -/
def Fq62 (a0 : TM) : Option (Bool) :=
 ((
 (Fq1 a0.fo 0 7).bind fun y8 =>
 br y8
 ((Fq1 a0.fX (-80) 80).bind fun y10 =>
 br y10
 ((Fq1 a0.fY (-80) 80).bind fun y12 =>
 some y12)
 (some false))
 (some false)
 ) : Option (Bool)).bind fun y1 =>
 letO y1 fun w7 =>
 some w7
theorem runq62 (a0 : TM) (r : Bool) (h : Fq62 a0 = some r) : Fun Tryz.prog 243 [.agg [wi a0.fo, wi a0.fX, wi a0.fY]] [] (.c (.v (.bool r))) [] true := by
 refine Fun.of_wp (oneOf [1]) tok mixed Tryz.func243 (by kernel_rfl) rfl Tryz.ntmps243 rfl trivial (fun _ => ⟨trivial, tv⟩) ?_
 unfold Fq62 at h
 have hfq1 := @runq1
 generalize hLEN : @len = LEN, hGD : @gd = GD, hA : std = A, hP : Tryz.prog = P at *
 cbv
 replace h := ob_ h
 obtain ⟨y1, hy2, h⟩ := h
 obtain ⟨S5, hS6⟩ : ∃ S, S = (sp 16 [(2, .c (.v (.bool y1)))] []) := ⟨_, rfl⟩
 refine ⟨S5, ?_, ?_⟩
 ·clear h
  have h := hy2
  clear hy2
  cbv
  replace h := ob_ h
  obtain ⟨y8, hy9, h⟩ := h
  refine ⟨⟨_, _, _, _, _, [], []⟩, hfq1 _ _ _ _ hy9, ⟨zs3, trivial, rfl, rfl, rfl, rfl, trivial, rfl⟩, ?_⟩
  cbv
  refine fork (fun b15 => ?_) (fun b15 => ?_)
  ·replace h := ot b15 h
   cbv
   replace h := ob_ h
   obtain ⟨y10, hy11, h⟩ := h
   refine ⟨⟨_, _, _, _, _, [], []⟩, hfq1 _ _ _ _ hy11, ⟨zs3, trivial, rfl, rfl, rfl, rfl, trivial, rfl⟩, ?_⟩
   cbv
   refine fork (fun b14 => ?_) (fun b14 => ?_)
   ·replace h := ot b14 h
    cbv
    replace h := ob_ h
    obtain ⟨y12, hy13, h⟩ := h
    refine ⟨⟨_, _, _, _, _, [], []⟩, hfq1 _ _ _ _ hy13, ⟨zs3, trivial, rfl, rfl, rfl, rfl, trivial, rfl⟩, ?_⟩
    cbv
    injection h with h
    subst h
    subst hS6
    exact lsp rfl zl1 trivial rfl
   ·replace h := og b14 h
    cbv
    injection h with h
    subst h
    subst hS6
    exact lsp rfl zl1 trivial rfl
  ·replace h := og b15 h
   cbv
   injection h with h
   subst h
   subst hS6
   exact lsp rfl zl1 trivial rfl
 ·clear hy2
  subst hS6
  replace h := ol h
  obtain ⟨w7, hw7, h⟩ := h
  have hw7 : w7 = y1 := hw7
  subst hw7
  cbv
  injection h with h
  subst h
  refine ⟨(sp 16 [(2, .c (.v (.bool w7)))] []), ?_, ?_⟩
  ·exact lsp rfl zl1 trivial rfl
  ·exact ⟨lR _, trivial, rfl⟩

/-- spec.l09Instance -/
def Fq36 (a0 : TI) (a1 : Int) : Option (Bool) :=
 ((
 (Fq1 a0.fc 0 (std.sub .i64 a1 1)).bind fun y8 =>
 br (!(y8))
 (some true)
 ((Fq62 a0.fp).bind fun y10 =>
 br (!(y10))
 (some true)
 ((Fq1 a0.fK 1 4).bind fun y12 =>
 br (!(y12))
 (some true)
 ((Fq1 a0.fR 1 4).bind fun y14 =>
 some (!(y14)))))
 ) : Option (Bool)).bind fun y1 =>
 letO y1 fun w7 =>
 br w7
 (some false)
 (((
 (Fq1 a0.fu (-80) 80).bind fun y26 =>
 br (!(y26))
 (some true)
 ((Fq1 a0.fv (-80) 80).bind fun y28 =>
 some (!(y28)))
 ) : Option (Bool)).bind fun y19 =>
 letO y19 fun w25 =>
 br w25
 (some false)
 (((
 br (std.lt 1 a0.fK)
 (br (std.lt 1 a0.fR)
 (some true)
 (some (std.eq a0.fv 0)))
 (br (std.eq a0.fu 0)
 (br (std.lt 1 a0.fR)
 (some true)
 (some (std.eq a0.fv 0)))
 (some false))
 ) : Option (Bool)).bind fun y31 =>
 letO y31 fun w37 =>
 some w37))
theorem runq36 (a0 : TI) (a1 : Int) (r : Bool) (h : Fq36 a0 a1 = some r) : Fun Tryz.prog 176 [.agg [wi a0.fc, wi a0.fp.fo, wi a0.fp.fX, wi a0.fp.fY, wi a0.fK, wi a0.fR, wi a0.fu, wi a0.fv], .c (wi a1)] [] (.c (.v (.bool r))) [] true := by
 refine Fun.of_wp (oneOf [1, 3, 5]) tok mixed Tryz.func176 (by kernel_rfl) rfl Tryz.ntmps176 rfl trivial (fun _ => ⟨trivial, tv⟩) ?_
 unfold Fq36 at h
 have hfq1 := @runq1
 have hfq62 := @runq62
 generalize hLEN : @len = LEN, hGD : @gd = GD, hA : std = A, hP : Tryz.prog = P at *
 cbv
 replace h := ob_ h
 obtain ⟨y1, hy2, h⟩ := h
 obtain ⟨S5, hS6⟩ : ∃ S, S = (sp 57 [(2, .c (.ptr 128 0)), (28, .c (.v (.bool y1)))] [(128, .var [wi a0.fc, wi a0.fp.fo, wi a0.fp.fX, wi a0.fp.fY, wi a0.fK, wi a0.fR, wi a0.fu, wi a0.fv])]) := ⟨_, rfl⟩
 refine ⟨S5, ?_, ?_⟩
 ·clear h
  have h := hy2
  clear hy2
  cbv
  replace h := ob_ h
  obtain ⟨y8, hy9, h⟩ := h
  refine ⟨⟨_, _, _, _, _, [], []⟩, hfq1 _ _ _ _ hy9, ⟨zs3, trivial, rfl, rfl, rfl, rfl, trivial, rfl⟩, ?_⟩
  cbv
  refine fork (fun b18 => ?_) (fun b18 => ?_)
  ·replace h := ot b18 h
   cbv
   injection h with h
   subst h
   subst hS6
   exact lsp rfl zl2 ⟨rfl, tv⟩ rfl
  ·replace h := og b18 h
   cbv
   replace h := ob_ h
   obtain ⟨y10, hy11, h⟩ := h
   refine ⟨⟨_, _, _, _, _, [], []⟩, hfq62 _ _ hy11, ⟨zs1, trivial, rfl, rfl, rfl, rfl, trivial, rfl⟩, ?_⟩
   cbv
   refine fork (fun b17 => ?_) (fun b17 => ?_)
   ·replace h := ot b17 h
    cbv
    injection h with h
    subst h
    subst hS6
    exact lsp rfl zl2 ⟨rfl, tv⟩ rfl
   ·replace h := og b17 h
    cbv
    replace h := ob_ h
    obtain ⟨y12, hy13, h⟩ := h
    refine ⟨⟨_, _, _, _, _, [], []⟩, hfq1 _ _ _ _ hy13, ⟨zs3, trivial, rfl, rfl, rfl, rfl, trivial, rfl⟩, ?_⟩
    cbv
    refine fork (fun b16 => ?_) (fun b16 => ?_)
    ·replace h := ot b16 h
     cbv
     injection h with h
     subst h
     subst hS6
     exact lsp rfl zl2 ⟨rfl, tv⟩ rfl
    ·replace h := og b16 h
     cbv
     replace h := ob_ h
     obtain ⟨y14, hy15, h⟩ := h
     refine ⟨⟨_, _, _, _, _, [], []⟩, hfq1 _ _ _ _ hy15, ⟨zs3, trivial, rfl, rfl, rfl, rfl, trivial, rfl⟩, ?_⟩
     cbv
     injection h with h
     subst h
     subst hS6
     exact lsp rfl zl2 ⟨rfl, tv⟩ rfl
 ·clear hy2
  subst hS6
  replace h := ol h
  obtain ⟨w7, hw7, h⟩ := h
  have hw7 : w7 = y1 := hw7
  subst hw7
  cbv
  refine fork (fun b43 => ?_) (fun b43 => ?_)
  ·replace h := ot b43 h
   cbv
   injection h with h
   subst h
   refine ⟨(sp 57 [(4, .c (.v (.bool false)))] []), ?_, ?_⟩
   ·exact lsp rfl zl1 trivial rfl
   ·exact ⟨lR _, trivial, rfl⟩
  ·replace h := og b43 h
   cbv
   replace h := ob_ h
   obtain ⟨y19, hy20, h⟩ := h
   obtain ⟨S23, hS24⟩ : ∃ S, S = (sp 57 [(2, .c (.ptr 128 0)), (38, .c (.v (.bool y19)))] [(128, .var [wi a0.fc, wi a0.fp.fo, wi a0.fp.fX, wi a0.fp.fY, wi a0.fK, wi a0.fR, wi a0.fu, wi a0.fv])]) := ⟨_, rfl⟩
   refine ⟨S23, ?_, ?_⟩
   ·clear h
    have h := hy20
    clear hy20
    cbv
    replace h := ob_ h
    obtain ⟨y26, hy27, h⟩ := h
    refine ⟨⟨_, _, _, _, _, [], []⟩, hfq1 _ _ _ _ hy27, ⟨zs3, trivial, rfl, rfl, rfl, rfl, trivial, rfl⟩, ?_⟩
    cbv
    refine fork (fun b30 => ?_) (fun b30 => ?_)
    ·replace h := ot b30 h
     cbv
     injection h with h
     subst h
     subst hS24
     exact lsp rfl zl2 ⟨rfl, tv⟩ rfl
    ·replace h := og b30 h
     cbv
     replace h := ob_ h
     obtain ⟨y28, hy29, h⟩ := h
     refine ⟨⟨_, _, _, _, _, [], []⟩, hfq1 _ _ _ _ hy29, ⟨zs3, trivial, rfl, rfl, rfl, rfl, trivial, rfl⟩, ?_⟩
     cbv
     injection h with h
     subst h
     subst hS24
     exact lsp rfl zl2 ⟨rfl, tv⟩ rfl
   ·clear hy20
    subst hS24
    replace h := ol h
    obtain ⟨w25, hw25, h⟩ := h
    have hw25 : w25 = y19 := hw25
    subst hw25
    cbv
    refine fork (fun b42 => ?_) (fun b42 => ?_)
    ·replace h := ot b42 h
     cbv
     injection h with h
     subst h
     refine ⟨(sp 57 [(4, .c (.v (.bool false)))] []), ?_, ?_⟩
     ·exact lsp rfl zl1 trivial rfl
     ·exact ⟨lR _, trivial, rfl⟩
    ·replace h := og b42 h
     cbv
     replace h := ob_ h
     obtain ⟨y31, hy32, h⟩ := h
     obtain ⟨S35, hS36⟩ : ∃ S, S = (sp 57 [(4, .c (.v (.bool y31)))] []) := ⟨_, rfl⟩
     refine ⟨S35, ?_, ?_⟩
     ·clear h
      have h := hy32
      clear hy32
      cbv
      refine fork (fun b41 => ?_) (fun b41 => ?_)
      ·replace h := ot b41 h
       cbv
       refine fork (fun b40 => ?_) (fun b40 => ?_)
       ·replace h := ot b40 h
        cbv
        injection h with h
        subst h
        subst hS36
        exact lsp rfl zl1 trivial rfl
       ·replace h := og b40 h
        cbv
        injection h with h
        subst h
        subst hS36
        exact lsp rfl zl1 trivial rfl
      ·replace h := og b41 h
       cbv
       refine fork (fun b39 => ?_) (fun b39 => ?_)
       ·replace h := ot b39 h
        cbv
        refine fork (fun b38 => ?_) (fun b38 => ?_)
        ·replace h := ot b38 h
         cbv
         injection h with h
         subst h
         subst hS36
         exact lsp rfl zl1 trivial rfl
        ·replace h := og b38 h
         cbv
         injection h with h
         subst h
         subst hS36
         exact lsp rfl zl1 trivial rfl
       ·replace h := og b39 h
        cbv
        injection h with h
        subst h
        subst hS36
        exact lsp rfl zl1 trivial rfl
     ·clear hy32
      subst hS36
      replace h := ol h
      obtain ⟨w37, hw37, h⟩ := h
      have hw37 : w37 = y31 := hw37
      subst hw37
      cbv
      injection h with h
      subst h
      refine ⟨(sp 57 [(4, .c (.v (.bool w37)))] []), ?_, ?_⟩
      ·exact lsp rfl zl1 trivial rfl
      ·exact ⟨lR _, trivial, rfl⟩

def Lq8_x52 (a0 : TC) (a1 : Int) : (Int) -> Option ((Int) ⊕ ((Bool) ⊕ (Unit))) := fun x52 =>
 letO x52 fun v51 =>
 br (std.lt v51 (std.ofN (len a0.fI)))
 (req (std.inR v51 (len a0.fI)) <|
 (Fq36 (gd a0.fI (std.toN v51)) a1).bind fun y65 =>
 br (!(y65))
 (some (.inr (.inl false)))
 (some (.inl (std.add .i64 v51 1))))
 (some (.inr (.inr ())))
def Lq8_x33 (a0 : TC) : (Int) -> Option ((Int) ⊕ ((Bool) ⊕ (Unit))) := fun x33 =>
 letO x33 fun v32 =>
 br (std.lt v32 (std.ofN (len a0.fL)))
 (req (std.inR v32 (len a0.fL)) <|
 (Fq28 (gd a0.fL (std.toN v32))).bind fun y46 =>
 br (!(y46))
 (some (.inr (.inl false)))
 (some (.inl (std.add .i64 v32 1))))
 (some (.inr (.inr ())))
def Lq8_x14 (a0 : TC) : (Int) -> Option ((Int) ⊕ ((Bool) ⊕ (Unit))) := fun x14 =>
 letO x14 fun v13 =>
 br (std.lt v13 (std.ofN (len a0.fS)))
 (req (std.inR v13 (len a0.fS)) <|
 (Fq31 (gd a0.fS (std.toN v13))).bind fun y27 =>
 br (!(y27))
 (some (.inr (.inl false)))
 (some (.inl (std.add .i64 v13 1))))
 (some (.inr (.inr ())))
/-- spec.l09Cell -/
def Fq8 (a0 : TC) (a1 : Int) : Option (Bool) :=
 ((
 (Fq10 a0.fN).bind fun y8 =>
 br (!(y8))
 (some true)
 (br (std.lt 24 (std.ofN (len a0.fS)))
 (some true)
 (br (std.lt 8 (std.ofN (len a0.fL)))
 (some true)
 (some (std.lt 8 (std.ofN (len a0.fI))))))
 ) : Option (Bool)).bind fun y1 =>
 letO y1 fun w7 =>
 br w7
 (some false)
 ((whileP (σ := Int) (ρ := (Bool) ⊕ (Unit)) (Lq8_x14 a0) 0).bind fun y15 =>
 (match y15 with
 | .inl y15k0 => (
 letO y15k0 fun w31 =>
 some w31)
 | .inr y15m0 =>
 (whileP (σ := Int) (ρ := (Bool) ⊕ (Unit)) (Lq8_x33 a0) 0).bind fun y34 =>
 (match y34 with
 | .inl y34k0 => (
 letO y34k0 fun w50 =>
 some w50)
 | .inr y34m0 =>
 (whileP (σ := Int) (ρ := (Bool) ⊕ (Unit)) (Lq8_x52 a0 a1) 0).bind fun y53 =>
 (match y53 with
 | .inl y53k0 => (
 letO y53k0 fun w69 =>
 some w69)
 | .inr y53m0 =>
 some true))))
theorem runq8 (a0 : TC) (a1 : Int) (r : Bool) (h : Fq8 a0 a1 = some r) : Fun Tryz.prog 98 [.agg [ws a0.fN, .bs (len a0.fS) 5 (row gd (eS) a0.fS), .bs (len a0.fL) 4 (row gd (eL) a0.fL), .bs (len a0.fI) 8 (row gd (eI) a0.fI)], .c (wi a1)] [] (.c (.v (.bool r))) [] true := by
 refine Fun.of_wp (oneOf [1]) tok mixed Tryz.func98 (by kernel_rfl) rfl Tryz.ntmps98 rfl trivial (fun _ => ⟨trivial, tv⟩) ?_
 unfold Fq8 at h
 unfold Lq8_x14 at h
 unfold Lq8_x33 at h
 unfold Lq8_x52 at h
 have hfq10 := @runq10
 have hfq36 := @runq36
 have hfq28 := @runq28
 have hfq31 := @runq31
 generalize hLEN : @len = LEN, hGD : @gd = GD, hA : std = A, hP : Tryz.prog = P at *
 cbv
 replace h := ob_ h
 obtain ⟨y1, hy2, h⟩ := h
 obtain ⟨S5, hS6⟩ : ∃ S, S = (sp 73 [(1, .c (wi a1)), (2, .c (.ptr 128 0)), (29, .c (.v (.bool y1)))] [(128, .var [ws a0.fN, .bs (LEN a0.fS) 5 (row GD (eS) a0.fS), .bs (LEN a0.fL) 4 (row GD (eL) a0.fL), .bs (LEN a0.fI) 8 (row GD (eI) a0.fI)])]) := ⟨_, rfl⟩
 refine ⟨S5, ?_, ?_⟩
 ·clear h
  have h := hy2
  clear hy2
  cbv
  replace h := ob_ h
  obtain ⟨y8, hy9, h⟩ := h
  refine ⟨⟨_, _, _, _, _, [], []⟩, hfq10 _ _ hy9, ⟨zs1, trivial, rfl, rfl, rfl, rfl, trivial, rfl⟩, ?_⟩
  cbv
  refine fork (fun b12 => ?_) (fun b12 => ?_)
  ·replace h := ot b12 h
   cbv
   injection h with h
   subst h
   subst hS6
   exact lsp rfl zl3 ⟨rfl, tv⟩ rfl
  ·replace h := og b12 h
   cbv
   refine fork (fun b11 => ?_) (fun b11 => ?_)
   ·replace h := ot b11 h
    cbv
    injection h with h
    subst h
    subst hS6
    exact lsp rfl zl3 ⟨rfl, tv⟩ rfl
   ·replace h := og b11 h
    cbv
    refine fork (fun b10 => ?_) (fun b10 => ?_)
    ·replace h := ot b10 h
     cbv
     injection h with h
     subst h
     subst hS6
     exact lsp rfl zl3 ⟨rfl, tv⟩ rfl
    ·replace h := og b10 h
     cbv
     injection h with h
     subst h
     subst hS6
     exact lsp rfl zl3 ⟨rfl, tv⟩ rfl
 ·clear hy2
  subst hS6
  replace h := ol h
  obtain ⟨w7, hw7, h⟩ := h
  have hw7 : w7 = y1 := hw7
  subst hw7
  cbv
  refine fork (fun b70 => ?_) (fun b70 => ?_)
  ·replace h := ot b70 h
   cbv
   injection h with h
   subst h
   refine ⟨(sp 73 [(4, .c (.v (.bool false)))] []), ?_, ?_⟩
   ·exact lsp rfl zl1 trivial rfl
   ·exact ⟨lR _, trivial, rfl⟩
  ·replace h := og b70 h
   cbv
   replace h := ob_ h
   obtain ⟨y15, hr16, hN17⟩ := h
   refine loop_cut hr16 (fun x => (sp 73 [(1, .c (wi a1)), (2, .c (.ptr 128 0)), (5, .c (wi x))] [(128, .var [ws a0.fN, .bs (LEN a0.fS) 5 (row GD (eS) a0.fS), .bs (LEN a0.fL) 4 (row GD (eL) a0.fL), .bs (LEN a0.fI) 8 (row GD (eI) a0.fI)])])) ?_ (fun y e s => (match y with | .inl w => e = .ret /\ s.le (sp 73 [(4, .c (.v (.bool w)))] []) | .inr w0 => (fun (w : Unit) => e = .exit 0 /\ s.le (sp 73 [(1, .c (wi a1)), (2, .c (.ptr 128 0))] [(128, .var [ws a0.fN, .bs (LEN a0.fS) 5 (row GD (eS) a0.fS), .bs (LEN a0.fL) 4 (row GD (eL) a0.fL), .bs (LEN a0.fI) 8 (row GD (eI) a0.fI)])])) w0)) ?_ ?_
   ·clear hr16 hN17
    show St.le _ _
    exact lsp rfl zl3 ⟨rfl, tv⟩ rfl
   ·clear hr16 hN17
    intro x z21 h K19 hK20 hY18
    replace h := ol h
    obtain ⟨v13, hv13, h⟩ := h
    have hv13 : v13 = x := hv13
    subst hv13
    cbv
    refine fork (fun b30 => ?_) (fun b30 => ?_)
    ·replace h := ot b30 h
     cbv
     replace h := oq_ h
     obtain ⟨c26, h⟩ := h
     refine ⟨⟨c26, tv⟩, ?_⟩
     replace h := ob_ h
     obtain ⟨y27, hy28, h⟩ := h
     refine ⟨⟨_, _, _, _, _, [], []⟩, hfq31 _ _ hy28, ⟨zs1, trivial, rfl, rfl, rfl, rfl, trivial, rfl⟩, ?_⟩
     cbv
     refine fork (fun b29 => ?_) (fun b29 => ?_)
     ·replace h := ot b29 h
      cbv
      injection h with h
      refine hY18 _ h.symm _ _ (And.intro rfl ?_) (by intro hh; cases hh)
      exact lsp rfl zl1 trivial rfl
     ·replace h := og b29 h
      cbv
      injection h with h
      refine hK20 _ h.symm _ ?_
      exact lsp rfl zl3 ⟨rfl, tv⟩ rfl
    ·replace h := og b30 h
     cbv
     injection h with h
     refine hY18 _ h.symm _ _ (And.intro rfl ?_) (by intro hh; cases hh)
     exact lsp rfl zl2 ⟨rfl, tv⟩ rfl
   ·clear hr16
    have h := hN17
    clear hN17
    intro e24 s25 q23 hne
    rcases y15 with y15k0 | y15m0
    ·replace h := h
     obtain ⟨rfl, q23⟩ := q23
     replace h := ol h
     obtain ⟨w31, hw31, h⟩ := h
     have hw31 : w31 = y15k0 := hw31
     subst hw31
     cbv
     injection h with h
     subst h
     refine ⟨(sp 73 [(4, .c (.v (.bool w31)))] []), ?_, ?_⟩
     ·refine St.le_trans q23 ?_
      exact lsp rfl zl1 trivial rfl
     ·exact ⟨lR _, trivial, rfl⟩
    ·obtain ⟨rfl, q23⟩ := q23
     cbv
     refine ⟨_, q23, ?_⟩
     cbv
     replace h := ob_ h
     obtain ⟨y34, hr35, hN36⟩ := h
     refine loop_cut hr35 (fun x => (sp 73 [(1, .c (wi a1)), (2, .c (.ptr 128 0)), (6, .c (wi x))] [(128, .var [ws a0.fN, .bs (LEN a0.fS) 5 (row GD (eS) a0.fS), .bs (LEN a0.fL) 4 (row GD (eL) a0.fL), .bs (LEN a0.fI) 8 (row GD (eI) a0.fI)])])) ?_ (fun y e s => (match y with | .inl w => e = .ret /\ s.le (sp 73 [(4, .c (.v (.bool w)))] []) | .inr w0 => (fun (w : Unit) => e = .exit 2 /\ s.le (sp 73 [(1, .c (wi a1)), (2, .c (.ptr 128 0))] [(128, .var [ws a0.fN, .bs (LEN a0.fS) 5 (row GD (eS) a0.fS), .bs (LEN a0.fL) 4 (row GD (eL) a0.fL), .bs (LEN a0.fI) 8 (row GD (eI) a0.fI)])])) w0)) ?_ ?_
     ·clear hr35 hN36
      show St.le _ _
      exact lsp rfl zl3 ⟨rfl, tv⟩ rfl
     ·clear hr35 hN36
      intro x z40 h K38 hK39 hY37
      replace h := ol h
      obtain ⟨v32, hv32, h⟩ := h
      have hv32 : v32 = x := hv32
      subst hv32
      cbv
      refine fork (fun b49 => ?_) (fun b49 => ?_)
      ·replace h := ot b49 h
       cbv
       replace h := oq_ h
       obtain ⟨c45, h⟩ := h
       refine ⟨⟨c45, tv⟩, ?_⟩
       replace h := ob_ h
       obtain ⟨y46, hy47, h⟩ := h
       refine ⟨⟨_, _, _, _, _, [], []⟩, hfq28 _ _ hy47, ⟨zs1, trivial, rfl, rfl, rfl, rfl, trivial, rfl⟩, ?_⟩
       cbv
       refine fork (fun b48 => ?_) (fun b48 => ?_)
       ·replace h := ot b48 h
        cbv
        injection h with h
        refine hY37 _ h.symm _ _ (And.intro rfl ?_) (by intro hh; cases hh)
        exact lsp rfl zl1 trivial rfl
       ·replace h := og b48 h
        cbv
        injection h with h
        refine hK39 _ h.symm _ ?_
        exact lsp rfl zl3 ⟨rfl, tv⟩ rfl
      ·replace h := og b49 h
       cbv
       injection h with h
       refine hY37 _ h.symm _ _ (And.intro rfl ?_) (by intro hh; cases hh)
       exact lsp rfl zl2 ⟨rfl, tv⟩ rfl
     ·clear hr35
      have h := hN36
      clear hN36
      intro e43 s44 q42 hne
      rcases y34 with y34k0 | y34m0
      ·replace h := h
       obtain ⟨rfl, q42⟩ := q42
       replace h := ol h
       obtain ⟨w50, hw50, h⟩ := h
       have hw50 : w50 = y34k0 := hw50
       subst hw50
       cbv
       injection h with h
       subst h
       refine ⟨(sp 73 [(4, .c (.v (.bool w50)))] []), ?_, ?_⟩
       ·refine St.le_trans q42 ?_
        exact lsp rfl zl1 trivial rfl
       ·exact ⟨lR _, trivial, rfl⟩
      ·obtain ⟨rfl, q42⟩ := q42
       cbv
       refine ⟨_, q42, ?_⟩
       cbv
       replace h := ob_ h
       obtain ⟨y53, hr54, hN55⟩ := h
       refine loop_cut hr54 (fun x => (sp 73 [(1, .c (wi a1)), (2, .c (.ptr 128 0)), (7, .c (wi x))] [(128, .var [ws a0.fN, .bs (LEN a0.fS) 5 (row GD (eS) a0.fS), .bs (LEN a0.fL) 4 (row GD (eL) a0.fL), .bs (LEN a0.fI) 8 (row GD (eI) a0.fI)])])) ?_ (fun y e s => (match y with | .inl w => e = .ret /\ s.le (sp 73 [(4, .c (.v (.bool w)))] []) | .inr w0 => (fun (w : Unit) => e = .exit 4 /\ s.le (sp 73 [] [])) w0)) ?_ ?_
       ·clear hr54 hN55
        show St.le _ _
        exact lsp rfl zl3 ⟨rfl, tv⟩ rfl
       ·clear hr54 hN55
        intro x z59 h K57 hK58 hY56
        replace h := ol h
        obtain ⟨v51, hv51, h⟩ := h
        have hv51 : v51 = x := hv51
        subst hv51
        cbv
        refine fork (fun b68 => ?_) (fun b68 => ?_)
        ·replace h := ot b68 h
         cbv
         replace h := oq_ h
         obtain ⟨c64, h⟩ := h
         refine ⟨⟨c64, tv⟩, ?_⟩
         replace h := ob_ h
         obtain ⟨y65, hy66, h⟩ := h
         refine ⟨⟨_, _, _, _, _, [], []⟩, hfq36 _ _ _ hy66, ⟨zs2, trivial, rfl, rfl, rfl, rfl, trivial, rfl⟩, ?_⟩
         cbv
         refine fork (fun b67 => ?_) (fun b67 => ?_)
         ·replace h := ot b67 h
          cbv
          injection h with h
          refine hY56 _ h.symm _ _ (And.intro rfl ?_) (by intro hh; cases hh)
          exact lsp rfl zl1 trivial rfl
         ·replace h := og b67 h
          cbv
          injection h with h
          refine hK58 _ h.symm _ ?_
          exact lsp rfl zl3 ⟨rfl, tv⟩ rfl
        ·replace h := og b68 h
         cbv
         injection h with h
         refine hY56 _ h.symm _ _ (And.intro rfl ?_) (by intro hh; cases hh)
         exact lsp rfl trivial trivial rfl
       ·clear hr54
        have h := hN55
        clear hN55
        intro e62 s63 q61 hne
        rcases y53 with y53k0 | y53m0
        ·replace h := h
         obtain ⟨rfl, q61⟩ := q61
         replace h := ol h
         obtain ⟨w69, hw69, h⟩ := h
         have hw69 : w69 = y53k0 := hw69
         subst hw69
         cbv
         injection h with h
         subst h
         refine ⟨(sp 73 [(4, .c (.v (.bool w69)))] []), ?_, ?_⟩
         ·refine St.le_trans q61 ?_
          exact lsp rfl zl1 trivial rfl
         ·exact ⟨lR _, trivial, rfl⟩
        ·obtain ⟨rfl, q61⟩ := q61
         cbv
         refine ⟨_, q61, ?_⟩
         cbv
         injection h with h
         subst h
         refine ⟨(sp 73 [(4, .c (.v (.bool true)))] []), ?_, ?_⟩
         ·exact lsp rfl zl1 trivial rfl
         ·exact ⟨lR _, trivial, rfl⟩

def Lq17_x26 (a0 : TL) (v9 : Int) : (Int) -> Option ((Int) ⊕ ((Bool) ⊕ (Unit))) := fun x26 =>
 letO x26 fun v25 =>
 br (std.lt v25 v9)
 (req (std.inR v25 (len a0.fC)) <|
 req (std.inR v9 (len a0.fC)) <|
 br (std.seq (gd a0.fC (std.toN v25)).fN (gd a0.fC (std.toN v9)).fN)
 (some (.inr (.inl false)))
 (some (.inl (std.add .i64 v25 1))))
 (some (.inr (.inr ())))
def Lq17_x10 (a0 : TL) : (Int) -> Option ((Int) ⊕ ((Bool) ⊕ (Unit))) := fun x10 =>
 letO x10 fun v9 =>
 br (std.lt v9 (std.ofN (len a0.fC)))
 (req (std.inR v9 (len a0.fC)) <|
 (Fq8 (gd a0.fC (std.toN v9)) v9).bind fun y23 =>
 br (!(y23))
 (some (.inr (.inl false)))
 ((whileP (σ := Int) (ρ := (Bool) ⊕ (Unit)) (Lq17_x26 a0 v9) 0).bind fun y27 =>
 (match y27 with
 | .inl y27k0 => (
 letO y27k0 fun w42 =>
 some (.inr (.inl w42)))
 | .inr y27m0 =>
 some (.inl (std.add .i64 v9 1)))))
 (some (.inr (.inr ())))
/-- spec.IsValidLibrary -/
def Fq17 (a0 : TL) : Option (Bool) :=
 ((
 br (std.lt (std.ofN (len a0.fC)) 1)
 (some true)
 (some (std.lt 8 (std.ofN (len a0.fC))))
 ) : Option (Bool)).bind fun y1 =>
 letO y1 fun w7 =>
 br w7
 (some false)
 ((whileP (σ := Int) (ρ := (Bool) ⊕ (Unit)) (Lq17_x10 a0) 0).bind fun y11 =>
 (match y11 with
 | .inl y11k0 => (
 letO y11k0 fun w45 =>
 some w45)
 | .inr y11m0 =>
 some true))
theorem runq17 (a0 : TL) (r : Bool) (h : Fq17 a0 = some r) : Fun Tryz.prog 48 [.agg [.bs (len a0.fC) 4 (row gd (eC len gd) a0.fC)]] [] (.c (.v (.bool r))) [] true := by
 refine Fun.of_wp (oneOf [1]) tok mixed Tryz.func48 (by kernel_rfl) rfl Tryz.ntmps48 rfl trivial (fun _ => ⟨trivial, tv⟩) ?_
 unfold Fq17 at h
 unfold Lq17_x10 at h
 unfold Lq17_x26 at h
 have hfq8 := @runq8
 generalize hLEN : @len = LEN, hGD : @gd = GD, hA : std = A, hP : Tryz.prog = P at *
 cbv
 replace h := ob_ h
 obtain ⟨y1, hy2, h⟩ := h
 obtain ⟨S5, hS6⟩ : ∃ S, S = (sp 48 [(1, .c (.ptr 64 0)), (14, .c (.v (.bool y1)))] [(64, .var [.bs (LEN a0.fC) 4 (row GD (eC LEN GD) a0.fC)])]) := ⟨_, rfl⟩
 refine ⟨S5, ?_, ?_⟩
 ·clear h
  have h := hy2
  clear hy2
  cbv
  refine fork (fun b8 => ?_) (fun b8 => ?_)
  ·replace h := ot b8 h
   cbv
   injection h with h
   subst h
   subst hS6
   exact lsp rfl zl2 ⟨rfl, tv⟩ rfl
  ·replace h := og b8 h
   cbv
   injection h with h
   subst h
   subst hS6
   exact lsp rfl zl2 ⟨rfl, tv⟩ rfl
 ·clear hy2
  subst hS6
  replace h := ol h
  obtain ⟨w7, hw7, h⟩ := h
  have hw7 : w7 = y1 := hw7
  subst hw7
  cbv
  refine fork (fun b46 => ?_) (fun b46 => ?_)
  ·replace h := ot b46 h
   cbv
   injection h with h
   subst h
   refine ⟨(sp 48 [(2, .c (.v (.bool false)))] []), ?_, ?_⟩
   ·exact lsp rfl zl1 trivial rfl
   ·exact ⟨lR _, trivial, rfl⟩
  ·replace h := og b46 h
   cbv
   replace h := ob_ h
   obtain ⟨y11, hr12, hN13⟩ := h
   refine loop_cut hr12 (fun x => (sp 48 [(1, .c (.ptr 64 0)), (3, .c (wi x))] [(64, .var [.bs (LEN a0.fC) 4 (row GD (eC LEN GD) a0.fC)])])) ?_ (fun y e s => (match y with | .inl w => e = .ret /\ s.le (sp 48 [(2, .c (.v (.bool w)))] []) | .inr w0 => (fun (w : Unit) => e = .exit 0 /\ s.le (sp 48 [] [])) w0)) ?_ ?_
   ·clear hr12 hN13
    show St.le _ _
    exact lsp rfl zl2 ⟨rfl, tv⟩ rfl
   ·clear hr12 hN13
    intro x z17 h K15 hK16 hY14
    replace h := ol h
    obtain ⟨v9, hv9, h⟩ := h
    have hv9 : v9 = x := hv9
    subst hv9
    cbv
    refine fork (fun b44 => ?_) (fun b44 => ?_)
    ·replace h := ot b44 h
     cbv
     replace h := oq_ h
     obtain ⟨c22, h⟩ := h
     refine ⟨⟨c22, tv⟩, ?_⟩
     replace h := ob_ h
     obtain ⟨y23, hy24, h⟩ := h
     refine ⟨⟨_, _, _, _, _, [], []⟩, hfq8 _ _ _ hy24, ⟨zs2, trivial, rfl, rfl, rfl, rfl, trivial, rfl⟩, ?_⟩
     cbv
     refine fork (fun b43 => ?_) (fun b43 => ?_)
     ·replace h := ot b43 h
      cbv
      injection h with h
      refine hY14 _ h.symm _ _ (And.intro rfl ?_) (by intro hh; cases hh)
      exact lsp rfl zl1 trivial rfl
     ·replace h := og b43 h
      cbv
      replace h := ob_ h
      obtain ⟨y27, hr28, hN29⟩ := h
      refine loop_cut hr28 (fun x => (sp 48 [(1, .c (.ptr 64 0)), (3, .c (wi v9)), (4, .c (wi x))] [(64, .var [.bs (LEN a0.fC) 4 (row GD (eC LEN GD) a0.fC)])])) ?_ (fun y e s => (match y with | .inl w => e = .ret /\ s.le (sp 48 [(2, .c (.v (.bool w)))] []) | .inr w0 => (fun (w : Unit) => e = .exit 2 /\ s.le (sp 48 [(1, .c (.ptr 64 0)), (3, .c (wi v9))] [(64, .var [.bs (LEN a0.fC) 4 (row GD (eC LEN GD) a0.fC)])])) w0)) ?_ ?_
      ·clear hr28 hN29
       show St.le _ _
       exact lsp rfl zl3 ⟨rfl, tv⟩ rfl
      ·clear hr28 hN29
       intro x z33 h K31 hK32 hY30
       replace h := ol h
       obtain ⟨v25, hv25, h⟩ := h
       have hv25 : v25 = x := hv25
       subst hv25
       cbv
       refine fork (fun b41 => ?_) (fun b41 => ?_)
       ·replace h := ot b41 h
        cbv
        replace h := oq_ h
        obtain ⟨c38, h⟩ := h
        refine ⟨⟨c38, tv⟩, ?_⟩
        replace h := oq_ h
        obtain ⟨c39, h⟩ := h
        refine ⟨⟨c39, tv⟩, ?_⟩
        refine fork (fun b40 => ?_) (fun b40 => ?_)
        ·replace h := ot b40 h
         cbv
         injection h with h
         refine hY30 _ h.symm _ _ (And.intro rfl ?_) (by intro hh; cases hh)
         exact lsp rfl zl1 trivial rfl
        ·replace h := og b40 h
         cbv
         injection h with h
         refine hK32 _ h.symm _ ?_
         exact lsp rfl zl3 ⟨rfl, tv⟩ rfl
       ·replace h := og b41 h
        cbv
        injection h with h
        refine hY30 _ h.symm _ _ (And.intro rfl ?_) (by intro hh; cases hh)
        exact lsp rfl zl2 ⟨rfl, tv⟩ rfl
      ·clear hr28
       have h := hN29
       clear hN29
       intro e36 s37 q35 hne
       rcases y27 with y27k0 | y27m0
       ·replace h := h
        obtain ⟨rfl, q35⟩ := q35
        replace h := ol h
        obtain ⟨w42, hw42, h⟩ := h
        have hw42 : w42 = y27k0 := hw42
        subst hw42
        cbv
        injection h with h
        refine hY14 _ h.symm _ _ (And.intro rfl ?_) (by intro hh; cases hh)
        refine St.le_trans q35 ?_
        exact lsp rfl zl1 trivial rfl
       ·obtain ⟨rfl, q35⟩ := q35
        cbv
        refine ⟨_, q35, ?_⟩
        cbv
        injection h with h
        refine hK16 _ h.symm _ ?_
        exact lsp rfl zl2 ⟨rfl, tv⟩ rfl
    ·replace h := og b44 h
     cbv
     injection h with h
     refine hY14 _ h.symm _ _ (And.intro rfl ?_) (by intro hh; cases hh)
     exact lsp rfl trivial trivial rfl
   ·clear hr12
    have h := hN13
    clear hN13
    intro e20 s21 q19 hne
    rcases y11 with y11k0 | y11m0
    ·replace h := h
     obtain ⟨rfl, q19⟩ := q19
     replace h := ol h
     obtain ⟨w45, hw45, h⟩ := h
     have hw45 : w45 = y11k0 := hw45
     subst hw45
     cbv
     injection h with h
     subst h
     refine ⟨(sp 48 [(2, .c (.v (.bool w45)))] []), ?_, ?_⟩
     ·refine St.le_trans q19 ?_
      exact lsp rfl zl1 trivial rfl
     ·exact ⟨lR _, trivial, rfl⟩
    ·obtain ⟨rfl, q19⟩ := q19
     cbv
     refine ⟨_, q19, ?_⟩
     cbv
     injection h with h
     subst h
     refine ⟨(sp 48 [(2, .c (.v (.bool true)))] []), ?_, ?_⟩
     ·exact lsp rfl zl1 trivial rfl
     ·exact ⟨lR _, trivial, rfl⟩

/-- spec.l13NoShape -/
def Fq50 (a0 : TS) : Option (Bool) :=
 some (std.band (std.eq a0.fy 0) (std.band (std.band (std.eq a0.fb.fX0 0) (std.band (std.eq a0.fb.fY0 0) (std.band (std.eq a0.fb.fX1 0) (std.band (std.eq a0.fb.fY1 0) (true))))) (true)))
theorem runq50 (a0 : TS) (r : Bool) (h : Fq50 a0 = some r) : Fun Tryz.prog 186 [.agg [wi a0.fy, wi a0.fb.fX0, wi a0.fb.fY0, wi a0.fb.fX1, wi a0.fb.fY1]] [] (.c (.v (.bool r))) [] true := by
 refine Fun.of_wp (oneOf []) tok mixed Tryz.func186 (by kernel_rfl) rfl Tryz.ntmps186 rfl trivial (fun _ => ⟨trivial, tv⟩) ?_
 unfold Fq50 at h
 generalize hLEN : @len = LEN, hGD : @gd = GD, hA : std = A, hP : Tryz.prog = P at *
 cbv
 injection h with h
 subst h
 refine ⟨(sp 6 [(2, .c (.v (.bool (A.band (A.eq a0.fy 0) (A.band (A.band (A.eq a0.fb.fX0 0) (A.band (A.eq a0.fb.fY0 0) (A.band (A.eq a0.fb.fX1 0) (A.band (A.eq a0.fb.fY1 0) (true))))) (true))))))] []), ?_, ?_⟩
 ·exact lsp rfl zl1 trivial rfl
 ·exact ⟨lR _, trivial, rfl⟩

/-- spec.l13NoLabel -/
def Fq49 (a0 : TB) : Option (Bool) :=
 some (std.band (std.eq a0.fy 0) (std.band (std.band (std.eq a0.fa.fX 0) (std.band (std.eq a0.fa.fY 0) (true))) (std.band (std.seq a0.fN (ByteArray.mk #[])) (true))))
theorem runq49 (a0 : TB) (r : Bool) (h : Fq49 a0 = some r) : Fun Tryz.prog 187 [.agg [wi a0.fy, wi a0.fa.fX, wi a0.fa.fY, ws a0.fN]] [] (.c (.v (.bool r))) [] true := by
 refine Fun.of_wp (oneOf []) tok mixed Tryz.func187 (by kernel_rfl) rfl Tryz.ntmps187 rfl trivial (fun _ => ⟨trivial, tv⟩) ?_
 unfold Fq49 at h
 generalize hLEN : @len = LEN, hGD : @gd = GD, hA : std = A, hP : Tryz.prog = P at *
 cbv
 injection h with h
 subst h
 refine ⟨(sp 6 [(2, .c (.v (.bool (A.band (A.eq a0.fy 0) (A.band (A.band (A.eq a0.fa.fX 0) (A.band (A.eq a0.fa.fY 0) (true))) (A.band (A.seq a0.fN (ByteArray.mk #[])) (true)))))))] []), ?_, ?_⟩
 ·exact lsp rfl zl1 trivial rfl
 ·exact ⟨lR _, trivial, rfl⟩
end
end Go.Proofs.YtohgghncmkiicaaGreat.AM
