/-
  What the functions that the law reaches compute, and that they do. No condition.
-/
import Derived.Test.YtohgghncmkiicaaGreatAmT
import Derived.Test.YtohgghncmkiicaaGreatAmE
import Derived.Deep.LoopGhost
import Derived.Deep.RegionLaw
import Derived.Lib.SliceRun
import Derived.Lib.SlicesDelete
import Derived.Lib.Walk
import Derived.Shelf.Spec.SlicesInsert
import Derived.Shelf.Spec.SlicesInsertGrow
import Derived.Test.YtohgghncmkiicaaGreatChecked
import Derived.WalkKit
namespace Go.Proofs.YtohgghncmkiicaaGreat.AM
noncomputable section
open Go Go.Proofs Go.RowKit
set_option linter.unusedVariables false
set_option linter.unusedSimpArgs false
set_option maxRecDepth 100000

set_option maxHeartbeats 4000000
abbrev wi (x : Int) : AC := .v (.int .i64 x)
abbrev ws (x : ByteArray) : AC := .v (.string x)
theorem zl1 {x0 : AV} : x0.le x0 /\ True := ⟨lR _, tv⟩
theorem zl2 {x0 x1 : AV} : x0.le x0 /\ x1.le x1 /\ True := ⟨lR _, lR _, tv⟩
theorem zl3 {x0 x1 x2 : AV} : x0.le x0 /\ x1.le x1 /\ x2.le x2 /\ True := ⟨lR _, lR _, lR _, tv⟩
theorem zl4 {x0 x1 x2 x3 : AV} : x0.le x0 /\ x1.le x1 /\ x2.le x2 /\ x3.le x3 /\ True := ⟨lR _, lR _, lR _, lR _, tv⟩
theorem zl5 {x0 x1 x2 x3 x4 : AV} : x0.le x0 /\ x1.le x1 /\ x2.le x2 /\ x3.le x3 /\ x4.le x4 /\ True := ⟨lR _, lR _, lR _, lR _, lR _, tv⟩
theorem zl6 {x0 x1 x2 x3 x4 x5 : AV} : x0.le x0 /\ x1.le x1 /\ x2.le x2 /\ x3.le x3 /\ x4.le x4 /\ x5.le x5 /\ True := ⟨lR _, lR _, lR _, lR _, lR _, lR _, tv⟩
theorem zl7 {x0 x1 x2 x3 x4 x5 x6 : AV} : x0.le x0 /\ x1.le x1 /\ x2.le x2 /\ x3.le x3 /\ x4.le x4 /\ x5.le x5 /\ x6.le x6 /\ True := ⟨lR _, lR _, lR _, lR _, lR _, lR _, lR _, tv⟩
theorem zl8 {x0 x1 x2 x3 x4 x5 x6 x7 : AV} : x0.le x0 /\ x1.le x1 /\ x2.le x2 /\ x3.le x3 /\ x4.le x4 /\ x5.le x5 /\ x6.le x6 /\ x7.le x7 /\ True := ⟨lR _, lR _, lR _, lR _, lR _, lR _, lR _, lR _, tv⟩
theorem zl10 {x0 x1 x2 x3 x4 x5 x6 x7 x8 x9 : AV} : x0.le x0 /\ x1.le x1 /\ x2.le x2 /\ x3.le x3 /\ x4.le x4 /\ x5.le x5 /\ x6.le x6 /\ x7.le x7 /\ x8.le x8 /\ x9.le x9 /\ True := ⟨lR _, lR _, lR _, lR _, lR _, lR _, lR _, lR _, lR _, lR _, tv⟩
theorem zs1 {x0 : AV} : AV.les [x0] [x0] := lc (lR _) (ln)
theorem zs2 {x0 x1 : AV} : AV.les [x0, x1] [x0, x1] := lc (lR _) (lc (lR _) (ln))
theorem zs3 {x0 x1 x2 : AV} : AV.les [x0, x1, x2] [x0, x1, x2] := lc (lR _) (lc (lR _) (lc (lR _) (ln)))
theorem evn (n : Nat) (h : n % 2 = 0) {p : Prop} (h1 : n % 2 = 1) : p := by omega
theorem nd {p : Prop} [Decidable p] (h : decide p = false) : ¬ p := of_decide_eq_false h
theorem yd {p : Prop} [Decidable p] (h : decide p = true) : p := of_decide_eq_true h
theorem mixed : Tryz.prog.follows .mixedOrders = true := by kernel_rfl
structure TRect where
 fX0 : Int
 fY0 : Int
 fX1 : Int
 fY1 : Int
instance : Inhabited TRect := ⟨⟨default, default, default, default⟩⟩
def encRect (x : TRect) : Nat -> AC := fun j => match j with
 | 0 => wi x.fX0
 | 1 => wi x.fY0
 | 2 => wi x.fX1
 | _ => wi x.fY1
theorem pl_encRect : ∀ (x : TRect) (j : Nat), plainC (encRect x j) = true := by
 intro x j
 unfold encRect
 split <;> rfl
theorem vl_encRect : ∀ (x : TRect) (j : Nat), valC (encRect x j) = true := by
 intro x j
 unfold encRect
 split <;> rfl
structure TS where
 fy : Int
 fb : TRect
instance : Inhabited TS := ⟨⟨default, default⟩⟩
def eS (x : TS) : Nat -> AC := fun j => match j with
 | 0 => wi x.fy
 | 1 => wi x.fb.fX0
 | 2 => wi x.fb.fY0
 | 3 => wi x.fb.fX1
 | _ => wi x.fb.fY1
theorem pl_encShape : ∀ (x : TS) (j : Nat), plainC (eS x j) = true := by
 intro x j
 unfold eS
 split <;> rfl
theorem vl_encShape : ∀ (x : TS) (j : Nat), valC (eS x j) = true := by
 intro x j
 unfold eS
 split <;> rfl
structure TPoint where
 fX : Int
 fY : Int
instance : Inhabited TPoint := ⟨⟨default, default⟩⟩
def encPoint (x : TPoint) : Nat -> AC := fun j => match j with
 | 0 => wi x.fX
 | _ => wi x.fY
theorem pl_encPoint : ∀ (x : TPoint) (j : Nat), plainC (encPoint x j) = true := by
 intro x j
 unfold encPoint
 split <;> rfl
theorem vl_encPoint : ∀ (x : TPoint) (j : Nat), valC (encPoint x j) = true := by
 intro x j
 unfold encPoint
 split <;> rfl
structure TB where
 fy : Int
 fa : TPoint
 fN : ByteArray
instance : Inhabited TB := ⟨⟨default, default, default⟩⟩
def eL (x : TB) : Nat -> AC := fun j => match j with
 | 0 => wi x.fy
 | 1 => wi x.fa.fX
 | 2 => wi x.fa.fY
 | _ => ws x.fN
theorem pl_encLabel : ∀ (x : TB) (j : Nat), plainC (eL x j) = true := by
 intro x j
 unfold eL
 split <;> rfl
theorem vl_encLabel : ∀ (x : TB) (j : Nat), valC (eL x j) = true := by
 intro x j
 unfold eL
 split <;> rfl
structure TM where
 fo : Int
 fX : Int
 fY : Int
instance : Inhabited TM := ⟨⟨default, default, default⟩⟩
def encTransform (x : TM) : Nat -> AC := fun j => match j with
 | 0 => wi x.fo
 | 1 => wi x.fX
 | _ => wi x.fY
theorem pl_encTransform : ∀ (x : TM) (j : Nat), plainC (encTransform x j) = true := by
 intro x j
 unfold encTransform
 split <;> rfl
theorem vl_encTransform : ∀ (x : TM) (j : Nat), valC (encTransform x j) = true := by
 intro x j
 unfold encTransform
 split <;> rfl
structure TI where
 fc : Int
 fp : TM
 fK : Int
 fR : Int
 fu : Int
 fv : Int
instance : Inhabited TI := ⟨⟨default, default, default, default, default, default⟩⟩
def eI (x : TI) : Nat -> AC := fun j => match j with
 | 0 => wi x.fc
 | 1 => wi x.fp.fo
 | 2 => wi x.fp.fX
 | 3 => wi x.fp.fY
 | 4 => wi x.fK
 | 5 => wi x.fR
 | 6 => wi x.fu
 | _ => wi x.fv
theorem pl_encInstance : ∀ (x : TI) (j : Nat), plainC (eI x j) = true := by
 intro x j
 unfold eI
 split <;> rfl
theorem vl_encInstance : ∀ (x : TI) (j : Nat), valC (eI x j) = true := by
 intro x j
 unfold eI
 split <;> rfl
structure TC where
 fN : ByteArray
 fS : List TS
 fL : List TB
 fI : List TI
instance : Inhabited TC := ⟨⟨default, default, default, default⟩⟩
def eC (LEN : {α : Type} -> List α -> Nat) (GD : {α : Type} -> [Inhabited α] -> List α -> Nat -> α) (x : TC) : Nat -> AC := fun j => match j with
 | 0 => ws x.fN
 | 1 => .bs (LEN x.fS) 5 (row GD (eS) x.fS)
 | 2 => .bs (LEN x.fL) 4 (row GD (eL) x.fL)
 | _ => .bs (LEN x.fI) 8 (row GD (eI) x.fI)
theorem pl_encCell {LEN : {α : Type} -> List α -> Nat} {GD : {α : Type} -> [Inhabited α] -> List α -> Nat -> α} : ∀ (x : TC) (j : Nat), plainC (eC LEN GD x j) = true := by
 intro x j
 unfold eC
 split <;> rfl
def oC (LEN : {α : Type} -> List α -> Nat) (GD : {α : Type} -> [Inhabited α] -> List α -> Nat -> α) (x : TC) : Nat -> AC := fun j => match j with
 | 0 => ws x.fN
 | 1 => .ow (LEN x.fS) 5 (row GD (eS) x.fS)
 | 2 => .ow (LEN x.fL) 4 (row GD (eL) x.fL)
 | _ => .ow (LEN x.fI) 8 (row GD (eI) x.fI)
theorem rC {LEN : {α : Type} -> List α -> Nat} {GD : {α : Type} -> [Inhabited α] -> List α -> Nat -> α} : ∀ (x : TC) (j : Nat), (oC LEN GD x j).ref = [] := by
 intro x j
 unfold oC
 split <;> rfl
theorem ln_oncCell {LEN : {α : Type} -> List α -> Nat} {GD : {α : Type} -> [Inhabited α] -> List α -> Nat -> α} : ∀ (x : TC) (j : Nat), (oC LEN GD x j).lentIn = eC LEN GD x j := by
 intro x j
 unfold oC eC
 split <;> rfl
theorem fl_oncCell {LEN : {α : Type} -> List α -> Nat} {GD : {α : Type} -> [Inhabited α] -> List α -> Nat -> α} : ∀ (x : TC) (j : Nat), (oC LEN GD x j).flat := by
 intro x j
 unfold oC
 split <;> first | trivial | (exact fun i _ j _ => val_v (vl_encShape _ _)) | (exact fun i _ j _ => val_v (vl_encLabel _ _)) | (exact fun i _ j _ => val_v (vl_encInstance _ _))
structure TL where
 fC : List TC
instance : Inhabited TL := ⟨⟨default⟩⟩
def encLibrary (LEN : {α : Type} -> List α -> Nat) (GD : {α : Type} -> [Inhabited α] -> List α -> Nat -> α) (x : TL) : Nat -> AC := fun j => match j with
 | _ => .bs (LEN x.fC) 4 (row GD (eC LEN GD) x.fC)
theorem pl_encLibrary {LEN : {α : Type} -> List α -> Nat} {GD : {α : Type} -> [Inhabited α] -> List α -> Nat -> α} : ∀ (x : TL) (j : Nat), plainC (encLibrary LEN GD x j) = true := by
 intro x j
 unfold encLibrary
 split <;> rfl
structure TE where
 fk : Int
 fc : Int
 fx : Int
 fN : ByteArray
 fs_ : TS
 fl_ : TB
 fi_ : TI
instance : Inhabited TE := ⟨⟨default, default, default, default, default, default, default⟩⟩
def eE (x : TE) : Nat -> AC := fun j => match j with
 | 0 => wi x.fk
 | 1 => wi x.fc
 | 2 => wi x.fx
 | 3 => ws x.fN
 | 4 => wi x.fs_.fy
 | 5 => wi x.fs_.fb.fX0
 | 6 => wi x.fs_.fb.fY0
 | 7 => wi x.fs_.fb.fX1
 | 8 => wi x.fs_.fb.fY1
 | 9 => wi x.fl_.fy
 | 10 => wi x.fl_.fa.fX
 | 11 => wi x.fl_.fa.fY
 | 12 => ws x.fl_.fN
 | 13 => wi x.fi_.fc
 | 14 => wi x.fi_.fp.fo
 | 15 => wi x.fi_.fp.fX
 | 16 => wi x.fi_.fp.fY
 | 17 => wi x.fi_.fK
 | 18 => wi x.fi_.fR
 | 19 => wi x.fi_.fu
 | _ => wi x.fi_.fv
theorem pl_encEdit : ∀ (x : TE) (j : Nat), plainC (eE x j) = true := by
 intro x j
 unfold eE
 split <;> rfl
theorem vl_encEdit : ∀ (x : TE) (j : Nat), valC (eE x j) = true := by
 intro x j
 unfold eE
 split <;> rfl
abbrev cE (x : TE) : List AC := [wi x.fk, wi x.fc, wi x.fx, ws x.fN, wi x.fs_.fy, wi x.fs_.fb.fX0, wi x.fs_.fb.fY0, wi x.fs_.fb.fX1, wi x.fs_.fb.fY1, wi x.fl_.fy, wi x.fl_.fa.fX, wi x.fl_.fa.fY, ws x.fl_.fN, wi x.fi_.fc, wi x.fi_.fp.fo, wi x.fi_.fp.fX, wi x.fi_.fp.fY, wi x.fi_.fK, wi x.fi_.fR, wi x.fi_.fu, wi x.fi_.fv]
set_option maxHeartbeats 4000000
/-- laws.szShapeS -/
def Fq108 (a0 : List TS) (a1 : Int) : Option (Int) :=
 br (std.lt (std.sub .i64 a1 (std.ofN (len a0))) 0)
 (some (-1))
 (some (std.sub .i64 a1 (std.ofN (len a0))))
theorem runq108 (a0 : List TS) (a1 : Int) (r : Int) (h : Fq108 a0 a1 = some r) : Fun Tryz.prog 183 [.c (.bs (len a0) 5 (row gd (eS) a0)), .c (wi a1)] [] (.c (wi r)) [] true := by
 refine Fun.of_wp (oneOf []) tok mixed Tryz.func183 (by kernel_rfl) rfl Tryz.ntmps183 rfl trivial (fun _ => ⟨trivial, tv⟩) ?_
 unfold Fq108 at h
 generalize hLEN : @len = LEN, hGD : @gd = GD, hA : std = A, hP : Tryz.prog = P at *
 cbv
 refine fork (fun b1 => ?_) (fun b1 => ?_)
 ·replace h := ot b1 h
  cbv
  injection h with h
  subst h
  refine ⟨(sp 12 [(4, .c (wi (-1)))] []), ?_, ?_⟩
  ·exact lsp rfl zl1 trivial rfl
  ·exact ⟨lR _, trivial, rfl⟩
 ·replace h := og b1 h
  cbv
  injection h with h
  subst h
  refine ⟨(sp 12 [(4, .c (wi (A.sub .i64 a1 (A.ofN (LEN a0)))))] []), ?_, ?_⟩
  ·exact lsp rfl zl1 trivial rfl
  ·exact ⟨lR _, trivial, rfl⟩

/-- laws.szLabel -/
def Fq4 (a0 : TB) (a1 : Int) : Option (Int) :=
 br (std.lt (std.sub .i64 a1 (std.ofN (std.slen a0.fN))) 0)
 (some (-1))
 (some (std.sub .i64 a1 (std.ofN (std.slen a0.fN))))
theorem runq4 (a0 : TB) (a1 : Int) (r : Int) (h : Fq4 a0 a1 = some r) : Fun Tryz.prog 56 [.agg [wi a0.fy, wi a0.fa.fX, wi a0.fa.fY, ws a0.fN], .c (wi a1)] [] (.c (wi r)) [] true := by
 refine Fun.of_wp (oneOf []) tok mixed Tryz.func56 (by kernel_rfl) rfl Tryz.ntmps56 rfl trivial (fun _ => ⟨trivial, tv⟩) ?_
 unfold Fq4 at h
 generalize hLEN : @len = LEN, hGD : @gd = GD, hA : std = A, hP : Tryz.prog = P at *
 cbv
 refine fork (fun b1 => ?_) (fun b1 => ?_)
 ·replace h := ot b1 h
  cbv
  injection h with h
  subst h
  refine ⟨(sp 13 [(4, .c (wi (-1)))] []), ?_, ?_⟩
  ·exact lsp rfl zl1 trivial rfl
  ·exact ⟨lR _, trivial, rfl⟩
 ·replace h := og b1 h
  cbv
  injection h with h
  subst h
  refine ⟨(sp 13 [(4, .c (wi (A.sub .i64 a1 (A.ofN (A.slen a0.fN)))))] []), ?_, ?_⟩
  ·exact lsp rfl zl1 trivial rfl
  ·exact ⟨lR _, trivial, rfl⟩

def Lq33_x3 (a0 : List TB) : (Int × Int) -> Option ((Int × Int) ⊕ ((Int) ⊕ (Int))) := fun x3 =>
 letO x3.1 fun v1 =>
 letO x3.2 fun v2 =>
 br (std.lt v2 (std.ofN (len a0)))
 (req (std.inR v2 (len a0)) <|
 (Fq4 (gd a0 (std.toN v2)) v1).bind fun y16 =>
 br (std.lt y16 0)
 (some (.inr (.inl (-1))))
 (some (.inl (y16, std.add .i64 v2 1))))
 (some (.inr (.inr v1)))
/-- laws.szLabelS -/
def Fq33 (a0 : List TB) (a1 : Int) : Option (Int) :=
 br (std.lt (std.sub .i64 a1 (std.ofN (len a0))) 0)
 (some (-1))
 ((whileP (σ := Int × Int) (ρ := (Int) ⊕ (Int)) (Lq33_x3 a0) (std.sub .i64 a1 (std.ofN (len a0)), 0)).bind fun y4 =>
 (match y4 with
 | .inl y4k0 => (
 letO y4k0 fun w20 =>
 some w20)
 | .inr y4m0 =>
 letO y4m0 fun y4k1 =>
 letO y4k1 fun w21 =>
 some w21))
theorem runq33 (a0 : List TB) (a1 : Int) (r : Int) (h : Fq33 a0 a1 = some r) : Fun Tryz.prog 184 [.c (.bs (len a0) 4 (row gd (eL) a0)), .c (wi a1)] [] (.c (wi r)) [] true := by
 refine Fun.of_wp (oneOf []) tok mixed Tryz.func184 (by kernel_rfl) rfl Tryz.ntmps184 rfl trivial (fun _ => ⟨trivial, tv⟩) ?_
 unfold Fq33 at h
 unfold Lq33_x3 at h
 have hfq4 := @runq4
 generalize hLEN : @len = LEN, hGD : @gd = GD, hA : std = A, hP : Tryz.prog = P at *
 cbv
 refine fork (fun b22 => ?_) (fun b22 => ?_)
 ·replace h := ot b22 h
  cbv
  injection h with h
  subst h
  refine ⟨(sp 27 [(4, .c (wi (-1)))] []), ?_, ?_⟩
  ·exact lsp rfl zl1 trivial rfl
  ·exact ⟨lR _, trivial, rfl⟩
 ·replace h := og b22 h
  cbv
  replace h := ob_ h
  obtain ⟨y4, hr5, hN6⟩ := h
  refine loop_cut hr5 (fun x => (sp 27 [(0, .c (.bs (LEN a0) 4 (row GD (eL) a0))), (1, .c (wi x.1)), (5, .c (wi x.2))] [])) ?_ (fun y e s => (match y with | .inl w => e = .ret /\ s.le (sp 27 [(4, .c (wi w))] []) | .inr w0 => (fun (w : Int) => e = .exit 0 /\ s.le (sp 27 [(1, .c (wi w))] [])) w0)) ?_ ?_
  ·clear hr5 hN6
   show St.le _ _
   exact lsp rfl zl3 trivial rfl
  ·clear hr5 hN6
   intro x z10 h K8 hK9 hY7
   obtain ⟨x0_, x1_⟩ := x
   replace h := ol h
   obtain ⟨v1, hv1, h⟩ := h
   have hv1 : v1 = x0_ := hv1
   subst hv1
   replace h := ol h
   obtain ⟨v2, hv2, h⟩ := h
   have hv2 : v2 = x1_ := hv2
   subst hv2
   cbv
   refine fork (fun b19 => ?_) (fun b19 => ?_)
   ·replace h := ot b19 h
    cbv
    replace h := oq h
    obtain ⟨c15, h⟩ := h
    refine ⟨⟨c15, tv⟩, ?_⟩
    replace h := ob_ h
    obtain ⟨y16, hy17, h⟩ := h
    refine ⟨⟨_, _, _, _, _, [], []⟩, hfq4 _ _ _ hy17, ⟨zs2, trivial, rfl, rfl, rfl, rfl, trivial, rfl⟩, ?_⟩
    cbv
    refine fork (fun b18 => ?_) (fun b18 => ?_)
    ·replace h := ot b18 h
     cbv
     injection h with h
     refine hY7 _ h.symm _ _ (And.intro rfl ?_) (by intro hh; cases hh)
     exact lsp rfl zl1 trivial rfl
    ·replace h := og b18 h
     cbv
     injection h with h
     refine hK9 _ h.symm _ ?_
     exact lsp rfl zl3 trivial rfl
   ·replace h := og b19 h
    cbv
    injection h with h
    refine hY7 _ h.symm _ _ (And.intro rfl ?_) (by intro hh; cases hh)
    exact lsp rfl zl1 trivial rfl
  ·clear hr5
   have h := hN6
   clear hN6
   intro e13 s14 q12 hne
   rcases y4 with y4k0 | y4m0
   ·replace h := h
    obtain ⟨rfl, q12⟩ := q12
    replace h := ol h
    obtain ⟨w20, hw20, h⟩ := h
    have hw20 : w20 = y4k0 := hw20
    subst hw20
    cbv
    injection h with h
    subst h
    refine ⟨(sp 27 [(4, .c (wi w20))] []), ?_, ?_⟩
    ·refine St.le_trans q12 ?_
     exact lsp rfl zl1 trivial rfl
    ·exact ⟨lR _, trivial, rfl⟩
   ·replace h := ol h
    obtain ⟨y4k1, hyk, h⟩ := h
    have hyk : y4k1 = y4m0 := hyk
    subst hyk
    obtain ⟨rfl, q12⟩ := q12
    replace h := ol h
    obtain ⟨w21, hw21, h⟩ := h
    have hw21 : w21 = y4k1 := hw21
    subst hw21
    cbv
    refine ⟨_, q12, ?_⟩
    cbv
    injection h with h
    subst h
    refine ⟨(sp 27 [(4, .c (wi w21))] []), ?_, ?_⟩
    ·exact lsp rfl zl1 trivial rfl
    ·exact ⟨lR _, trivial, rfl⟩

/-- laws.szInstanceS -/
def Fq105 (a0 : List TI) (a1 : Int) : Option (Int) :=
 br (std.lt (std.sub .i64 a1 (std.ofN (len a0))) 0)
 (some (-1))
 (some (std.sub .i64 a1 (std.ofN (len a0))))
theorem runq105 (a0 : List TI) (a1 : Int) (r : Int) (h : Fq105 a0 a1 = some r) : Fun Tryz.prog 185 [.c (.bs (len a0) 8 (row gd (eI) a0)), .c (wi a1)] [] (.c (wi r)) [] true := by
 refine Fun.of_wp (oneOf []) tok mixed Tryz.func185 (by kernel_rfl) rfl Tryz.ntmps185 rfl trivial (fun _ => ⟨trivial, tv⟩) ?_
 unfold Fq105 at h
 generalize hLEN : @len = LEN, hGD : @gd = GD, hA : std = A, hP : Tryz.prog = P at *
 cbv
 refine fork (fun b1 => ?_) (fun b1 => ?_)
 ·replace h := ot b1 h
  cbv
  injection h with h
  subst h
  refine ⟨(sp 12 [(4, .c (wi (-1)))] []), ?_, ?_⟩
  ·exact lsp rfl zl1 trivial rfl
  ·exact ⟨lR _, trivial, rfl⟩
 ·replace h := og b1 h
  cbv
  injection h with h
  subst h
  refine ⟨(sp 12 [(4, .c (wi (A.sub .i64 a1 (A.ofN (LEN a0)))))] []), ?_, ?_⟩
  ·exact lsp rfl zl1 trivial rfl
  ·exact ⟨lR _, trivial, rfl⟩

/-- laws.szCell -/
def Fq12 (a0 : TC) (a1 : Int) : Option (Int) :=
 br (std.lt (std.sub .i64 a1 (std.ofN (std.slen a0.fN))) 0)
 (some (-1))
 ((Fq108 a0.fS (std.sub .i64 a1 (std.ofN (std.slen a0.fN)))).bind fun y1 =>
 br (std.lt y1 0)
 (some (-1))
 ((Fq33 a0.fL y1).bind fun y3 =>
 br (std.lt y3 0)
 (some (-1))
 ((Fq105 a0.fI y3).bind fun y5 =>
 br (std.lt y5 0)
 (some (-1))
 (some y5))))
theorem runq12 (a0 : TC) (a1 : Int) (r : Int) (h : Fq12 a0 a1 = some r) : Fun Tryz.prog 104 [.agg [ws a0.fN, .bs (len a0.fS) 5 (row gd (eS) a0.fS), .bs (len a0.fL) 4 (row gd (eL) a0.fL), .bs (len a0.fI) 8 (row gd (eI) a0.fI)], .c (wi a1)] [] (.c (wi r)) [] true := by
 refine Fun.of_wp (oneOf []) tok mixed Tryz.func104 (by kernel_rfl) rfl Tryz.ntmps104 rfl trivial (fun _ => ⟨trivial, tv⟩) ?_
 unfold Fq12 at h
 have hfq105 := @runq105
 have hfq33 := @runq33
 have hfq108 := @runq108
 generalize hLEN : @len = LEN, hGD : @gd = GD, hA : std = A, hP : Tryz.prog = P at *
 cbv
 refine fork (fun b10 => ?_) (fun b10 => ?_)
 ·replace h := ot b10 h
  cbv
  injection h with h
  subst h
  refine ⟨(sp 31 [(4, .c (wi (-1)))] []), ?_, ?_⟩
  ·exact lsp rfl zl1 trivial rfl
  ·exact ⟨lR _, trivial, rfl⟩
 ·replace h := og b10 h
  cbv
  replace h := ob_ h
  obtain ⟨y1, hy2, h⟩ := h
  refine ⟨⟨_, _, _, _, _, [], []⟩, hfq108 _ _ _ hy2, ⟨zs2, trivial, rfl, rfl, rfl, rfl, trivial, rfl⟩, ?_⟩
  cbv
  refine fork (fun b9 => ?_) (fun b9 => ?_)
  ·replace h := ot b9 h
   cbv
   injection h with h
   subst h
   refine ⟨(sp 31 [(4, .c (wi (-1)))] []), ?_, ?_⟩
   ·exact lsp rfl zl1 trivial rfl
   ·exact ⟨lR _, trivial, rfl⟩
  ·replace h := og b9 h
   cbv
   replace h := ob_ h
   obtain ⟨y3, hy4, h⟩ := h
   refine ⟨⟨_, _, _, _, _, [], []⟩, hfq33 _ _ _ hy4, ⟨zs2, trivial, rfl, rfl, rfl, rfl, trivial, rfl⟩, ?_⟩
   cbv
   refine fork (fun b8 => ?_) (fun b8 => ?_)
   ·replace h := ot b8 h
    cbv
    injection h with h
    subst h
    refine ⟨(sp 31 [(4, .c (wi (-1)))] []), ?_, ?_⟩
    ·exact lsp rfl zl1 trivial rfl
    ·exact ⟨lR _, trivial, rfl⟩
   ·replace h := og b8 h
    cbv
    replace h := ob_ h
    obtain ⟨y5, hy6, h⟩ := h
    refine ⟨⟨_, _, _, _, _, [], []⟩, hfq105 _ _ _ hy6, ⟨zs2, trivial, rfl, rfl, rfl, rfl, trivial, rfl⟩, ?_⟩
    cbv
    refine fork (fun b7 => ?_) (fun b7 => ?_)
    ·replace h := ot b7 h
     cbv
     injection h with h
     subst h
     refine ⟨(sp 31 [(4, .c (wi (-1)))] []), ?_, ?_⟩
     ·exact lsp rfl zl1 trivial rfl
     ·exact ⟨lR _, trivial, rfl⟩
    ·replace h := og b7 h
     cbv
     injection h with h
     subst h
     refine ⟨(sp 31 [(4, .c (wi y5))] []), ?_, ?_⟩
     ·exact lsp rfl zl1 trivial rfl
     ·exact ⟨lR _, trivial, rfl⟩

def Lq50_x3 (a0 : List TC) : (Int × Int) -> Option ((Int × Int) ⊕ ((Int) ⊕ (Int))) := fun x3 =>
 letO x3.1 fun v1 =>
 letO x3.2 fun v2 =>
 br (std.lt v2 (std.ofN (len a0)))
 (req (std.inR v2 (len a0)) <|
 (Fq12 (gd a0 (std.toN v2)) v1).bind fun y16 =>
 br (std.lt y16 0)
 (some (.inr (.inl (-1))))
 (some (.inl (y16, std.add .i64 v2 1))))
 (some (.inr (.inr v1)))
/-- laws.szCellS -/
def Fq50 (a0 : List TC) (a1 : Int) : Option (Int) :=
 br (std.lt (std.sub .i64 a1 (std.ofN (len a0))) 0)
 (some (-1))
 ((whileP (σ := Int × Int) (ρ := (Int) ⊕ (Int)) (Lq50_x3 a0) (std.sub .i64 a1 (std.ofN (len a0)), 0)).bind fun y4 =>
 (match y4 with
 | .inl y4k0 => (
 letO y4k0 fun w20 =>
 some w20)
 | .inr y4m0 =>
 letO y4m0 fun y4k1 =>
 letO y4k1 fun w21 =>
 some w21))
theorem runq50 (a0 : List TC) (a1 : Int) (r : Int) (h : Fq50 a0 a1 = some r) : Fun Tryz.prog 55 [.c (.bs (len a0) 4 (row gd (eC len gd) a0)), .c (wi a1)] [] (.c (wi r)) [] true := by
 refine Fun.of_wp (oneOf []) tok mixed Tryz.func55 (by kernel_rfl) rfl Tryz.ntmps55 rfl trivial (fun _ => ⟨trivial, tv⟩) ?_
 unfold Fq50 at h
 unfold Lq50_x3 at h
 have hfq12 := @runq12
 generalize hLEN : @len = LEN, hGD : @gd = GD, hA : std = A, hP : Tryz.prog = P at *
 cbv
 refine fork (fun b22 => ?_) (fun b22 => ?_)
 ·replace h := ot b22 h
  cbv
  injection h with h
  subst h
  refine ⟨(sp 27 [(4, .c (wi (-1)))] []), ?_, ?_⟩
  ·exact lsp rfl zl1 trivial rfl
  ·exact ⟨lR _, trivial, rfl⟩
 ·replace h := og b22 h
  cbv
  replace h := ob_ h
  obtain ⟨y4, hr5, hN6⟩ := h
  refine loop_cut hr5 (fun x => (sp 27 [(0, .c (.bs (LEN a0) 4 (row GD (eC LEN GD) a0))), (1, .c (wi x.1)), (5, .c (wi x.2))] [])) ?_ (fun y e s => (match y with | .inl w => e = .ret /\ s.le (sp 27 [(4, .c (wi w))] []) | .inr w0 => (fun (w : Int) => e = .exit 0 /\ s.le (sp 27 [(1, .c (wi w))] [])) w0)) ?_ ?_
  ·clear hr5 hN6
   show St.le _ _
   exact lsp rfl zl3 trivial rfl
  ·clear hr5 hN6
   intro x z10 h K8 hK9 hY7
   obtain ⟨x0_, x1_⟩ := x
   replace h := ol h
   obtain ⟨v1, hv1, h⟩ := h
   have hv1 : v1 = x0_ := hv1
   subst hv1
   replace h := ol h
   obtain ⟨v2, hv2, h⟩ := h
   have hv2 : v2 = x1_ := hv2
   subst hv2
   cbv
   refine fork (fun b19 => ?_) (fun b19 => ?_)
   ·replace h := ot b19 h
    cbv
    replace h := oq h
    obtain ⟨c15, h⟩ := h
    refine ⟨⟨c15, tv⟩, ?_⟩
    replace h := ob_ h
    obtain ⟨y16, hy17, h⟩ := h
    refine ⟨⟨_, _, _, _, _, [], []⟩, hfq12 _ _ _ hy17, ⟨zs2, trivial, rfl, rfl, rfl, rfl, trivial, rfl⟩, ?_⟩
    cbv
    refine fork (fun b18 => ?_) (fun b18 => ?_)
    ·replace h := ot b18 h
     cbv
     injection h with h
     refine hY7 _ h.symm _ _ (And.intro rfl ?_) (by intro hh; cases hh)
     exact lsp rfl zl1 trivial rfl
    ·replace h := og b18 h
     cbv
     injection h with h
     refine hK9 _ h.symm _ ?_
     exact lsp rfl zl3 trivial rfl
   ·replace h := og b19 h
    cbv
    injection h with h
    refine hY7 _ h.symm _ _ (And.intro rfl ?_) (by intro hh; cases hh)
    exact lsp rfl zl1 trivial rfl
  ·clear hr5
   have h := hN6
   clear hN6
   intro e13 s14 q12 hne
   rcases y4 with y4k0 | y4m0
   ·replace h := h
    obtain ⟨rfl, q12⟩ := q12
    replace h := ol h
    obtain ⟨w20, hw20, h⟩ := h
    have hw20 : w20 = y4k0 := hw20
    subst hw20
    cbv
    injection h with h
    subst h
    refine ⟨(sp 27 [(4, .c (wi w20))] []), ?_, ?_⟩
    ·refine St.le_trans q12 ?_
     exact lsp rfl zl1 trivial rfl
    ·exact ⟨lR _, trivial, rfl⟩
   ·replace h := ol h
    obtain ⟨y4k1, hyk, h⟩ := h
    have hyk : y4k1 = y4m0 := hyk
    subst hyk
    obtain ⟨rfl, q12⟩ := q12
    replace h := ol h
    obtain ⟨w21, hw21, h⟩ := h
    have hw21 : w21 = y4k1 := hw21
    subst hw21
    cbv
    refine ⟨_, q12, ?_⟩
    cbv
    injection h with h
    subst h
    refine ⟨(sp 27 [(4, .c (wi w21))] []), ?_, ?_⟩
    ·exact lsp rfl zl1 trivial rfl
    ·exact ⟨lR _, trivial, rfl⟩
set_option maxHeartbeats 4000000
/-- laws.szLibrary -/
def Fq72 (a0 : TL) (a1 : Int) : Option (Int) :=
 (Fq50 a0.fC a1).bind fun y1 =>
 br (std.lt y1 0)
 (some (-1))
 (some y1)
theorem runq72 (a0 : TL) (a1 : Int) (r : Int) (h : Fq72 a0 a1 = some r) : Fun Tryz.prog 14 [.agg [.bs (len a0.fC) 4 (row gd (eC len gd) a0.fC)], .c (wi a1)] [] (.c (wi r)) [] true := by
 refine Fun.of_wp (oneOf []) tok mixed Tryz.func14 (by kernel_rfl) rfl Tryz.ntmps14 rfl trivial (fun _ => ⟨trivial, tv⟩) ?_
 unfold Fq72 at h
 have hfq50 := @runq50
 generalize hLEN : @len = LEN, hGD : @gd = GD, hA : std = A, hP : Tryz.prog = P at *
 cbv
 replace h := ob_ h
 obtain ⟨y1, hy2, h⟩ := h
 refine ⟨⟨_, _, _, _, _, [], []⟩, hfq50 _ _ _ hy2, ⟨zs2, trivial, rfl, rfl, rfl, rfl, trivial, rfl⟩, ?_⟩
 cbv
 refine fork (fun b3 => ?_) (fun b3 => ?_)
 ·replace h := ot b3 h
  cbv
  injection h with h
  subst h
  refine ⟨(sp 12 [(4, .c (wi (-1)))] []), ?_, ?_⟩
  ·exact lsp rfl zl1 trivial rfl
  ·exact ⟨lR _, trivial, rfl⟩
 ·replace h := og b3 h
  cbv
  injection h with h
  subst h
  refine ⟨(sp 12 [(4, .c (wi y1))] []), ?_, ?_⟩
  ·exact lsp rfl zl1 trivial rfl
  ·exact ⟨lR _, trivial, rfl⟩

/-- laws.szEdit -/
def Fq78 (a0 : TE) (a1 : Int) : Option (Int) :=
 br (std.lt (std.sub .i64 a1 (std.ofN (std.slen a0.fN))) 0)
 (some (-1))
 ((Fq4 a0.fl_ (std.sub .i64 a1 (std.ofN (std.slen a0.fN)))).bind fun y1 =>
 br (std.lt y1 0)
 (some (-1))
 (some y1))
theorem runq78 (a0 : TE) (a1 : Int) (r : Int) (h : Fq78 a0 a1 = some r) : Fun Tryz.prog 15 [.agg (cE a0), .c (wi a1)] [] (.c (wi r)) [] true := by
 refine Fun.of_wp (oneOf []) tok mixed Tryz.func15 (by kernel_rfl) rfl Tryz.ntmps15 rfl trivial (fun _ => ⟨trivial, tv⟩) ?_
 unfold Fq78 at h
 have hfq4 := @runq4
 generalize hLEN : @len = LEN, hGD : @gd = GD, hA : std = A, hP : Tryz.prog = P at *
 cbv
 refine fork (fun b4 => ?_) (fun b4 => ?_)
 ·replace h := ot b4 h
  cbv
  injection h with h
  subst h
  refine ⟨(sp 19 [(4, .c (wi (-1)))] []), ?_, ?_⟩
  ·exact lsp rfl zl1 trivial rfl
  ·exact ⟨lR _, trivial, rfl⟩
 ·replace h := og b4 h
  cbv
  replace h := ob_ h
  obtain ⟨y1, hy2, h⟩ := h
  refine ⟨⟨_, _, _, _, _, [], []⟩, hfq4 _ _ _ hy2, ⟨zs2, trivial, rfl, rfl, rfl, rfl, trivial, rfl⟩, ?_⟩
  cbv
  refine fork (fun b3 => ?_) (fun b3 => ?_)
  ·replace h := ot b3 h
   cbv
   injection h with h
   subst h
   refine ⟨(sp 19 [(4, .c (wi (-1)))] []), ?_, ?_⟩
   ·exact lsp rfl zl1 trivial rfl
   ·exact ⟨lR _, trivial, rfl⟩
  ·replace h := og b3 h
   cbv
   injection h with h
   subst h
   refine ⟨(sp 19 [(4, .c (wi y1))] []), ?_, ?_⟩
   ·exact lsp rfl zl1 trivial rfl
   ·exact ⟨lR _, trivial, rfl⟩

/-- laws.toRect -/
def Fq120 (a0 : TRect) : Option (TRect) :=
 some a0
theorem runq120 (a0 : TRect) (r : TRect) (h : Fq120 a0 = some r) : Fun Tryz.prog 111 [.agg [wi a0.fX0, wi a0.fY0, wi a0.fX1, wi a0.fY1]] [] (.agg [wi r.fX0, wi r.fY0, wi r.fX1, wi r.fY1]) [] true := by
 refine Fun.of_wp (oneOf []) tok mixed Tryz.func111 (by kernel_rfl) rfl Tryz.ntmps111 rfl trivial (fun _ => ⟨(by simp [AV.flat, AV.flat1, AC.flat]), tv⟩) ?_
 unfold Fq120 at h
 generalize hLEN : @len = LEN, hGD : @gd = GD, hA : std = A, hP : Tryz.prog = P at *
 cbv
 injection h with h
 subst h
 refine ⟨(sp 17 [(2, .c (.ptr 128 0))] [(128, .var [wi a0.fX0, wi a0.fY0, wi a0.fX1, wi a0.fY1])]), ?_, ?_⟩
 ·exact lsp rfl zl1 ⟨rfl, tv⟩ rfl
 ·exact ⟨lR _, trivial, rfl⟩

/-- laws.toShape -/
def Fq6 (a0 : TS) : Option (TS) :=
 (Fq120 a0.fb).bind fun y1 =>
 some (TS.mk a0.fy y1)
theorem runq6 (a0 : TS) (r : TS) (h : Fq6 a0 = some r) : Fun Tryz.prog 61 [.agg [wi a0.fy, wi a0.fb.fX0, wi a0.fb.fY0, wi a0.fb.fX1, wi a0.fb.fY1]] [] (.agg [wi r.fy, wi r.fb.fX0, wi r.fb.fY0, wi r.fb.fX1, wi r.fb.fY1]) [] true := by
 refine Fun.of_wp (oneOf []) tok mixed Tryz.func61 (by kernel_rfl) rfl Tryz.ntmps61 rfl trivial (fun _ => ⟨(by simp [AV.flat, AV.flat1, AC.flat]), tv⟩) ?_
 unfold Fq6 at h
 have hfq120 := @runq120
 generalize hLEN : @len = LEN, hGD : @gd = GD, hA : std = A, hP : Tryz.prog = P at *
 cbv
 replace h := ob_ h
 obtain ⟨y1, hy2, h⟩ := h
 refine ⟨⟨_, _, _, _, _, [], []⟩, hfq120 _ _ hy2, ⟨zs1, trivial, rfl, rfl, rfl, rfl, trivial, rfl⟩, ?_⟩
 cbv
 injection h with h
 subst h
 refine ⟨(sp 12 [(2, .c (.ptr 128 0))] [(128, .var [wi a0.fy, wi y1.fX0, wi y1.fY0, wi y1.fX1, wi y1.fY1])]), ?_, ?_⟩
 ·exact lsp rfl zl1 ⟨rfl, tv⟩ rfl
 ·exact ⟨lR _, trivial, rfl⟩

def Lq31_x7 (a0 : List TS) (l1 : List TS) : (Int × (List TS)) -> Option ((Int × (List TS)) ⊕ (((List TS)))) := fun x7 =>
 letO x7.1 fun v5 =>
 letO x7.2 fun v6 =>
 br (std.lt v5 (std.ofN (len a0)))
 (req (std.inR v5 (len a0)) <|
 (Fq6 (gd a0 (std.toN v5))).bind fun y20 =>
 req (std.inR v5 (len l1)) <|
 req (len l1 = len v6) <|
 letO (List.set v6 (std.nadd 0 (std.toN v5)) y20) fun l23 =>
 some (.inl (std.add .i64 v5 1, l23)))
 (some (.inr v6))
/-- laws.toShapeS -/
def Fq31 (a0 : List TS) : Option (List TS) :=
 req (std.nneg (std.ofN (len a0))) <|
 req (std.room (std.toN (std.ofN (len a0))) 40) <|
 letO (List.replicate (std.toN (std.ofN (len a0))) (TS.mk 0 (TRect.mk 0 0 0 0))) fun l1 =>
 (whileP (σ := Int × (List TS)) (ρ := ((List TS))) (Lq31_x7 a0 l1) (0, l1)).bind fun y8 =>
 letO y8 fun y8k0 =>
 letO y8k0 fun w26 =>
 req (len l1 = len w26) <|
 some w26
theorem runq31 (a0 : List TS) (r : List TS) (h : Fq31 a0 = some r) : Fun Tryz.prog 191 [.c (.bs (len a0) 5 (row gd (eS) a0))] [] (.c (.os 64000 0 (len r))) [(64000, .arr .rw [] (len r) 5 (row gd (eS) r))] true := by
 refine Fun.of_wp (oneOf []) tok mixed Tryz.func191 (by kernel_rfl) rfl Tryz.ntmps191 rfl trivial (fun _ => ⟨trivial, ⟨fun i _ j _ => val_flat (vl_encShape _ _), tv⟩⟩) ?_
 unfold Fq31 at h
 unfold Lq31_x7 at h
 have hfq6 := @runq6
 generalize hLEN : @len = LEN, hGD : @gd = GD, hA : std = A, hP : Tryz.prog = P at *
 cbv
 replace h := oq h
 obtain ⟨c3, h⟩ := h
 replace h := oq h
 obtain ⟨c4, h⟩ := h
 replace h := ol h
 obtain ⟨l1, hl1, h⟩ := h
 have e2 : A.toN (A.ofN (LEN a0)) = LEN l1 := by subst hl1 hLEN hA; exact rep_len rfl
 refine And.intro (by first | exact ⟨c3, c4⟩ | exact ⟨rfl, c3, trivial, trivial, trivial, c4⟩ | (refine ⟨?_, ?_, ?_, ?_, ?_, ?_⟩ <;> first | exact c3 | exact c4 | trivial)) ?_
 refine ⟨_, congrArg (fun n => AV.c (AC.os 448 0 n)) e2, _, row GD (eS) l1, e2, wkOf ?_, ?_⟩
 ·subst hGD hLEN
  exact upd_repL hl1 (by intro j hj; match j, hj with | 0, _ => rfl | 1, _ => rfl | 2, _ => rfl | 3, _ => rfl | 4, _ => rfl | (j_ + 5), h_ => omega)
 cbv
 replace h := ob_ h
 obtain ⟨y8, hr9, hN10⟩ := h
 refine loop_cut hr9 (fun x => (sp 23 [(0, .c (.bs (LEN a0) 5 (row GD (eS) a0))), (3, .c (.os 448 0 (LEN l1))), (4, .c (wi x.1))] [(448, .arr .rw [] (LEN l1) 5 (row GD (eS) x.2))])) ?_ (fun y e s => (fun (w : (List TS)) => e = .exit 0 /\ s.le (sp 23 [(3, .c (.os 448 0 (LEN l1)))] [(448, .arr .rw [] (LEN l1) 5 (row GD (eS) w))])) y) ?_ ?_
 ·clear hr9 hN10
  show St.le _ _
  exact lsp rfl zl3 ⟨oS, tv⟩ rfl
 ·clear hr9 hN10
  intro x z14 h K12 hK13 hY11
  obtain ⟨x0_, x1_⟩ := x
  replace h := ol h
  obtain ⟨v5, hv5, h⟩ := h
  have hv5 : v5 = x0_ := hv5
  subst hv5
  replace h := ol h
  obtain ⟨v6, hv6, h⟩ := h
  have hv6 : v6 = x1_ := hv6
  subst hv6
  cbv
  refine fork (fun b25 => ?_) (fun b25 => ?_)
  ·replace h := ot b25 h
   cbv
   replace h := oq h
   obtain ⟨c19, h⟩ := h
   refine ⟨⟨c19, tv⟩, ?_⟩
   replace h := ob_ h
   obtain ⟨y20, hy21, h⟩ := h
   refine ⟨⟨_, _, _, _, _, [], []⟩, hfq6 _ _ hy21, ⟨zs1, trivial, rfl, rfl, rfl, rfl, trivial, rfl⟩, ?_⟩
   cbv
   replace h := oq h
   obtain ⟨c22, h⟩ := h
   refine ⟨⟨c22, tv⟩, ?_⟩
   replace h := oq h
   obtain ⟨c24, h⟩ := h
   replace h := ol h
   obtain ⟨l23, hl23, h⟩ := h
   refine And.intro (by subst hA; have p := ix c22; first | exact p | exact ⟨p, tv⟩ | exact ⟨p, trivial, tv⟩) ?_
   refine ⟨_, rfl, _, row GD (eS) l23, rfl, wkOf ?_, ?_⟩
   ·subst hGD hLEN hA
    rw [c24] at c22
    refine upd_set hl23 (ix c22) ?_ ?_
    ·intro b hb hh
     match b, hb, hh with | 0, _, hh => exact rfl | 1, _, hh => exact rfl | 2, _, hh => exact rfl | 3, _, hh => exact rfl | 4, _, hh => exact rfl | (b_ + 5), h_, _ => omega
    ·intro b hb hh
     match b, hb, hh with | 0, _, hh => exact (hh (yd rfl)).elim | 1, _, hh => exact (hh (yd rfl)).elim | 2, _, hh => exact (hh (yd rfl)).elim | 3, _, hh => exact (hh (yd rfl)).elim | 4, _, hh => exact (hh (yd rfl)).elim | (b_ + 5), h_, _ => omega
   cbv
   injection h with h
   refine hK13 _ h.symm _ ?_
   exact lsp rfl zl3 ⟨oS, tv⟩ rfl
  ·replace h := og b25 h
   cbv
   injection h with h
   refine hY11 _ h.symm _ _ (And.intro rfl ?_) (by intro hh; cases hh)
   exact lsp rfl zl1 ⟨oS, tv⟩ rfl
 ·clear hr9
  have h := hN10
  clear hN10
  intro e17 s18 q16 hne
  replace h := ol h
  obtain ⟨y8k0, hyk, h⟩ := h
  have hyk : y8k0 = y8 := hyk
  subst hyk
  obtain ⟨rfl, q16⟩ := q16
  replace h := ol h
  obtain ⟨w26, hw26, h⟩ := h
  have hw26 : w26 = y8k0 := hw26
  subst hw26
  cbv
  refine ⟨_, q16, ?_⟩
  cbv
  replace h := oq h
  obtain ⟨c27, h⟩ := h
  injection h with h
  subst h
  refine ⟨(sp 23 [(2, .c (.os 64000 0 (LEN w26)))] [(64000, .arr .rw [] (LEN w26) 5 (row GD (eS) w26))]), ?_, ?_⟩
  ·refine St.le_trans (le_ren 448 64000 (by decide) rfl) ?_
   rw [c27]
   exact lsp rfl zl1 ⟨oS, tv⟩ rfl
  ·exact ⟨lR _, ⟨oS, tv⟩, rfl⟩

/-- laws.toPoint -/
def Fq119 (a0 : TPoint) : Option (TPoint) :=
 some a0
theorem runq119 (a0 : TPoint) (r : TPoint) (h : Fq119 a0 = some r) : Fun Tryz.prog 112 [.agg [wi a0.fX, wi a0.fY]] [] (.agg [wi r.fX, wi r.fY]) [] true := by
 refine Fun.of_wp (oneOf []) tok mixed Tryz.func112 (by kernel_rfl) rfl Tryz.ntmps112 rfl trivial (fun _ => ⟨(by simp [AV.flat, AV.flat1, AC.flat]), tv⟩) ?_
 unfold Fq119 at h
 generalize hLEN : @len = LEN, hGD : @gd = GD, hA : std = A, hP : Tryz.prog = P at *
 cbv
 injection h with h
 subst h
 refine ⟨(sp 11 [(2, .c (.ptr 128 0))] [(128, .var [wi a0.fX, wi a0.fY])]), ?_, ?_⟩
 ·exact lsp rfl zl1 ⟨rfl, tv⟩ rfl
 ·exact ⟨lR _, trivial, rfl⟩
set_option maxHeartbeats 4000000
/-- laws.toLabel -/
def Fq5 (a0 : TB) : Option (TB) :=
 (Fq119 a0.fa).bind fun y1 =>
 some (TB.mk a0.fy y1 a0.fN)
theorem runq5 (a0 : TB) (r : TB) (h : Fq5 a0 = some r) : Fun Tryz.prog 62 [.agg [wi a0.fy, wi a0.fa.fX, wi a0.fa.fY, ws a0.fN]] [] (.agg [wi r.fy, wi r.fa.fX, wi r.fa.fY, ws r.fN]) [] true := by
 refine Fun.of_wp (oneOf []) tok mixed Tryz.func62 (by kernel_rfl) rfl Tryz.ntmps62 rfl trivial (fun _ => ⟨(by simp [AV.flat, AV.flat1, AC.flat]), tv⟩) ?_
 unfold Fq5 at h
 have hfq119 := @runq119
 generalize hLEN : @len = LEN, hGD : @gd = GD, hA : std = A, hP : Tryz.prog = P at *
 cbv
 replace h := ob_ h
 obtain ⟨y1, hy2, h⟩ := h
 refine ⟨⟨_, _, _, _, _, [], []⟩, hfq119 _ _ hy2, ⟨zs1, trivial, rfl, rfl, rfl, rfl, trivial, rfl⟩, ?_⟩
 cbv
 injection h with h
 subst h
 refine ⟨(sp 15 [(2, .c (.ptr 128 0))] [(128, .var [wi a0.fy, wi y1.fX, wi y1.fY, ws a0.fN])]), ?_, ?_⟩
 ·exact lsp rfl zl1 ⟨rfl, tv⟩ rfl
 ·exact ⟨lR _, trivial, rfl⟩

def Lq30_x7 (a0 : List TB) (l1 : List TB) : (Int × (List TB)) -> Option ((Int × (List TB)) ⊕ (((List TB)))) := fun x7 =>
 letO x7.1 fun v5 =>
 letO x7.2 fun v6 =>
 br (std.lt v5 (std.ofN (len a0)))
 (req (std.inR v5 (len a0)) <|
 (Fq5 (gd a0 (std.toN v5))).bind fun y20 =>
 req (std.inR v5 (len l1)) <|
 req (len l1 = len v6) <|
 letO (List.set v6 (std.nadd 0 (std.toN v5)) y20) fun l23 =>
 some (.inl (std.add .i64 v5 1, l23)))
 (some (.inr v6))
/-- laws.toLabelS -/
def Fq30 (a0 : List TB) : Option (List TB) :=
 req (std.nneg (std.ofN (len a0))) <|
 req (std.room (std.toN (std.ofN (len a0))) 40) <|
 letO (List.replicate (std.toN (std.ofN (len a0))) (TB.mk 0 (TPoint.mk 0 0) (ByteArray.mk #[]))) fun l1 =>
 (whileP (σ := Int × (List TB)) (ρ := ((List TB))) (Lq30_x7 a0 l1) (0, l1)).bind fun y8 =>
 letO y8 fun y8k0 =>
 letO y8k0 fun w26 =>
 req (len l1 = len w26) <|
 some w26
theorem runq30 (a0 : List TB) (r : List TB) (h : Fq30 a0 = some r) : Fun Tryz.prog 192 [.c (.bs (len a0) 4 (row gd (eL) a0))] [] (.c (.os 64000 0 (len r))) [(64000, .arr .rw [] (len r) 4 (row gd (eL) r))] true := by
 refine Fun.of_wp (oneOf []) tok mixed Tryz.func192 (by kernel_rfl) rfl Tryz.ntmps192 rfl trivial (fun _ => ⟨trivial, ⟨fun i _ j _ => val_flat (vl_encLabel _ _), tv⟩⟩) ?_
 unfold Fq30 at h
 unfold Lq30_x7 at h
 have hfq5 := @runq5
 generalize hLEN : @len = LEN, hGD : @gd = GD, hA : std = A, hP : Tryz.prog = P at *
 cbv
 replace h := oq h
 obtain ⟨c3, h⟩ := h
 replace h := oq h
 obtain ⟨c4, h⟩ := h
 replace h := ol h
 obtain ⟨l1, hl1, h⟩ := h
 have e2 : A.toN (A.ofN (LEN a0)) = LEN l1 := by subst hl1 hLEN hA; exact rep_len rfl
 refine And.intro (by first | exact ⟨c3, c4⟩ | exact ⟨rfl, c3, trivial, trivial, trivial, c4⟩ | (refine ⟨?_, ?_, ?_, ?_, ?_, ?_⟩ <;> first | exact c3 | exact c4 | trivial)) ?_
 refine ⟨_, congrArg (fun n => AV.c (AC.os 448 0 n)) e2, _, row GD (eL) l1, e2, wkOf ?_, ?_⟩
 ·subst hGD hLEN
  exact upd_repL hl1 (by intro j hj; match j, hj with | 0, _ => rfl | 1, _ => rfl | 2, _ => rfl | 3, _ => rfl | (j_ + 4), h_ => omega)
 cbv
 replace h := ob_ h
 obtain ⟨y8, hr9, hN10⟩ := h
 refine loop_cut hr9 (fun x => (sp 23 [(0, .c (.bs (LEN a0) 4 (row GD (eL) a0))), (3, .c (.os 448 0 (LEN l1))), (4, .c (wi x.1))] [(448, .arr .rw [] (LEN l1) 4 (row GD (eL) x.2))])) ?_ (fun y e s => (fun (w : (List TB)) => e = .exit 0 /\ s.le (sp 23 [(3, .c (.os 448 0 (LEN l1)))] [(448, .arr .rw [] (LEN l1) 4 (row GD (eL) w))])) y) ?_ ?_
 ·clear hr9 hN10
  show St.le _ _
  exact lsp rfl zl3 ⟨oS, tv⟩ rfl
 ·clear hr9 hN10
  intro x z14 h K12 hK13 hY11
  obtain ⟨x0_, x1_⟩ := x
  replace h := ol h
  obtain ⟨v5, hv5, h⟩ := h
  have hv5 : v5 = x0_ := hv5
  subst hv5
  replace h := ol h
  obtain ⟨v6, hv6, h⟩ := h
  have hv6 : v6 = x1_ := hv6
  subst hv6
  cbv
  refine fork (fun b25 => ?_) (fun b25 => ?_)
  ·replace h := ot b25 h
   cbv
   replace h := oq h
   obtain ⟨c19, h⟩ := h
   refine ⟨⟨c19, tv⟩, ?_⟩
   replace h := ob_ h
   obtain ⟨y20, hy21, h⟩ := h
   refine ⟨⟨_, _, _, _, _, [], []⟩, hfq5 _ _ hy21, ⟨zs1, trivial, rfl, rfl, rfl, rfl, trivial, rfl⟩, ?_⟩
   cbv
   replace h := oq h
   obtain ⟨c22, h⟩ := h
   refine ⟨⟨c22, tv⟩, ?_⟩
   replace h := oq h
   obtain ⟨c24, h⟩ := h
   replace h := ol h
   obtain ⟨l23, hl23, h⟩ := h
   refine And.intro (by subst hA; have p := ix c22; first | exact p | exact ⟨p, tv⟩ | exact ⟨p, trivial, tv⟩) ?_
   refine ⟨_, rfl, _, row GD (eL) l23, rfl, wkOf ?_, ?_⟩
   ·subst hGD hLEN hA
    rw [c24] at c22
    refine upd_set hl23 (ix c22) ?_ ?_
    ·intro b hb hh
     match b, hb, hh with | 0, _, hh => exact rfl | 1, _, hh => exact rfl | 2, _, hh => exact rfl | 3, _, hh => exact rfl | (b_ + 4), h_, _ => omega
    ·intro b hb hh
     match b, hb, hh with | 0, _, hh => exact (hh (yd rfl)).elim | 1, _, hh => exact (hh (yd rfl)).elim | 2, _, hh => exact (hh (yd rfl)).elim | 3, _, hh => exact (hh (yd rfl)).elim | (b_ + 4), h_, _ => omega
   cbv
   injection h with h
   refine hK13 _ h.symm _ ?_
   exact lsp rfl zl3 ⟨oS, tv⟩ rfl
  ·replace h := og b25 h
   cbv
   injection h with h
   refine hY11 _ h.symm _ _ (And.intro rfl ?_) (by intro hh; cases hh)
   exact lsp rfl zl1 ⟨oS, tv⟩ rfl
 ·clear hr9
  have h := hN10
  clear hN10
  intro e17 s18 q16 hne
  replace h := ol h
  obtain ⟨y8k0, hyk, h⟩ := h
  have hyk : y8k0 = y8 := hyk
  subst hyk
  obtain ⟨rfl, q16⟩ := q16
  replace h := ol h
  obtain ⟨w26, hw26, h⟩ := h
  have hw26 : w26 = y8k0 := hw26
  subst hw26
  cbv
  refine ⟨_, q16, ?_⟩
  cbv
  replace h := oq h
  obtain ⟨c27, h⟩ := h
  injection h with h
  subst h
  refine ⟨(sp 23 [(2, .c (.os 64000 0 (LEN w26)))] [(64000, .arr .rw [] (LEN w26) 4 (row GD (eL) w26))]), ?_, ?_⟩
  ·refine St.le_trans (le_ren 448 64000 (by decide) rfl) ?_
   rw [c27]
   exact lsp rfl zl1 ⟨oS, tv⟩ rfl
  ·exact ⟨lR _, ⟨oS, tv⟩, rfl⟩

/-- laws.toTransform -/
def Fq118 (a0 : TM) : Option (TM) :=
 some a0
theorem runq118 (a0 : TM) (r : TM) (h : Fq118 a0 = some r) : Fun Tryz.prog 113 [.agg [wi a0.fo, wi a0.fX, wi a0.fY]] [] (.agg [wi r.fo, wi r.fX, wi r.fY]) [] true := by
 refine Fun.of_wp (oneOf []) tok mixed Tryz.func113 (by kernel_rfl) rfl Tryz.ntmps113 rfl trivial (fun _ => ⟨(by simp [AV.flat, AV.flat1, AC.flat]), tv⟩) ?_
 unfold Fq118 at h
 generalize hLEN : @len = LEN, hGD : @gd = GD, hA : std = A, hP : Tryz.prog = P at *
 cbv
 injection h with h
 subst h
 refine ⟨(sp 14 [(2, .c (.ptr 128 0))] [(128, .var [wi a0.fo, wi a0.fX, wi a0.fY])]), ?_, ?_⟩
 ·exact lsp rfl zl1 ⟨rfl, tv⟩ rfl
 ·exact ⟨lR _, trivial, rfl⟩

/-- laws.toInstance -/
def Fq7 (a0 : TI) : Option (TI) :=
 (Fq118 a0.fp).bind fun y1 =>
 some (TI.mk a0.fc y1 a0.fK a0.fR a0.fu a0.fv)
theorem runq7 (a0 : TI) (r : TI) (h : Fq7 a0 = some r) : Fun Tryz.prog 63 [.agg [wi a0.fc, wi a0.fp.fo, wi a0.fp.fX, wi a0.fp.fY, wi a0.fK, wi a0.fR, wi a0.fu, wi a0.fv]] [] (.agg [wi r.fc, wi r.fp.fo, wi r.fp.fX, wi r.fp.fY, wi r.fK, wi r.fR, wi r.fu, wi r.fv]) [] true := by
 refine Fun.of_wp (oneOf []) tok mixed Tryz.func63 (by kernel_rfl) rfl Tryz.ntmps63 rfl trivial (fun _ => ⟨(by simp [AV.flat, AV.flat1, AC.flat]), tv⟩) ?_
 unfold Fq7 at h
 have hfq118 := @runq118
 generalize hLEN : @len = LEN, hGD : @gd = GD, hA : std = A, hP : Tryz.prog = P at *
 cbv
 replace h := ob_ h
 obtain ⟨y1, hy2, h⟩ := h
 refine ⟨⟨_, _, _, _, _, [], []⟩, hfq118 _ _ hy2, ⟨zs1, trivial, rfl, rfl, rfl, rfl, trivial, rfl⟩, ?_⟩
 cbv
 injection h with h
 subst h
 refine ⟨(sp 24 [(2, .c (.ptr 128 0))] [(128, .var [wi a0.fc, wi y1.fo, wi y1.fX, wi y1.fY, wi a0.fK, wi a0.fR, wi a0.fu, wi a0.fv])]), ?_, ?_⟩
 ·exact lsp rfl zl1 ⟨rfl, tv⟩ rfl
 ·exact ⟨lR _, trivial, rfl⟩

def Lq32_x7 (a0 : List TI) (l1 : List TI) : (Int × (List TI)) -> Option ((Int × (List TI)) ⊕ (((List TI)))) := fun x7 =>
 letO x7.1 fun v5 =>
 letO x7.2 fun v6 =>
 br (std.lt v5 (std.ofN (len a0)))
 (req (std.inR v5 (len a0)) <|
 (Fq7 (gd a0 (std.toN v5))).bind fun y20 =>
 req (std.inR v5 (len l1)) <|
 req (len l1 = len v6) <|
 letO (List.set v6 (std.nadd 0 (std.toN v5)) y20) fun l23 =>
 some (.inl (std.add .i64 v5 1, l23)))
 (some (.inr v6))
/-- laws.toInstanceS -/
def Fq32 (a0 : List TI) : Option (List TI) :=
 req (std.nneg (std.ofN (len a0))) <|
 req (std.room (std.toN (std.ofN (len a0))) 64) <|
 letO (List.replicate (std.toN (std.ofN (len a0))) (TI.mk 0 (TM.mk 0 0 0) 0 0 0 0)) fun l1 =>
 (whileP (σ := Int × (List TI)) (ρ := ((List TI))) (Lq32_x7 a0 l1) (0, l1)).bind fun y8 =>
 letO y8 fun y8k0 =>
 letO y8k0 fun w26 =>
 req (len l1 = len w26) <|
 some w26
theorem runq32 (a0 : List TI) (r : List TI) (h : Fq32 a0 = some r) : Fun Tryz.prog 193 [.c (.bs (len a0) 8 (row gd (eI) a0))] [] (.c (.os 64000 0 (len r))) [(64000, .arr .rw [] (len r) 8 (row gd (eI) r))] true := by
 refine Fun.of_wp (oneOf []) tok mixed Tryz.func193 (by kernel_rfl) rfl Tryz.ntmps193 rfl trivial (fun _ => ⟨trivial, ⟨fun i _ j _ => val_flat (vl_encInstance _ _), tv⟩⟩) ?_
 unfold Fq32 at h
 unfold Lq32_x7 at h
 have hfq7 := @runq7
 generalize hLEN : @len = LEN, hGD : @gd = GD, hA : std = A, hP : Tryz.prog = P at *
 cbv
 replace h := oq h
 obtain ⟨c3, h⟩ := h
 replace h := oq h
 obtain ⟨c4, h⟩ := h
 replace h := ol h
 obtain ⟨l1, hl1, h⟩ := h
 have e2 : A.toN (A.ofN (LEN a0)) = LEN l1 := by subst hl1 hLEN hA; exact rep_len rfl
 refine And.intro (by first | exact ⟨c3, c4⟩ | exact ⟨rfl, c3, trivial, trivial, trivial, c4⟩ | (refine ⟨?_, ?_, ?_, ?_, ?_, ?_⟩ <;> first | exact c3 | exact c4 | trivial)) ?_
 refine ⟨_, congrArg (fun n => AV.c (AC.os 448 0 n)) e2, _, row GD (eI) l1, e2, wkOf ?_, ?_⟩
 ·subst hGD hLEN
  exact upd_repL hl1 (by intro j hj; match j, hj with | 0, _ => rfl | 1, _ => rfl | 2, _ => rfl | 3, _ => rfl | 4, _ => rfl | 5, _ => rfl | 6, _ => rfl | 7, _ => rfl | (j_ + 8), h_ => omega)
 cbv
 replace h := ob_ h
 obtain ⟨y8, hr9, hN10⟩ := h
 refine loop_cut hr9 (fun x => (sp 23 [(0, .c (.bs (LEN a0) 8 (row GD (eI) a0))), (3, .c (.os 448 0 (LEN l1))), (4, .c (wi x.1))] [(448, .arr .rw [] (LEN l1) 8 (row GD (eI) x.2))])) ?_ (fun y e s => (fun (w : (List TI)) => e = .exit 0 /\ s.le (sp 23 [(3, .c (.os 448 0 (LEN l1)))] [(448, .arr .rw [] (LEN l1) 8 (row GD (eI) w))])) y) ?_ ?_
 ·clear hr9 hN10
  show St.le _ _
  exact lsp rfl zl3 ⟨oS, tv⟩ rfl
 ·clear hr9 hN10
  intro x z14 h K12 hK13 hY11
  obtain ⟨x0_, x1_⟩ := x
  replace h := ol h
  obtain ⟨v5, hv5, h⟩ := h
  have hv5 : v5 = x0_ := hv5
  subst hv5
  replace h := ol h
  obtain ⟨v6, hv6, h⟩ := h
  have hv6 : v6 = x1_ := hv6
  subst hv6
  cbv
  refine fork (fun b25 => ?_) (fun b25 => ?_)
  ·replace h := ot b25 h
   cbv
   replace h := oq h
   obtain ⟨c19, h⟩ := h
   refine ⟨⟨c19, tv⟩, ?_⟩
   replace h := ob_ h
   obtain ⟨y20, hy21, h⟩ := h
   refine ⟨⟨_, _, _, _, _, [], []⟩, hfq7 _ _ hy21, ⟨zs1, trivial, rfl, rfl, rfl, rfl, trivial, rfl⟩, ?_⟩
   cbv
   replace h := oq h
   obtain ⟨c22, h⟩ := h
   refine ⟨⟨c22, tv⟩, ?_⟩
   replace h := oq h
   obtain ⟨c24, h⟩ := h
   replace h := ol h
   obtain ⟨l23, hl23, h⟩ := h
   refine And.intro (by subst hA; have p := ix c22; first | exact p | exact ⟨p, tv⟩ | exact ⟨p, trivial, tv⟩) ?_
   refine ⟨_, rfl, _, row GD (eI) l23, rfl, wkOf ?_, ?_⟩
   ·subst hGD hLEN hA
    rw [c24] at c22
    refine upd_set hl23 (ix c22) ?_ ?_
    ·intro b hb hh
     match b, hb, hh with | 0, _, hh => exact rfl | 1, _, hh => exact rfl | 2, _, hh => exact rfl | 3, _, hh => exact rfl | 4, _, hh => exact rfl | 5, _, hh => exact rfl | 6, _, hh => exact rfl | 7, _, hh => exact rfl | (b_ + 8), h_, _ => omega
    ·intro b hb hh
     match b, hb, hh with | 0, _, hh => exact (hh (yd rfl)).elim | 1, _, hh => exact (hh (yd rfl)).elim | 2, _, hh => exact (hh (yd rfl)).elim | 3, _, hh => exact (hh (yd rfl)).elim | 4, _, hh => exact (hh (yd rfl)).elim | 5, _, hh => exact (hh (yd rfl)).elim | 6, _, hh => exact (hh (yd rfl)).elim | 7, _, hh => exact (hh (yd rfl)).elim | (b_ + 8), h_, _ => omega
   cbv
   injection h with h
   refine hK13 _ h.symm _ ?_
   exact lsp rfl zl3 ⟨oS, tv⟩ rfl
  ·replace h := og b25 h
   cbv
   injection h with h
   refine hY11 _ h.symm _ _ (And.intro rfl ?_) (by intro hh; cases hh)
   exact lsp rfl zl1 ⟨oS, tv⟩ rfl
 ·clear hr9
  have h := hN10
  clear hN10
  intro e17 s18 q16 hne
  replace h := ol h
  obtain ⟨y8k0, hyk, h⟩ := h
  have hyk : y8k0 = y8 := hyk
  subst hyk
  obtain ⟨rfl, q16⟩ := q16
  replace h := ol h
  obtain ⟨w26, hw26, h⟩ := h
  have hw26 : w26 = y8k0 := hw26
  subst hw26
  cbv
  refine ⟨_, q16, ?_⟩
  cbv
  replace h := oq h
  obtain ⟨c27, h⟩ := h
  injection h with h
  subst h
  refine ⟨(sp 23 [(2, .c (.os 64000 0 (LEN w26)))] [(64000, .arr .rw [] (LEN w26) 8 (row GD (eI) w26))]), ?_, ?_⟩
  ·refine St.le_trans (le_ren 448 64000 (by decide) rfl) ?_
   rw [c27]
   exact lsp rfl zl1 ⟨oS, tv⟩ rfl
  ·exact ⟨lR _, ⟨oS, tv⟩, rfl⟩

/-- laws.toCell -/
def Fq8 (a0 : TC) : Option (TC) :=
 (Fq31 a0.fS).bind fun y1 =>
 (Fq30 a0.fL).bind fun y3 =>
 (Fq32 a0.fI).bind fun y5 =>
 some (TC.mk a0.fN y1 y3 y5)
theorem runq8 (a0 : TC) (r : TC) (h : Fq8 a0 = some r) : Fun Tryz.prog 110 [.agg [ws a0.fN, .bs (len a0.fS) 5 (row gd (eS) a0.fS), .bs (len a0.fL) 4 (row gd (eL) a0.fL), .bs (len a0.fI) 8 (row gd (eI) a0.fI)]] [] (.agg [ws r.fN, .os 64000 0 (len r.fS), .os 64002 0 (len r.fL), .os 64004 0 (len r.fI)]) [(64000, .arr .rw [] (len r.fS) 5 (row gd (eS) r.fS)), (64002, .arr .rw [] (len r.fL) 4 (row gd (eL) r.fL)), (64004, .arr .rw [] (len r.fI) 8 (row gd (eI) r.fI))] true := by
 refine Fun.of_wp (oneOf []) tok mixed Tryz.func110 (by kernel_rfl) rfl Tryz.ntmps110 rfl trivial (fun _ => ⟨(by simp [AV.flat, AV.flat1, AC.flat]), ⟨fun i _ j _ => val_flat (vl_encShape _ _), fun i _ j _ => val_flat (vl_encLabel _ _), fun i _ j _ => val_flat (vl_encInstance _ _), tv⟩⟩) ?_
 unfold Fq8 at h
 have hfq32 := @runq32
 have hfq30 := @runq30
 have hfq31 := @runq31
 generalize hLEN : @len = LEN, hGD : @gd = GD, hA : std = A, hP : Tryz.prog = P at *
 cbv
 replace h := ob_ h
 obtain ⟨y1, hy2, h⟩ := h
 refine ⟨⟨_, _, _, _, _, [], [(64000, 576)]⟩, hfq31 _ _ hy2, ⟨zs1, trivial, rfl, rfl, rfl, rfl, ⟨evn 64000 rfl, tv⟩, rfl⟩, _, rfl, _, _, rfl, fun _ _ _ _ => .refl _, ?_⟩
 cbv
 replace h := ob_ h
 obtain ⟨y3, hy4, h⟩ := h
 refine ⟨⟨_, _, _, _, _, [], [(64000, 832)]⟩, hfq30 _ _ hy4, ⟨zs1, trivial, rfl, rfl, rfl, rfl, ⟨evn 64000 rfl, tv⟩, rfl⟩, _, rfl, _, _, rfl, fun _ _ _ _ => .refl _, ?_⟩
 cbv
 replace h := ob_ h
 obtain ⟨y5, hy6, h⟩ := h
 refine ⟨⟨_, _, _, _, _, [], [(64000, 1088)]⟩, hfq32 _ _ hy6, ⟨zs1, trivial, rfl, rfl, rfl, rfl, ⟨evn 64000 rfl, tv⟩, rfl⟩, _, rfl, _, _, rfl, fun _ _ _ _ => .refl _, ?_⟩
 cbv
 injection h with h
 subst h
 refine ⟨(sp 20 [(2, .c (.ptr 128 0))] [(128, .var [ws a0.fN, .os 64000 0 (LEN y1), .os 64002 0 (LEN y3), .os 64004 0 (LEN y5)]), (64000, .arr .rw [] (LEN y1) 5 (row GD (eS) y1)), (64002, .arr .rw [] (LEN y3) 4 (row GD (eL) y3)), (64004, .arr .rw [] (LEN y5) 8 (row GD (eI) y5))]), ?_, ?_⟩
 ·refine St.le_trans (le_ren 576 64000 (by decide) rfl) ?_
  refine St.le_trans (le_ren 832 64002 (by decide) rfl) ?_
  refine St.le_trans (le_ren 1088 64004 (by decide) rfl) ?_
  exact lsp rfl zl1 ⟨rfl, oS, oS, oS, tv⟩ rfl
 ·exact ⟨lR _, ⟨oS, oS, oS, tv⟩, rfl⟩
set_option maxHeartbeats 4000000
def Lq34_x14 (a0 : List TC) (w7 : List TC) : (Int × (List TC)) -> Option ((Int × (List TC)) ⊕ (((List TC)))) := fun x14 =>
 letO x14.1 fun v12 =>
 letO x14.2 fun v13 =>
 br (std.lt v12 (std.ofN (len a0)))
 (((
 req (std.inR v12 (len a0)) <|
 (Fq8 (gd a0 (std.toN v12))).bind fun y34 =>
 req (std.inR v12 (len w7)) <|
 req (len w7 = len v13) <|
 letO (List.set v13 (std.nadd 0 (std.toN v12)) y34) fun l37 =>
 some l37
 ) : Option ((List TC))).bind fun y26 =>
 letO y26 fun w32 =>
 some (.inl (std.add .i64 v12 1, w32)))
 (some (.inr v13))
/-- laws.toCellS -/
def Fq34 (a0 : List TC) : Option (List TC) :=
 ((
 req (std.nneg (std.ofN (len a0))) <|
 req (std.room (std.toN (std.ofN (len a0))) 88) <|
 letO (List.replicate (std.toN (std.ofN (len a0))) (TC.mk (ByteArray.mk #[]) ([] : List TS) ([] : List TB) ([] : List TI))) fun l8 =>
 some l8
 ) : Option ((List TC))).bind fun y1 =>
 letO y1 fun w7 =>
 (whileP (σ := Int × (List TC)) (ρ := ((List TC))) (Lq34_x14 a0 w7) (0, w7)).bind fun y15 =>
 letO y15 fun y15k0 =>
 letO y15k0 fun w40 =>
 req (len w7 = len w40) <|
 some w40
theorem runq34 (a0 : List TC) (r : List TC) (h : Fq34 a0 = some r) : Fun Tryz.prog 60 [.c (.bs (len a0) 4 (row gd (eC len gd) a0))] [] (.c (.os 64000 0 (len r))) [(64000, .arr .rw [] (len r) 4 (row gd (oC len gd) r))] true := by
 refine Fun.of_wp (oneOf [1, 5]) tok mixed Tryz.func60 (by kernel_rfl) rfl Tryz.ntmps60 rfl trivial (fun _ => ⟨trivial, ⟨fun i _ j _ => fl_oncCell _ _, tv⟩⟩) ?_
 unfold Fq34 at h
 unfold Lq34_x14 at h
 have hfq8 := @runq8
 generalize hLEN : @len = LEN, hGD : @gd = GD, hA : std = A, hP : Tryz.prog = P at *
 cbv
 replace h := ob_ h
 obtain ⟨y1, hy2, h⟩ := h
 obtain ⟨S5, hS6⟩ : ∃ S, S = (sp 23 [(0, .c (.bs (LEN a0) 4 (row GD (eC LEN GD) a0))), (3, .c (.os 448 0 (LEN y1)))] [(448, .arr .rw [] (LEN y1) 4 (row GD (oC LEN GD) y1))]) := ⟨_, rfl⟩
 refine ⟨S5, ?_, ?_⟩
 ·clear h
  have h := hy2
  clear hy2
  cbv
  replace h := oq h
  obtain ⟨c10, h⟩ := h
  replace h := oq h
  obtain ⟨c11, h⟩ := h
  replace h := ol h
  obtain ⟨l8, hl8, h⟩ := h
  have e9 : A.toN (A.ofN (LEN a0)) = LEN l8 := by subst hl8 hLEN hA; exact rep_len rfl
  refine And.intro (by first | exact ⟨c10, c11⟩ | exact ⟨rfl, c10, trivial, trivial, trivial, c11⟩ | (refine ⟨?_, ?_, ?_, ?_, ?_, ?_⟩ <;> first | exact c10 | exact c11 | trivial)) ?_
  refine ⟨_, congrArg (fun n => AV.c (AC.os 448 0 n)) e9, _, (fun _ j => ([ws (ByteArray.mk #[]), .v (.slice none 0 0), .v (.slice none 0 0), .v (.slice none 0 0)] : List AC).getD j .junk), e9, wkOf ?_, ?_⟩
  ·intro i hi j hj
   match j, hj with | 0, _ => rfl | 1, _ => rfl | 2, _ => rfl | 3, _ => rfl | (j_ + 4), h_ => omega
  cbv
  injection h with h
  subst h
  subst hS6
  refine St.le_trans (le_nilG (get' := (fun _ j => ([ws (ByteArray.mk #[]), .ow (LEN ([] : List TS)) 5 (row GD (eS) ([] : List TS)), .ow (LEN ([] : List TB)) 4 (row GD (eL) ([] : List TB)), .ow (LEN ([] : List TI)) 8 (row GD (eI) ([] : List TI))] : List AC).getD j .junk)) 448 rfl ?_) ?_
  ·subst hLEN
   intro i _ j hj
   match j, hj with | 0, _ => exact (.inl rfl) | 1, _ => exact (.inr ⟨rfl, _, _, rfl⟩) | 2, _ => exact (.inr ⟨rfl, _, _, rfl⟩) | 3, _ => exact (.inr ⟨rfl, _, _, rfl⟩) | (j_ + 4), h_ => omega
  exact lsp rfl zl2 ⟨⟨fun hw => hw, fun c hc => (by cases hc), .inr (fun i _ j _ z hz => (noref (rC _ _) hz).elim), rfl, rfl, (by subst hGD hLEN hA; exact upd_repL hl8 (g := fun j => _) (by intro j hj; match j, hj with | 0, _ => rfl | 1, _ => rfl | 2, _ => rfl | 3, _ => rfl | (j_ + 4), h_ => omega))⟩, tv⟩ rfl
 ·clear hy2
  subst hS6
  replace h := ol h
  obtain ⟨w7, hw7, h⟩ := h
  have hw7 : w7 = y1 := hw7
  subst hw7
  cbv
  replace h := ob_ h
  obtain ⟨y15, hr16, hN17⟩ := h
  refine loop_cut hr16 (fun x => (sp 23 [(0, .c (.bs (LEN a0) 4 (row GD (eC LEN GD) a0))), (3, .c (.os 448 0 (LEN w7))), (4, .c (wi x.1))] [(448, .arr .rw [] (LEN w7) 4 (row GD (oC LEN GD) x.2))])) ?_ (fun y e s => (fun (w : (List TC)) => e = .exit 0 /\ s.le (sp 23 [(3, .c (.os 448 0 (LEN w7)))] [(448, .arr .rw [] (LEN w7) 4 (row GD (oC LEN GD) w))])) y) ?_ ?_
  ·clear hr16 hN17
   show St.le _ _
   exact lsp rfl zl3 ⟨oS, tv⟩ rfl
  ·clear hr16 hN17
   intro x z21 h K19 hK20 hY18
   obtain ⟨x0_, x1_⟩ := x
   replace h := ol h
   obtain ⟨v12, hv12, h⟩ := h
   have hv12 : v12 = x0_ := hv12
   subst hv12
   replace h := ol h
   obtain ⟨v13, hv13, h⟩ := h
   have hv13 : v13 = x1_ := hv13
   subst hv13
   cbv
   refine fork (fun b39 => ?_) (fun b39 => ?_)
   ·replace h := ot b39 h
    cbv
    replace h := ob_ h
    obtain ⟨y26, hy27, h⟩ := h
    obtain ⟨S30, hS31⟩ : ∃ S, S = (sp 23 [(0, .c (.bs (LEN a0) 4 (row GD (eC LEN GD) a0))), (3, .c (.os 448 0 (LEN w7))), (4, .c (wi v12))] [(448, .arr .rw [] (LEN w7) 4 (row GD (oC LEN GD) y26))]) := ⟨_, rfl⟩
    refine ⟨S30, ?_, ?_⟩
    ·clear h
     have h := hy27
     clear hy27
     cbv
     replace h := oq h
     obtain ⟨c33, h⟩ := h
     refine ⟨⟨c33, tv⟩, ?_⟩
     replace h := ob_ h
     obtain ⟨y34, hy35, h⟩ := h
     refine ⟨⟨_, _, _, _, _, [], [(64000, 1280), (64002, 1282), (64004, 1284)]⟩, hfq8 _ _ hy35, ⟨zs1, trivial, rfl, rfl, rfl, rfl, ⟨evn 64000 rfl, evn 64002 rfl, evn 64004 rfl, tv⟩, rfl⟩, _, rfl, _, _, rfl, fun _ _ _ _ => .refl _, _, _, rfl, fun _ _ _ _ => .refl _, _, _, rfl, fun _ _ _ _ => .refl _, ?_⟩
     cbv
     replace h := oq h
     obtain ⟨c36, h⟩ := h
     refine ⟨⟨c36, tv⟩, ?_⟩
     refine And.intro (by subst hA; have p := ix c36; first | exact p | exact ⟨p, tv⟩ | exact ⟨p, trivial, tv⟩) ?_
     refine ⟨_, rfl, _, (pC (row GD (oC LEN GD) v13) (A.nadd 0 (A.toN v12)) [ws y34.fN, .os 1280 0 (LEN y34.fS), .os 1282 0 (LEN y34.fL), .os 1284 0 (LEN y34.fI)]), rfl, wkOf ?_, ?_⟩
     ·refine patch_of ?_
      intro j hj
      match j, hj with | 0, _ => (rfl) | 1, _ => (rfl) | 2, _ => (rfl) | 3, _ => (rfl) | (j_ + 4), h_ => omega
     cbv
     replace h := oq h
     obtain ⟨c38, h⟩ := h
     replace h := ol h
     obtain ⟨l37, hl37, h⟩ := h
     injection h with h
     subst h
     subst hS31
     refine St.le_trans (le_foldP 448 1 1280 rfl rfl rfl (by decide) (by subst hA; exact ix c36) (by decide) rfl (fun _ _ => rC _ _)) ?_
     refine St.le_trans (le_foldP 448 2 1282 rfl rfl rfl (by decide) (by subst hA; exact ix c36) (by decide) rfl (fun _ _ => rC _ _)) ?_
     refine St.le_trans (le_foldP 448 3 1284 rfl rfl rfl (by decide) (by subst hA; exact ix c36) (by decide) rfl (fun _ _ => rC _ _)) ?_
     exact lsp rfl zl3 ⟨⟨fun hw => hw, fun c hc => (by cases hc), .inr (fun i _ j _ z hz => (noref (rC _ _) hz).elim), rfl, rfl, (by subst hGD hLEN hA; exact patch_set hl37 (ix (by rw [<- c38]; exact c36)) (by intro j hj; match j, hj with | 0, _ => rfl | 1, _ => rfl | 2, _ => rfl | 3, _ => rfl | (j_ + 4), h_ => omega))⟩, tv⟩ rfl
    ·clear hy27
     subst hS31
     replace h := ol h
     obtain ⟨w32, hw32, h⟩ := h
     have hw32 : w32 = y26 := hw32
     subst hw32
     cbv
     injection h with h
     refine hK20 _ h.symm _ ?_
     exact lsp rfl zl3 ⟨oS, tv⟩ rfl
   ·replace h := og b39 h
    cbv
    injection h with h
    refine hY18 _ h.symm _ _ (And.intro rfl ?_) (by intro hh; cases hh)
    exact lsp rfl zl1 ⟨oS, tv⟩ rfl
  ·clear hr16
   have h := hN17
   clear hN17
   intro e24 s25 q23 hne
   replace h := ol h
   obtain ⟨y15k0, hyk, h⟩ := h
   have hyk : y15k0 = y15 := hyk
   subst hyk
   obtain ⟨rfl, q23⟩ := q23
   replace h := ol h
   obtain ⟨w40, hw40, h⟩ := h
   have hw40 : w40 = y15k0 := hw40
   subst hw40
   cbv
   refine ⟨_, q23, ?_⟩
   cbv
   replace h := oq h
   obtain ⟨c41, h⟩ := h
   injection h with h
   subst h
   refine ⟨(sp 23 [(2, .c (.os 64000 0 (LEN w40)))] [(64000, .arr .rw [] (LEN w40) 4 (row GD (oC LEN GD) w40))]), ?_, ?_⟩
   ·refine St.le_trans (le_ren 448 64000 (by decide) rfl) ?_
    rw [c41]
    exact lsp rfl zl1 ⟨oS, tv⟩ rfl
   ·exact ⟨lR _, ⟨oS, tv⟩, rfl⟩

/-- laws.toLibrary -/
def Fq36 (a0 : TL) : Option (TL) :=
 (Fq34 a0.fC).bind fun y1 =>
 some (TL.mk y1)
theorem runq36 (a0 : TL) (r : TL) (h : Fq36 a0 = some r) : Fun Tryz.prog 17 [.agg [.bs (len a0.fC) 4 (row gd (eC len gd) a0.fC)]] [] (.agg [.os 64000 0 (len r.fC)]) [(64000, .arr .rw [] (len r.fC) 4 (row gd (oC len gd) r.fC))] true := by
 refine Fun.of_wp (oneOf []) tok mixed Tryz.func17 (by kernel_rfl) rfl Tryz.ntmps17 rfl trivial (fun _ => ⟨(by simp [AV.flat, AV.flat1, AC.flat]), ⟨fun i _ j _ => fl_oncCell _ _, tv⟩⟩) ?_
 unfold Fq36 at h
 have hfq34 := @runq34
 generalize hLEN : @len = LEN, hGD : @gd = GD, hA : std = A, hP : Tryz.prog = P at *
 cbv
 replace h := ob_ h
 obtain ⟨y1, hy2, h⟩ := h
 refine ⟨⟨_, _, _, _, _, [], [(64000, 384)]⟩, hfq34 _ _ hy2, ⟨zs1, trivial, rfl, rfl, rfl, rfl, ⟨evn 64000 rfl, tv⟩, rfl⟩, _, rfl, _, _, rfl, fun _ _ _ _ => .refl _, ?_⟩
 cbv
 injection h with h
 subst h
 refine ⟨(sp 9 [(2, .c (.ptr 128 0))] [(128, .var [.os 64000 0 (LEN y1)]), (64000, .arr .rw [] (LEN y1) 4 (row GD (oC LEN GD) y1))]), ?_, ?_⟩
 ·refine St.le_trans (le_ren 384 64000 (by decide) rfl) ?_
  exact lsp rfl zl1 ⟨rfl, oS, tv⟩ rfl
 ·exact ⟨lR _, ⟨oS, tv⟩, rfl⟩

/-- laws.toEdit -/
def Fq66 (a0 : TE) : Option (TE) :=
 (Fq6 a0.fs_).bind fun y1 =>
 (Fq5 a0.fl_).bind fun y3 =>
 (Fq7 a0.fi_).bind fun y5 =>
 some (TE.mk a0.fk a0.fc a0.fx a0.fN y1 y3 y5)
theorem runq66 (a0 : TE) (r : TE) (h : Fq66 a0 = some r) : Fun Tryz.prog 18 [.agg (cE a0)] [] (.agg (cE r)) [] true := by
 refine Fun.of_wp (oneOf []) tok mixed Tryz.func18 (by kernel_rfl) rfl Tryz.ntmps18 rfl trivial (fun _ => ⟨(by simp [AV.flat, AV.flat1, AC.flat]), tv⟩) ?_
 unfold Fq66 at h
 have hfq7 := @runq7
 have hfq5 := @runq5
 have hfq6 := @runq6
 generalize hLEN : @len = LEN, hGD : @gd = GD, hA : std = A, hP : Tryz.prog = P at *
 cbv
 replace h := ob_ h
 obtain ⟨y1, hy2, h⟩ := h
 refine ⟨⟨_, _, _, _, _, [], []⟩, hfq6 _ _ hy2, ⟨zs1, trivial, rfl, rfl, rfl, rfl, trivial, rfl⟩, ?_⟩
 cbv
 replace h := ob_ h
 obtain ⟨y3, hy4, h⟩ := h
 refine ⟨⟨_, _, _, _, _, [], []⟩, hfq5 _ _ hy4, ⟨zs1, trivial, rfl, rfl, rfl, rfl, trivial, rfl⟩, ?_⟩
 cbv
 replace h := ob_ h
 obtain ⟨y5, hy6, h⟩ := h
 refine ⟨⟨_, _, _, _, _, [], []⟩, hfq7 _ _ hy6, ⟨zs1, trivial, rfl, rfl, rfl, rfl, trivial, rfl⟩, ?_⟩
 cbv
 injection h with h
 subst h
 refine ⟨(sp 29 [(2, .c (.ptr 128 0))] [(128, .var [wi a0.fk, wi a0.fc, wi a0.fx, ws a0.fN, wi y1.fy, wi y1.fb.fX0, wi y1.fb.fY0, wi y1.fb.fX1, wi y1.fb.fY1, wi y3.fy, wi y3.fa.fX, wi y3.fa.fY, ws y3.fN, wi y5.fc, wi y5.fp.fo, wi y5.fp.fX, wi y5.fp.fY, wi y5.fK, wi y5.fR, wi y5.fu, wi y5.fv])]), ?_, ?_⟩
 ·exact lsp rfl zl1 ⟨rfl, tv⟩ rfl
 ·exact ⟨lR _, trivial, rfl⟩

def Lq19_x2 (a0 : ByteArray) : (Int) -> Option ((Int) ⊕ ((Unit) ⊕ (Unit))) := fun x2 =>
 letO x2 fun v1 =>
 br (std.lt v1 (std.ofN (std.slen a0)))
 (((
 req (std.inR v1 (std.slen a0)) <|
 br (std.le 97 (std.sat a0 (std.toN v1)))
 (req (std.inR v1 (std.slen a0)) <|
 br (std.le (std.sat a0 (std.toN v1)) 122)
 (some false)
 (req (std.inR v1 (std.slen a0)) <|
 br (std.le 48 (std.sat a0 (std.toN v1)))
 (req (std.inR v1 (std.slen a0)) <|
 some (!(std.le (std.sat a0 (std.toN v1)) 57)))
 (some true)))
 (req (std.inR v1 (std.slen a0)) <|
 br (std.le 48 (std.sat a0 (std.toN v1)))
 (req (std.inR v1 (std.slen a0)) <|
 some (!(std.le (std.sat a0 (std.toN v1)) 57)))
 (some true))
 ) : Option (Bool)).bind fun y14 =>
 letO y14 fun w20 =>
 br w20
 (some (.inr (.inl ())))
 (some (.inl (std.add .i64 v1 1))))
 (some (.inr (.inr ())))
/-- spec.IsName -/
def Fq19 (a0 : ByteArray) : Option (Bool) :=
 (whileP (σ := Int) (ρ := (Unit) ⊕ (Unit)) (Lq19_x2 a0) 0).bind fun y3 =>
 (match y3 with
 | .inl y3k0 => (
 some false)
 | .inr y3m0 =>
 ((
 br (std.le 1 (std.ofN (std.slen a0)))
 (some (std.le (std.ofN (std.slen a0)) 8))
 (some false)
 ) : Option (Bool)).bind fun y33 =>
 letO y33 fun w39 =>
 some w39)
theorem runq19 (a0 : ByteArray) (r : Bool) (h : Fq19 a0 = some r) : Fun Tryz.prog 173 [.c (ws a0)] [] (.c (.v (.bool r))) [] true := by
 refine Fun.of_wp (oneOf [4, 6]) tok mixed Tryz.func173 (by kernel_rfl) rfl Tryz.ntmps173 rfl trivial (fun _ => ⟨trivial, tv⟩) ?_
 unfold Fq19 at h
 unfold Lq19_x2 at h
 generalize hLEN : @len = LEN, hGD : @gd = GD, hA : std = A, hP : Tryz.prog = P at *
 cbv
 replace h := ob_ h
 obtain ⟨y3, hr4, hN5⟩ := h
 refine loop_cut hr4 (fun x => (sp 41 [(0, .c (ws a0)), (3, .c (wi x))] [])) ?_ (fun y e s => (match y with | .inl w => e = .ret /\ s.le (sp 41 [(2, .c (.v (.bool false)))] []) | .inr w0 => (fun (w : Unit) => e = .exit 0 /\ s.le (sp 41 [(0, .c (ws a0))] [])) w0)) ?_ ?_
 ·clear hr4 hN5
  show St.le _ _
  exact lsp rfl zl2 trivial rfl
 ·clear hr4 hN5
  intro x z9 h K7 hK8 hY6
  replace h := ol h
  obtain ⟨v1, hv1, h⟩ := h
  have hv1 : v1 = x := hv1
  subst hv1
  cbv
  refine fork (fun b32 => ?_) (fun b32 => ?_)
  ·replace h := ot b32 h
   cbv
   replace h := ob_ h
   obtain ⟨y14, hy15, h⟩ := h
   obtain ⟨S18, hS19⟩ : ∃ S, S = (sp 41 [(0, .c (ws a0)), (3, .c (wi v1)), (32, .c (.v (.bool y14)))] []) := ⟨_, rfl⟩
   refine ⟨S18, ?_, ?_⟩
   ·clear h
    have h := hy15
    clear hy15
    cbv
    replace h := oq h
    obtain ⟨c21, h⟩ := h
    refine ⟨c21, ?_⟩
    refine fork (fun b30 => ?_) (fun b30 => ?_)
    ·replace h := ot b30 h
     cbv
     replace h := oq h
     obtain ⟨c22, h⟩ := h
     refine ⟨c22, ?_⟩
     refine fork (fun b26 => ?_) (fun b26 => ?_)
     ·replace h := ot b26 h
      cbv
      injection h with h
      subst h
      subst hS19
      exact lsp rfl zl3 trivial rfl
     ·replace h := og b26 h
      cbv
      replace h := oq h
      obtain ⟨c23, h⟩ := h
      refine ⟨c23, ?_⟩
      refine fork (fun b25 => ?_) (fun b25 => ?_)
      ·replace h := ot b25 h
       cbv
       replace h := oq h
       obtain ⟨c24, h⟩ := h
       refine ⟨c24, ?_⟩
       injection h with h
       subst h
       subst hS19
       exact lsp rfl zl3 trivial rfl
      ·replace h := og b25 h
       cbv
       injection h with h
       subst h
       subst hS19
       exact lsp rfl zl3 trivial rfl
    ·replace h := og b30 h
     cbv
     replace h := oq h
     obtain ⟨c27, h⟩ := h
     refine ⟨c27, ?_⟩
     refine fork (fun b29 => ?_) (fun b29 => ?_)
     ·replace h := ot b29 h
      cbv
      replace h := oq h
      obtain ⟨c28, h⟩ := h
      refine ⟨c28, ?_⟩
      injection h with h
      subst h
      subst hS19
      exact lsp rfl zl3 trivial rfl
     ·replace h := og b29 h
      cbv
      injection h with h
      subst h
      subst hS19
      exact lsp rfl zl3 trivial rfl
   ·clear hy15
    subst hS19
    replace h := ol h
    obtain ⟨w20, hw20, h⟩ := h
    have hw20 : w20 = y14 := hw20
    subst hw20
    cbv
    refine fork (fun b31 => ?_) (fun b31 => ?_)
    ·replace h := ot b31 h
     cbv
     injection h with h
     refine hY6 _ h.symm _ _ (And.intro rfl ?_) (by intro hh; cases hh)
     exact lsp rfl zl1 trivial rfl
    ·replace h := og b31 h
     cbv
     injection h with h
     refine hK8 _ h.symm _ ?_
     exact lsp rfl zl2 trivial rfl
  ·replace h := og b32 h
   cbv
   injection h with h
   refine hY6 _ h.symm _ _ (And.intro rfl ?_) (by intro hh; cases hh)
   exact lsp rfl zl1 trivial rfl
 ·clear hr4
  have h := hN5
  clear hN5
  intro e12 s13 q11 hne
  rcases y3 with y3k0 | y3m0
  ·replace h := h
   obtain ⟨rfl, q11⟩ := q11
   cbv
   injection h with h
   subst h
   refine ⟨(sp 41 [(2, .c (.v (.bool false)))] []), ?_, ?_⟩
   ·refine St.le_trans q11 ?_
    exact lsp rfl zl1 trivial rfl
   ·exact ⟨lR _, trivial, rfl⟩
  ·obtain ⟨rfl, q11⟩ := q11
   cbv
   refine ⟨_, q11, ?_⟩
   cbv
   replace h := ob_ h
   obtain ⟨y33, hy34, h⟩ := h
   obtain ⟨S37, hS38⟩ : ∃ S, S = (sp 41 [(2, .c (.v (.bool y33)))] []) := ⟨_, rfl⟩
   refine ⟨S37, ?_, ?_⟩
   ·clear h
    have h := hy34
    clear hy34
    cbv
    refine fork (fun b40 => ?_) (fun b40 => ?_)
    ·replace h := ot b40 h
     cbv
     injection h with h
     subst h
     subst hS38
     exact lsp rfl zl1 trivial rfl
    ·replace h := og b40 h
     cbv
     injection h with h
     subst h
     subst hS38
     exact lsp rfl zl1 trivial rfl
   ·clear hy34
    subst hS38
    replace h := ol h
    obtain ⟨w39, hw39, h⟩ := h
    have hw39 : w39 = y33 := hw39
    subst hw39
    cbv
    injection h with h
    subst h
    refine ⟨(sp 41 [(2, .c (.v (.bool w39)))] []), ?_, ?_⟩
    ·exact lsp rfl zl1 trivial rfl
    ·exact ⟨lR _, trivial, rfl⟩

/-- spec.l09In -/
def Fq0 (a0 : Int) (a1 : Int) (a2 : Int) : Option (Bool) :=
 ((
 br (std.le a1 a0)
 (some (std.le a0 a2))
 (some false)
 ) : Option (Bool)).bind fun y1 =>
 letO y1 fun w7 =>
 some w7
theorem runq0 (a0 : Int) (a1 : Int) (a2 : Int) (r : Bool) (h : Fq0 a0 a1 a2 = some r) : Fun Tryz.prog 134 [.c (wi a0), .c (wi a1), .c (wi a2)] [] (.c (.v (.bool r))) [] true := by
 refine Fun.of_wp (oneOf [1]) tok mixed Tryz.func134 (by kernel_rfl) rfl Tryz.ntmps134 rfl trivial (fun _ => ⟨trivial, tv⟩) ?_
 unfold Fq0 at h
 generalize hLEN : @len = LEN, hGD : @gd = GD, hA : std = A, hP : Tryz.prog = P at *
 cbv
 replace h := ob_ h
 obtain ⟨y1, hy2, h⟩ := h
 obtain ⟨S5, hS6⟩ : ∃ S, S = (sp 15 [(6, .c (.v (.bool y1)))] []) := ⟨_, rfl⟩
 refine ⟨S5, ?_, ?_⟩
 ·clear h
  have h := hy2
  clear hy2
  cbv
  refine fork (fun b8 => ?_) (fun b8 => ?_)
  ·replace h := ot b8 h
   cbv
   injection h with h
   subst h
   subst hS6
   exact lsp rfl zl1 trivial rfl
  ·replace h := og b8 h
   cbv
   injection h with h
   subst h
   subst hS6
   exact lsp rfl zl1 trivial rfl
 ·clear hy2
  subst hS6
  replace h := ol h
  obtain ⟨w7, hw7, h⟩ := h
  have hw7 : w7 = y1 := hw7
  subst hw7
  cbv
  injection h with h
  subst h
  refine ⟨(sp 15 [(6, .c (.v (.bool w7)))] []), ?_, ?_⟩
  ·exact lsp rfl zl1 trivial rfl
  ·exact ⟨lR _, trivial, rfl⟩

/-- spec.l09Layer -/
def Fq58 (a0 : Int) : Option (Bool) :=
 (Fq0 a0 0 7).bind fun y1 =>
 some y1
theorem runq58 (a0 : Int) (r : Bool) (h : Fq58 a0 = some r) : Fun Tryz.prog 240 [.c (wi a0)] [] (.c (.v (.bool r))) [] true := by
 refine Fun.of_wp (oneOf []) tok mixed Tryz.func240 (by kernel_rfl) rfl Tryz.ntmps240 rfl trivial (fun _ => ⟨trivial, tv⟩) ?_
 unfold Fq58 at h
 have hfq0 := @runq0
 generalize hLEN : @len = LEN, hGD : @gd = GD, hA : std = A, hP : Tryz.prog = P at *
 cbv
 replace h := ob_ h
 obtain ⟨y1, hy2, h⟩ := h
 refine ⟨⟨_, _, _, _, _, [], []⟩, hfq0 _ _ _ _ hy2, ⟨zs3, trivial, rfl, rfl, rfl, rfl, trivial, rfl⟩, ?_⟩
 cbv
 injection h with h
 subst h
 refine ⟨(sp 5 [(2, .c (.v (.bool y1)))] []), ?_, ?_⟩
 ·exact lsp rfl zl1 trivial rfl
 ·exact ⟨lR _, trivial, rfl⟩
set_option maxHeartbeats 4000000
/-- spec.l09Rect -/
def Fq93 (a0 : TRect) : Option (Bool) :=
 ((
 br (std.le (-40) a0.fX0)
 (br (std.lt a0.fX0 a0.fX1)
 (br (std.le a0.fX1 40)
 (br (std.le (-40) a0.fY0)
 (br (std.lt a0.fY0 a0.fY1)
 (some (std.le a0.fY1 40))
 (some false))
 (some false))
 (some false))
 (some false))
 (some false)
 ) : Option (Bool)).bind fun y1 =>
 letO y1 fun w7 =>
 some w7
theorem runq93 (a0 : TRect) (r : Bool) (h : Fq93 a0 = some r) : Fun Tryz.prog 241 [.agg [wi a0.fX0, wi a0.fY0, wi a0.fX1, wi a0.fY1]] [] (.c (.v (.bool r))) [] true := by
 refine Fun.of_wp (oneOf [1]) tok mixed Tryz.func241 (by kernel_rfl) rfl Tryz.ntmps241 rfl trivial (fun _ => ⟨trivial, tv⟩) ?_
 unfold Fq93 at h
 generalize hLEN : @len = LEN, hGD : @gd = GD, hA : std = A, hP : Tryz.prog = P at *
 cbv
 replace h := ob_ h
 obtain ⟨y1, hy2, h⟩ := h
 obtain ⟨S5, hS6⟩ : ∃ S, S = (sp 35 [(2, .c (.v (.bool y1)))] []) := ⟨_, rfl⟩
 refine ⟨S5, ?_, ?_⟩
 ·clear h
  have h := hy2
  clear hy2
  cbv
  refine fork (fun b12 => ?_) (fun b12 => ?_)
  ·replace h := ot b12 h
   cbv
   refine fork (fun b11 => ?_) (fun b11 => ?_)
   ·replace h := ot b11 h
    cbv
    refine fork (fun b10 => ?_) (fun b10 => ?_)
    ·replace h := ot b10 h
     cbv
     refine fork (fun b9 => ?_) (fun b9 => ?_)
     ·replace h := ot b9 h
      cbv
      refine fork (fun b8 => ?_) (fun b8 => ?_)
      ·replace h := ot b8 h
       cbv
       injection h with h
       subst h
       subst hS6
       exact lsp rfl zl1 trivial rfl
      ·replace h := og b8 h
       cbv
       injection h with h
       subst h
       subst hS6
       exact lsp rfl zl1 trivial rfl
     ·replace h := og b9 h
      cbv
      injection h with h
      subst h
      subst hS6
      exact lsp rfl zl1 trivial rfl
    ·replace h := og b10 h
     cbv
     injection h with h
     subst h
     subst hS6
     exact lsp rfl zl1 trivial rfl
   ·replace h := og b11 h
    cbv
    injection h with h
    subst h
    subst hS6
    exact lsp rfl zl1 trivial rfl
  ·replace h := og b12 h
   cbv
   injection h with h
   subst h
   subst hS6
   exact lsp rfl zl1 trivial rfl
 ·clear hy2
  subst hS6
  replace h := ol h
  obtain ⟨w7, hw7, h⟩ := h
  have hw7 : w7 = y1 := hw7
  subst hw7
  cbv
  injection h with h
  subst h
  refine ⟨(sp 35 [(2, .c (.v (.bool w7)))] []), ?_, ?_⟩
  ·exact lsp rfl zl1 trivial rfl
  ·exact ⟨lR _, trivial, rfl⟩

/-- spec.l09Shape -/
def Fq52 (a0 : TS) : Option (Bool) :=
 ((
 (Fq58 a0.fy).bind fun y8 =>
 br y8
 ((Fq93 a0.fb).bind fun y10 =>
 some y10)
 (some false)
 ) : Option (Bool)).bind fun y1 =>
 letO y1 fun w7 =>
 some w7
theorem runq52 (a0 : TS) (r : Bool) (h : Fq52 a0 = some r) : Fun Tryz.prog 174 [.agg [wi a0.fy, wi a0.fb.fX0, wi a0.fb.fY0, wi a0.fb.fX1, wi a0.fb.fY1]] [] (.c (.v (.bool r))) [] true := by
 refine Fun.of_wp (oneOf [1]) tok mixed Tryz.func174 (by kernel_rfl) rfl Tryz.ntmps174 rfl trivial (fun _ => ⟨trivial, tv⟩) ?_
 unfold Fq52 at h
 have hfq58 := @runq58
 have hfq93 := @runq93
 generalize hLEN : @len = LEN, hGD : @gd = GD, hA : std = A, hP : Tryz.prog = P at *
 cbv
 replace h := ob_ h
 obtain ⟨y1, hy2, h⟩ := h
 obtain ⟨S5, hS6⟩ : ∃ S, S = (sp 11 [(2, .c (.v (.bool y1)))] []) := ⟨_, rfl⟩
 refine ⟨S5, ?_, ?_⟩
 ·clear h
  have h := hy2
  clear hy2
  cbv
  replace h := ob_ h
  obtain ⟨y8, hy9, h⟩ := h
  refine ⟨⟨_, _, _, _, _, [], []⟩, hfq58 _ _ hy9, ⟨zs1, trivial, rfl, rfl, rfl, rfl, trivial, rfl⟩, ?_⟩
  cbv
  refine fork (fun b12 => ?_) (fun b12 => ?_)
  ·replace h := ot b12 h
   cbv
   replace h := ob_ h
   obtain ⟨y10, hy11, h⟩ := h
   refine ⟨⟨_, _, _, _, _, [], []⟩, hfq93 _ _ hy11, ⟨zs1, trivial, rfl, rfl, rfl, rfl, trivial, rfl⟩, ?_⟩
   cbv
   injection h with h
   subst h
   subst hS6
   exact lsp rfl zl1 trivial rfl
  ·replace h := og b12 h
   cbv
   injection h with h
   subst h
   subst hS6
   exact lsp rfl zl1 trivial rfl
 ·clear hy2
  subst hS6
  replace h := ol h
  obtain ⟨w7, hw7, h⟩ := h
  have hw7 : w7 = y1 := hw7
  subst hw7
  cbv
  injection h with h
  subst h
  refine ⟨(sp 11 [(2, .c (.v (.bool w7)))] []), ?_, ?_⟩
  ·exact lsp rfl zl1 trivial rfl
  ·exact ⟨lR _, trivial, rfl⟩

/-- spec.l09Unit -/
def Fq85 (a0 : TPoint) : Option (Bool) :=
 ((
 (Fq0 a0.fX (-40) 39).bind fun y8 =>
 br y8
 ((Fq0 a0.fY (-40) 39).bind fun y10 =>
 some y10)
 (some false)
 ) : Option (Bool)).bind fun y1 =>
 letO y1 fun w7 =>
 some w7
theorem runq85 (a0 : TPoint) (r : Bool) (h : Fq85 a0 = some r) : Fun Tryz.prog 242 [.agg [wi a0.fX, wi a0.fY]] [] (.c (.v (.bool r))) [] true := by
 refine Fun.of_wp (oneOf [1]) tok mixed Tryz.func242 (by kernel_rfl) rfl Tryz.ntmps242 rfl trivial (fun _ => ⟨trivial, tv⟩) ?_
 unfold Fq85 at h
 have hfq0 := @runq0
 generalize hLEN : @len = LEN, hGD : @gd = GD, hA : std = A, hP : Tryz.prog = P at *
 cbv
 replace h := ob_ h
 obtain ⟨y1, hy2, h⟩ := h
 obtain ⟨S5, hS6⟩ : ∃ S, S = (sp 11 [(2, .c (.v (.bool y1)))] []) := ⟨_, rfl⟩
 refine ⟨S5, ?_, ?_⟩
 ·clear h
  have h := hy2
  clear hy2
  cbv
  replace h := ob_ h
  obtain ⟨y8, hy9, h⟩ := h
  refine ⟨⟨_, _, _, _, _, [], []⟩, hfq0 _ _ _ _ hy9, ⟨zs3, trivial, rfl, rfl, rfl, rfl, trivial, rfl⟩, ?_⟩
  cbv
  refine fork (fun b12 => ?_) (fun b12 => ?_)
  ·replace h := ot b12 h
   cbv
   replace h := ob_ h
   obtain ⟨y10, hy11, h⟩ := h
   refine ⟨⟨_, _, _, _, _, [], []⟩, hfq0 _ _ _ _ hy11, ⟨zs3, trivial, rfl, rfl, rfl, rfl, trivial, rfl⟩, ?_⟩
   cbv
   injection h with h
   subst h
   subst hS6
   exact lsp rfl zl1 trivial rfl
  ·replace h := og b12 h
   cbv
   injection h with h
   subst h
   subst hS6
   exact lsp rfl zl1 trivial rfl
 ·clear hy2
  subst hS6
  replace h := ol h
  obtain ⟨w7, hw7, h⟩ := h
  have hw7 : w7 = y1 := hw7
  subst hw7
  cbv
  injection h with h
  subst h
  refine ⟨(sp 11 [(2, .c (.v (.bool w7)))] []), ?_, ?_⟩
  ·exact lsp rfl zl1 trivial rfl
  ·exact ⟨lR _, trivial, rfl⟩

/-- spec.l09Label -/
def Fq53 (a0 : TB) : Option (Bool) :=
 ((
 (Fq58 a0.fy).bind fun y8 =>
 br y8
 ((Fq85 a0.fa).bind fun y10 =>
 br y10
 ((Fq19 a0.fN).bind fun y12 =>
 some y12)
 (some false))
 (some false)
 ) : Option (Bool)).bind fun y1 =>
 letO y1 fun w7 =>
 some w7
theorem runq53 (a0 : TB) (r : Bool) (h : Fq53 a0 = some r) : Fun Tryz.prog 175 [.agg [wi a0.fy, wi a0.fa.fX, wi a0.fa.fY, ws a0.fN]] [] (.c (.v (.bool r))) [] true := by
 refine Fun.of_wp (oneOf [1]) tok mixed Tryz.func175 (by kernel_rfl) rfl Tryz.ntmps175 rfl trivial (fun _ => ⟨trivial, tv⟩) ?_
 unfold Fq53 at h
 have hfq19 := @runq19
 have hfq58 := @runq58
 have hfq85 := @runq85
 generalize hLEN : @len = LEN, hGD : @gd = GD, hA : std = A, hP : Tryz.prog = P at *
 cbv
 replace h := ob_ h
 obtain ⟨y1, hy2, h⟩ := h
 obtain ⟨S5, hS6⟩ : ∃ S, S = (sp 16 [(2, .c (.v (.bool y1)))] []) := ⟨_, rfl⟩
 refine ⟨S5, ?_, ?_⟩
 ·clear h
  have h := hy2
  clear hy2
  cbv
  replace h := ob_ h
  obtain ⟨y8, hy9, h⟩ := h
  refine ⟨⟨_, _, _, _, _, [], []⟩, hfq58 _ _ hy9, ⟨zs1, trivial, rfl, rfl, rfl, rfl, trivial, rfl⟩, ?_⟩
  cbv
  refine fork (fun b15 => ?_) (fun b15 => ?_)
  ·replace h := ot b15 h
   cbv
   replace h := ob_ h
   obtain ⟨y10, hy11, h⟩ := h
   refine ⟨⟨_, _, _, _, _, [], []⟩, hfq85 _ _ hy11, ⟨zs1, trivial, rfl, rfl, rfl, rfl, trivial, rfl⟩, ?_⟩
   cbv
   refine fork (fun b14 => ?_) (fun b14 => ?_)
   ·replace h := ot b14 h
    cbv
    replace h := ob_ h
    obtain ⟨y12, hy13, h⟩ := h
    refine ⟨⟨_, _, _, _, _, [], []⟩, hfq19 _ _ hy13, ⟨zs1, trivial, rfl, rfl, rfl, rfl, trivial, rfl⟩, ?_⟩
    cbv
    injection h with h
    subst h
    subst hS6
    exact lsp rfl zl1 trivial rfl
   ·replace h := og b14 h
    cbv
    injection h with h
    subst h
    subst hS6
    exact lsp rfl zl1 trivial rfl
  ·replace h := og b15 h
   cbv
   injection h with h
   subst h
   subst hS6
   exact lsp rfl zl1 trivial rfl
 ·clear hy2
  subst hS6
  replace h := ol h
  obtain ⟨w7, hw7, h⟩ := h
  have hw7 : w7 = y1 := hw7
  subst hw7
  cbv
  injection h with h
  subst h
  refine ⟨(sp 16 [(2, .c (.v (.bool w7)))] []), ?_, ?_⟩
  ·exact lsp rfl zl1 trivial rfl
  ·exact ⟨lR _, trivial, rfl⟩

/-- spec.l09Transform -/
def Fq92 (a0 : TM) : Option (Bool) :=
 ((
 (Fq0 a0.fo 0 7).bind fun y8 =>
 br y8
 ((Fq0 a0.fX (-80) 80).bind fun y10 =>
 br y10
 ((Fq0 a0.fY (-80) 80).bind fun y12 =>
 some y12)
 (some false))
 (some false)
 ) : Option (Bool)).bind fun y1 =>
 letO y1 fun w7 =>
 some w7
theorem runq92 (a0 : TM) (r : Bool) (h : Fq92 a0 = some r) : Fun Tryz.prog 243 [.agg [wi a0.fo, wi a0.fX, wi a0.fY]] [] (.c (.v (.bool r))) [] true := by
 refine Fun.of_wp (oneOf [1]) tok mixed Tryz.func243 (by kernel_rfl) rfl Tryz.ntmps243 rfl trivial (fun _ => ⟨trivial, tv⟩) ?_
 unfold Fq92 at h
 have hfq0 := @runq0
 generalize hLEN : @len = LEN, hGD : @gd = GD, hA : std = A, hP : Tryz.prog = P at *
 cbv
 replace h := ob_ h
 obtain ⟨y1, hy2, h⟩ := h
 obtain ⟨S5, hS6⟩ : ∃ S, S = (sp 16 [(2, .c (.v (.bool y1)))] []) := ⟨_, rfl⟩
 refine ⟨S5, ?_, ?_⟩
 ·clear h
  have h := hy2
  clear hy2
  cbv
  replace h := ob_ h
  obtain ⟨y8, hy9, h⟩ := h
  refine ⟨⟨_, _, _, _, _, [], []⟩, hfq0 _ _ _ _ hy9, ⟨zs3, trivial, rfl, rfl, rfl, rfl, trivial, rfl⟩, ?_⟩
  cbv
  refine fork (fun b15 => ?_) (fun b15 => ?_)
  ·replace h := ot b15 h
   cbv
   replace h := ob_ h
   obtain ⟨y10, hy11, h⟩ := h
   refine ⟨⟨_, _, _, _, _, [], []⟩, hfq0 _ _ _ _ hy11, ⟨zs3, trivial, rfl, rfl, rfl, rfl, trivial, rfl⟩, ?_⟩
   cbv
   refine fork (fun b14 => ?_) (fun b14 => ?_)
   ·replace h := ot b14 h
    cbv
    replace h := ob_ h
    obtain ⟨y12, hy13, h⟩ := h
    refine ⟨⟨_, _, _, _, _, [], []⟩, hfq0 _ _ _ _ hy13, ⟨zs3, trivial, rfl, rfl, rfl, rfl, trivial, rfl⟩, ?_⟩
    cbv
    injection h with h
    subst h
    subst hS6
    exact lsp rfl zl1 trivial rfl
   ·replace h := og b14 h
    cbv
    injection h with h
    subst h
    subst hS6
    exact lsp rfl zl1 trivial rfl
  ·replace h := og b15 h
   cbv
   injection h with h
   subst h
   subst hS6
   exact lsp rfl zl1 trivial rfl
 ·clear hy2
  subst hS6
  replace h := ol h
  obtain ⟨w7, hw7, h⟩ := h
  have hw7 : w7 = y1 := hw7
  subst hw7
  cbv
  injection h with h
  subst h
  refine ⟨(sp 16 [(2, .c (.v (.bool w7)))] []), ?_, ?_⟩
  ·exact lsp rfl zl1 trivial rfl
  ·exact ⟨lR _, trivial, rfl⟩

/-- spec.l09Instance -/
def Fq55 (a0 : TI) (a1 : Int) : Option (Bool) :=
 ((
 (Fq0 a0.fc 0 (std.sub .i64 a1 1)).bind fun y8 =>
 br (!(y8))
 (some true)
 ((Fq92 a0.fp).bind fun y10 =>
 br (!(y10))
 (some true)
 ((Fq0 a0.fK 1 4).bind fun y12 =>
 br (!(y12))
 (some true)
 ((Fq0 a0.fR 1 4).bind fun y14 =>
 some (!(y14)))))
 ) : Option (Bool)).bind fun y1 =>
 letO y1 fun w7 =>
 br w7
 (some false)
 (((
 (Fq0 a0.fu (-80) 80).bind fun y26 =>
 br (!(y26))
 (some true)
 ((Fq0 a0.fv (-80) 80).bind fun y28 =>
 some (!(y28)))
 ) : Option (Bool)).bind fun y19 =>
 letO y19 fun w25 =>
 br w25
 (some false)
 (((
 br (std.lt 1 a0.fK)
 (br (std.lt 1 a0.fR)
 (some true)
 (some (std.eq a0.fv 0)))
 (br (std.eq a0.fu 0)
 (br (std.lt 1 a0.fR)
 (some true)
 (some (std.eq a0.fv 0)))
 (some false))
 ) : Option (Bool)).bind fun y31 =>
 letO y31 fun w37 =>
 some w37))
theorem runq55 (a0 : TI) (a1 : Int) (r : Bool) (h : Fq55 a0 a1 = some r) : Fun Tryz.prog 176 [.agg [wi a0.fc, wi a0.fp.fo, wi a0.fp.fX, wi a0.fp.fY, wi a0.fK, wi a0.fR, wi a0.fu, wi a0.fv], .c (wi a1)] [] (.c (.v (.bool r))) [] true := by
 refine Fun.of_wp (oneOf [1, 3, 5]) tok mixed Tryz.func176 (by kernel_rfl) rfl Tryz.ntmps176 rfl trivial (fun _ => ⟨trivial, tv⟩) ?_
 unfold Fq55 at h
 have hfq0 := @runq0
 have hfq92 := @runq92
 generalize hLEN : @len = LEN, hGD : @gd = GD, hA : std = A, hP : Tryz.prog = P at *
 cbv
 replace h := ob_ h
 obtain ⟨y1, hy2, h⟩ := h
 obtain ⟨S5, hS6⟩ : ∃ S, S = (sp 57 [(2, .c (.ptr 128 0)), (28, .c (.v (.bool y1)))] [(128, .var [wi a0.fc, wi a0.fp.fo, wi a0.fp.fX, wi a0.fp.fY, wi a0.fK, wi a0.fR, wi a0.fu, wi a0.fv])]) := ⟨_, rfl⟩
 refine ⟨S5, ?_, ?_⟩
 ·clear h
  have h := hy2
  clear hy2
  cbv
  replace h := ob_ h
  obtain ⟨y8, hy9, h⟩ := h
  refine ⟨⟨_, _, _, _, _, [], []⟩, hfq0 _ _ _ _ hy9, ⟨zs3, trivial, rfl, rfl, rfl, rfl, trivial, rfl⟩, ?_⟩
  cbv
  refine fork (fun b18 => ?_) (fun b18 => ?_)
  ·replace h := ot b18 h
   cbv
   injection h with h
   subst h
   subst hS6
   exact lsp rfl zl2 ⟨rfl, tv⟩ rfl
  ·replace h := og b18 h
   cbv
   replace h := ob_ h
   obtain ⟨y10, hy11, h⟩ := h
   refine ⟨⟨_, _, _, _, _, [], []⟩, hfq92 _ _ hy11, ⟨zs1, trivial, rfl, rfl, rfl, rfl, trivial, rfl⟩, ?_⟩
   cbv
   refine fork (fun b17 => ?_) (fun b17 => ?_)
   ·replace h := ot b17 h
    cbv
    injection h with h
    subst h
    subst hS6
    exact lsp rfl zl2 ⟨rfl, tv⟩ rfl
   ·replace h := og b17 h
    cbv
    replace h := ob_ h
    obtain ⟨y12, hy13, h⟩ := h
    refine ⟨⟨_, _, _, _, _, [], []⟩, hfq0 _ _ _ _ hy13, ⟨zs3, trivial, rfl, rfl, rfl, rfl, trivial, rfl⟩, ?_⟩
    cbv
    refine fork (fun b16 => ?_) (fun b16 => ?_)
    ·replace h := ot b16 h
     cbv
     injection h with h
     subst h
     subst hS6
     exact lsp rfl zl2 ⟨rfl, tv⟩ rfl
    ·replace h := og b16 h
     cbv
     replace h := ob_ h
     obtain ⟨y14, hy15, h⟩ := h
     refine ⟨⟨_, _, _, _, _, [], []⟩, hfq0 _ _ _ _ hy15, ⟨zs3, trivial, rfl, rfl, rfl, rfl, trivial, rfl⟩, ?_⟩
     cbv
     injection h with h
     subst h
     subst hS6
     exact lsp rfl zl2 ⟨rfl, tv⟩ rfl
 ·clear hy2
  subst hS6
  replace h := ol h
  obtain ⟨w7, hw7, h⟩ := h
  have hw7 : w7 = y1 := hw7
  subst hw7
  cbv
  refine fork (fun b43 => ?_) (fun b43 => ?_)
  ·replace h := ot b43 h
   cbv
   injection h with h
   subst h
   refine ⟨(sp 57 [(4, .c (.v (.bool false)))] []), ?_, ?_⟩
   ·exact lsp rfl zl1 trivial rfl
   ·exact ⟨lR _, trivial, rfl⟩
  ·replace h := og b43 h
   cbv
   replace h := ob_ h
   obtain ⟨y19, hy20, h⟩ := h
   obtain ⟨S23, hS24⟩ : ∃ S, S = (sp 57 [(2, .c (.ptr 128 0)), (38, .c (.v (.bool y19)))] [(128, .var [wi a0.fc, wi a0.fp.fo, wi a0.fp.fX, wi a0.fp.fY, wi a0.fK, wi a0.fR, wi a0.fu, wi a0.fv])]) := ⟨_, rfl⟩
   refine ⟨S23, ?_, ?_⟩
   ·clear h
    have h := hy20
    clear hy20
    cbv
    replace h := ob_ h
    obtain ⟨y26, hy27, h⟩ := h
    refine ⟨⟨_, _, _, _, _, [], []⟩, hfq0 _ _ _ _ hy27, ⟨zs3, trivial, rfl, rfl, rfl, rfl, trivial, rfl⟩, ?_⟩
    cbv
    refine fork (fun b30 => ?_) (fun b30 => ?_)
    ·replace h := ot b30 h
     cbv
     injection h with h
     subst h
     subst hS24
     exact lsp rfl zl2 ⟨rfl, tv⟩ rfl
    ·replace h := og b30 h
     cbv
     replace h := ob_ h
     obtain ⟨y28, hy29, h⟩ := h
     refine ⟨⟨_, _, _, _, _, [], []⟩, hfq0 _ _ _ _ hy29, ⟨zs3, trivial, rfl, rfl, rfl, rfl, trivial, rfl⟩, ?_⟩
     cbv
     injection h with h
     subst h
     subst hS24
     exact lsp rfl zl2 ⟨rfl, tv⟩ rfl
   ·clear hy20
    subst hS24
    replace h := ol h
    obtain ⟨w25, hw25, h⟩ := h
    have hw25 : w25 = y19 := hw25
    subst hw25
    cbv
    refine fork (fun b42 => ?_) (fun b42 => ?_)
    ·replace h := ot b42 h
     cbv
     injection h with h
     subst h
     refine ⟨(sp 57 [(4, .c (.v (.bool false)))] []), ?_, ?_⟩
     ·exact lsp rfl zl1 trivial rfl
     ·exact ⟨lR _, trivial, rfl⟩
    ·replace h := og b42 h
     cbv
     replace h := ob_ h
     obtain ⟨y31, hy32, h⟩ := h
     obtain ⟨S35, hS36⟩ : ∃ S, S = (sp 57 [(4, .c (.v (.bool y31)))] []) := ⟨_, rfl⟩
     refine ⟨S35, ?_, ?_⟩
     ·clear h
      have h := hy32
      clear hy32
      cbv
      refine fork (fun b41 => ?_) (fun b41 => ?_)
      ·replace h := ot b41 h
       cbv
       refine fork (fun b40 => ?_) (fun b40 => ?_)
       ·replace h := ot b40 h
        cbv
        injection h with h
        subst h
        subst hS36
        exact lsp rfl zl1 trivial rfl
       ·replace h := og b40 h
        cbv
        injection h with h
        subst h
        subst hS36
        exact lsp rfl zl1 trivial rfl
      ·replace h := og b41 h
       cbv
       refine fork (fun b39 => ?_) (fun b39 => ?_)
       ·replace h := ot b39 h
        cbv
        refine fork (fun b38 => ?_) (fun b38 => ?_)
        ·replace h := ot b38 h
         cbv
         injection h with h
         subst h
         subst hS36
         exact lsp rfl zl1 trivial rfl
        ·replace h := og b38 h
         cbv
         injection h with h
         subst h
         subst hS36
         exact lsp rfl zl1 trivial rfl
       ·replace h := og b39 h
        cbv
        injection h with h
        subst h
        subst hS36
        exact lsp rfl zl1 trivial rfl
     ·clear hy32
      subst hS36
      replace h := ol h
      obtain ⟨w37, hw37, h⟩ := h
      have hw37 : w37 = y31 := hw37
      subst hw37
      cbv
      injection h with h
      subst h
      refine ⟨(sp 57 [(4, .c (.v (.bool w37)))] []), ?_, ?_⟩
      ·exact lsp rfl zl1 trivial rfl
      ·exact ⟨lR _, trivial, rfl⟩
set_option maxHeartbeats 4000000
def Lq11_x52 (a0 : TC) (a1 : Int) : (Int) -> Option ((Int) ⊕ ((Bool) ⊕ (Unit))) := fun x52 =>
 letO x52 fun v51 =>
 br (std.lt v51 (std.ofN (len a0.fI)))
 (req (std.inR v51 (len a0.fI)) <|
 (Fq55 (gd a0.fI (std.toN v51)) a1).bind fun y65 =>
 br (!(y65))
 (some (.inr (.inl false)))
 (some (.inl (std.add .i64 v51 1))))
 (some (.inr (.inr ())))
def Lq11_x33 (a0 : TC) : (Int) -> Option ((Int) ⊕ ((Bool) ⊕ (Unit))) := fun x33 =>
 letO x33 fun v32 =>
 br (std.lt v32 (std.ofN (len a0.fL)))
 (req (std.inR v32 (len a0.fL)) <|
 (Fq53 (gd a0.fL (std.toN v32))).bind fun y46 =>
 br (!(y46))
 (some (.inr (.inl false)))
 (some (.inl (std.add .i64 v32 1))))
 (some (.inr (.inr ())))
def Lq11_x14 (a0 : TC) : (Int) -> Option ((Int) ⊕ ((Bool) ⊕ (Unit))) := fun x14 =>
 letO x14 fun v13 =>
 br (std.lt v13 (std.ofN (len a0.fS)))
 (req (std.inR v13 (len a0.fS)) <|
 (Fq52 (gd a0.fS (std.toN v13))).bind fun y27 =>
 br (!(y27))
 (some (.inr (.inl false)))
 (some (.inl (std.add .i64 v13 1))))
 (some (.inr (.inr ())))
/-- spec.l09Cell -/
def Fq11 (a0 : TC) (a1 : Int) : Option (Bool) :=
 ((
 (Fq19 a0.fN).bind fun y8 =>
 br (!(y8))
 (some true)
 (br (std.lt 24 (std.ofN (len a0.fS)))
 (some true)
 (br (std.lt 8 (std.ofN (len a0.fL)))
 (some true)
 (some (std.lt 8 (std.ofN (len a0.fI))))))
 ) : Option (Bool)).bind fun y1 =>
 letO y1 fun w7 =>
 br w7
 (some false)
 ((whileP (σ := Int) (ρ := (Bool) ⊕ (Unit)) (Lq11_x14 a0) 0).bind fun y15 =>
 (match y15 with
 | .inl y15k0 => (
 letO y15k0 fun w31 =>
 some w31)
 | .inr y15m0 =>
 (whileP (σ := Int) (ρ := (Bool) ⊕ (Unit)) (Lq11_x33 a0) 0).bind fun y34 =>
 (match y34 with
 | .inl y34k0 => (
 letO y34k0 fun w50 =>
 some w50)
 | .inr y34m0 =>
 (whileP (σ := Int) (ρ := (Bool) ⊕ (Unit)) (Lq11_x52 a0 a1) 0).bind fun y53 =>
 (match y53 with
 | .inl y53k0 => (
 letO y53k0 fun w69 =>
 some w69)
 | .inr y53m0 =>
 some true))))
theorem runq11 (a0 : TC) (a1 : Int) (r : Bool) (h : Fq11 a0 a1 = some r) : Fun Tryz.prog 98 [.agg [ws a0.fN, .bs (len a0.fS) 5 (row gd (eS) a0.fS), .bs (len a0.fL) 4 (row gd (eL) a0.fL), .bs (len a0.fI) 8 (row gd (eI) a0.fI)], .c (wi a1)] [] (.c (.v (.bool r))) [] true := by
 refine Fun.of_wp (oneOf [1]) tok mixed Tryz.func98 (by kernel_rfl) rfl Tryz.ntmps98 rfl trivial (fun _ => ⟨trivial, tv⟩) ?_
 unfold Fq11 at h
 unfold Lq11_x14 at h
 unfold Lq11_x33 at h
 unfold Lq11_x52 at h
 have hfq19 := @runq19
 have hfq55 := @runq55
 have hfq53 := @runq53
 have hfq52 := @runq52
 generalize hLEN : @len = LEN, hGD : @gd = GD, hA : std = A, hP : Tryz.prog = P at *
 cbv
 replace h := ob_ h
 obtain ⟨y1, hy2, h⟩ := h
 obtain ⟨S5, hS6⟩ : ∃ S, S = (sp 73 [(1, .c (wi a1)), (2, .c (.ptr 128 0)), (29, .c (.v (.bool y1)))] [(128, .var [ws a0.fN, .bs (LEN a0.fS) 5 (row GD (eS) a0.fS), .bs (LEN a0.fL) 4 (row GD (eL) a0.fL), .bs (LEN a0.fI) 8 (row GD (eI) a0.fI)])]) := ⟨_, rfl⟩
 refine ⟨S5, ?_, ?_⟩
 ·clear h
  have h := hy2
  clear hy2
  cbv
  replace h := ob_ h
  obtain ⟨y8, hy9, h⟩ := h
  refine ⟨⟨_, _, _, _, _, [], []⟩, hfq19 _ _ hy9, ⟨zs1, trivial, rfl, rfl, rfl, rfl, trivial, rfl⟩, ?_⟩
  cbv
  refine fork (fun b12 => ?_) (fun b12 => ?_)
  ·replace h := ot b12 h
   cbv
   injection h with h
   subst h
   subst hS6
   exact lsp rfl zl3 ⟨rfl, tv⟩ rfl
  ·replace h := og b12 h
   cbv
   refine fork (fun b11 => ?_) (fun b11 => ?_)
   ·replace h := ot b11 h
    cbv
    injection h with h
    subst h
    subst hS6
    exact lsp rfl zl3 ⟨rfl, tv⟩ rfl
   ·replace h := og b11 h
    cbv
    refine fork (fun b10 => ?_) (fun b10 => ?_)
    ·replace h := ot b10 h
     cbv
     injection h with h
     subst h
     subst hS6
     exact lsp rfl zl3 ⟨rfl, tv⟩ rfl
    ·replace h := og b10 h
     cbv
     injection h with h
     subst h
     subst hS6
     exact lsp rfl zl3 ⟨rfl, tv⟩ rfl
 ·clear hy2
  subst hS6
  replace h := ol h
  obtain ⟨w7, hw7, h⟩ := h
  have hw7 : w7 = y1 := hw7
  subst hw7
  cbv
  refine fork (fun b70 => ?_) (fun b70 => ?_)
  ·replace h := ot b70 h
   cbv
   injection h with h
   subst h
   refine ⟨(sp 73 [(4, .c (.v (.bool false)))] []), ?_, ?_⟩
   ·exact lsp rfl zl1 trivial rfl
   ·exact ⟨lR _, trivial, rfl⟩
  ·replace h := og b70 h
   cbv
   replace h := ob_ h
   obtain ⟨y15, hr16, hN17⟩ := h
   refine loop_cut hr16 (fun x => (sp 73 [(1, .c (wi a1)), (2, .c (.ptr 128 0)), (5, .c (wi x))] [(128, .var [ws a0.fN, .bs (LEN a0.fS) 5 (row GD (eS) a0.fS), .bs (LEN a0.fL) 4 (row GD (eL) a0.fL), .bs (LEN a0.fI) 8 (row GD (eI) a0.fI)])])) ?_ (fun y e s => (match y with | .inl w => e = .ret /\ s.le (sp 73 [(4, .c (.v (.bool w)))] []) | .inr w0 => (fun (w : Unit) => e = .exit 0 /\ s.le (sp 73 [(1, .c (wi a1)), (2, .c (.ptr 128 0))] [(128, .var [ws a0.fN, .bs (LEN a0.fS) 5 (row GD (eS) a0.fS), .bs (LEN a0.fL) 4 (row GD (eL) a0.fL), .bs (LEN a0.fI) 8 (row GD (eI) a0.fI)])])) w0)) ?_ ?_
   ·clear hr16 hN17
    show St.le _ _
    exact lsp rfl zl3 ⟨rfl, tv⟩ rfl
   ·clear hr16 hN17
    intro x z21 h K19 hK20 hY18
    replace h := ol h
    obtain ⟨v13, hv13, h⟩ := h
    have hv13 : v13 = x := hv13
    subst hv13
    cbv
    refine fork (fun b30 => ?_) (fun b30 => ?_)
    ·replace h := ot b30 h
     cbv
     replace h := oq h
     obtain ⟨c26, h⟩ := h
     refine ⟨⟨c26, tv⟩, ?_⟩
     replace h := ob_ h
     obtain ⟨y27, hy28, h⟩ := h
     refine ⟨⟨_, _, _, _, _, [], []⟩, hfq52 _ _ hy28, ⟨zs1, trivial, rfl, rfl, rfl, rfl, trivial, rfl⟩, ?_⟩
     cbv
     refine fork (fun b29 => ?_) (fun b29 => ?_)
     ·replace h := ot b29 h
      cbv
      injection h with h
      refine hY18 _ h.symm _ _ (And.intro rfl ?_) (by intro hh; cases hh)
      exact lsp rfl zl1 trivial rfl
     ·replace h := og b29 h
      cbv
      injection h with h
      refine hK20 _ h.symm _ ?_
      exact lsp rfl zl3 ⟨rfl, tv⟩ rfl
    ·replace h := og b30 h
     cbv
     injection h with h
     refine hY18 _ h.symm _ _ (And.intro rfl ?_) (by intro hh; cases hh)
     exact lsp rfl zl2 ⟨rfl, tv⟩ rfl
   ·clear hr16
    have h := hN17
    clear hN17
    intro e24 s25 q23 hne
    rcases y15 with y15k0 | y15m0
    ·replace h := h
     obtain ⟨rfl, q23⟩ := q23
     replace h := ol h
     obtain ⟨w31, hw31, h⟩ := h
     have hw31 : w31 = y15k0 := hw31
     subst hw31
     cbv
     injection h with h
     subst h
     refine ⟨(sp 73 [(4, .c (.v (.bool w31)))] []), ?_, ?_⟩
     ·refine St.le_trans q23 ?_
      exact lsp rfl zl1 trivial rfl
     ·exact ⟨lR _, trivial, rfl⟩
    ·obtain ⟨rfl, q23⟩ := q23
     cbv
     refine ⟨_, q23, ?_⟩
     cbv
     replace h := ob_ h
     obtain ⟨y34, hr35, hN36⟩ := h
     refine loop_cut hr35 (fun x => (sp 73 [(1, .c (wi a1)), (2, .c (.ptr 128 0)), (6, .c (wi x))] [(128, .var [ws a0.fN, .bs (LEN a0.fS) 5 (row GD (eS) a0.fS), .bs (LEN a0.fL) 4 (row GD (eL) a0.fL), .bs (LEN a0.fI) 8 (row GD (eI) a0.fI)])])) ?_ (fun y e s => (match y with | .inl w => e = .ret /\ s.le (sp 73 [(4, .c (.v (.bool w)))] []) | .inr w0 => (fun (w : Unit) => e = .exit 2 /\ s.le (sp 73 [(1, .c (wi a1)), (2, .c (.ptr 128 0))] [(128, .var [ws a0.fN, .bs (LEN a0.fS) 5 (row GD (eS) a0.fS), .bs (LEN a0.fL) 4 (row GD (eL) a0.fL), .bs (LEN a0.fI) 8 (row GD (eI) a0.fI)])])) w0)) ?_ ?_
     ·clear hr35 hN36
      show St.le _ _
      exact lsp rfl zl3 ⟨rfl, tv⟩ rfl
     ·clear hr35 hN36
      intro x z40 h K38 hK39 hY37
      replace h := ol h
      obtain ⟨v32, hv32, h⟩ := h
      have hv32 : v32 = x := hv32
      subst hv32
      cbv
      refine fork (fun b49 => ?_) (fun b49 => ?_)
      ·replace h := ot b49 h
       cbv
       replace h := oq h
       obtain ⟨c45, h⟩ := h
       refine ⟨⟨c45, tv⟩, ?_⟩
       replace h := ob_ h
       obtain ⟨y46, hy47, h⟩ := h
       refine ⟨⟨_, _, _, _, _, [], []⟩, hfq53 _ _ hy47, ⟨zs1, trivial, rfl, rfl, rfl, rfl, trivial, rfl⟩, ?_⟩
       cbv
       refine fork (fun b48 => ?_) (fun b48 => ?_)
       ·replace h := ot b48 h
        cbv
        injection h with h
        refine hY37 _ h.symm _ _ (And.intro rfl ?_) (by intro hh; cases hh)
        exact lsp rfl zl1 trivial rfl
       ·replace h := og b48 h
        cbv
        injection h with h
        refine hK39 _ h.symm _ ?_
        exact lsp rfl zl3 ⟨rfl, tv⟩ rfl
      ·replace h := og b49 h
       cbv
       injection h with h
       refine hY37 _ h.symm _ _ (And.intro rfl ?_) (by intro hh; cases hh)
       exact lsp rfl zl2 ⟨rfl, tv⟩ rfl
     ·clear hr35
      have h := hN36
      clear hN36
      intro e43 s44 q42 hne
      rcases y34 with y34k0 | y34m0
      ·replace h := h
       obtain ⟨rfl, q42⟩ := q42
       replace h := ol h
       obtain ⟨w50, hw50, h⟩ := h
       have hw50 : w50 = y34k0 := hw50
       subst hw50
       cbv
       injection h with h
       subst h
       refine ⟨(sp 73 [(4, .c (.v (.bool w50)))] []), ?_, ?_⟩
       ·refine St.le_trans q42 ?_
        exact lsp rfl zl1 trivial rfl
       ·exact ⟨lR _, trivial, rfl⟩
      ·obtain ⟨rfl, q42⟩ := q42
       cbv
       refine ⟨_, q42, ?_⟩
       cbv
       replace h := ob_ h
       obtain ⟨y53, hr54, hN55⟩ := h
       refine loop_cut hr54 (fun x => (sp 73 [(1, .c (wi a1)), (2, .c (.ptr 128 0)), (7, .c (wi x))] [(128, .var [ws a0.fN, .bs (LEN a0.fS) 5 (row GD (eS) a0.fS), .bs (LEN a0.fL) 4 (row GD (eL) a0.fL), .bs (LEN a0.fI) 8 (row GD (eI) a0.fI)])])) ?_ (fun y e s => (match y with | .inl w => e = .ret /\ s.le (sp 73 [(4, .c (.v (.bool w)))] []) | .inr w0 => (fun (w : Unit) => e = .exit 4 /\ s.le (sp 73 [] [])) w0)) ?_ ?_
       ·clear hr54 hN55
        show St.le _ _
        exact lsp rfl zl3 ⟨rfl, tv⟩ rfl
       ·clear hr54 hN55
        intro x z59 h K57 hK58 hY56
        replace h := ol h
        obtain ⟨v51, hv51, h⟩ := h
        have hv51 : v51 = x := hv51
        subst hv51
        cbv
        refine fork (fun b68 => ?_) (fun b68 => ?_)
        ·replace h := ot b68 h
         cbv
         replace h := oq h
         obtain ⟨c64, h⟩ := h
         refine ⟨⟨c64, tv⟩, ?_⟩
         replace h := ob_ h
         obtain ⟨y65, hy66, h⟩ := h
         refine ⟨⟨_, _, _, _, _, [], []⟩, hfq55 _ _ _ hy66, ⟨zs2, trivial, rfl, rfl, rfl, rfl, trivial, rfl⟩, ?_⟩
         cbv
         refine fork (fun b67 => ?_) (fun b67 => ?_)
         ·replace h := ot b67 h
          cbv
          injection h with h
          refine hY56 _ h.symm _ _ (And.intro rfl ?_) (by intro hh; cases hh)
          exact lsp rfl zl1 trivial rfl
         ·replace h := og b67 h
          cbv
          injection h with h
          refine hK58 _ h.symm _ ?_
          exact lsp rfl zl3 ⟨rfl, tv⟩ rfl
        ·replace h := og b68 h
         cbv
         injection h with h
         refine hY56 _ h.symm _ _ (And.intro rfl ?_) (by intro hh; cases hh)
         exact lsp rfl trivial trivial rfl
       ·clear hr54
        have h := hN55
        clear hN55
        intro e62 s63 q61 hne
        rcases y53 with y53k0 | y53m0
        ·replace h := h
         obtain ⟨rfl, q61⟩ := q61
         replace h := ol h
         obtain ⟨w69, hw69, h⟩ := h
         have hw69 : w69 = y53k0 := hw69
         subst hw69
         cbv
         injection h with h
         subst h
         refine ⟨(sp 73 [(4, .c (.v (.bool w69)))] []), ?_, ?_⟩
         ·refine St.le_trans q61 ?_
          exact lsp rfl zl1 trivial rfl
         ·exact ⟨lR _, trivial, rfl⟩
        ·obtain ⟨rfl, q61⟩ := q61
         cbv
         refine ⟨_, q61, ?_⟩
         cbv
         injection h with h
         subst h
         refine ⟨(sp 73 [(4, .c (.v (.bool true)))] []), ?_, ?_⟩
         ·exact lsp rfl zl1 trivial rfl
         ·exact ⟨lR _, trivial, rfl⟩

def Lq25_x26 (a0 : TL) (v9 : Int) : (Int) -> Option ((Int) ⊕ ((Bool) ⊕ (Unit))) := fun x26 =>
 letO x26 fun v25 =>
 br (std.lt v25 v9)
 (req (std.inR v25 (len a0.fC)) <|
 req (std.inR v9 (len a0.fC)) <|
 br (std.seq (gd a0.fC (std.toN v25)).fN (gd a0.fC (std.toN v9)).fN)
 (some (.inr (.inl false)))
 (some (.inl (std.add .i64 v25 1))))
 (some (.inr (.inr ())))
def Lq25_x10 (a0 : TL) : (Int) -> Option ((Int) ⊕ ((Bool) ⊕ (Unit))) := fun x10 =>
 letO x10 fun v9 =>
 br (std.lt v9 (std.ofN (len a0.fC)))
 (req (std.inR v9 (len a0.fC)) <|
 (Fq11 (gd a0.fC (std.toN v9)) v9).bind fun y23 =>
 br (!(y23))
 (some (.inr (.inl false)))
 ((whileP (σ := Int) (ρ := (Bool) ⊕ (Unit)) (Lq25_x26 a0 v9) 0).bind fun y27 =>
 (match y27 with
 | .inl y27k0 => (
 letO y27k0 fun w42 =>
 some (.inr (.inl w42)))
 | .inr y27m0 =>
 some (.inl (std.add .i64 v9 1)))))
 (some (.inr (.inr ())))
/-- spec.IsValidLibrary -/
def Fq25 (a0 : TL) : Option (Bool) :=
 ((
 br (std.lt (std.ofN (len a0.fC)) 1)
 (some true)
 (some (std.lt 8 (std.ofN (len a0.fC))))
 ) : Option (Bool)).bind fun y1 =>
 letO y1 fun w7 =>
 br w7
 (some false)
 ((whileP (σ := Int) (ρ := (Bool) ⊕ (Unit)) (Lq25_x10 a0) 0).bind fun y11 =>
 (match y11 with
 | .inl y11k0 => (
 letO y11k0 fun w45 =>
 some w45)
 | .inr y11m0 =>
 some true))
theorem runq25 (a0 : TL) (r : Bool) (h : Fq25 a0 = some r) : Fun Tryz.prog 48 [.agg [.bs (len a0.fC) 4 (row gd (eC len gd) a0.fC)]] [] (.c (.v (.bool r))) [] true := by
 refine Fun.of_wp (oneOf [1]) tok mixed Tryz.func48 (by kernel_rfl) rfl Tryz.ntmps48 rfl trivial (fun _ => ⟨trivial, tv⟩) ?_
 unfold Fq25 at h
 unfold Lq25_x10 at h
 unfold Lq25_x26 at h
 have hfq11 := @runq11
 generalize hLEN : @len = LEN, hGD : @gd = GD, hA : std = A, hP : Tryz.prog = P at *
 cbv
 replace h := ob_ h
 obtain ⟨y1, hy2, h⟩ := h
 obtain ⟨S5, hS6⟩ : ∃ S, S = (sp 48 [(1, .c (.ptr 64 0)), (14, .c (.v (.bool y1)))] [(64, .var [.bs (LEN a0.fC) 4 (row GD (eC LEN GD) a0.fC)])]) := ⟨_, rfl⟩
 refine ⟨S5, ?_, ?_⟩
 ·clear h
  have h := hy2
  clear hy2
  cbv
  refine fork (fun b8 => ?_) (fun b8 => ?_)
  ·replace h := ot b8 h
   cbv
   injection h with h
   subst h
   subst hS6
   exact lsp rfl zl2 ⟨rfl, tv⟩ rfl
  ·replace h := og b8 h
   cbv
   injection h with h
   subst h
   subst hS6
   exact lsp rfl zl2 ⟨rfl, tv⟩ rfl
 ·clear hy2
  subst hS6
  replace h := ol h
  obtain ⟨w7, hw7, h⟩ := h
  have hw7 : w7 = y1 := hw7
  subst hw7
  cbv
  refine fork (fun b46 => ?_) (fun b46 => ?_)
  ·replace h := ot b46 h
   cbv
   injection h with h
   subst h
   refine ⟨(sp 48 [(2, .c (.v (.bool false)))] []), ?_, ?_⟩
   ·exact lsp rfl zl1 trivial rfl
   ·exact ⟨lR _, trivial, rfl⟩
  ·replace h := og b46 h
   cbv
   replace h := ob_ h
   obtain ⟨y11, hr12, hN13⟩ := h
   refine loop_cut hr12 (fun x => (sp 48 [(1, .c (.ptr 64 0)), (3, .c (wi x))] [(64, .var [.bs (LEN a0.fC) 4 (row GD (eC LEN GD) a0.fC)])])) ?_ (fun y e s => (match y with | .inl w => e = .ret /\ s.le (sp 48 [(2, .c (.v (.bool w)))] []) | .inr w0 => (fun (w : Unit) => e = .exit 0 /\ s.le (sp 48 [] [])) w0)) ?_ ?_
   ·clear hr12 hN13
    show St.le _ _
    exact lsp rfl zl2 ⟨rfl, tv⟩ rfl
   ·clear hr12 hN13
    intro x z17 h K15 hK16 hY14
    replace h := ol h
    obtain ⟨v9, hv9, h⟩ := h
    have hv9 : v9 = x := hv9
    subst hv9
    cbv
    refine fork (fun b44 => ?_) (fun b44 => ?_)
    ·replace h := ot b44 h
     cbv
     replace h := oq h
     obtain ⟨c22, h⟩ := h
     refine ⟨⟨c22, tv⟩, ?_⟩
     replace h := ob_ h
     obtain ⟨y23, hy24, h⟩ := h
     refine ⟨⟨_, _, _, _, _, [], []⟩, hfq11 _ _ _ hy24, ⟨zs2, trivial, rfl, rfl, rfl, rfl, trivial, rfl⟩, ?_⟩
     cbv
     refine fork (fun b43 => ?_) (fun b43 => ?_)
     ·replace h := ot b43 h
      cbv
      injection h with h
      refine hY14 _ h.symm _ _ (And.intro rfl ?_) (by intro hh; cases hh)
      exact lsp rfl zl1 trivial rfl
     ·replace h := og b43 h
      cbv
      replace h := ob_ h
      obtain ⟨y27, hr28, hN29⟩ := h
      refine loop_cut hr28 (fun x => (sp 48 [(1, .c (.ptr 64 0)), (3, .c (wi v9)), (4, .c (wi x))] [(64, .var [.bs (LEN a0.fC) 4 (row GD (eC LEN GD) a0.fC)])])) ?_ (fun y e s => (match y with | .inl w => e = .ret /\ s.le (sp 48 [(2, .c (.v (.bool w)))] []) | .inr w0 => (fun (w : Unit) => e = .exit 2 /\ s.le (sp 48 [(1, .c (.ptr 64 0)), (3, .c (wi v9))] [(64, .var [.bs (LEN a0.fC) 4 (row GD (eC LEN GD) a0.fC)])])) w0)) ?_ ?_
      ·clear hr28 hN29
       show St.le _ _
       exact lsp rfl zl3 ⟨rfl, tv⟩ rfl
      ·clear hr28 hN29
       intro x z33 h K31 hK32 hY30
       replace h := ol h
       obtain ⟨v25, hv25, h⟩ := h
       have hv25 : v25 = x := hv25
       subst hv25
       cbv
       refine fork (fun b41 => ?_) (fun b41 => ?_)
       ·replace h := ot b41 h
        cbv
        replace h := oq h
        obtain ⟨c38, h⟩ := h
        refine ⟨⟨c38, tv⟩, ?_⟩
        replace h := oq h
        obtain ⟨c39, h⟩ := h
        refine ⟨⟨c39, tv⟩, ?_⟩
        refine fork (fun b40 => ?_) (fun b40 => ?_)
        ·replace h := ot b40 h
         cbv
         injection h with h
         refine hY30 _ h.symm _ _ (And.intro rfl ?_) (by intro hh; cases hh)
         exact lsp rfl zl1 trivial rfl
        ·replace h := og b40 h
         cbv
         injection h with h
         refine hK32 _ h.symm _ ?_
         exact lsp rfl zl3 ⟨rfl, tv⟩ rfl
       ·replace h := og b41 h
        cbv
        injection h with h
        refine hY30 _ h.symm _ _ (And.intro rfl ?_) (by intro hh; cases hh)
        exact lsp rfl zl2 ⟨rfl, tv⟩ rfl
      ·clear hr28
       have h := hN29
       clear hN29
       intro e36 s37 q35 hne
       rcases y27 with y27k0 | y27m0
       ·replace h := h
        obtain ⟨rfl, q35⟩ := q35
        replace h := ol h
        obtain ⟨w42, hw42, h⟩ := h
        have hw42 : w42 = y27k0 := hw42
        subst hw42
        cbv
        injection h with h
        refine hY14 _ h.symm _ _ (And.intro rfl ?_) (by intro hh; cases hh)
        refine St.le_trans q35 ?_
        exact lsp rfl zl1 trivial rfl
       ·obtain ⟨rfl, q35⟩ := q35
        cbv
        refine ⟨_, q35, ?_⟩
        cbv
        injection h with h
        refine hK16 _ h.symm _ ?_
        exact lsp rfl zl2 ⟨rfl, tv⟩ rfl
    ·replace h := og b44 h
     cbv
     injection h with h
     refine hY14 _ h.symm _ _ (And.intro rfl ?_) (by intro hh; cases hh)
     exact lsp rfl trivial trivial rfl
   ·clear hr12
    have h := hN13
    clear hN13
    intro e20 s21 q19 hne
    rcases y11 with y11k0 | y11m0
    ·replace h := h
     obtain ⟨rfl, q19⟩ := q19
     replace h := ol h
     obtain ⟨w45, hw45, h⟩ := h
     have hw45 : w45 = y11k0 := hw45
     subst hw45
     cbv
     injection h with h
     subst h
     refine ⟨(sp 48 [(2, .c (.v (.bool w45)))] []), ?_, ?_⟩
     ·refine St.le_trans q19 ?_
      exact lsp rfl zl1 trivial rfl
     ·exact ⟨lR _, trivial, rfl⟩
    ·obtain ⟨rfl, q19⟩ := q19
     cbv
     refine ⟨_, q19, ?_⟩
     cbv
     injection h with h
     subst h
     refine ⟨(sp 48 [(2, .c (.v (.bool true)))] []), ?_, ?_⟩
     ·exact lsp rfl zl1 trivial rfl
     ·exact ⟨lR _, trivial, rfl⟩

/-- spec.l13NoShape -/
def Fq70 (a0 : TS) : Option (Bool) :=
 some (std.band (std.eq a0.fy 0) (std.band (std.band (std.eq a0.fb.fX0 0) (std.band (std.eq a0.fb.fY0 0) (std.band (std.eq a0.fb.fX1 0) (std.band (std.eq a0.fb.fY1 0) (true))))) (true)))
theorem runq70 (a0 : TS) (r : Bool) (h : Fq70 a0 = some r) : Fun Tryz.prog 186 [.agg [wi a0.fy, wi a0.fb.fX0, wi a0.fb.fY0, wi a0.fb.fX1, wi a0.fb.fY1]] [] (.c (.v (.bool r))) [] true := by
 refine Fun.of_wp (oneOf []) tok mixed Tryz.func186 (by kernel_rfl) rfl Tryz.ntmps186 rfl trivial (fun _ => ⟨trivial, tv⟩) ?_
 unfold Fq70 at h
 generalize hLEN : @len = LEN, hGD : @gd = GD, hA : std = A, hP : Tryz.prog = P at *
 cbv
 injection h with h
 subst h
 refine ⟨(sp 6 [(2, .c (.v (.bool (A.band (A.eq a0.fy 0) (A.band (A.band (A.eq a0.fb.fX0 0) (A.band (A.eq a0.fb.fY0 0) (A.band (A.eq a0.fb.fX1 0) (A.band (A.eq a0.fb.fY1 0) (true))))) (true))))))] []), ?_, ?_⟩
 ·exact lsp rfl zl1 trivial rfl
 ·exact ⟨lR _, trivial, rfl⟩

/-- spec.l13NoLabel -/
def Fq69 (a0 : TB) : Option (Bool) :=
 some (std.band (std.eq a0.fy 0) (std.band (std.band (std.eq a0.fa.fX 0) (std.band (std.eq a0.fa.fY 0) (true))) (std.band (std.seq a0.fN (ByteArray.mk #[])) (true))))
theorem runq69 (a0 : TB) (r : Bool) (h : Fq69 a0 = some r) : Fun Tryz.prog 187 [.agg [wi a0.fy, wi a0.fa.fX, wi a0.fa.fY, ws a0.fN]] [] (.c (.v (.bool r))) [] true := by
 refine Fun.of_wp (oneOf []) tok mixed Tryz.func187 (by kernel_rfl) rfl Tryz.ntmps187 rfl trivial (fun _ => ⟨trivial, tv⟩) ?_
 unfold Fq69 at h
 generalize hLEN : @len = LEN, hGD : @gd = GD, hA : std = A, hP : Tryz.prog = P at *
 cbv
 injection h with h
 subst h
 refine ⟨(sp 6 [(2, .c (.v (.bool (A.band (A.eq a0.fy 0) (A.band (A.band (A.eq a0.fa.fX 0) (A.band (A.eq a0.fa.fY 0) (true))) (A.band (A.seq a0.fN (ByteArray.mk #[])) (true)))))))] []), ?_, ?_⟩
 ·exact lsp rfl zl1 trivial rfl
 ·exact ⟨lR _, trivial, rfl⟩

/-- spec.l13NoInstance -/
def Fq81 (a0 : TI) : Option (Bool) :=
 some (std.band (std.eq a0.fc 0) (std.band (std.band (std.eq a0.fp.fo 0) (std.band (std.eq a0.fp.fX 0) (std.band (std.eq a0.fp.fY 0) (true)))) (std.band (std.eq a0.fK 0) (std.band (std.eq a0.fR 0) (std.band (std.eq a0.fu 0) (std.band (std.eq a0.fv 0) (true)))))))
theorem runq81 (a0 : TI) (r : Bool) (h : Fq81 a0 = some r) : Fun Tryz.prog 188 [.agg [wi a0.fc, wi a0.fp.fo, wi a0.fp.fX, wi a0.fp.fY, wi a0.fK, wi a0.fR, wi a0.fu, wi a0.fv]] [] (.c (.v (.bool r))) [] true := by
 refine Fun.of_wp (oneOf []) tok mixed Tryz.func188 (by kernel_rfl) rfl Tryz.ntmps188 rfl trivial (fun _ => ⟨trivial, tv⟩) ?_
 unfold Fq81 at h
 generalize hLEN : @len = LEN, hGD : @gd = GD, hA : std = A, hP : Tryz.prog = P at *
 cbv
 injection h with h
 subst h
 refine ⟨(sp 6 [(2, .c (.v (.bool (A.band (A.eq a0.fc 0) (A.band (A.band (A.eq a0.fp.fo 0) (A.band (A.eq a0.fp.fX 0) (A.band (A.eq a0.fp.fY 0) (true)))) (A.band (A.eq a0.fK 0) (A.band (A.eq a0.fR 0) (A.band (A.eq a0.fu 0) (A.band (A.eq a0.fv 0) (true))))))))))] []), ?_, ?_⟩
 ·exact lsp rfl zl1 trivial rfl
 ·exact ⟨lR _, trivial, rfl⟩

/-- spec.IsValidEdit -/
def Fq79 (a0 : TE) : Option (Bool) :=
 ((
 (Fq0 a0.fk 1 9).bind fun y8 =>
 br (!(y8))
 (some true)
 ((Fq0 a0.fc 0 8).bind fun y10 =>
 br (!(y10))
 (some true)
 ((Fq0 a0.fx 0 24).bind fun y12 =>
 some (!(y12))))
 ) : Option (Bool)).bind fun y1 =>
 letO y1 fun w7 =>
 br w7
 (some false)
 (((
 br (std.le 7 a0.fk)
 (some (std.not (std.eq a0.fx 0)))
 (some false)
 ) : Option (Bool)).bind fun y16 =>
 letO y16 fun w22 =>
 br w22
 (some false)
 (((
 br (std.eq a0.fk 7)
 (some true)
 (some (std.eq a0.fk 8))
 ) : Option (Bool)).bind fun y24 =>
 letO y24 fun w30 =>
 ((
 br w30
 ((Fq19 a0.fN).bind fun y39 =>
 br (!(y39))
 (some true)
 (br (!(w30))
 (some (std.not (std.seq a0.fN (ByteArray.mk #[]))))
 (some false)))
 (br (!(w30))
 (some (std.not (std.seq a0.fN (ByteArray.mk #[]))))
 (some false))
 ) : Option (Bool)).bind fun y32 =>
 letO y32 fun w38 =>
 br w38
 (some false)
 (((
 br (std.eq a0.fk 1)
 ((Fq52 a0.fs_).bind fun y52 =>
 br (!(y52))
 (some true)
 (br (std.not (std.eq a0.fk 1))
 ((Fq70 a0.fs_).bind fun y54 =>
 some (!(y54)))
 (some false)))
 (br (std.not (std.eq a0.fk 1))
 ((Fq70 a0.fs_).bind fun y58 =>
 some (!(y58)))
 (some false))
 ) : Option (Bool)).bind fun y45 =>
 letO y45 fun w51 =>
 br w51
 (some false)
 (((
 br (std.eq a0.fk 3)
 ((Fq53 a0.fl_).bind fun y69 =>
 br (!(y69))
 (some true)
 (br (std.not (std.eq a0.fk 3))
 ((Fq69 a0.fl_).bind fun y71 =>
 some (!(y71)))
 (some false)))
 (br (std.not (std.eq a0.fk 3))
 ((Fq69 a0.fl_).bind fun y75 =>
 some (!(y75)))
 (some false))
 ) : Option (Bool)).bind fun y62 =>
 letO y62 fun w68 =>
 br w68
 (some false)
 (br (std.eq a0.fk 5)
 ((Fq55 a0.fi_ 8).bind fun y79 =>
 some y79)
 ((Fq81 a0.fi_).bind fun y81 =>
 some y81))))))
theorem runq79 (a0 : TE) (r : Bool) (h : Fq79 a0 = some r) : Fun Tryz.prog 105 [.agg (cE a0)] [] (.c (.v (.bool r))) [] true := by
 refine Fun.of_wp (oneOf [1, 3, 5, 6, 8, 10]) tok mixed Tryz.func105 (by kernel_rfl) rfl Tryz.ntmps105 rfl trivial (fun _ => ⟨trivial, tv⟩) ?_
 unfold Fq79 at h
 have hfq19 := @runq19
 have hfq0 := @runq0
 have hfq55 := @runq55
 have hfq53 := @runq53
 have hfq52 := @runq52
 have hfq81 := @runq81
 have hfq69 := @runq69
 have hfq70 := @runq70
 generalize hLEN : @len = LEN, hGD : @gd = GD, hA : std = A, hP : Tryz.prog = P at *
 cbv
 replace h := ob_ h
 obtain ⟨y1, hy2, h⟩ := h
 obtain ⟨S5, hS6⟩ : ∃ S, S = (sp 101 [(1, .c (.ptr 64 0)), (19, .c (.v (.bool y1)))] [(64, .var (cE a0))]) := ⟨_, rfl⟩
 refine ⟨S5, ?_, ?_⟩
 ·clear h
  have h := hy2
  clear hy2
  cbv
  replace h := ob_ h
  obtain ⟨y8, hy9, h⟩ := h
  refine ⟨⟨_, _, _, _, _, [], []⟩, hfq0 _ _ _ _ hy9, ⟨zs3, trivial, rfl, rfl, rfl, rfl, trivial, rfl⟩, ?_⟩
  cbv
  refine fork (fun b15 => ?_) (fun b15 => ?_)
  ·replace h := ot b15 h
   cbv
   injection h with h
   subst h
   subst hS6
   exact lsp rfl zl2 ⟨rfl, tv⟩ rfl
  ·replace h := og b15 h
   cbv
   replace h := ob_ h
   obtain ⟨y10, hy11, h⟩ := h
   refine ⟨⟨_, _, _, _, _, [], []⟩, hfq0 _ _ _ _ hy11, ⟨zs3, trivial, rfl, rfl, rfl, rfl, trivial, rfl⟩, ?_⟩
   cbv
   refine fork (fun b14 => ?_) (fun b14 => ?_)
   ·replace h := ot b14 h
    cbv
    injection h with h
    subst h
    subst hS6
    exact lsp rfl zl2 ⟨rfl, tv⟩ rfl
   ·replace h := og b14 h
    cbv
    replace h := ob_ h
    obtain ⟨y12, hy13, h⟩ := h
    refine ⟨⟨_, _, _, _, _, [], []⟩, hfq0 _ _ _ _ hy13, ⟨zs3, trivial, rfl, rfl, rfl, rfl, trivial, rfl⟩, ?_⟩
    cbv
    injection h with h
    subst h
    subst hS6
    exact lsp rfl zl2 ⟨rfl, tv⟩ rfl
 ·clear hy2
  subst hS6
  replace h := ol h
  obtain ⟨w7, hw7, h⟩ := h
  have hw7 : w7 = y1 := hw7
  subst hw7
  cbv
  refine fork (fun b88 => ?_) (fun b88 => ?_)
  ·replace h := ot b88 h
   cbv
   injection h with h
   subst h
   refine ⟨(sp 101 [(2, .c (.v (.bool false)))] []), ?_, ?_⟩
   ·exact lsp rfl zl1 trivial rfl
   ·exact ⟨lR _, trivial, rfl⟩
  ·replace h := og b88 h
   cbv
   replace h := ob_ h
   obtain ⟨y16, hy17, h⟩ := h
   obtain ⟨S20, hS21⟩ : ∃ S, S = (sp 101 [(1, .c (.ptr 64 0)), (27, .c (.v (.bool y16)))] [(64, .var (cE a0))]) := ⟨_, rfl⟩
   refine ⟨S20, ?_, ?_⟩
   ·clear h
    have h := hy17
    clear hy17
    cbv
    refine fork (fun b23 => ?_) (fun b23 => ?_)
    ·replace h := ot b23 h
     cbv
     injection h with h
     subst h
     subst hS21
     exact lsp rfl zl2 ⟨rfl, tv⟩ rfl
    ·replace h := og b23 h
     cbv
     injection h with h
     subst h
     subst hS21
     exact lsp rfl zl2 ⟨rfl, tv⟩ rfl
   ·clear hy17
    subst hS21
    replace h := ol h
    obtain ⟨w22, hw22, h⟩ := h
    have hw22 : w22 = y16 := hw22
    subst hw22
    cbv
    refine fork (fun b87 => ?_) (fun b87 => ?_)
    ·replace h := ot b87 h
     cbv
     injection h with h
     subst h
     refine ⟨(sp 101 [(2, .c (.v (.bool false)))] []), ?_, ?_⟩
     ·exact lsp rfl zl1 trivial rfl
     ·exact ⟨lR _, trivial, rfl⟩
    ·replace h := og b87 h
     cbv
     replace h := ob_ h
     obtain ⟨y24, hy25, h⟩ := h
     obtain ⟨S28, hS29⟩ : ∃ S, S = (sp 101 [(1, .c (.ptr 64 0)), (3, .c (.v (.bool y24)))] [(64, .var (cE a0))]) := ⟨_, rfl⟩
     refine ⟨S28, ?_, ?_⟩
     ·clear h
      have h := hy25
      clear hy25
      cbv
      refine fork (fun b31 => ?_) (fun b31 => ?_)
      ·replace h := ot b31 h
       cbv
       injection h with h
       subst h
       subst hS29
       exact lsp rfl zl2 ⟨rfl, tv⟩ rfl
      ·replace h := og b31 h
       cbv
       injection h with h
       subst h
       subst hS29
       exact lsp rfl zl2 ⟨rfl, tv⟩ rfl
     ·clear hy25
      subst hS29
      replace h := ol h
      obtain ⟨w30, hw30, h⟩ := h
      have hw30 : w30 = y24 := hw30
      subst hw30
      cbv
      replace h := ob_ h
      obtain ⟨y32, hy33, h⟩ := h
      obtain ⟨S36, hS37⟩ : ∃ S, S = (sp 101 [(1, .c (.ptr 64 0)), (51, .c (.v (.bool y32)))] [(64, .var (cE a0))]) := ⟨_, rfl⟩
      refine ⟨S36, ?_, ?_⟩
      ·clear h
       have h := hy33
       clear hy33
       cbv
       refine fork (fun b44 => ?_) (fun b44 => ?_)
       ·replace h := ot b44 h
        cbv
        replace h := ob_ h
        obtain ⟨y39, hy40, h⟩ := h
        refine ⟨⟨_, _, _, _, _, [], []⟩, hfq19 _ _ hy40, ⟨zs1, trivial, rfl, rfl, rfl, rfl, trivial, rfl⟩, ?_⟩
        cbv
        refine fork (fun b42 => ?_) (fun b42 => ?_)
        ·replace h := ot b42 h
         cbv
         injection h with h
         subst h
         subst hS37
         exact lsp rfl zl2 ⟨rfl, tv⟩ rfl
        ·replace h := og b42 h
         cbv
         refine fork (fun b41 => ?_) (fun b41 => ?_)
         ·replace h := ot b41 h
          cbv
          injection h with h
          subst h
          subst hS37
          exact lsp rfl zl2 ⟨rfl, tv⟩ rfl
         ·replace h := og b41 h
          cbv
          injection h with h
          subst h
          subst hS37
          exact lsp rfl zl2 ⟨rfl, tv⟩ rfl
       ·replace h := og b44 h
        cbv
        refine fork (fun b43 => ?_) (fun b43 => ?_)
        ·replace h := ot b43 h
         cbv
         injection h with h
         subst h
         subst hS37
         exact lsp rfl zl2 ⟨rfl, tv⟩ rfl
        ·replace h := og b43 h
         cbv
         injection h with h
         subst h
         subst hS37
         exact lsp rfl zl2 ⟨rfl, tv⟩ rfl
      ·clear hy33
       subst hS37
       replace h := ol h
       obtain ⟨w38, hw38, h⟩ := h
       have hw38 : w38 = y32 := hw38
       subst hw38
       cbv
       refine fork (fun b86 => ?_) (fun b86 => ?_)
       ·replace h := ot b86 h
        cbv
        injection h with h
        subst h
        refine ⟨(sp 101 [(2, .c (.v (.bool false)))] []), ?_, ?_⟩
        ·exact lsp rfl zl1 trivial rfl
        ·exact ⟨lR _, trivial, rfl⟩
       ·replace h := og b86 h
        cbv
        replace h := ob_ h
        obtain ⟨y45, hy46, h⟩ := h
        obtain ⟨S49, hS50⟩ : ∃ S, S = (sp 101 [(1, .c (.ptr 64 0)), (71, .c (.v (.bool y45)))] [(64, .var (cE a0))]) := ⟨_, rfl⟩
        refine ⟨S49, ?_, ?_⟩
        ·clear h
         have h := hy46
         clear hy46
         cbv
         refine fork (fun b61 => ?_) (fun b61 => ?_)
         ·replace h := ot b61 h
          cbv
          replace h := ob_ h
          obtain ⟨y52, hy53, h⟩ := h
          refine ⟨⟨_, _, _, _, _, [], []⟩, hfq52 _ _ hy53, ⟨zs1, trivial, rfl, rfl, rfl, rfl, trivial, rfl⟩, ?_⟩
          cbv
          refine fork (fun b57 => ?_) (fun b57 => ?_)
          ·replace h := ot b57 h
           cbv
           injection h with h
           subst h
           subst hS50
           exact lsp rfl zl2 ⟨rfl, tv⟩ rfl
          ·replace h := og b57 h
           cbv
           refine fork (fun b56 => ?_) (fun b56 => ?_)
           ·replace h := ot b56 h
            cbv
            replace h := ob_ h
            obtain ⟨y54, hy55, h⟩ := h
            refine ⟨⟨_, _, _, _, _, [], []⟩, hfq70 _ _ hy55, ⟨zs1, trivial, rfl, rfl, rfl, rfl, trivial, rfl⟩, ?_⟩
            cbv
            injection h with h
            subst h
            subst hS50
            exact lsp rfl zl2 ⟨rfl, tv⟩ rfl
           ·replace h := og b56 h
            cbv
            injection h with h
            subst h
            subst hS50
            exact lsp rfl zl2 ⟨rfl, tv⟩ rfl
         ·replace h := og b61 h
          cbv
          refine fork (fun b60 => ?_) (fun b60 => ?_)
          ·replace h := ot b60 h
           cbv
           replace h := ob_ h
           obtain ⟨y58, hy59, h⟩ := h
           refine ⟨⟨_, _, _, _, _, [], []⟩, hfq70 _ _ hy59, ⟨zs1, trivial, rfl, rfl, rfl, rfl, trivial, rfl⟩, ?_⟩
           cbv
           injection h with h
           subst h
           subst hS50
           exact lsp rfl zl2 ⟨rfl, tv⟩ rfl
          ·replace h := og b60 h
           cbv
           injection h with h
           subst h
           subst hS50
           exact lsp rfl zl2 ⟨rfl, tv⟩ rfl
        ·clear hy46
         subst hS50
         replace h := ol h
         obtain ⟨w51, hw51, h⟩ := h
         have hw51 : w51 = y45 := hw51
         subst hw51
         cbv
         refine fork (fun b85 => ?_) (fun b85 => ?_)
         ·replace h := ot b85 h
          cbv
          injection h with h
          subst h
          refine ⟨(sp 101 [(2, .c (.v (.bool false)))] []), ?_, ?_⟩
          ·exact lsp rfl zl1 trivial rfl
          ·exact ⟨lR _, trivial, rfl⟩
         ·replace h := og b85 h
          cbv
          replace h := ob_ h
          obtain ⟨y62, hy63, h⟩ := h
          obtain ⟨S66, hS67⟩ : ∃ S, S = (sp 101 [(1, .c (.ptr 64 0)), (91, .c (.v (.bool y62)))] [(64, .var (cE a0))]) := ⟨_, rfl⟩
          refine ⟨S66, ?_, ?_⟩
          ·clear h
           have h := hy63
           clear hy63
           cbv
           refine fork (fun b78 => ?_) (fun b78 => ?_)
           ·replace h := ot b78 h
            cbv
            replace h := ob_ h
            obtain ⟨y69, hy70, h⟩ := h
            refine ⟨⟨_, _, _, _, _, [], []⟩, hfq53 _ _ hy70, ⟨zs1, trivial, rfl, rfl, rfl, rfl, trivial, rfl⟩, ?_⟩
            cbv
            refine fork (fun b74 => ?_) (fun b74 => ?_)
            ·replace h := ot b74 h
             cbv
             injection h with h
             subst h
             subst hS67
             exact lsp rfl zl2 ⟨rfl, tv⟩ rfl
            ·replace h := og b74 h
             cbv
             refine fork (fun b73 => ?_) (fun b73 => ?_)
             ·replace h := ot b73 h
              cbv
              replace h := ob_ h
              obtain ⟨y71, hy72, h⟩ := h
              refine ⟨⟨_, _, _, _, _, [], []⟩, hfq69 _ _ hy72, ⟨zs1, trivial, rfl, rfl, rfl, rfl, trivial, rfl⟩, ?_⟩
              cbv
              injection h with h
              subst h
              subst hS67
              exact lsp rfl zl2 ⟨rfl, tv⟩ rfl
             ·replace h := og b73 h
              cbv
              injection h with h
              subst h
              subst hS67
              exact lsp rfl zl2 ⟨rfl, tv⟩ rfl
           ·replace h := og b78 h
            cbv
            refine fork (fun b77 => ?_) (fun b77 => ?_)
            ·replace h := ot b77 h
             cbv
             replace h := ob_ h
             obtain ⟨y75, hy76, h⟩ := h
             refine ⟨⟨_, _, _, _, _, [], []⟩, hfq69 _ _ hy76, ⟨zs1, trivial, rfl, rfl, rfl, rfl, trivial, rfl⟩, ?_⟩
             cbv
             injection h with h
             subst h
             subst hS67
             exact lsp rfl zl2 ⟨rfl, tv⟩ rfl
            ·replace h := og b77 h
             cbv
             injection h with h
             subst h
             subst hS67
             exact lsp rfl zl2 ⟨rfl, tv⟩ rfl
          ·clear hy63
           subst hS67
           replace h := ol h
           obtain ⟨w68, hw68, h⟩ := h
           have hw68 : w68 = y62 := hw68
           subst hw68
           cbv
           refine fork (fun b84 => ?_) (fun b84 => ?_)
           ·replace h := ot b84 h
            cbv
            injection h with h
            subst h
            refine ⟨(sp 101 [(2, .c (.v (.bool false)))] []), ?_, ?_⟩
            ·exact lsp rfl zl1 trivial rfl
            ·exact ⟨lR _, trivial, rfl⟩
           ·replace h := og b84 h
            cbv
            refine fork (fun b83 => ?_) (fun b83 => ?_)
            ·replace h := ot b83 h
             cbv
             replace h := ob_ h
             obtain ⟨y79, hy80, h⟩ := h
             refine ⟨⟨_, _, _, _, _, [], []⟩, hfq55 _ _ _ hy80, ⟨zs2, trivial, rfl, rfl, rfl, rfl, trivial, rfl⟩, ?_⟩
             cbv
             injection h with h
             subst h
             refine ⟨(sp 101 [(2, .c (.v (.bool y79)))] []), ?_, ?_⟩
             ·exact lsp rfl zl1 trivial rfl
             ·exact ⟨lR _, trivial, rfl⟩
            ·replace h := og b83 h
             cbv
             replace h := ob_ h
             obtain ⟨y81, hy82, h⟩ := h
             refine ⟨⟨_, _, _, _, _, [], []⟩, hfq81 _ _ hy82, ⟨zs1, trivial, rfl, rfl, rfl, rfl, trivial, rfl⟩, ?_⟩
             cbv
             injection h with h
             subst h
             refine ⟨(sp 101 [(2, .c (.v (.bool y81)))] []), ?_, ?_⟩
             ·exact lsp rfl zl1 trivial rfl
             ·exact ⟨lR _, trivial, rfl⟩
end
end Go.Proofs.YtohgghncmkiicaaGreat.AM
