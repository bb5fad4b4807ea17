/-
  What the functions that the law reaches compute, and that they do. No condition.
-/
import Derived.Test.YtohgghncmkiicaaGreatAmT
import Derived.Test.YtohgghncmkiicaaGreatAmE
import Derived.Deep.LoopGhost
import Derived.Deep.RegionLaw
import Derived.Lib.SliceRun
import Derived.Lib.SlicesDelete
import Derived.Lib.Walk
import Derived.Shelf.Spec.SlicesInsert
import Derived.Shelf.Spec.SlicesInsertGrow
import Derived.Test.YtohgghncmkiicaaGreatChecked
import Derived.WalkKit
namespace Go.Proofs.YtohgghncmkiicaaGreat.AM
noncomputable section
open Go Go.Proofs Go.RowKit
set_option linter.unusedVariables false
set_option linter.unusedSimpArgs false
set_option maxRecDepth 100000

set_option maxHeartbeats 4000000
abbrev wi (x : Int) : AC := .v (.int .i64 x)
abbrev ws (x : ByteArray) : AC := .v (.string x)
theorem zs1 {x0 : AV} : AV.les [x0] [x0] := lc_ (lR _) (ln_)
theorem evn (n : Nat) (h : n % 2 = 0) {p : Prop} (h1 : n % 2 = 1) : p := by omega
theorem nd {p : Prop} [Decidable p] (h : decide p = false) : ¬ p := of_decide_eq_false h
theorem yd {p : Prop} [Decidable p] (h : decide p = true) : p := of_decide_eq_true h
theorem mixed : Tryz.prog.follows .mixedOrders = true := by kernel_rfl
structure TRect where
 fX0 : Int
 fY0 : Int
 fX1 : Int
 fY1 : Int
instance : Inhabited TRect := ⟨⟨default, default, default, default⟩⟩
def encRect (x : TRect) : Nat -> AC := fun j => match j with
 | 0 => wi x.fX0
 | 1 => wi x.fY0
 | 2 => wi x.fX1
 | _ => wi x.fY1
theorem pl_encRect : ∀ (x : TRect) (j : Nat), plainC (encRect x j) = true := by
 intro x j
 unfold encRect
 split <;> rfl
theorem vl_encRect : ∀ (x : TRect) (j : Nat), valC (encRect x j) = true := by
 intro x j
 unfold encRect
 split <;> rfl
structure TS where
 fy : Int
 fb : TRect
instance : Inhabited TS := ⟨⟨default, default⟩⟩
def eS (x : TS) : Nat -> AC := fun j => match j with
 | 0 => wi x.fy
 | 1 => wi x.fb.fX0
 | 2 => wi x.fb.fY0
 | 3 => wi x.fb.fX1
 | _ => wi x.fb.fY1
theorem pl_encShape : ∀ (x : TS) (j : Nat), plainC (eS x j) = true := by
 intro x j
 unfold eS
 split <;> rfl
theorem vl_encShape : ∀ (x : TS) (j : Nat), valC (eS x j) = true := by
 intro x j
 unfold eS
 split <;> rfl
structure TPoint where
 fX : Int
 fY : Int
instance : Inhabited TPoint := ⟨⟨default, default⟩⟩
def encPoint (x : TPoint) : Nat -> AC := fun j => match j with
 | 0 => wi x.fX
 | _ => wi x.fY
theorem pl_encPoint : ∀ (x : TPoint) (j : Nat), plainC (encPoint x j) = true := by
 intro x j
 unfold encPoint
 split <;> rfl
theorem vl_encPoint : ∀ (x : TPoint) (j : Nat), valC (encPoint x j) = true := by
 intro x j
 unfold encPoint
 split <;> rfl
structure TB where
 fy : Int
 fa : TPoint
 fN : ByteArray
instance : Inhabited TB := ⟨⟨default, default, default⟩⟩
def eL (x : TB) : Nat -> AC := fun j => match j with
 | 0 => wi x.fy
 | 1 => wi x.fa.fX
 | 2 => wi x.fa.fY
 | _ => ws x.fN
theorem pl_encLabel : ∀ (x : TB) (j : Nat), plainC (eL x j) = true := by
 intro x j
 unfold eL
 split <;> rfl
theorem vl_encLabel : ∀ (x : TB) (j : Nat), valC (eL x j) = true := by
 intro x j
 unfold eL
 split <;> rfl
structure TM where
 fo : Int
 fX : Int
 fY : Int
instance : Inhabited TM := ⟨⟨default, default, default⟩⟩
def encTransform (x : TM) : Nat -> AC := fun j => match j with
 | 0 => wi x.fo
 | 1 => wi x.fX
 | _ => wi x.fY
theorem pl_encTransform : ∀ (x : TM) (j : Nat), plainC (encTransform x j) = true := by
 intro x j
 unfold encTransform
 split <;> rfl
theorem vl_encTransform : ∀ (x : TM) (j : Nat), valC (encTransform x j) = true := by
 intro x j
 unfold encTransform
 split <;> rfl
structure TI where
 fc : Int
 fp : TM
 fK : Int
 fR : Int
 fu : Int
 fv : Int
instance : Inhabited TI := ⟨⟨default, default, default, default, default, default⟩⟩
def eI (x : TI) : Nat -> AC := fun j => match j with
 | 0 => wi x.fc
 | 1 => wi x.fp.fo
 | 2 => wi x.fp.fX
 | 3 => wi x.fp.fY
 | 4 => wi x.fK
 | 5 => wi x.fR
 | 6 => wi x.fu
 | _ => wi x.fv
theorem pl_encInstance : ∀ (x : TI) (j : Nat), plainC (eI x j) = true := by
 intro x j
 unfold eI
 split <;> rfl
theorem vl_encInstance : ∀ (x : TI) (j : Nat), valC (eI x j) = true := by
 intro x j
 unfold eI
 split <;> rfl
structure TC where
 fN : ByteArray
 fS : List TS
 fL : List TB
 fI : List TI
instance : Inhabited TC := ⟨⟨default, default, default, default⟩⟩
def eC (LEN : {α : Type} -> List α -> Nat) (GD : {α : Type} -> [Inhabited α] -> List α -> Nat -> α) (x : TC) : Nat -> AC := fun j => match j with
 | 0 => ws x.fN
 | 1 => .bs (LEN x.fS) 5 (row GD (eS) x.fS)
 | 2 => .bs (LEN x.fL) 4 (row GD (eL) x.fL)
 | _ => .bs (LEN x.fI) 8 (row GD (eI) x.fI)
theorem pl_encCell {LEN : {α : Type} -> List α -> Nat} {GD : {α : Type} -> [Inhabited α] -> List α -> Nat -> α} : ∀ (x : TC) (j : Nat), plainC (eC LEN GD x j) = true := by
 intro x j
 unfold eC
 split <;> rfl
def oC (LEN : {α : Type} -> List α -> Nat) (GD : {α : Type} -> [Inhabited α] -> List α -> Nat -> α) (x : TC) : Nat -> AC := fun j => match j with
 | 0 => ws x.fN
 | 1 => .ow (LEN x.fS) 5 (row GD (eS) x.fS)
 | 2 => .ow (LEN x.fL) 4 (row GD (eL) x.fL)
 | _ => .ow (LEN x.fI) 8 (row GD (eI) x.fI)
theorem rC {LEN : {α : Type} -> List α -> Nat} {GD : {α : Type} -> [Inhabited α] -> List α -> Nat -> α} : ∀ (x : TC) (j : Nat), (oC LEN GD x j).ref = [] := by
 intro x j
 unfold oC
 split <;> rfl
theorem ln_oncCell {LEN : {α : Type} -> List α -> Nat} {GD : {α : Type} -> [Inhabited α] -> List α -> Nat -> α} : ∀ (x : TC) (j : Nat), (oC LEN GD x j).lentIn = eC LEN GD x j := by
 intro x j
 unfold oC eC
 split <;> rfl
theorem fl_oncCell {LEN : {α : Type} -> List α -> Nat} {GD : {α : Type} -> [Inhabited α] -> List α -> Nat -> α} : ∀ (x : TC) (j : Nat), (oC LEN GD x j).flat := by
 intro x j
 unfold oC
 split <;> first | trivial | (exact fun i _ j _ => val_v (vl_encShape _ _)) | (exact fun i _ j _ => val_v (vl_encLabel _ _)) | (exact fun i _ j _ => val_v (vl_encInstance _ _))
structure TL where
 fC : List TC
instance : Inhabited TL := ⟨⟨default⟩⟩
def encLibrary (LEN : {α : Type} -> List α -> Nat) (GD : {α : Type} -> [Inhabited α] -> List α -> Nat -> α) (x : TL) : Nat -> AC := fun j => match j with
 | _ => .bs (LEN x.fC) 4 (row GD (eC LEN GD) x.fC)
theorem pl_encLibrary {LEN : {α : Type} -> List α -> Nat} {GD : {α : Type} -> [Inhabited α] -> List α -> Nat -> α} : ∀ (x : TL) (j : Nat), plainC (encLibrary LEN GD x j) = true := by
 intro x j
 unfold encLibrary
 split <;> rfl
structure TE where
 fk_ : Int
 fc : Int
 fx : Int
 fN : ByteArray
 fs_ : TS
 fl_ : TB
 fi_ : TI
instance : Inhabited TE := ⟨⟨default, default, default, default, default, default, default⟩⟩
def eE (x : TE) : Nat -> AC := fun j => match j with
 | 0 => wi x.fk_
 | 1 => wi x.fc
 | 2 => wi x.fx
 | 3 => ws x.fN
 | 4 => wi x.fs_.fy
 | 5 => wi x.fs_.fb.fX0
 | 6 => wi x.fs_.fb.fY0
 | 7 => wi x.fs_.fb.fX1
 | 8 => wi x.fs_.fb.fY1
 | 9 => wi x.fl_.fy
 | 10 => wi x.fl_.fa.fX
 | 11 => wi x.fl_.fa.fY
 | 12 => ws x.fl_.fN
 | 13 => wi x.fi_.fc
 | 14 => wi x.fi_.fp.fo
 | 15 => wi x.fi_.fp.fX
 | 16 => wi x.fi_.fp.fY
 | 17 => wi x.fi_.fK
 | 18 => wi x.fi_.fR
 | 19 => wi x.fi_.fu
 | _ => wi x.fi_.fv
theorem pl_encEdit : ∀ (x : TE) (j : Nat), plainC (eE x j) = true := by
 intro x j
 unfold eE
 split <;> rfl
theorem vl_encEdit : ∀ (x : TE) (j : Nat), valC (eE x j) = true := by
 intro x j
 unfold eE
 split <;> rfl
abbrev cE (x : TE) : List AC := [wi x.fk_, wi x.fc, wi x.fx, ws x.fN, wi x.fs_.fy, wi x.fs_.fb.fX0, wi x.fs_.fb.fY0, wi x.fs_.fb.fX1, wi x.fs_.fb.fY1, wi x.fl_.fy, wi x.fl_.fa.fX, wi x.fl_.fa.fY, ws x.fl_.fN, wi x.fi_.fc, wi x.fi_.fp.fo, wi x.fi_.fp.fX, wi x.fi_.fp.fY, wi x.fi_.fK, wi x.fi_.fR, wi x.fi_.fu, wi x.fi_.fv]
set_option maxHeartbeats 4000000
/-- laws.szShapeS -/
def Fq105 (a0 : List TS) (a1 : Int) : Option (Int) :=
 br (std.lt (std.sub .i64 a1 (std.ofN (len a0))) 0)
 (some (-1))
 (some (std.sub .i64 a1 (std.ofN (len a0))))
theorem runq105 (a0 : List TS) (a1 : Int) (r : Int) (h : Fq105 a0 a1 = some r) : Fun Tryz.prog 183 [.c (.bs (len a0) 5 (row gd (eS) a0)), .c (wi a1)] [] (.c (wi r)) [] true := by
 refine Fun.of_wp (oneOf []) tok mixed Tryz.func183 (by kernel_rfl) rfl Tryz.ntmps183 rfl trivial (fun _ => ⟨trivial, tv⟩) ?_; unfold Fq105 at h; generalize hLEN : @len = LEN, hGD : @gd = GD, hA : std = A, hP : Tryz.prog = P at *; cbv; revert h; refine fk ?_ ?_ <;> intro h <;> cbv
 ·exact df
 exact df

/-- laws.szLabel -/
def Fq5 (a0 : TB) (a1 : Int) : Option (Int) :=
 br (std.lt (std.sub .i64 a1 (std.ofN (std.slen a0.fN))) 0)
 (some (-1))
 (some (std.sub .i64 a1 (std.ofN (std.slen a0.fN))))
theorem runq5 (a0 : TB) (a1 : Int) (r : Int) (h : Fq5 a0 a1 = some r) : Fun Tryz.prog 56 [.agg [wi a0.fy, wi a0.fa.fX, wi a0.fa.fY, ws a0.fN], .c (wi a1)] [] (.c (wi r)) [] true := by
 refine Fun.of_wp (oneOf []) tok mixed Tryz.func56 (by kernel_rfl) rfl Tryz.ntmps56 rfl trivial (fun _ => ⟨trivial, tv⟩) ?_; unfold Fq5 at h; generalize hLEN : @len = LEN, hGD : @gd = GD, hA : std = A, hP : Tryz.prog = P at *; cbv; revert h; refine fk ?_ ?_ <;> intro h <;> cbv
 ·exact df
 exact df

def Lq47_x3 (a0 : List TB) : (Int × Int) -> Option ((Int × Int) ⊕ ((Int) ⊕ (Int))) := fun x3 =>
 letO x3.1 fun v1 =>
 letO x3.2 fun v2 =>
 br (std.lt v2 (std.ofN (len a0)))
 (req (std.inR v2 (len a0)) <|
 (Fq5 (gd a0 (std.toN v2)) v1).bind fun y16 =>
 br (std.lt y16 0)
 (some (.inr (.inl (-1))))
 (some (.inl (y16, std.add .i64 v2 1))))
 (some (.inr (.inr v1)))
/-- laws.szLabelS -/
def Fq47 (a0 : List TB) (a1 : Int) : Option (Int) :=
 br (std.lt (std.sub .i64 a1 (std.ofN (len a0))) 0)
 (some (-1))
 ((whileP (σ := Int × Int) (ρ := (Int) ⊕ (Int)) (Lq47_x3 a0) (std.sub .i64 a1 (std.ofN (len a0)), 0)).bind fun y4 =>
 (match y4 with
 | .inl y4k0 => (
 letO y4k0 fun w20 =>
 some w20)
 | .inr y4m0 =>
 letO y4m0 fun y4k1 =>
 letO y4k1 fun w21 =>
 some w21))
theorem runq47 (a0 : List TB) (a1 : Int) (r : Int) (h : Fq47 a0 a1 = some r) : Fun Tryz.prog 184 [.c (.bs (len a0) 4 (row gd (eL) a0)), .c (wi a1)] [] (.c (wi r)) [] true := by
 refine Fun.of_wp (oneOf []) tok mixed Tryz.func184 (by kernel_rfl) rfl Tryz.ntmps184 rfl trivial (fun _ => ⟨trivial, tv⟩) ?_; unfold Fq47 at h; unfold Lq47_x3 at h; have hfq5 := @runq5; generalize hLEN : @len = LEN, hGD : @gd = GD, hA : std = A, hP : Tryz.prog = P at *; cbv; revert h; refine fk ?_ ?_ <;> intro h <;> cbv
 ·exact df
 revert h; refine lc (fun x => (sp 27 [(0, .c (.bs (LEN a0) 4 (row GD (eL) a0))), (1, .c (wi x.1)), (5, .c (wi x.2))] [])) (fun y e s => (match y with | .inl w => e = .ret /\ s.le (sp 27 [(4, .c (wi w))] []) | .inr w0 => (fun (w : Int) => e = .exit 0 /\ s.le (sp 27 [(1, .c (wi w))] [])) w0)) zb ?_ ?_
 ·rintro ⟨v1, v2⟩ z h K hK hY; replace h := oz (oz h); dsimp only at h; cbv; revert h; refine fk ?_ ?_ <;> intro h <;> cbv
  ·revert h; refine ra fun c15 h => ?_; revert h; refine rb fun y16 hy17 h => ?_; refine rc [] [] (hfq5 _ _ _ hy17) zf ?_; cbv; revert h; refine fk ?_ ?_ <;> intro h <;> cbv
   ·exact dy
   exact dm
  exact dy
 intro y4 h e13 s14 q12 hne; rcases y4 with y4k0 | y4m0
 ·replace h := h; obtain ⟨rfl, q12⟩ := q12; revert h; refine rz fun h => ?_; cbv; injection h with h; subst h; exact ⟨_, q12, lR _, zo, rfl⟩
 ·revert h; refine rz fun h => ?_; obtain ⟨rfl, q12⟩ := q12; revert h; refine rz fun h => ?_; cbv; refine ⟨_, q12, ?_⟩; cbv; exact df

/-- laws.szInstanceS -/
def Fq103 (a0 : List TI) (a1 : Int) : Option (Int) :=
 br (std.lt (std.sub .i64 a1 (std.ofN (len a0))) 0)
 (some (-1))
 (some (std.sub .i64 a1 (std.ofN (len a0))))
theorem runq103 (a0 : List TI) (a1 : Int) (r : Int) (h : Fq103 a0 a1 = some r) : Fun Tryz.prog 185 [.c (.bs (len a0) 8 (row gd (eI) a0)), .c (wi a1)] [] (.c (wi r)) [] true := by
 refine Fun.of_wp (oneOf []) tok mixed Tryz.func185 (by kernel_rfl) rfl Tryz.ntmps185 rfl trivial (fun _ => ⟨trivial, tv⟩) ?_; unfold Fq103 at h; generalize hLEN : @len = LEN, hGD : @gd = GD, hA : std = A, hP : Tryz.prog = P at *; cbv; revert h; refine fk ?_ ?_ <;> intro h <;> cbv
 ·exact df
 exact df

/-- laws.szCell -/
def Fq19 (a0 : TC) (a1 : Int) : Option (Int) :=
 br (std.lt (std.sub .i64 a1 (std.ofN (std.slen a0.fN))) 0)
 (some (-1))
 ((Fq105 a0.fS (std.sub .i64 a1 (std.ofN (std.slen a0.fN)))).bind fun y1 =>
 br (std.lt y1 0)
 (some (-1))
 ((Fq47 a0.fL y1).bind fun y3 =>
 br (std.lt y3 0)
 (some (-1))
 ((Fq103 a0.fI y3).bind fun y5 =>
 br (std.lt y5 0)
 (some (-1))
 (some y5))))
theorem runq19 (a0 : TC) (a1 : Int) (r : Int) (h : Fq19 a0 a1 = some r) : Fun Tryz.prog 104 [.agg [ws a0.fN, .bs (len a0.fS) 5 (row gd (eS) a0.fS), .bs (len a0.fL) 4 (row gd (eL) a0.fL), .bs (len a0.fI) 8 (row gd (eI) a0.fI)], .c (wi a1)] [] (.c (wi r)) [] true := by
 refine Fun.of_wp (oneOf []) tok mixed Tryz.func104 (by kernel_rfl) rfl Tryz.ntmps104 rfl trivial (fun _ => ⟨trivial, tv⟩) ?_; unfold Fq19 at h; have hfq103 := @runq103; have hfq47 := @runq47; have hfq105 := @runq105; generalize hLEN : @len = LEN, hGD : @gd = GD, hA : std = A, hP : Tryz.prog = P at *; cbv
 revert h; refine fk ?_ ?_ <;> intro h <;> cbv
 ·exact df
 revert h; refine rb fun y1 hy2 h => ?_; refine rc [] [] (hfq105 _ _ _ hy2) zf ?_; cbv; revert h; refine fk ?_ ?_ <;> intro h <;> cbv
 ·exact df
 revert h; refine rb fun y3 hy4 h => ?_; refine rc [] [] (hfq47 _ _ _ hy4) zf ?_; cbv; revert h; refine fk ?_ ?_ <;> intro h <;> cbv
 ·exact df
 revert h; refine rb fun y5 hy6 h => ?_; refine rc [] [] (hfq103 _ _ _ hy6) zf ?_; cbv; revert h; refine fk ?_ ?_ <;> intro h <;> cbv
 ·exact df
 exact df

def Lq54_x3 (a0 : List TC) : (Int × Int) -> Option ((Int × Int) ⊕ ((Int) ⊕ (Int))) := fun x3 =>
 letO x3.1 fun v1 =>
 letO x3.2 fun v2 =>
 br (std.lt v2 (std.ofN (len a0)))
 (req (std.inR v2 (len a0)) <|
 (Fq19 (gd a0 (std.toN v2)) v1).bind fun y16 =>
 br (std.lt y16 0)
 (some (.inr (.inl (-1))))
 (some (.inl (y16, std.add .i64 v2 1))))
 (some (.inr (.inr v1)))
/-- laws.szCellS -/
def Fq54 (a0 : List TC) (a1 : Int) : Option (Int) :=
 br (std.lt (std.sub .i64 a1 (std.ofN (len a0))) 0)
 (some (-1))
 ((whileP (σ := Int × Int) (ρ := (Int) ⊕ (Int)) (Lq54_x3 a0) (std.sub .i64 a1 (std.ofN (len a0)), 0)).bind fun y4 =>
 (match y4 with
 | .inl y4k0 => (
 letO y4k0 fun w20 =>
 some w20)
 | .inr y4m0 =>
 letO y4m0 fun y4k1 =>
 letO y4k1 fun w21 =>
 some w21))
theorem runq54 (a0 : List TC) (a1 : Int) (r : Int) (h : Fq54 a0 a1 = some r) : Fun Tryz.prog 55 [.c (.bs (len a0) 4 (row gd (eC len gd) a0)), .c (wi a1)] [] (.c (wi r)) [] true := by
 refine Fun.of_wp (oneOf []) tok mixed Tryz.func55 (by kernel_rfl) rfl Tryz.ntmps55 rfl trivial (fun _ => ⟨trivial, tv⟩) ?_; unfold Fq54 at h; unfold Lq54_x3 at h; have hfq19 := @runq19; generalize hLEN : @len = LEN, hGD : @gd = GD, hA : std = A, hP : Tryz.prog = P at *; cbv; revert h; refine fk ?_ ?_ <;> intro h <;> cbv
 ·exact df
 revert h; refine lc (fun x => (sp 27 [(0, .c (.bs (LEN a0) 4 (row GD (eC LEN GD) a0))), (1, .c (wi x.1)), (5, .c (wi x.2))] [])) (fun y e s => (match y with | .inl w => e = .ret /\ s.le (sp 27 [(4, .c (wi w))] []) | .inr w0 => (fun (w : Int) => e = .exit 0 /\ s.le (sp 27 [(1, .c (wi w))] [])) w0)) zb ?_ ?_
 ·rintro ⟨v1, v2⟩ z h K hK hY; replace h := oz (oz h); dsimp only at h; cbv; revert h; refine fk ?_ ?_ <;> intro h <;> cbv
  ·revert h; refine ra fun c15 h => ?_; revert h; refine rb fun y16 hy17 h => ?_; refine rc [] [] (hfq19 _ _ _ hy17) zf ?_; cbv; revert h; refine fk ?_ ?_ <;> intro h <;> cbv
   ·exact dy
   exact dm
  exact dy
 intro y4 h e13 s14 q12 hne; rcases y4 with y4k0 | y4m0
 ·replace h := h; obtain ⟨rfl, q12⟩ := q12; revert h; refine rz fun h => ?_; cbv; injection h with h; subst h; exact ⟨_, q12, lR _, zo, rfl⟩
 ·revert h; refine rz fun h => ?_; obtain ⟨rfl, q12⟩ := q12; revert h; refine rz fun h => ?_; cbv; refine ⟨_, q12, ?_⟩; cbv; exact df
set_option maxHeartbeats 4000000
/-- laws.szLibrary -/
def Fq85 (a0 : TL) (a1 : Int) : Option (Int) :=
 (Fq54 a0.fC a1).bind fun y1 =>
 br (std.lt y1 0)
 (some (-1))
 (some y1)
theorem runq85 (a0 : TL) (a1 : Int) (r : Int) (h : Fq85 a0 a1 = some r) : Fun Tryz.prog 14 [.agg [.bs (len a0.fC) 4 (row gd (eC len gd) a0.fC)], .c (wi a1)] [] (.c (wi r)) [] true := by
 refine Fun.of_wp (oneOf []) tok mixed Tryz.func14 (by kernel_rfl) rfl Tryz.ntmps14 rfl trivial (fun _ => ⟨trivial, tv⟩) ?_; unfold Fq85 at h; have hfq54 := @runq54; generalize hLEN : @len = LEN, hGD : @gd = GD, hA : std = A, hP : Tryz.prog = P at *; cbv; revert h; refine rb fun y1 hy2 h => ?_; refine rc [] [] (hfq54 _ _ _ hy2) zf ?_; cbv
 revert h; refine fk ?_ ?_ <;> intro h <;> cbv
 ·exact df
 exact df

/-- laws.szEdit -/
def Fq12 (a0 : TE) (a1 : Int) : Option (Int) :=
 br (std.lt (std.sub .i64 a1 (std.ofN (std.slen a0.fN))) 0)
 (some (-1))
 ((Fq5 a0.fl_ (std.sub .i64 a1 (std.ofN (std.slen a0.fN)))).bind fun y1 =>
 br (std.lt y1 0)
 (some (-1))
 (some y1))
theorem runq12 (a0 : TE) (a1 : Int) (r : Int) (h : Fq12 a0 a1 = some r) : Fun Tryz.prog 15 [.agg (cE a0), .c (wi a1)] [] (.c (wi r)) [] true := by
 refine Fun.of_wp (oneOf []) tok mixed Tryz.func15 (by kernel_rfl) rfl Tryz.ntmps15 rfl trivial (fun _ => ⟨trivial, tv⟩) ?_; unfold Fq12 at h; have hfq5 := @runq5; generalize hLEN : @len = LEN, hGD : @gd = GD, hA : std = A, hP : Tryz.prog = P at *; cbv; revert h; refine fk ?_ ?_ <;> intro h <;> cbv
 ·exact df
 revert h; refine rb fun y1 hy2 h => ?_; refine rc [] [] (hfq5 _ _ _ hy2) zf ?_; cbv; revert h; refine fk ?_ ?_ <;> intro h <;> cbv
 ·exact df
 exact df

def Lq44_x3 (a0 : List TE) : (Int × Int) -> Option ((Int × Int) ⊕ ((Int) ⊕ (Int))) := fun x3 =>
 letO x3.1 fun v1 =>
 letO x3.2 fun v2 =>
 br (std.lt v2 (std.ofN (len a0)))
 (req (std.inR v2 (len a0)) <|
 (Fq12 (gd a0 (std.toN v2)) v1).bind fun y16 =>
 br (std.lt y16 0)
 (some (.inr (.inl (-1))))
 (some (.inl (y16, std.add .i64 v2 1))))
 (some (.inr (.inr v1)))
/-- laws.szEditS -/
def Fq44 (a0 : List TE) (a1 : Int) : Option (Int) :=
 br (std.lt (std.sub .i64 a1 (std.ofN (len a0))) 0)
 (some (-1))
 ((whileP (σ := Int × Int) (ρ := (Int) ⊕ (Int)) (Lq44_x3 a0) (std.sub .i64 a1 (std.ofN (len a0)), 0)).bind fun y4 =>
 (match y4 with
 | .inl y4k0 => (
 letO y4k0 fun w20 =>
 some w20)
 | .inr y4m0 =>
 letO y4m0 fun y4k1 =>
 letO y4k1 fun w21 =>
 some w21))
theorem runq44 (a0 : List TE) (a1 : Int) (r : Int) (h : Fq44 a0 a1 = some r) : Fun Tryz.prog 23 [.c (.bs (len a0) 21 (row gd (eE) a0)), .c (wi a1)] [] (.c (wi r)) [] true := by
 refine Fun.of_wp (oneOf []) tok mixed Tryz.func23 (by kernel_rfl) rfl Tryz.ntmps23 rfl trivial (fun _ => ⟨trivial, tv⟩) ?_; unfold Fq44 at h; unfold Lq44_x3 at h; have hfq12 := @runq12; generalize hLEN : @len = LEN, hGD : @gd = GD, hA : std = A, hP : Tryz.prog = P at *; cbv; revert h; refine fk ?_ ?_ <;> intro h <;> cbv
 ·exact df
 revert h; refine lc (fun x => (sp 27 [(0, .c (.bs (LEN a0) 21 (row GD (eE) a0))), (1, .c (wi x.1)), (5, .c (wi x.2))] [])) (fun y e s => (match y with | .inl w => e = .ret /\ s.le (sp 27 [(4, .c (wi w))] []) | .inr w0 => (fun (w : Int) => e = .exit 0 /\ s.le (sp 27 [(1, .c (wi w))] [])) w0)) zb ?_ ?_
 ·rintro ⟨v1, v2⟩ z h K hK hY; replace h := oz (oz h); dsimp only at h; cbv; revert h; refine fk ?_ ?_ <;> intro h <;> cbv
  ·revert h; refine ra fun c15 h => ?_; revert h; refine rb fun y16 hy17 h => ?_; refine rc [] [] (hfq12 _ _ _ hy17) zf ?_; cbv; revert h; refine fk ?_ ?_ <;> intro h <;> cbv
   ·exact dy
   exact dm
  exact dy
 intro y4 h e13 s14 q12 hne; rcases y4 with y4k0 | y4m0
 ·replace h := h; obtain ⟨rfl, q12⟩ := q12; revert h; refine rz fun h => ?_; cbv; injection h with h; subst h; exact ⟨_, q12, lR _, zo, rfl⟩
 ·revert h; refine rz fun h => ?_; obtain ⟨rfl, q12⟩ := q12; revert h; refine rz fun h => ?_; cbv; refine ⟨_, q12, ?_⟩; cbv; exact df

/-- laws.toRect -/
def Fq128 (a0 : TRect) : Option (TRect) :=
 some a0
theorem runq128 (a0 : TRect) (r : TRect) (h : Fq128 a0 = some r) : Fun Tryz.prog 111 [.agg [wi a0.fX0, wi a0.fY0, wi a0.fX1, wi a0.fY1]] [] (.agg [wi r.fX0, wi r.fY0, wi r.fX1, wi r.fY1]) [] true := by
 refine Fun.of_wp (oneOf []) tok mixed Tryz.func111 (by kernel_rfl) rfl Tryz.ntmps111 rfl trivial (fun _ => ⟨(by simp [AV.flat, AV.flat1, AC.flat]), tv⟩) ?_; unfold Fq128 at h; generalize hLEN : @len = LEN, hGD : @gd = GD, hA : std = A, hP : Tryz.prog = P at *; cbv; exact df

/-- laws.toShape -/
def Fq6 (a0 : TS) : Option (TS) :=
 (Fq128 a0.fb).bind fun y1 =>
 some (TS.mk a0.fy y1)
theorem runq6 (a0 : TS) (r : TS) (h : Fq6 a0 = some r) : Fun Tryz.prog 61 [.agg [wi a0.fy, wi a0.fb.fX0, wi a0.fb.fY0, wi a0.fb.fX1, wi a0.fb.fY1]] [] (.agg [wi r.fy, wi r.fb.fX0, wi r.fb.fY0, wi r.fb.fX1, wi r.fb.fY1]) [] true := by
 refine Fun.of_wp (oneOf []) tok mixed Tryz.func61 (by kernel_rfl) rfl Tryz.ntmps61 rfl trivial (fun _ => ⟨(by simp [AV.flat, AV.flat1, AC.flat]), tv⟩) ?_; unfold Fq6 at h; have hfq128 := @runq128; generalize hLEN : @len = LEN, hGD : @gd = GD, hA : std = A, hP : Tryz.prog = P at *; cbv; revert h; refine rb fun y1 hy2 h => ?_
 refine rc [] [] (hfq128 _ _ hy2) zf ?_; cbv; exact df

def Lq46_x7 (a0 : List TS) (l1 : List TS) : (Int × (List TS)) -> Option ((Int × (List TS)) ⊕ (((List TS)))) := fun x7 =>
 letO x7.1 fun v5 =>
 letO x7.2 fun v6 =>
 br (std.lt v5 (std.ofN (len a0)))
 (req (std.inR v5 (len a0)) <|
 (Fq6 (gd a0 (std.toN v5))).bind fun y20 =>
 req (std.inR v5 (len l1)) <|
 req (len l1 = len v6) <|
 letO (List.set v6 (std.nadd 0 (std.toN v5)) y20) fun l23 =>
 some (.inl (std.add .i64 v5 1, l23)))
 (some (.inr v6))
/-- laws.toShapeS -/
def Fq46 (a0 : List TS) : Option (List TS) :=
 req (std.nneg (std.ofN (len a0))) <|
 req (std.room (std.toN (std.ofN (len a0))) 40) <|
 letO (List.replicate (std.toN (std.ofN (len a0))) (TS.mk 0 (TRect.mk 0 0 0 0))) fun l1 =>
 (whileP (σ := Int × (List TS)) (ρ := ((List TS))) (Lq46_x7 a0 l1) (0, l1)).bind fun y8 =>
 letO y8 fun y8k0 =>
 letO y8k0 fun w26 =>
 req (len l1 = len w26) <|
 some w26
theorem runq46 (a0 : List TS) (r : List TS) (h : Fq46 a0 = some r) : Fun Tryz.prog 191 [.c (.bs (len a0) 5 (row gd (eS) a0))] [] (.c (.os 64000 0 (len r))) [(64000, .arr .rw [] (len r) 5 (row gd (eS) r))] true := by
 refine Fun.of_wp (oneOf []) tok mixed Tryz.func191 (by kernel_rfl) rfl Tryz.ntmps191 rfl trivial (fun _ => ⟨trivial, ⟨fun i _ j _ => val_flat (vl_encShape _ _), tv⟩⟩) ?_; unfold Fq46 at h; unfold Lq46_x7 at h; have hfq6 := @runq6; generalize hLEN : @len = LEN, hGD : @gd = GD, hA : std = A, hP : Tryz.prog = P at *; cbv
 revert h; refine rq fun c3 => rq fun c4 => rl fun l1 hl1 h => ?_; have e2 : A.toN (A.ofN (LEN a0)) = LEN l1 := by subst hl1 hLEN hA; exact rep_len rfl
 refine And.intro (by first | exact ⟨c3, c4⟩ | exact ⟨rfl, c3, trivial, trivial, trivial, c4⟩ | (refine ⟨?_, ?_, ?_, ?_, ?_, ?_⟩ <;> first | exact c3 | exact c4 | trivial)) ?_; refine ⟨_, (co e2), _, row GD (eS) l1, e2, wkOf ?_, ?_⟩
 ·subst hGD hLEN; exact upd_repL hl1 zr
 cbv; revert h; refine ln (.exit 0) (fun x => (sp 23 [(0, .c (.bs (LEN a0) 5 (row GD (eS) a0))), (3, .c (.os 448 0 (LEN l1))), (4, .c (wi x.1))] [(448, .arr .rw [] (LEN l1) 5 (row GD (eS) x.2))])) (fun w => (sp 23 [(3, .c (.os 448 0 (LEN l1)))] [(448, .arr .rw [] (LEN l1) 5 (row GD (eS) w))])) zb ?_ ?_
 ·rintro ⟨v5, v6⟩ z h K hK hY; replace h := oz (oz h); dsimp only at h; cbv; revert h; refine fk ?_ ?_ <;> intro h <;> cbv
  ·revert h; refine ra fun c19 h => ?_; revert h; refine rb fun y20 hy21 h => ?_; refine rc [] [] (hfq6 _ _ hy21) zf ?_; cbv; revert h; refine ra fun c22 h => ?_; revert h; refine rq fun c24 => rl fun l23 hl23 h => ?_; refine ai c22 ?_; refine ⟨_, rfl, _, row GD (eS) l23, rfl, wkOf ?_, ?_⟩
   ·subst hGD hLEN hA; rw [c24] at c22; refine upd_set hl23 (ix c22) ?_ ?_
    ·intro b hb hh; match b, hb, hh with | 0, _, hh => exact rfl | 1, _, hh => exact rfl | 2, _, hh => exact rfl | 3, _, hh => exact rfl | 4, _, hh => exact rfl | (b_ + 5), h_, _ => omega
    ·intro b hb hh
     match b, hb, hh with | 0, _, hh => exact (hh (yd rfl)).elim | 1, _, hh => exact (hh (yd rfl)).elim | 2, _, hh => exact (hh (yd rfl)).elim | 3, _, hh => exact (hh (yd rfl)).elim | 4, _, hh => exact (hh (yd rfl)).elim | (b_ + 5), h_, _ => omega
   cbv; exact dm
  exact dx
 intro w26 h s q16; replace h := oz (oz h); cbv; refine ⟨_, q16, ?_⟩; cbv; revert h; refine rq fun c27 h => ?_; injection h with h; subst h; refine ⟨(sp 23 [(2, .c (.os 64000 0 (LEN w26)))] [(64000, .arr .rw [] (LEN w26) 5 (row GD (eS) w26))]), ?_, ?_⟩
 ·refine St.le_trans (le_ren 448 64000 (by decide) rfl) ?_; rw [c27]; exact zb
 ·exact ⟨lR _, ⟨oS, tv⟩, rfl⟩
set_option maxHeartbeats 4000000
/-- laws.toPoint -/
def Fq130 (a0 : TPoint) : Option (TPoint) :=
 some a0
theorem runq130 (a0 : TPoint) (r : TPoint) (h : Fq130 a0 = some r) : Fun Tryz.prog 112 [.agg [wi a0.fX, wi a0.fY]] [] (.agg [wi r.fX, wi r.fY]) [] true := by
 refine Fun.of_wp (oneOf []) tok mixed Tryz.func112 (by kernel_rfl) rfl Tryz.ntmps112 rfl trivial (fun _ => ⟨(by simp [AV.flat, AV.flat1, AC.flat]), tv⟩) ?_; unfold Fq130 at h; generalize hLEN : @len = LEN, hGD : @gd = GD, hA : std = A, hP : Tryz.prog = P at *; cbv; exact df

/-- laws.toLabel -/
def Fq11 (a0 : TB) : Option (TB) :=
 (Fq130 a0.fa).bind fun y1 =>
 some (TB.mk a0.fy y1 a0.fN)
theorem runq11 (a0 : TB) (r : TB) (h : Fq11 a0 = some r) : Fun Tryz.prog 62 [.agg [wi a0.fy, wi a0.fa.fX, wi a0.fa.fY, ws a0.fN]] [] (.agg [wi r.fy, wi r.fa.fX, wi r.fa.fY, ws r.fN]) [] true := by
 refine Fun.of_wp (oneOf []) tok mixed Tryz.func62 (by kernel_rfl) rfl Tryz.ntmps62 rfl trivial (fun _ => ⟨(by simp [AV.flat, AV.flat1, AC.flat]), tv⟩) ?_; unfold Fq11 at h; have hfq130 := @runq130; generalize hLEN : @len = LEN, hGD : @gd = GD, hA : std = A, hP : Tryz.prog = P at *; cbv; revert h; refine rb fun y1 hy2 h => ?_
 refine rc [] [] (hfq130 _ _ hy2) zf ?_; cbv; exact df

def Lq41_x7 (a0 : List TB) (l1 : List TB) : (Int × (List TB)) -> Option ((Int × (List TB)) ⊕ (((List TB)))) := fun x7 =>
 letO x7.1 fun v5 =>
 letO x7.2 fun v6 =>
 br (std.lt v5 (std.ofN (len a0)))
 (req (std.inR v5 (len a0)) <|
 (Fq11 (gd a0 (std.toN v5))).bind fun y20 =>
 req (std.inR v5 (len l1)) <|
 req (len l1 = len v6) <|
 letO (List.set v6 (std.nadd 0 (std.toN v5)) y20) fun l23 =>
 some (.inl (std.add .i64 v5 1, l23)))
 (some (.inr v6))
/-- laws.toLabelS -/
def Fq41 (a0 : List TB) : Option (List TB) :=
 req (std.nneg (std.ofN (len a0))) <|
 req (std.room (std.toN (std.ofN (len a0))) 40) <|
 letO (List.replicate (std.toN (std.ofN (len a0))) (TB.mk 0 (TPoint.mk 0 0) (ByteArray.mk #[]))) fun l1 =>
 (whileP (σ := Int × (List TB)) (ρ := ((List TB))) (Lq41_x7 a0 l1) (0, l1)).bind fun y8 =>
 letO y8 fun y8k0 =>
 letO y8k0 fun w26 =>
 req (len l1 = len w26) <|
 some w26
theorem runq41 (a0 : List TB) (r : List TB) (h : Fq41 a0 = some r) : Fun Tryz.prog 192 [.c (.bs (len a0) 4 (row gd (eL) a0))] [] (.c (.os 64000 0 (len r))) [(64000, .arr .rw [] (len r) 4 (row gd (eL) r))] true := by
 refine Fun.of_wp (oneOf []) tok mixed Tryz.func192 (by kernel_rfl) rfl Tryz.ntmps192 rfl trivial (fun _ => ⟨trivial, ⟨fun i _ j _ => val_flat (vl_encLabel _ _), tv⟩⟩) ?_; unfold Fq41 at h; unfold Lq41_x7 at h; have hfq11 := @runq11; generalize hLEN : @len = LEN, hGD : @gd = GD, hA : std = A, hP : Tryz.prog = P at *; cbv
 revert h; refine rq fun c3 => rq fun c4 => rl fun l1 hl1 h => ?_; have e2 : A.toN (A.ofN (LEN a0)) = LEN l1 := by subst hl1 hLEN hA; exact rep_len rfl
 refine And.intro (by first | exact ⟨c3, c4⟩ | exact ⟨rfl, c3, trivial, trivial, trivial, c4⟩ | (refine ⟨?_, ?_, ?_, ?_, ?_, ?_⟩ <;> first | exact c3 | exact c4 | trivial)) ?_; refine ⟨_, (co e2), _, row GD (eL) l1, e2, wkOf ?_, ?_⟩
 ·subst hGD hLEN; exact upd_repL hl1 zr
 cbv; revert h; refine ln (.exit 0) (fun x => (sp 23 [(0, .c (.bs (LEN a0) 4 (row GD (eL) a0))), (3, .c (.os 448 0 (LEN l1))), (4, .c (wi x.1))] [(448, .arr .rw [] (LEN l1) 4 (row GD (eL) x.2))])) (fun w => (sp 23 [(3, .c (.os 448 0 (LEN l1)))] [(448, .arr .rw [] (LEN l1) 4 (row GD (eL) w))])) zb ?_ ?_
 ·rintro ⟨v5, v6⟩ z h K hK hY; replace h := oz (oz h); dsimp only at h; cbv; revert h; refine fk ?_ ?_ <;> intro h <;> cbv
  ·revert h; refine ra fun c19 h => ?_; revert h; refine rb fun y20 hy21 h => ?_; refine rc [] [] (hfq11 _ _ hy21) zf ?_; cbv; revert h; refine ra fun c22 h => ?_; revert h; refine rq fun c24 => rl fun l23 hl23 h => ?_; refine ai c22 ?_; refine ⟨_, rfl, _, row GD (eL) l23, rfl, wkOf ?_, ?_⟩
   ·subst hGD hLEN hA; rw [c24] at c22; refine upd_set hl23 (ix c22) ?_ ?_
    ·intro b hb hh; match b, hb, hh with | 0, _, hh => exact rfl | 1, _, hh => exact rfl | 2, _, hh => exact rfl | 3, _, hh => exact rfl | (b_ + 4), h_, _ => omega
    ·intro b hb hh; match b, hb, hh with | 0, _, hh => exact (hh (yd rfl)).elim | 1, _, hh => exact (hh (yd rfl)).elim | 2, _, hh => exact (hh (yd rfl)).elim | 3, _, hh => exact (hh (yd rfl)).elim | (b_ + 4), h_, _ => omega
   cbv; exact dm
  exact dx
 intro w26 h s q16; replace h := oz (oz h); cbv; refine ⟨_, q16, ?_⟩; cbv; revert h; refine rq fun c27 h => ?_; injection h with h; subst h; refine ⟨(sp 23 [(2, .c (.os 64000 0 (LEN w26)))] [(64000, .arr .rw [] (LEN w26) 4 (row GD (eL) w26))]), ?_, ?_⟩
 ·refine St.le_trans (le_ren 448 64000 (by decide) rfl) ?_; rw [c27]; exact zb
 ·exact ⟨lR _, ⟨oS, tv⟩, rfl⟩

/-- laws.toTransform -/
def Fq129 (a0 : TM) : Option (TM) :=
 some a0
theorem runq129 (a0 : TM) (r : TM) (h : Fq129 a0 = some r) : Fun Tryz.prog 113 [.agg [wi a0.fo, wi a0.fX, wi a0.fY]] [] (.agg [wi r.fo, wi r.fX, wi r.fY]) [] true := by
 refine Fun.of_wp (oneOf []) tok mixed Tryz.func113 (by kernel_rfl) rfl Tryz.ntmps113 rfl trivial (fun _ => ⟨(by simp [AV.flat, AV.flat1, AC.flat]), tv⟩) ?_; unfold Fq129 at h; generalize hLEN : @len = LEN, hGD : @gd = GD, hA : std = A, hP : Tryz.prog = P at *; cbv; exact df

/-- laws.toInstance -/
def Fq7 (a0 : TI) : Option (TI) :=
 (Fq129 a0.fp).bind fun y1 =>
 some (TI.mk a0.fc y1 a0.fK a0.fR a0.fu a0.fv)
theorem runq7 (a0 : TI) (r : TI) (h : Fq7 a0 = some r) : Fun Tryz.prog 63 [.agg [wi a0.fc, wi a0.fp.fo, wi a0.fp.fX, wi a0.fp.fY, wi a0.fK, wi a0.fR, wi a0.fu, wi a0.fv]] [] (.agg [wi r.fc, wi r.fp.fo, wi r.fp.fX, wi r.fp.fY, wi r.fK, wi r.fR, wi r.fu, wi r.fv]) [] true := by
 refine Fun.of_wp (oneOf []) tok mixed Tryz.func63 (by kernel_rfl) rfl Tryz.ntmps63 rfl trivial (fun _ => ⟨(by simp [AV.flat, AV.flat1, AC.flat]), tv⟩) ?_; unfold Fq7 at h; have hfq129 := @runq129; generalize hLEN : @len = LEN, hGD : @gd = GD, hA : std = A, hP : Tryz.prog = P at *; cbv; revert h; refine rb fun y1 hy2 h => ?_
 refine rc [] [] (hfq129 _ _ hy2) zf ?_; cbv; exact df

def Lq38_x7 (a0 : List TI) (l1 : List TI) : (Int × (List TI)) -> Option ((Int × (List TI)) ⊕ (((List TI)))) := fun x7 =>
 letO x7.1 fun v5 =>
 letO x7.2 fun v6 =>
 br (std.lt v5 (std.ofN (len a0)))
 (req (std.inR v5 (len a0)) <|
 (Fq7 (gd a0 (std.toN v5))).bind fun y20 =>
 req (std.inR v5 (len l1)) <|
 req (len l1 = len v6) <|
 letO (List.set v6 (std.nadd 0 (std.toN v5)) y20) fun l23 =>
 some (.inl (std.add .i64 v5 1, l23)))
 (some (.inr v6))
/-- laws.toInstanceS -/
def Fq38 (a0 : List TI) : Option (List TI) :=
 req (std.nneg (std.ofN (len a0))) <|
 req (std.room (std.toN (std.ofN (len a0))) 64) <|
 letO (List.replicate (std.toN (std.ofN (len a0))) (TI.mk 0 (TM.mk 0 0 0) 0 0 0 0)) fun l1 =>
 (whileP (σ := Int × (List TI)) (ρ := ((List TI))) (Lq38_x7 a0 l1) (0, l1)).bind fun y8 =>
 letO y8 fun y8k0 =>
 letO y8k0 fun w26 =>
 req (len l1 = len w26) <|
 some w26
theorem runq38 (a0 : List TI) (r : List TI) (h : Fq38 a0 = some r) : Fun Tryz.prog 193 [.c (.bs (len a0) 8 (row gd (eI) a0))] [] (.c (.os 64000 0 (len r))) [(64000, .arr .rw [] (len r) 8 (row gd (eI) r))] true := by
 refine Fun.of_wp (oneOf []) tok mixed Tryz.func193 (by kernel_rfl) rfl Tryz.ntmps193 rfl trivial (fun _ => ⟨trivial, ⟨fun i _ j _ => val_flat (vl_encInstance _ _), tv⟩⟩) ?_; unfold Fq38 at h; unfold Lq38_x7 at h; have hfq7 := @runq7; generalize hLEN : @len = LEN, hGD : @gd = GD, hA : std = A, hP : Tryz.prog = P at *; cbv
 revert h; refine rq fun c3 => rq fun c4 => rl fun l1 hl1 h => ?_; have e2 : A.toN (A.ofN (LEN a0)) = LEN l1 := by subst hl1 hLEN hA; exact rep_len rfl
 refine And.intro (by first | exact ⟨c3, c4⟩ | exact ⟨rfl, c3, trivial, trivial, trivial, c4⟩ | (refine ⟨?_, ?_, ?_, ?_, ?_, ?_⟩ <;> first | exact c3 | exact c4 | trivial)) ?_; refine ⟨_, (co e2), _, row GD (eI) l1, e2, wkOf ?_, ?_⟩
 ·subst hGD hLEN; exact upd_repL hl1 zr
 cbv; revert h; refine ln (.exit 0) (fun x => (sp 23 [(0, .c (.bs (LEN a0) 8 (row GD (eI) a0))), (3, .c (.os 448 0 (LEN l1))), (4, .c (wi x.1))] [(448, .arr .rw [] (LEN l1) 8 (row GD (eI) x.2))])) (fun w => (sp 23 [(3, .c (.os 448 0 (LEN l1)))] [(448, .arr .rw [] (LEN l1) 8 (row GD (eI) w))])) zb ?_ ?_
 ·rintro ⟨v5, v6⟩ z h K hK hY; replace h := oz (oz h); dsimp only at h; cbv; revert h; refine fk ?_ ?_ <;> intro h <;> cbv
  ·revert h; refine ra fun c19 h => ?_; revert h; refine rb fun y20 hy21 h => ?_; refine rc [] [] (hfq7 _ _ hy21) zf ?_; cbv; revert h; refine ra fun c22 h => ?_; revert h; refine rq fun c24 => rl fun l23 hl23 h => ?_; refine ai c22 ?_; refine ⟨_, rfl, _, row GD (eI) l23, rfl, wkOf ?_, ?_⟩
   ·subst hGD hLEN hA; rw [c24] at c22; refine upd_set hl23 (ix c22) ?_ ?_
    ·intro b hb hh; match b, hb, hh with | 0, _, hh => exact rfl | 1, _, hh => exact rfl | 2, _, hh => exact rfl | 3, _, hh => exact rfl | 4, _, hh => exact rfl | 5, _, hh => exact rfl | 6, _, hh => exact rfl | 7, _, hh => exact rfl | (b_ + 8), h_, _ => omega
    ·intro b hb hh
     match b, hb, hh with | 0, _, hh => exact (hh (yd rfl)).elim | 1, _, hh => exact (hh (yd rfl)).elim | 2, _, hh => exact (hh (yd rfl)).elim | 3, _, hh => exact (hh (yd rfl)).elim | 4, _, hh => exact (hh (yd rfl)).elim | 5, _, hh => exact (hh (yd rfl)).elim | 6, _, hh => exact (hh (yd rfl)).elim | 7, _, hh => exact (hh (yd rfl)).elim | (b_ + 8), h_, _ => omega
   cbv; exact dm
  exact dx
 intro w26 h s q16; replace h := oz (oz h); cbv; refine ⟨_, q16, ?_⟩; cbv; revert h; refine rq fun c27 h => ?_; injection h with h; subst h; refine ⟨(sp 23 [(2, .c (.os 64000 0 (LEN w26)))] [(64000, .arr .rw [] (LEN w26) 8 (row GD (eI) w26))]), ?_, ?_⟩
 ·refine St.le_trans (le_ren 448 64000 (by decide) rfl) ?_; rw [c27]; exact zb
 ·exact ⟨lR _, ⟨oS, tv⟩, rfl⟩
set_option maxHeartbeats 4000000
/-- laws.toCell -/
def Fq13 (a0 : TC) : Option (TC) :=
 (Fq46 a0.fS).bind fun y1 =>
 (Fq41 a0.fL).bind fun y3 =>
 (Fq38 a0.fI).bind fun y5 =>
 some (TC.mk a0.fN y1 y3 y5)
theorem runq13 (a0 : TC) (r : TC) (h : Fq13 a0 = some r) : Fun Tryz.prog 110 [.agg [ws a0.fN, .bs (len a0.fS) 5 (row gd (eS) a0.fS), .bs (len a0.fL) 4 (row gd (eL) a0.fL), .bs (len a0.fI) 8 (row gd (eI) a0.fI)]] [] (.agg [ws r.fN, .os 64000 0 (len r.fS), .os 64002 0 (len r.fL), .os 64004 0 (len r.fI)]) [(64000, .arr .rw [] (len r.fS) 5 (row gd (eS) r.fS)), (64002, .arr .rw [] (len r.fL) 4 (row gd (eL) r.fL)), (64004, .arr .rw [] (len r.fI) 8 (row gd (eI) r.fI))] true := by
 refine Fun.of_wp (oneOf []) tok mixed Tryz.func110 (by kernel_rfl) rfl Tryz.ntmps110 rfl trivial (fun _ => ⟨(by simp [AV.flat, AV.flat1, AC.flat]), ⟨fun i _ j _ => val_flat (vl_encShape _ _), fun i _ j _ => val_flat (vl_encLabel _ _), fun i _ j _ => val_flat (vl_encInstance _ _), tv⟩⟩) ?_; unfold Fq13 at h; have hfq38 := @runq38
 have hfq41 := @runq41; have hfq46 := @runq46; generalize hLEN : @len = LEN, hGD : @gd = GD, hA : std = A, hP : Tryz.prog = P at *; cbv; revert h; refine rb fun y1 hy2 h => ?_; refine rc [] [(64000, 576)] (hfq46 _ _ hy2) zf ⟨_, rfl, _, _, rfl, fun _ _ _ _ => .refl _, ?_⟩; cbv; revert h; refine rb fun y3 hy4 h => ?_
 refine rc [] [(64000, 832)] (hfq41 _ _ hy4) zf ⟨_, rfl, _, _, rfl, fun _ _ _ _ => .refl _, ?_⟩; cbv; revert h; refine rb fun y5 hy6 h => ?_; refine rc [] [(64000, 1088)] (hfq38 _ _ hy6) zf ⟨_, rfl, _, _, rfl, fun _ _ _ _ => .refl _, ?_⟩; cbv; injection h with h; subst h
 refine ⟨(sp 20 [(2, .c (.ptr 128 0))] [(128, .var [ws a0.fN, .os 64000 0 (LEN y1), .os 64002 0 (LEN y3), .os 64004 0 (LEN y5)]), (64000, .arr .rw [] (LEN y1) 5 (row GD (eS) y1)), (64002, .arr .rw [] (LEN y3) 4 (row GD (eL) y3)), (64004, .arr .rw [] (LEN y5) 8 (row GD (eI) y5))]), ?_, ?_⟩
 ·refine St.le_trans (le_ren 576 64000 (by decide) rfl) ?_; refine St.le_trans (le_ren 832 64002 (by decide) rfl) ?_; refine St.le_trans (le_ren 1088 64004 (by decide) rfl) ?_; exact zb
 ·exact ⟨lR _, ⟨oS, oS, oS, tv⟩, rfl⟩

def Lq40_x14 (a0 : List TC) (w7 : List TC) : (Int × (List TC)) -> Option ((Int × (List TC)) ⊕ (((List TC)))) := fun x14 =>
 letO x14.1 fun v12 =>
 letO x14.2 fun v13 =>
 br (std.lt v12 (std.ofN (len a0)))
 (((
 req (std.inR v12 (len a0)) <|
 (Fq13 (gd a0 (std.toN v12))).bind fun y34 =>
 req (std.inR v12 (len w7)) <|
 req (len w7 = len v13) <|
 letO (List.set v13 (std.nadd 0 (std.toN v12)) y34) fun l37 =>
 some l37
 ) : Option ((List TC))).bind fun y26 =>
 letO y26 fun w32 =>
 some (.inl (std.add .i64 v12 1, w32)))
 (some (.inr v13))
/-- laws.toCellS -/
def Fq40 (a0 : List TC) : Option (List TC) :=
 ((
 req (std.nneg (std.ofN (len a0))) <|
 req (std.room (std.toN (std.ofN (len a0))) 88) <|
 letO (List.replicate (std.toN (std.ofN (len a0))) (TC.mk (ByteArray.mk #[]) ([] : List TS) ([] : List TB) ([] : List TI))) fun l8 =>
 some l8
 ) : Option ((List TC))).bind fun y1 =>
 letO y1 fun w7 =>
 (whileP (σ := Int × (List TC)) (ρ := ((List TC))) (Lq40_x14 a0 w7) (0, w7)).bind fun y15 =>
 letO y15 fun y15k0 =>
 letO y15k0 fun w40 =>
 req (len w7 = len w40) <|
 some w40
theorem runq40 (a0 : List TC) (r : List TC) (h : Fq40 a0 = some r) : Fun Tryz.prog 60 [.c (.bs (len a0) 4 (row gd (eC len gd) a0))] [] (.c (.os 64000 0 (len r))) [(64000, .arr .rw [] (len r) 4 (row gd (oC len gd) r))] true := by
 refine Fun.of_wp (oneOf [1, 5]) tok mixed Tryz.func60 (by kernel_rfl) rfl Tryz.ntmps60 rfl trivial (fun _ => ⟨trivial, ⟨fun i _ j _ => fl_oncCell _ _, tv⟩⟩) ?_; unfold Fq40 at h; unfold Lq40_x14 at h; have hfq13 := @runq13; generalize hLEN : @len = LEN, hGD : @gd = GD, hA : std = A, hP : Tryz.prog = P at *; cbv
 revert h; refine cu (fun y1 => (sp 23 [(0, .c (.bs (LEN a0) 4 (row GD (eC LEN GD) a0))), (3, .c (.os 448 0 (LEN y1)))] [(448, .arr .rw [] (LEN y1) 4 (row GD (oC LEN GD) y1))])) ?_ fun w7 => rz fun h => ?_
 ·intro y1 S hS h; cbv; revert h; refine rq fun c10 => rq fun c11 => rl fun l8 hl8 h => ?_; have e9 : A.toN (A.ofN (LEN a0)) = LEN l8 := by subst hl8 hLEN hA; exact rep_len rfl
  refine And.intro (by first | exact ⟨c10, c11⟩ | exact ⟨rfl, c10, trivial, trivial, trivial, c11⟩ | (refine ⟨?_, ?_, ?_, ?_, ?_, ?_⟩ <;> first | exact c10 | exact c11 | trivial)) ?_; refine ⟨_, (co e9), _, (fun _ j => ([ws (ByteArray.mk #[]), .v (.slice none 0 0), .v (.slice none 0 0), .v (.slice none 0 0)] : List AC).getD j .junk), e9, wkOf ?_, ?_⟩
  ·intro i hi j hj; match j, hj with | 0, _ => rfl | 1, _ => rfl | 2, _ => rfl | 3, _ => rfl | (j_ + 4), h_ => omega
  cbv; injection h with h; subst h; subst hS; show St.le _ _
  refine St.le_trans (le_nilG (get' := (fun _ j => ([ws (ByteArray.mk #[]), .ow (LEN ([] : List TS)) 5 (row GD (eS) ([] : List TS)), .ow (LEN ([] : List TB)) 4 (row GD (eL) ([] : List TB)), .ow (LEN ([] : List TI)) 8 (row GD (eI) ([] : List TI))] : List AC).getD j .junk)) 448 rfl ?_) ?_
  ·subst hLEN; intro i _ j hj; match j, hj with | 0, _ => exact (.inl rfl) | 1, _ => exact (.inr ⟨rfl, _, _, rfl⟩) | 2, _ => exact (.inr ⟨rfl, _, _, rfl⟩) | 3, _ => exact (.inr ⟨rfl, _, _, rfl⟩) | (j_ + 4), h_ => omega
  exact lsp rfl zl ⟨⟨fun hw => hw, fun c hc => (by cases hc), .inr (fun i _ j _ z hz => (noref (rC _ _) hz).elim), rfl, rfl, (by subst hGD hLEN hA; exact upd_repL hl8 (g := fun j => _) (by intro j hj; match j, hj with | 0, _ => rfl | 1, _ => rfl | 2, _ => rfl | 3, _ => rfl | (j_ + 4), h_ => omega))⟩, tv⟩ rfl
 cbv; revert h; refine ln (.exit 0) (fun x => (sp 23 [(0, .c (.bs (LEN a0) 4 (row GD (eC LEN GD) a0))), (3, .c (.os 448 0 (LEN w7))), (4, .c (wi x.1))] [(448, .arr .rw [] (LEN w7) 4 (row GD (oC LEN GD) x.2))])) (fun w => (sp 23 [(3, .c (.os 448 0 (LEN w7)))] [(448, .arr .rw [] (LEN w7) 4 (row GD (oC LEN GD) w))])) zb ?_ ?_
 ·rintro ⟨v12, v13⟩ z h K hK hY; replace h := oz (oz h); dsimp only at h; cbv; revert h; refine fk ?_ ?_ <;> intro h <;> cbv
  ·revert h; refine cu (fun y26 => (sp 23 [(0, .c (.bs (LEN a0) 4 (row GD (eC LEN GD) a0))), (3, .c (.os 448 0 (LEN w7))), (4, .c (wi v12))] [(448, .arr .rw [] (LEN w7) 4 (row GD (oC LEN GD) y26))])) ?_ fun w32 => rz fun h => ?_
   ·intro y26 S hS h; cbv; revert h; refine ra fun c33 h => ?_; revert h; refine rb fun y34 hy35 h => ?_; refine rc [] [(64000, 1280), (64002, 1282), (64004, 1284)] (hfq13 _ _ hy35) zf ⟨_, rfl, _, _, rfl, fun _ _ _ _ => .refl _, _, _, rfl, fun _ _ _ _ => .refl _, _, _, rfl, fun _ _ _ _ => .refl _, ?_⟩; cbv; revert h; refine ra fun c36 h => ?_; refine ai c36 ?_
    refine ⟨_, rfl, _, (pC (row GD (oC LEN GD) v13) (A.nadd 0 (A.toN v12)) [ws y34.fN, .os 1280 0 (LEN y34.fS), .os 1282 0 (LEN y34.fL), .os 1284 0 (LEN y34.fI)]), rfl, wkOf (patch_of zr), ?_⟩; cbv; revert h; refine rq fun c38 => rl fun l37 hl37 h => ?_; injection h with h; subst h; subst hS; show St.le _ _
    refine St.le_trans (le_foldP 448 1 1280 rfl rfl rfl (by decide) (by subst hA; exact ix c36) (by decide) rfl (fun _ _ => rC _ _)) ?_; refine St.le_trans (le_foldP 448 2 1282 rfl rfl rfl (by decide) (by subst hA; exact ix c36) (by decide) rfl (fun _ _ => rC _ _)) ?_
    refine St.le_trans (le_foldP 448 3 1284 rfl rfl rfl (by decide) (by subst hA; exact ix c36) (by decide) rfl (fun _ _ => rC _ _)) ?_
    exact lsp rfl zl ⟨⟨fun hw => hw, fun c hc => (by cases hc), .inr (fun i _ j _ z hz => (noref (rC _ _) hz).elim), rfl, rfl, (by subst hGD hLEN hA; exact patch_set hl37 (ix (by rw [<- c38]; exact c36)) (by intro j hj; match j, hj with | 0, _ => rfl | 1, _ => rfl | 2, _ => rfl | 3, _ => rfl | (j_ + 4), h_ => omega))⟩, tv⟩ rfl
   cbv; exact dm
  exact dx
 intro w40 h s q23; replace h := oz (oz h); cbv; refine ⟨_, q23, ?_⟩; cbv; revert h; refine rq fun c41 h => ?_; injection h with h; subst h; refine ⟨(sp 23 [(2, .c (.os 64000 0 (LEN w40)))] [(64000, .arr .rw [] (LEN w40) 4 (row GD (oC LEN GD) w40))]), ?_, ?_⟩
 ·refine St.le_trans (le_ren 448 64000 (by decide) rfl) ?_; rw [c41]; exact zb
 ·exact ⟨lR _, ⟨oS, tv⟩, rfl⟩

/-- laws.toLibrary -/
def Fq42 (a0 : TL) : Option (TL) :=
 (Fq40 a0.fC).bind fun y1 =>
 some (TL.mk y1)
theorem runq42 (a0 : TL) (r : TL) (h : Fq42 a0 = some r) : Fun Tryz.prog 17 [.agg [.bs (len a0.fC) 4 (row gd (eC len gd) a0.fC)]] [] (.agg [.os 64000 0 (len r.fC)]) [(64000, .arr .rw [] (len r.fC) 4 (row gd (oC len gd) r.fC))] true := by
 refine Fun.of_wp (oneOf []) tok mixed Tryz.func17 (by kernel_rfl) rfl Tryz.ntmps17 rfl trivial (fun _ => ⟨(by simp [AV.flat, AV.flat1, AC.flat]), ⟨fun i _ j _ => fl_oncCell _ _, tv⟩⟩) ?_; unfold Fq42 at h; have hfq40 := @runq40; generalize hLEN : @len = LEN, hGD : @gd = GD, hA : std = A, hP : Tryz.prog = P at *; cbv; revert h; refine rb fun y1 hy2 h => ?_
 refine rc [] [(64000, 384)] (hfq40 _ _ hy2) zf ⟨_, rfl, _, _, rfl, fun _ _ _ _ => .refl _, ?_⟩; cbv; injection h with h; subst h; refine ⟨(sp 9 [(2, .c (.ptr 128 0))] [(128, .var [.os 64000 0 (LEN y1)]), (64000, .arr .rw [] (LEN y1) 4 (row GD (oC LEN GD) y1))]), ?_, ?_⟩
 ·refine St.le_trans (le_ren 384 64000 (by decide) rfl) ?_; exact zb
 ·exact ⟨lR _, ⟨oS, tv⟩, rfl⟩

/-- laws.toEdit -/
def Fq4 (a0 : TE) : Option (TE) :=
 (Fq6 a0.fs_).bind fun y1 =>
 (Fq11 a0.fl_).bind fun y3 =>
 (Fq7 a0.fi_).bind fun y5 =>
 some (TE.mk a0.fk_ a0.fc a0.fx a0.fN y1 y3 y5)
theorem runq4 (a0 : TE) (r : TE) (h : Fq4 a0 = some r) : Fun Tryz.prog 18 [.agg (cE a0)] [] (.agg (cE r)) [] true := by
 refine Fun.of_wp (oneOf []) tok mixed Tryz.func18 (by kernel_rfl) rfl Tryz.ntmps18 rfl trivial (fun _ => ⟨(by simp [AV.flat, AV.flat1, AC.flat]), tv⟩) ?_; unfold Fq4 at h; have hfq7 := @runq7; have hfq11 := @runq11; have hfq6 := @runq6
 generalize hLEN : @len = LEN, hGD : @gd = GD, hA : std = A, hP : Tryz.prog = P at *; cbv; revert h; refine rb fun y1 hy2 h => ?_; refine rc [] [] (hfq6 _ _ hy2) zf ?_; cbv; revert h; refine rb fun y3 hy4 h => ?_; refine rc [] [] (hfq11 _ _ hy4) zf ?_; cbv; revert h; refine rb fun y5 hy6 h => ?_; refine rc [] [] (hfq7 _ _ hy6) zf ?_; cbv; exact df

def Lq27_x7 (a0 : List TE) (l1 : List TE) : (Int × (List TE)) -> Option ((Int × (List TE)) ⊕ (((List TE)))) := fun x7 =>
 letO x7.1 fun v5 =>
 letO x7.2 fun v6 =>
 br (std.lt v5 (std.ofN (len a0)))
 (req (std.inR v5 (len a0)) <|
 (Fq4 (gd a0 (std.toN v5))).bind fun y20 =>
 req (std.inR v5 (len l1)) <|
 req (len l1 = len v6) <|
 letO (List.set v6 (std.nadd 0 (std.toN v5)) y20) fun l23 =>
 some (.inl (std.add .i64 v5 1, l23)))
 (some (.inr v6))
/-- laws.toEditS -/
def Fq27 (a0 : List TE) : Option (List TE) :=
 req (std.nneg (std.ofN (len a0))) <|
 req (std.room (std.toN (std.ofN (len a0))) 184) <|
 letO (List.replicate (std.toN (std.ofN (len a0))) (TE.mk 0 0 0 (ByteArray.mk #[]) (TS.mk 0 (TRect.mk 0 0 0 0)) (TB.mk 0 (TPoint.mk 0 0) (ByteArray.mk #[])) (TI.mk 0 (TM.mk 0 0 0) 0 0 0 0))) fun l1 =>
 (whileP (σ := Int × (List TE)) (ρ := ((List TE))) (Lq27_x7 a0 l1) (0, l1)).bind fun y8 =>
 letO y8 fun y8k0 =>
 letO y8k0 fun w26 =>
 req (len l1 = len w26) <|
 some w26
theorem runq27 (a0 : List TE) (r : List TE) (h : Fq27 a0 = some r) : Fun Tryz.prog 25 [.c (.bs (len a0) 21 (row gd (eE) a0))] [] (.c (.os 64000 0 (len r))) [(64000, .arr .rw [] (len r) 21 (row gd (eE) r))] true := by
 refine Fun.of_wp (oneOf []) tok mixed Tryz.func25 (by kernel_rfl) rfl Tryz.ntmps25 rfl trivial (fun _ => ⟨trivial, ⟨fun i _ j _ => val_flat (vl_encEdit _ _), tv⟩⟩) ?_; unfold Fq27 at h; unfold Lq27_x7 at h; have hfq4 := @runq4; generalize hLEN : @len = LEN, hGD : @gd = GD, hA : std = A, hP : Tryz.prog = P at *; cbv
 revert h; refine rq fun c3 => rq fun c4 => rl fun l1 hl1 h => ?_; have e2 : A.toN (A.ofN (LEN a0)) = LEN l1 := by subst hl1 hLEN hA; exact rep_len rfl
 refine And.intro (by first | exact ⟨c3, c4⟩ | exact ⟨rfl, c3, trivial, trivial, trivial, c4⟩ | (refine ⟨?_, ?_, ?_, ?_, ?_, ?_⟩ <;> first | exact c3 | exact c4 | trivial)) ?_; refine ⟨_, (co e2), _, row GD (eE) l1, e2, wkOf ?_, ?_⟩
 ·subst hGD hLEN; exact upd_repL hl1 zr
 cbv; revert h; refine ln (.exit 0) (fun x => (sp 23 [(0, .c (.bs (LEN a0) 21 (row GD (eE) a0))), (3, .c (.os 448 0 (LEN l1))), (4, .c (wi x.1))] [(448, .arr .rw [] (LEN l1) 21 (row GD (eE) x.2))])) (fun w => (sp 23 [(3, .c (.os 448 0 (LEN l1)))] [(448, .arr .rw [] (LEN l1) 21 (row GD (eE) w))])) zb ?_ ?_
 ·rintro ⟨v5, v6⟩ z h K hK hY; replace h := oz (oz h); dsimp only at h; cbv; revert h; refine fk ?_ ?_ <;> intro h <;> cbv
  ·revert h; refine ra fun c19 h => ?_; revert h; refine rb fun y20 hy21 h => ?_; refine rc [] [] (hfq4 _ _ hy21) zf ?_; cbv; revert h; refine ra fun c22 h => ?_; revert h; refine rq fun c24 => rl fun l23 hl23 h => ?_; refine ai c22 ?_; refine ⟨_, rfl, _, row GD (eE) l23, rfl, wkOf ?_, ?_⟩
   ·subst hGD hLEN hA; rw [c24] at c22; refine upd_set hl23 (ix c22) ?_ ?_
    ·intro b hb hh
     match b, hb, hh with | 0, _, hh => exact rfl | 1, _, hh => exact rfl | 2, _, hh => exact rfl | 3, _, hh => exact rfl | 4, _, hh => exact rfl | 5, _, hh => exact rfl | 6, _, hh => exact rfl | 7, _, hh => exact rfl | 8, _, hh => exact rfl | 9, _, hh => exact rfl | 10, _, hh => exact rfl | 11, _, hh => exact rfl | 12, _, hh => exact rfl | 13, _, hh => exact rfl | 14, _, hh => exact rfl | 15, _, hh => exact rfl | 16, _, hh => exact rfl | 17, _, hh => exact rfl | 18, _, hh => exact rfl | 19, _, hh => exact rfl | 20, _, hh => exact rfl | (b_ + 21), h_, _ => omega
    ·intro b hb hh
     match b, hb, hh with | 0, _, hh => exact (hh (yd rfl)).elim | 1, _, hh => exact (hh (yd rfl)).elim | 2, _, hh => exact (hh (yd rfl)).elim | 3, _, hh => exact (hh (yd rfl)).elim | 4, _, hh => exact (hh (yd rfl)).elim | 5, _, hh => exact (hh (yd rfl)).elim | 6, _, hh => exact (hh (yd rfl)).elim | 7, _, hh => exact (hh (yd rfl)).elim | 8, _, hh => exact (hh (yd rfl)).elim | 9, _, hh => exact (hh (yd rfl)).elim | 10, _, hh => exact (hh (yd rfl)).elim | 11, _, hh => exact (hh (yd rfl)).elim | 12, _, hh => exact (hh (yd rfl)).elim | 13, _, hh => exact (hh (yd rfl)).elim | 14, _, hh => exact (hh (yd rfl)).elim | 15, _, hh => exact (hh (yd rfl)).elim | 16, _, hh => exact (hh (yd rfl)).elim | 17, _, hh => exact (hh (yd rfl)).elim | 18, _, hh => exact (hh (yd rfl)).elim | 19, _, hh => exact (hh (yd rfl)).elim | 20, _, hh => exact (hh (yd rfl)).elim | (b_ + 21), h_, _ => omega
   cbv; exact dm
  exact dx
 intro w26 h s q16; replace h := oz (oz h); cbv; refine ⟨_, q16, ?_⟩; cbv; revert h; refine rq fun c27 h => ?_; injection h with h; subst h; refine ⟨(sp 23 [(2, .c (.os 64000 0 (LEN w26)))] [(64000, .arr .rw [] (LEN w26) 21 (row GD (eE) w26))]), ?_, ?_⟩
 ·refine St.le_trans (le_ren 448 64000 (by decide) rfl) ?_; rw [c27]; exact zb
 ·exact ⟨lR _, ⟨oS, tv⟩, rfl⟩

def Lq25_x2 (a0 : ByteArray) : (Int) -> Option ((Int) ⊕ ((Unit) ⊕ (Unit))) := fun x2 =>
 letO x2 fun v1 =>
 br (std.lt v1 (std.ofN (std.slen a0)))
 (((
 req (std.inR v1 (std.slen a0)) <|
 br (std.le 97 (std.sat a0 (std.toN v1)))
 (req (std.inR v1 (std.slen a0)) <|
 br (std.le (std.sat a0 (std.toN v1)) 122)
 (some false)
 (req (std.inR v1 (std.slen a0)) <|
 br (std.le 48 (std.sat a0 (std.toN v1)))
 (req (std.inR v1 (std.slen a0)) <|
 some (!(std.le (std.sat a0 (std.toN v1)) 57)))
 (some true)))
 (req (std.inR v1 (std.slen a0)) <|
 br (std.le 48 (std.sat a0 (std.toN v1)))
 (req (std.inR v1 (std.slen a0)) <|
 some (!(std.le (std.sat a0 (std.toN v1)) 57)))
 (some true))
 ) : Option (Bool)).bind fun y14 =>
 letO y14 fun w20 =>
 br w20
 (some (.inr (.inl ())))
 (some (.inl (std.add .i64 v1 1))))
 (some (.inr (.inr ())))
/-- spec.IsName -/
def Fq25 (a0 : ByteArray) : Option (Bool) :=
 (whileP (σ := Int) (ρ := (Unit) ⊕ (Unit)) (Lq25_x2 a0) 0).bind fun y3 =>
 (match y3 with
 | .inl y3k0 => (
 some false)
 | .inr y3m0 =>
 ((
 br (std.le 1 (std.ofN (std.slen a0)))
 (some (std.le (std.ofN (std.slen a0)) 8))
 (some false)
 ) : Option (Bool)).bind fun y33 =>
 letO y33 fun w39 =>
 some w39)
theorem runq25 (a0 : ByteArray) (r : Bool) (h : Fq25 a0 = some r) : Fun Tryz.prog 173 [.c (ws a0)] [] (.c (.v (.bool r))) [] true := by
 refine Fun.of_wp (oneOf [4, 6]) tok mixed Tryz.func173 (by kernel_rfl) rfl Tryz.ntmps173 rfl trivial (fun _ => ⟨trivial, tv⟩) ?_; unfold Fq25 at h; unfold Lq25_x2 at h; generalize hLEN : @len = LEN, hGD : @gd = GD, hA : std = A, hP : Tryz.prog = P at *; cbv
 revert h; refine lc (fun x => (sp 41 [(0, .c (ws a0)), (3, .c (wi x))] [])) (fun y e s => (match y with | .inl w => e = .ret /\ s.le (sp 41 [(2, .c (.v (.bool false)))] []) | .inr w0 => (fun (w : Unit) => e = .exit 0 /\ s.le (sp 41 [(0, .c (ws a0))] [])) w0)) zb ?_ ?_
 ·intro v1 z h K hK hY; replace h := oz h; cbv; revert h; refine fk ?_ ?_ <;> intro h <;> cbv
  ·revert h; refine cu (fun y14 => (sp 41 [(0, .c (ws a0)), (3, .c (wi v1)), (32, .c (.v (.bool y14)))] [])) (fun y14 S hS h => rg) fun w20 => rz fun h => ?_; cbv; revert h; refine fk ?_ ?_ <;> intro h <;> cbv
   ·exact dy
   exact dm
  exact dy
 intro y3 h e12 s13 q11 hne; rcases y3 with y3k0 | y3m0
 ·replace h := h; obtain ⟨rfl, q11⟩ := q11; cbv; injection h with h; subst h; exact ⟨_, q11, lR _, zo, rfl⟩
 ·obtain ⟨rfl, q11⟩ := q11; cbv; refine ⟨_, q11, ?_⟩; cbv; revert h; refine cu (fun y33 => (sp 41 [(2, .c (.v (.bool y33)))] [])) (fun y33 S hS h => rg) fun w39 => rz fun h => ?_; cbv; exact df
set_option maxHeartbeats 4000000
/-- spec.l09In -/
def Fq0 (a0 : Int) (a1 : Int) (a2 : Int) : Option (Bool) :=
 ((
 br (std.le a1 a0)
 (some (std.le a0 a2))
 (some false)
 ) : Option (Bool)).bind fun y1 =>
 letO y1 fun w7 =>
 some w7
theorem runq0 (a0 : Int) (a1 : Int) (a2 : Int) (r : Bool) (h : Fq0 a0 a1 a2 = some r) : Fun Tryz.prog 134 [.c (wi a0), .c (wi a1), .c (wi a2)] [] (.c (.v (.bool r))) [] true := by
 refine Fun.of_wp (oneOf [1]) tok mixed Tryz.func134 (by kernel_rfl) rfl Tryz.ntmps134 rfl trivial (fun _ => ⟨trivial, tv⟩) ?_; unfold Fq0 at h; generalize hLEN : @len = LEN, hGD : @gd = GD, hA : std = A, hP : Tryz.prog = P at *; cbv; revert h; refine cu (fun y1 => (sp 15 [(6, .c (.v (.bool y1)))] [])) (fun y1 S hS h => rg) fun w7 => rz fun h => ?_; cbv; exact df

/-- spec.l09Layer -/
def Fq64 (a0 : Int) : Option (Bool) :=
 (Fq0 a0 0 7).bind fun y1 =>
 some y1
theorem runq64 (a0 : Int) (r : Bool) (h : Fq64 a0 = some r) : Fun Tryz.prog 240 [.c (wi a0)] [] (.c (.v (.bool r))) [] true := by
 refine Fun.of_wp (oneOf []) tok mixed Tryz.func240 (by kernel_rfl) rfl Tryz.ntmps240 rfl trivial (fun _ => ⟨trivial, tv⟩) ?_; unfold Fq64 at h; have hfq0 := @runq0; generalize hLEN : @len = LEN, hGD : @gd = GD, hA : std = A, hP : Tryz.prog = P at *; cbv; revert h; refine rb fun y1 hy2 h => ?_; refine rc [] [] (hfq0 _ _ _ _ hy2) zf ?_; cbv; exact df

/-- spec.l09Rect -/
def Fq100 (a0 : TRect) : Option (Bool) :=
 ((
 br (std.le (-40) a0.fX0)
 (br (std.lt a0.fX0 a0.fX1)
 (br (std.le a0.fX1 40)
 (br (std.le (-40) a0.fY0)
 (br (std.lt a0.fY0 a0.fY1)
 (some (std.le a0.fY1 40))
 (some false))
 (some false))
 (some false))
 (some false))
 (some false)
 ) : Option (Bool)).bind fun y1 =>
 letO y1 fun w7 =>
 some w7
theorem runq100 (a0 : TRect) (r : Bool) (h : Fq100 a0 = some r) : Fun Tryz.prog 241 [.agg [wi a0.fX0, wi a0.fY0, wi a0.fX1, wi a0.fY1]] [] (.c (.v (.bool r))) [] true := by
 refine Fun.of_wp (oneOf [1]) tok mixed Tryz.func241 (by kernel_rfl) rfl Tryz.ntmps241 rfl trivial (fun _ => ⟨trivial, tv⟩) ?_; unfold Fq100 at h; generalize hLEN : @len = LEN, hGD : @gd = GD, hA : std = A, hP : Tryz.prog = P at *; cbv; revert h; refine cu (fun y1 => (sp 35 [(2, .c (.v (.bool y1)))] [])) (fun y1 S hS h => rg) fun w7 => rz fun h => ?_; cbv; exact df

/-- spec.l09Shape -/
def Fq73 (a0 : TS) : Option (Bool) :=
 ((
 (Fq64 a0.fy).bind fun y8 =>
 br y8
 ((Fq100 a0.fb).bind fun y10 =>
 some y10)
 (some false)
 ) : Option (Bool)).bind fun y1 =>
 letO y1 fun w7 =>
 some w7
theorem runq73 (a0 : TS) (r : Bool) (h : Fq73 a0 = some r) : Fun Tryz.prog 174 [.agg [wi a0.fy, wi a0.fb.fX0, wi a0.fb.fY0, wi a0.fb.fX1, wi a0.fb.fY1]] [] (.c (.v (.bool r))) [] true := by
 refine Fun.of_wp (oneOf [1]) tok mixed Tryz.func174 (by kernel_rfl) rfl Tryz.ntmps174 rfl trivial (fun _ => ⟨trivial, tv⟩) ?_; unfold Fq73 at h; have hfq64 := @runq64; have hfq100 := @runq100; generalize hLEN : @len = LEN, hGD : @gd = GD, hA : std = A, hP : Tryz.prog = P at *; cbv
 revert h; refine cu (fun y1 => (sp 11 [(2, .c (.v (.bool y1)))] [])) ?_ fun w7 => rz fun h => ?_
 ·intro y1 S hS h; cbv; revert h; refine rb fun y8 hy9 h => ?_; refine rc [] [] (hfq64 _ _ hy9) zf ?_; cbv; revert h; refine fk ?_ ?_ <;> intro h <;> cbv
  ·revert h; refine rb fun y10 hy11 h => ?_; refine rc [] [] (hfq100 _ _ hy11) zf ?_; cbv; exact dn
  exact dn
 cbv; exact df

/-- spec.l09Unit -/
def Fq90 (a0 : TPoint) : Option (Bool) :=
 ((
 (Fq0 a0.fX (-40) 39).bind fun y8 =>
 br y8
 ((Fq0 a0.fY (-40) 39).bind fun y10 =>
 some y10)
 (some false)
 ) : Option (Bool)).bind fun y1 =>
 letO y1 fun w7 =>
 some w7
theorem runq90 (a0 : TPoint) (r : Bool) (h : Fq90 a0 = some r) : Fun Tryz.prog 242 [.agg [wi a0.fX, wi a0.fY]] [] (.c (.v (.bool r))) [] true := by
 refine Fun.of_wp (oneOf [1]) tok mixed Tryz.func242 (by kernel_rfl) rfl Tryz.ntmps242 rfl trivial (fun _ => ⟨trivial, tv⟩) ?_; unfold Fq90 at h; have hfq0 := @runq0; generalize hLEN : @len = LEN, hGD : @gd = GD, hA : std = A, hP : Tryz.prog = P at *; cbv; revert h; refine cu (fun y1 => (sp 11 [(2, .c (.v (.bool y1)))] [])) ?_ fun w7 => rz fun h => ?_
 ·intro y1 S hS h; cbv; revert h; refine rb fun y8 hy9 h => ?_; refine rc [] [] (hfq0 _ _ _ _ hy9) zf ?_; cbv; revert h; refine fk ?_ ?_ <;> intro h <;> cbv
  ·revert h; refine rb fun y10 hy11 h => ?_; refine rc [] [] (hfq0 _ _ _ _ hy11) zf ?_; cbv; exact dn
  exact dn
 cbv; exact df

/-- spec.l09Label -/
def Fq70 (a0 : TB) : Option (Bool) :=
 ((
 (Fq64 a0.fy).bind fun y8 =>
 br y8
 ((Fq90 a0.fa).bind fun y10 =>
 br y10
 ((Fq25 a0.fN).bind fun y12 =>
 some y12)
 (some false))
 (some false)
 ) : Option (Bool)).bind fun y1 =>
 letO y1 fun w7 =>
 some w7
theorem runq70 (a0 : TB) (r : Bool) (h : Fq70 a0 = some r) : Fun Tryz.prog 175 [.agg [wi a0.fy, wi a0.fa.fX, wi a0.fa.fY, ws a0.fN]] [] (.c (.v (.bool r))) [] true := by
 refine Fun.of_wp (oneOf [1]) tok mixed Tryz.func175 (by kernel_rfl) rfl Tryz.ntmps175 rfl trivial (fun _ => ⟨trivial, tv⟩) ?_; unfold Fq70 at h; have hfq25 := @runq25; have hfq64 := @runq64; have hfq90 := @runq90; generalize hLEN : @len = LEN, hGD : @gd = GD, hA : std = A, hP : Tryz.prog = P at *; cbv
 revert h; refine cu (fun y1 => (sp 16 [(2, .c (.v (.bool y1)))] [])) ?_ fun w7 => rz fun h => ?_
 ·intro y1 S hS h; cbv; revert h; refine rb fun y8 hy9 h => ?_; refine rc [] [] (hfq64 _ _ hy9) zf ?_; cbv; revert h; refine fk ?_ ?_ <;> intro h <;> cbv
  ·revert h; refine rb fun y10 hy11 h => ?_; refine rc [] [] (hfq90 _ _ hy11) zf ?_; cbv; revert h; refine fk ?_ ?_ <;> intro h <;> cbv
   ·revert h; refine rb fun y12 hy13 h => ?_; refine rc [] [] (hfq25 _ _ hy13) zf ?_; cbv; exact dn
   exact dn
  exact dn
 cbv; exact df
set_option maxHeartbeats 4000000
/-- spec.l09Transform -/
def Fq111 (a0 : TM) : Option (Bool) :=
 ((
 (Fq0 a0.fo 0 7).bind fun y8 =>
 br y8
 ((Fq0 a0.fX (-80) 80).bind fun y10 =>
 br y10
 ((Fq0 a0.fY (-80) 80).bind fun y12 =>
 some y12)
 (some false))
 (some false)
 ) : Option (Bool)).bind fun y1 =>
 letO y1 fun w7 =>
 some w7
theorem runq111 (a0 : TM) (r : Bool) (h : Fq111 a0 = some r) : Fun Tryz.prog 243 [.agg [wi a0.fo, wi a0.fX, wi a0.fY]] [] (.c (.v (.bool r))) [] true := by
 refine Fun.of_wp (oneOf [1]) tok mixed Tryz.func243 (by kernel_rfl) rfl Tryz.ntmps243 rfl trivial (fun _ => ⟨trivial, tv⟩) ?_; unfold Fq111 at h; have hfq0 := @runq0; generalize hLEN : @len = LEN, hGD : @gd = GD, hA : std = A, hP : Tryz.prog = P at *; cbv; revert h; refine cu (fun y1 => (sp 16 [(2, .c (.v (.bool y1)))] [])) ?_ fun w7 => rz fun h => ?_
 ·intro y1 S hS h; cbv; revert h; refine rb fun y8 hy9 h => ?_; refine rc [] [] (hfq0 _ _ _ _ hy9) zf ?_; cbv; revert h; refine fk ?_ ?_ <;> intro h <;> cbv
  ·revert h; refine rb fun y10 hy11 h => ?_; refine rc [] [] (hfq0 _ _ _ _ hy11) zf ?_; cbv; revert h; refine fk ?_ ?_ <;> intro h <;> cbv
   ·revert h; refine rb fun y12 hy13 h => ?_; refine rc [] [] (hfq0 _ _ _ _ hy13) zf ?_; cbv; exact dn
   exact dn
  exact dn
 cbv; exact df

/-- spec.l09Instance -/
def Fq75 (a0 : TI) (a1 : Int) : Option (Bool) :=
 ((
 (Fq0 a0.fc 0 (std.sub .i64 a1 1)).bind fun y8 =>
 br (!(y8))
 (some true)
 ((Fq111 a0.fp).bind fun y10 =>
 br (!(y10))
 (some true)
 ((Fq0 a0.fK 1 4).bind fun y12 =>
 br (!(y12))
 (some true)
 ((Fq0 a0.fR 1 4).bind fun y14 =>
 some (!(y14)))))
 ) : Option (Bool)).bind fun y1 =>
 letO y1 fun w7 =>
 br w7
 (some false)
 (((
 (Fq0 a0.fu (-80) 80).bind fun y26 =>
 br (!(y26))
 (some true)
 ((Fq0 a0.fv (-80) 80).bind fun y28 =>
 some (!(y28)))
 ) : Option (Bool)).bind fun y19 =>
 letO y19 fun w25 =>
 br w25
 (some false)
 (((
 br (std.lt 1 a0.fK)
 (br (std.lt 1 a0.fR)
 (some true)
 (some (std.eq a0.fv 0)))
 (br (std.eq a0.fu 0)
 (br (std.lt 1 a0.fR)
 (some true)
 (some (std.eq a0.fv 0)))
 (some false))
 ) : Option (Bool)).bind fun y31 =>
 letO y31 fun w37 =>
 some w37))
theorem runq75 (a0 : TI) (a1 : Int) (r : Bool) (h : Fq75 a0 a1 = some r) : Fun Tryz.prog 176 [.agg [wi a0.fc, wi a0.fp.fo, wi a0.fp.fX, wi a0.fp.fY, wi a0.fK, wi a0.fR, wi a0.fu, wi a0.fv], .c (wi a1)] [] (.c (.v (.bool r))) [] true := by
 refine Fun.of_wp (oneOf [1, 3, 5]) tok mixed Tryz.func176 (by kernel_rfl) rfl Tryz.ntmps176 rfl trivial (fun _ => ⟨trivial, tv⟩) ?_; unfold Fq75 at h; have hfq0 := @runq0; have hfq111 := @runq111; generalize hLEN : @len = LEN, hGD : @gd = GD, hA : std = A, hP : Tryz.prog = P at *; cbv
 revert h; refine cu (fun y1 => (sp 57 [(2, .c (.ptr 128 0)), (28, .c (.v (.bool y1)))] [(128, .var [wi a0.fc, wi a0.fp.fo, wi a0.fp.fX, wi a0.fp.fY, wi a0.fK, wi a0.fR, wi a0.fu, wi a0.fv])])) ?_ fun w7 => rz fun h => ?_
 ·intro y1 S hS h; cbv; revert h; refine rb fun y8 hy9 h => ?_; refine rc [] [] (hfq0 _ _ _ _ hy9) zf ?_; cbv; revert h; refine fk ?_ ?_ <;> intro h <;> cbv
  ·exact dn
  revert h; refine rb fun y10 hy11 h => ?_; refine rc [] [] (hfq111 _ _ hy11) zf ?_; cbv; revert h; refine fk ?_ ?_ <;> intro h <;> cbv
  ·exact dn
  revert h; refine rb fun y12 hy13 h => ?_; refine rc [] [] (hfq0 _ _ _ _ hy13) zf ?_; cbv; revert h; refine fk ?_ ?_ <;> intro h <;> cbv
  ·exact dn
  revert h; refine rb fun y14 hy15 h => ?_; refine rc [] [] (hfq0 _ _ _ _ hy15) zf ?_; cbv; exact dn
 cbv; revert h; refine fk ?_ ?_ <;> intro h <;> cbv
 ·exact df
 revert h; refine cu (fun y19 => (sp 57 [(2, .c (.ptr 128 0)), (38, .c (.v (.bool y19)))] [(128, .var [wi a0.fc, wi a0.fp.fo, wi a0.fp.fX, wi a0.fp.fY, wi a0.fK, wi a0.fR, wi a0.fu, wi a0.fv])])) ?_ fun w25 => rz fun h => ?_
 ·intro y19 S hS h; cbv; revert h; refine rb fun y26 hy27 h => ?_; refine rc [] [] (hfq0 _ _ _ _ hy27) zf ?_; cbv; revert h; refine fk ?_ ?_ <;> intro h <;> cbv
  ·exact dn
  revert h; refine rb fun y28 hy29 h => ?_; refine rc [] [] (hfq0 _ _ _ _ hy29) zf ?_; cbv; exact dn
 cbv; revert h; refine fk ?_ ?_ <;> intro h <;> cbv
 ·exact df
 revert h; refine cu (fun y31 => (sp 57 [(4, .c (.v (.bool y31)))] [])) (fun y31 S hS h => rg) fun w37 => rz fun h => ?_; cbv; exact df

def Lq17_x52 (a0 : TC) (a1 : Int) : (Int) -> Option ((Int) ⊕ ((Bool) ⊕ (Unit))) := fun x52 =>
 letO x52 fun v51 =>
 br (std.lt v51 (std.ofN (len a0.fI)))
 (req (std.inR v51 (len a0.fI)) <|
 (Fq75 (gd a0.fI (std.toN v51)) a1).bind fun y65 =>
 br (!(y65))
 (some (.inr (.inl false)))
 (some (.inl (std.add .i64 v51 1))))
 (some (.inr (.inr ())))
def Lq17_x33 (a0 : TC) : (Int) -> Option ((Int) ⊕ ((Bool) ⊕ (Unit))) := fun x33 =>
 letO x33 fun v32 =>
 br (std.lt v32 (std.ofN (len a0.fL)))
 (req (std.inR v32 (len a0.fL)) <|
 (Fq70 (gd a0.fL (std.toN v32))).bind fun y46 =>
 br (!(y46))
 (some (.inr (.inl false)))
 (some (.inl (std.add .i64 v32 1))))
 (some (.inr (.inr ())))
def Lq17_x14 (a0 : TC) : (Int) -> Option ((Int) ⊕ ((Bool) ⊕ (Unit))) := fun x14 =>
 letO x14 fun v13 =>
 br (std.lt v13 (std.ofN (len a0.fS)))
 (req (std.inR v13 (len a0.fS)) <|
 (Fq73 (gd a0.fS (std.toN v13))).bind fun y27 =>
 br (!(y27))
 (some (.inr (.inl false)))
 (some (.inl (std.add .i64 v13 1))))
 (some (.inr (.inr ())))
/-- spec.l09Cell -/
def Fq17 (a0 : TC) (a1 : Int) : Option (Bool) :=
 ((
 (Fq25 a0.fN).bind fun y8 =>
 br (!(y8))
 (some true)
 (br (std.lt 24 (std.ofN (len a0.fS)))
 (some true)
 (br (std.lt 8 (std.ofN (len a0.fL)))
 (some true)
 (some (std.lt 8 (std.ofN (len a0.fI))))))
 ) : Option (Bool)).bind fun y1 =>
 letO y1 fun w7 =>
 br w7
 (some false)
 ((whileP (σ := Int) (ρ := (Bool) ⊕ (Unit)) (Lq17_x14 a0) 0).bind fun y15 =>
 (match y15 with
 | .inl y15k0 => (
 letO y15k0 fun w31 =>
 some w31)
 | .inr y15m0 =>
 (whileP (σ := Int) (ρ := (Bool) ⊕ (Unit)) (Lq17_x33 a0) 0).bind fun y34 =>
 (match y34 with
 | .inl y34k0 => (
 letO y34k0 fun w50 =>
 some w50)
 | .inr y34m0 =>
 (whileP (σ := Int) (ρ := (Bool) ⊕ (Unit)) (Lq17_x52 a0 a1) 0).bind fun y53 =>
 (match y53 with
 | .inl y53k0 => (
 letO y53k0 fun w69 =>
 some w69)
 | .inr y53m0 =>
 some true))))
theorem runq17 (a0 : TC) (a1 : Int) (r : Bool) (h : Fq17 a0 a1 = some r) : Fun Tryz.prog 98 [.agg [ws a0.fN, .bs (len a0.fS) 5 (row gd (eS) a0.fS), .bs (len a0.fL) 4 (row gd (eL) a0.fL), .bs (len a0.fI) 8 (row gd (eI) a0.fI)], .c (wi a1)] [] (.c (.v (.bool r))) [] true := by
 refine Fun.of_wp (oneOf [1]) tok mixed Tryz.func98 (by kernel_rfl) rfl Tryz.ntmps98 rfl trivial (fun _ => ⟨trivial, tv⟩) ?_; unfold Fq17 at h; unfold Lq17_x14 at h; unfold Lq17_x33 at h; unfold Lq17_x52 at h; have hfq25 := @runq25; have hfq75 := @runq75; have hfq70 := @runq70
 have hfq73 := @runq73; generalize hLEN : @len = LEN, hGD : @gd = GD, hA : std = A, hP : Tryz.prog = P at *; cbv
 revert h; refine cu (fun y1 => (sp 73 [(1, .c (wi a1)), (2, .c (.ptr 128 0)), (29, .c (.v (.bool y1)))] [(128, .var [ws a0.fN, .bs (LEN a0.fS) 5 (row GD (eS) a0.fS), .bs (LEN a0.fL) 4 (row GD (eL) a0.fL), .bs (LEN a0.fI) 8 (row GD (eI) a0.fI)])])) ?_ fun w7 => rz fun h => ?_
 ·intro y1 S hS h; cbv; revert h; refine rb fun y8 hy9 h => ?_; refine rc [] [] (hfq25 _ _ hy9) zf ?_; cbv; revert h; refine fk ?_ ?_ <;> intro h <;> cbv
  ·exact dn
  revert h; refine fk ?_ ?_ <;> intro h <;> cbv
  ·exact dn
  revert h; refine fk ?_ ?_ <;> intro h <;> cbv
  ·exact dn
  exact dn
 cbv; revert h; refine fk ?_ ?_ <;> intro h <;> cbv
 ·exact df
 revert h; refine lc (fun x => (sp 73 [(1, .c (wi a1)), (2, .c (.ptr 128 0)), (5, .c (wi x))] [(128, .var [ws a0.fN, .bs (LEN a0.fS) 5 (row GD (eS) a0.fS), .bs (LEN a0.fL) 4 (row GD (eL) a0.fL), .bs (LEN a0.fI) 8 (row GD (eI) a0.fI)])])) (fun y e s => (match y with | .inl w => e = .ret /\ s.le (sp 73 [(4, .c (.v (.bool w)))] []) | .inr w0 => (fun (w : Unit) => e = .exit 0 /\ s.le (sp 73 [(1, .c (wi a1)), (2, .c (.ptr 128 0))] [(128, .var [ws a0.fN, .bs (LEN a0.fS) 5 (row GD (eS) a0.fS), .bs (LEN a0.fL) 4 (row GD (eL) a0.fL), .bs (LEN a0.fI) 8 (row GD (eI) a0.fI)])])) w0)) zb ?_ ?_
 ·intro v13 z h K hK hY; replace h := oz h; cbv; revert h; refine fk ?_ ?_ <;> intro h <;> cbv
  ·revert h; refine ra fun c26 h => ?_; revert h; refine rb fun y27 hy28 h => ?_; refine rc [] [] (hfq73 _ _ hy28) zf ?_; cbv; revert h; refine fk ?_ ?_ <;> intro h <;> cbv
   ·exact dy
   exact dm
  exact dy
 intro y15 h e24 s25 q23 hne; rcases y15 with y15k0 | y15m0
 ·replace h := h; obtain ⟨rfl, q23⟩ := q23; revert h; refine rz fun h => ?_; cbv; injection h with h; subst h; exact ⟨_, q23, lR _, zo, rfl⟩
 ·obtain ⟨rfl, q23⟩ := q23; cbv; refine ⟨_, q23, ?_⟩; cbv
  revert h; refine lc (fun x => (sp 73 [(1, .c (wi a1)), (2, .c (.ptr 128 0)), (6, .c (wi x))] [(128, .var [ws a0.fN, .bs (LEN a0.fS) 5 (row GD (eS) a0.fS), .bs (LEN a0.fL) 4 (row GD (eL) a0.fL), .bs (LEN a0.fI) 8 (row GD (eI) a0.fI)])])) (fun y e s => (match y with | .inl w => e = .ret /\ s.le (sp 73 [(4, .c (.v (.bool w)))] []) | .inr w0 => (fun (w : Unit) => e = .exit 2 /\ s.le (sp 73 [(1, .c (wi a1)), (2, .c (.ptr 128 0))] [(128, .var [ws a0.fN, .bs (LEN a0.fS) 5 (row GD (eS) a0.fS), .bs (LEN a0.fL) 4 (row GD (eL) a0.fL), .bs (LEN a0.fI) 8 (row GD (eI) a0.fI)])])) w0)) zb ?_ ?_
  ·intro v32 z h K hK hY; replace h := oz h; cbv; revert h; refine fk ?_ ?_ <;> intro h <;> cbv
   ·revert h; refine ra fun c45 h => ?_; revert h; refine rb fun y46 hy47 h => ?_; refine rc [] [] (hfq70 _ _ hy47) zf ?_; cbv; revert h; refine fk ?_ ?_ <;> intro h <;> cbv
    ·exact dy
    exact dm
   exact dy
  intro y34 h e43 s44 q42 hne; rcases y34 with y34k0 | y34m0
  ·replace h := h; obtain ⟨rfl, q42⟩ := q42; revert h; refine rz fun h => ?_; cbv; injection h with h; subst h; exact ⟨_, q42, lR _, zo, rfl⟩
  ·obtain ⟨rfl, q42⟩ := q42; cbv; refine ⟨_, q42, ?_⟩; cbv
   revert h; refine lc (fun x => (sp 73 [(1, .c (wi a1)), (2, .c (.ptr 128 0)), (7, .c (wi x))] [(128, .var [ws a0.fN, .bs (LEN a0.fS) 5 (row GD (eS) a0.fS), .bs (LEN a0.fL) 4 (row GD (eL) a0.fL), .bs (LEN a0.fI) 8 (row GD (eI) a0.fI)])])) (fun y e s => (match y with | .inl w => e = .ret /\ s.le (sp 73 [(4, .c (.v (.bool w)))] []) | .inr w0 => (fun (w : Unit) => e = .exit 4 /\ s.le (sp 73 [] [])) w0)) zb ?_ ?_
   ·intro v51 z h K hK hY; replace h := oz h; cbv; revert h; refine fk ?_ ?_ <;> intro h <;> cbv
    ·revert h; refine ra fun c64 h => ?_; revert h; refine rb fun y65 hy66 h => ?_; refine rc [] [] (hfq75 _ _ _ hy66) zf ?_; cbv; revert h; refine fk ?_ ?_ <;> intro h <;> cbv
     ·exact dy
     exact dm
    exact dy
   intro y53 h e62 s63 q61 hne; rcases y53 with y53k0 | y53m0
   ·replace h := h; obtain ⟨rfl, q61⟩ := q61; revert h; refine rz fun h => ?_; cbv; injection h with h; subst h; exact ⟨_, q61, lR _, zo, rfl⟩
   ·obtain ⟨rfl, q61⟩ := q61; cbv; refine ⟨_, q61, ?_⟩; cbv; exact df

def Lq21_x26 (a0 : TL) (v9 : Int) : (Int) -> Option ((Int) ⊕ ((Bool) ⊕ (Unit))) := fun x26 =>
 letO x26 fun v25 =>
 br (std.lt v25 v9)
 (req (std.inR v25 (len a0.fC)) <|
 req (std.inR v9 (len a0.fC)) <|
 br (std.seq (gd a0.fC (std.toN v25)).fN (gd a0.fC (std.toN v9)).fN)
 (some (.inr (.inl false)))
 (some (.inl (std.add .i64 v25 1))))
 (some (.inr (.inr ())))
def Lq21_x10 (a0 : TL) : (Int) -> Option ((Int) ⊕ ((Bool) ⊕ (Unit))) := fun x10 =>
 letO x10 fun v9 =>
 br (std.lt v9 (std.ofN (len a0.fC)))
 (req (std.inR v9 (len a0.fC)) <|
 (Fq17 (gd a0.fC (std.toN v9)) v9).bind fun y23 =>
 br (!(y23))
 (some (.inr (.inl false)))
 ((whileP (σ := Int) (ρ := (Bool) ⊕ (Unit)) (Lq21_x26 a0 v9) 0).bind fun y27 =>
 (match y27 with
 | .inl y27k0 => (
 letO y27k0 fun w42 =>
 some (.inr (.inl w42)))
 | .inr y27m0 =>
 some (.inl (std.add .i64 v9 1)))))
 (some (.inr (.inr ())))
/-- spec.IsValidLibrary -/
def Fq21 (a0 : TL) : Option (Bool) :=
 ((
 br (std.lt (std.ofN (len a0.fC)) 1)
 (some true)
 (some (std.lt 8 (std.ofN (len a0.fC))))
 ) : Option (Bool)).bind fun y1 =>
 letO y1 fun w7 =>
 br w7
 (some false)
 ((whileP (σ := Int) (ρ := (Bool) ⊕ (Unit)) (Lq21_x10 a0) 0).bind fun y11 =>
 (match y11 with
 | .inl y11k0 => (
 letO y11k0 fun w45 =>
 some w45)
 | .inr y11m0 =>
 some true))
theorem runq21 (a0 : TL) (r : Bool) (h : Fq21 a0 = some r) : Fun Tryz.prog 48 [.agg [.bs (len a0.fC) 4 (row gd (eC len gd) a0.fC)]] [] (.c (.v (.bool r))) [] true := by
 refine Fun.of_wp (oneOf [1]) tok mixed Tryz.func48 (by kernel_rfl) rfl Tryz.ntmps48 rfl trivial (fun _ => ⟨trivial, tv⟩) ?_; unfold Fq21 at h; unfold Lq21_x10 at h; unfold Lq21_x26 at h; have hfq17 := @runq17; generalize hLEN : @len = LEN, hGD : @gd = GD, hA : std = A, hP : Tryz.prog = P at *; cbv
 revert h; refine cu (fun y1 => (sp 48 [(1, .c (.ptr 64 0)), (14, .c (.v (.bool y1)))] [(64, .var [.bs (LEN a0.fC) 4 (row GD (eC LEN GD) a0.fC)])])) (fun y1 S hS h => rg) fun w7 => rz fun h => ?_; cbv; revert h; refine fk ?_ ?_ <;> intro h <;> cbv
 ·exact df
 revert h; refine lc (fun x => (sp 48 [(1, .c (.ptr 64 0)), (3, .c (wi x))] [(64, .var [.bs (LEN a0.fC) 4 (row GD (eC LEN GD) a0.fC)])])) (fun y e s => (match y with | .inl w => e = .ret /\ s.le (sp 48 [(2, .c (.v (.bool w)))] []) | .inr w0 => (fun (w : Unit) => e = .exit 0 /\ s.le (sp 48 [] [])) w0)) zb ?_ ?_
 ·intro v9 z h K hK hY; replace h := oz h; cbv; revert h; refine fk ?_ ?_ <;> intro h <;> cbv
  ·revert h; refine ra fun c22 h => ?_; revert h; refine rb fun y23 hy24 h => ?_; refine rc [] [] (hfq17 _ _ _ hy24) zf ?_; cbv; revert h; refine fk ?_ ?_ <;> intro h <;> cbv
   ·exact dy
   revert h; refine lc (fun x => (sp 48 [(1, .c (.ptr 64 0)), (3, .c (wi v9)), (4, .c (wi x))] [(64, .var [.bs (LEN a0.fC) 4 (row GD (eC LEN GD) a0.fC)])])) (fun y e s => (match y with | .inl w => e = .ret /\ s.le (sp 48 [(2, .c (.v (.bool w)))] []) | .inr w0 => (fun (w : Unit) => e = .exit 2 /\ s.le (sp 48 [(1, .c (.ptr 64 0)), (3, .c (wi v9))] [(64, .var [.bs (LEN a0.fC) 4 (row GD (eC LEN GD) a0.fC)])])) w0)) zb ?_ ?_
   ·intro v25 z h K hK hY; replace h := oz h; cbv; revert h; refine fk ?_ ?_ <;> intro h <;> cbv
    ·revert h; refine ra fun c38 h => ?_; revert h; refine ra fun c39 h => ?_; revert h; refine fk ?_ ?_ <;> intro h <;> cbv
     ·exact dy
     exact dm
    exact dy
   intro y27 h e36 s37 q35 hne; rcases y27 with y27k0 | y27m0
   ·replace h := h; obtain ⟨rfl, q35⟩ := q35; revert h; refine rl fun w42 hw42 h => ?_; have hw42 : w42 = y27k0 := hw42; subst hw42; cbv; injection h with h; refine hY _ h.symm _ _ (And.intro rfl ?_) (by intro hh; cases hh); refine St.le_trans q35 ?_; exact zb
   ·obtain ⟨rfl, q35⟩ := q35; cbv; refine ⟨_, q35, ?_⟩; cbv; exact dm
  exact dy
 intro y11 h e20 s21 q19 hne; rcases y11 with y11k0 | y11m0
 ·replace h := h; obtain ⟨rfl, q19⟩ := q19; revert h; refine rz fun h => ?_; cbv; injection h with h; subst h; exact ⟨_, q19, lR _, zo, rfl⟩
 ·obtain ⟨rfl, q19⟩ := q19; cbv; refine ⟨_, q19, ?_⟩; cbv; exact df

/-- spec.l09CopyCell -/
def Fq88 (a0 : TC) : Option (TC) :=
 letO ([] : List TS) fun l1 =>
 req (std.room (std.nadd (len l1) (len a0.fS)) 40) <|
 letO (l1 ++ a0.fS) fun l3 =>
 letO ([] : List TB) fun l6 =>
 req (std.room (std.nadd (len l6) (len a0.fL)) 40) <|
 letO (l6 ++ a0.fL) fun l8 =>
 letO ([] : List TI) fun l11 =>
 req (std.room (std.nadd (len l11) (len a0.fI)) 64) <|
 letO (l11 ++ a0.fI) fun l13 =>
 some (TC.mk a0.fN l3 l8 l13)
theorem runq88 (a0 : TC) (r : TC) (h : Fq88 a0 = some r) : Fun Tryz.prog 109 [.agg [ws a0.fN, .bs (len a0.fS) 5 (row gd (eS) a0.fS), .bs (len a0.fL) 4 (row gd (eL) a0.fL), .bs (len a0.fI) 8 (row gd (eI) a0.fI)]] [] (.agg [ws r.fN, .os 64000 0 (len r.fS), .os 64002 0 (len r.fL), .os 64004 0 (len r.fI)]) [(64000, .arr .rw [] (len r.fS) 5 (row gd (eS) r.fS)), (64002, .arr .rw [] (len r.fL) 4 (row gd (eL) r.fL)), (64004, .arr .rw [] (len r.fI) 8 (row gd (eI) r.fI))] true := by
 refine Fun.of_wp (oneOf []) tok mixed Tryz.func109 (by kernel_rfl) rfl Tryz.ntmps109 rfl trivial (fun _ => ⟨(by simp [AV.flat, AV.flat1, AC.flat]), ⟨fun i _ j _ => val_flat (vl_encShape _ _), fun i _ j _ => val_flat (vl_encLabel _ _), fun i _ j _ => val_flat (vl_encInstance _ _), tv⟩⟩) ?_; unfold Fq88 at h
 generalize hLEN : @len = LEN, hGD : @gd = GD, hA : std = A, hP : Tryz.prog = P at *; cbv; revert h; refine rl fun l1 hl1 h => ?_; have e2 : 0 = LEN l1 := by subst hl1 hLEN; rfl
 refine ⟨_, (co e2), _, row GD (eS) l1, e2, wkOf ?_, ?_⟩
 ·intro i hi j hj; rw [<- e2] at hi; subst hl1; subst hGD; omega
 cbv; revert h; refine rq fun c5 => rl fun l3 hl3 h => ?_; have e4 := nl hA hLEN hl3; refine ⟨c5, _, (co e4), _, row GD (eS) l3, e4, wkOf ?_, ?_⟩
 ·subst hGD hLEN hA; exact app_bs (pl_encShape) hl3 (Nat.le_refl _)
 cbv; revert h; refine rl fun l6 hl6 h => ?_; have e7 : 0 = LEN l6 := by subst hl6 hLEN; rfl
 refine ⟨_, (co e7), _, row GD (eL) l6, e7, wkOf ?_, ?_⟩
 ·intro i hi j hj; rw [<- e7] at hi; subst hl6; subst hGD; omega
 cbv; revert h; refine rq fun c10 => rl fun l8 hl8 h => ?_; have e9 := nl hA hLEN hl8; refine ⟨c10, _, (co e9), _, row GD (eL) l8, e9, wkOf ?_, ?_⟩
 ·subst hGD hLEN hA; exact app_bs (pl_encLabel) hl8 (Nat.le_refl _)
 cbv; revert h; refine rl fun l11 hl11 h => ?_; have e12 : 0 = LEN l11 := by subst hl11 hLEN; rfl
 refine ⟨_, (co e12), _, row GD (eI) l11, e12, wkOf ?_, ?_⟩
 ·intro i hi j hj; rw [<- e12] at hi; subst hl11; subst hGD; omega
 cbv; revert h; refine rq fun c15 => rl fun l13 hl13 h => ?_; have e14 := nl hA hLEN hl13; refine ⟨c15, _, (co e14), _, row GD (eI) l13, e14, wkOf ?_, ?_⟩
 ·subst hGD hLEN hA; exact app_bs (pl_encInstance) hl13 (Nat.le_refl _)
 cbv; injection h with h; subst h; refine ⟨(sp 18 [(2, .c (.ptr 128 0))] [(128, .var [ws a0.fN, .os 64000 0 (LEN l3), .os 64002 0 (LEN l8), .os 64004 0 (LEN l13)]), (64000, .arr .rw [] (LEN l3) 5 (row GD (eS) l3)), (64002, .arr .rw [] (LEN l8) 4 (row GD (eL) l8)), (64004, .arr .rw [] (LEN l13) 8 (row GD (eI) l13))]), ?_, ?_⟩
 ·refine St.le_trans (le_ren 320 64000 (by decide) rfl) ?_; refine St.le_trans (le_ren 576 64002 (by decide) rfl) ?_; refine St.le_trans (le_ren 832 64004 (by decide) rfl) ?_; exact zb
 ·exact ⟨lR _, ⟨oS, oS, oS, tv⟩, rfl⟩

def Lq14_x3 (a0 : TL) : (Int × (List TC)) -> Option ((Int × (List TC)) ⊕ (((List TC)))) := fun x3 =>
 letO x3.1 fun v1 =>
 letO x3.2 fun v2 =>
 br (std.lt v1 (std.ofN (len a0.fC)))
 (((
 req (std.inR v1 (len a0.fC)) <|
 (Fq88 (gd a0.fC (std.toN v1))).bind fun y23 =>
 letO ([y23] : List TC) fun l25 =>
 req (std.room (std.nadd (len v2) (len l25)) 88) <|
 letO (v2 ++ l25) fun l27 =>
 some l27
 ) : Option ((List TC))).bind fun y15 =>
 letO y15 fun w21 =>
 some (.inl (std.add .i64 v1 1, w21)))
 (some (.inr v2))
/-- spec.l09Copy -/
def Fq14 (a0 : TL) : Option (TL) :=
 (whileP (σ := Int × (List TC)) (ρ := ((List TC))) (Lq14_x3 a0) (0, ([] : List TC))).bind fun y4 =>
 letO y4 fun y4k0 =>
 letO y4k0 fun w31 =>
 some (TL.mk w31)
theorem runq14 (a0 : TL) (r : TL) (h : Fq14 a0 = some r) : Fun Tryz.prog 59 [.agg [.bs (len a0.fC) 4 (row gd (eC len gd) a0.fC)]] [] (.agg [.os 64000 0 (len r.fC)]) [(64000, .arr .rw [] (len r.fC) 4 (row gd (oC len gd) r.fC))] true := by
 refine Fun.of_wp (oneOf [5]) tok mixed Tryz.func59 (by kernel_rfl) rfl Tryz.ntmps59 rfl trivial (fun _ => ⟨(by simp [AV.flat, AV.flat1, AC.flat]), ⟨fun i _ j _ => fl_oncCell _ _, tv⟩⟩) ?_; unfold Fq14 at h; unfold Lq14_x3 at h; have hfq88 := @runq88; generalize hLEN : @len = LEN, hGD : @gd = GD, hA : std = A, hP : Tryz.prog = P at *; cbv
 revert h; refine ln (.exit 0) (fun x => (sp 25 [(1, .c (.ptr 64 0)), (2, .c (.ptr 128 0)), (3, .c (.ptr 192 0)), (4, .c (wi x.1))] [(64, .var [.bs (LEN a0.fC) 4 (row GD (eC LEN GD) a0.fC)]), (128, .var [.v (.slice none 0 0)]), (192, .var [.os 1408 0 (LEN x.2)]), (1408, .arr .rw [] (LEN x.2) 4 (row GD (oC LEN GD) x.2))])) (fun w => (sp 25 [(2, .c (.ptr 128 0)), (3, .c (.ptr 192 0))] [(128, .var [.v (.slice none 0 0)]), (192, .var [.os 1408 0 (LEN w)]), (1408, .arr .rw [] (LEN w) 4 (row GD (oC LEN GD) w))])) ?_ ?_ ?_
 ·show St.le _ _; refine St.le_trans (le_nilV 192 0 1408 4 (row GD (oC LEN GD) ([] : List TC)) (by decide) (by decide) rfl rfl) ?_; subst hLEN; exact zb
 ·rintro ⟨v1, v2⟩ z h K hK hY; replace h := oz (oz h); dsimp only at h; cbv; revert h; refine fk ?_ ?_ <;> intro h <;> cbv
  ·revert h; refine cu (fun y15 => (sp 25 [(1, .c (.ptr 64 0)), (2, .c (.ptr 128 0)), (3, .c (.ptr 192 0)), (4, .c (wi v1))] [(64, .var [.bs (LEN a0.fC) 4 (row GD (eC LEN GD) a0.fC)]), (128, .var [.v (.slice none 0 0)]), (192, .var [.os 1408 0 (LEN y15)]), (1408, .arr .rw [] (LEN y15) 4 (row GD (oC LEN GD) y15))])) ?_ fun w21 => rz fun h => ?_
   ·intro y15 S hS h; cbv; revert h; refine ra fun c22 h => ?_; revert h; refine rb fun y23 hy24 h => ?_; refine rc [] [(64000, 1280), (64002, 1282), (64004, 1284)] (hfq88 _ _ hy24) zf ⟨_, rfl, _, _, rfl, fun _ _ _ _ => .refl _, _, _, rfl, fun _ _ _ _ => .refl _, _, _, rfl, fun _ _ _ _ => .refl _, ?_⟩; cbv; revert h; refine rl fun l25 hl25 h => ?_
    have e26 : 1 = LEN l25 := by subst hl25 hLEN; rfl
    refine ⟨_, (co e26), _, (pC (fun _ _ => AC.junk) 0 [ws y23.fN, .os 1280 0 (LEN y23.fS), .os 1282 0 (LEN y23.fL), .os 1284 0 (LEN y23.fI)]), e26, wkOf ?_, ?_⟩
    ·refine patch_one (by subst hl25 hLEN; rfl) ?_; intro j hj; match j, hj with | 0, _ => (rfl) | 1, _ => (rfl) | 2, _ => (rfl) | 3, _ => (rfl) | (j_ + 4), h_ => omega
    cbv; revert h; refine rq fun c29 => rl fun l27 hl27 h => ?_; have e28 := nl hA hLEN hl27; refine ⟨c29, _, (co e28), _, (pC (row GD (oC LEN GD) v2) (LEN v2) [ws y23.fN, .os 1280 0 (LEN y23.fS), .os 1282 0 (LEN y23.fL), .os 1284 0 (LEN y23.fI)]), e28, wkOf ?_, ?_⟩
    ·subst hLEN hA; refine patch_joinG (by first | (rw [hl27]; simp [len]; done) | (rw [hl27]; simp [len]; omega) | (subst_vars; simp [len])) ?_; intro j hj; match j, hj with | 0, _ => (rfl) | 1, _ => (rfl) | 2, _ => (rfl) | 3, _ => (rfl) | (j_ + 4), h_ => omega
    cbv; rw [hl25] at hl27; injection h with h; subst h; subst hS; show St.le _ _; refine St.le_trans (le_foldP 1408 1 1280 rfl rfl rfl (by decide) (by subst hLEN; exact app_lt hl27) (by decide) rfl (fun _ _ => rC _ _)) ?_; refine St.le_trans (le_foldP 1408 2 1282 rfl rfl rfl (by decide) (by subst hLEN; exact app_lt hl27) (by decide) rfl (fun _ _ => rC _ _)) ?_
    refine St.le_trans (le_foldP 1408 3 1284 rfl rfl rfl (by decide) (by subst hLEN; exact app_lt hl27) (by decide) rfl (fun _ _ => rC _ _)) ?_
    exact lsp rfl zl ⟨rfl, rfl, rfl, ⟨fun hw => hw, fun c hc => (by cases hc), .inr (fun i _ j _ z hz => (noref (rC _ _) hz).elim), rfl, rfl, (by subst hGD hLEN hA; exact patch_app hl27 (Nat.le_refl _) (by intro j hj; match j, hj with | 0, _ => rfl | 1, _ => rfl | 2, _ => rfl | 3, _ => rfl | (j_ + 4), h_ => omega))⟩, tv⟩ rfl
   cbv; exact dm
  exact dx
 intro w31 h s q12; replace h := oz (oz h); cbv; refine ⟨_, q12, ?_⟩; cbv; injection h with h; subst h; refine ⟨(sp 25 [(2, .c (.ptr 128 0))] [(128, .var [.os 64000 0 (LEN w31)]), (64000, .arr .rw [] (LEN w31) 4 (row GD (oC LEN GD) w31))]), ?_, ?_⟩
 ·refine St.le_trans (le_ren 1408 64000 (by decide) rfl) ?_; exact zb
 ·exact ⟨lR _, ⟨oS, tv⟩, rfl⟩
end
end Go.Proofs.YtohgghncmkiicaaGreat.AM
