/-
  What the functions that the law reaches compute, and that they do. No condition.
-/
import Derived.Test.YtohgghncmkiicaaGreatAmT
import Derived.Test.YtohgghncmkiicaaGreatAmE
import Derived.Deep.LoopGhost
import Derived.Deep.RegionLaw
import Derived.Lib.SliceRun
import Derived.Lib.SlicesDelete
import Derived.Lib.Walk
import Derived.Shelf.Spec.SlicesInsert
import Derived.Shelf.Spec.SlicesInsertGrow
import Derived.Test.YtohgghncmkiicaaGreatChecked
import Derived.WalkKit
namespace Go.Proofs.YtohgghncmkiicaaGreat.AM
noncomputable section
open Go Go.Proofs Go.RowKit Go.Proofs.Tryz
set_option linter.unusedVariables false
set_option linter.unusedSimpArgs false
set_option maxRecDepth 100000

set_option maxHeartbeats 4000000
abbrev wi (x : Int) : AC := .v (.int .i64 x)
abbrev ws (x : ByteArray) : AC := .v (.string x)
theorem zs1 {x0 : AV} : AV.les [x0] [x0] := lc_ (lR _) (ln_)
theorem mixed : prog.follows .mixedOrders = true := by kernel_rfl
theorem ow (J : List Nat) {f : FuncId} {fn : Func} {c : Code} {n : Nat} {rs : List ResultVar} {args : List AV} {r : AV} {o0 o1 : List (Nat × AO)} {fl : Bool} (hf : prog.funcs[f]? = some fn) (hn : fn.ntmps = n) (h : wp std prog T (oneOf J) c (startSt n args o0) (endsIn T rs r o1)) (hb : fn.body = some c := by rfl) (hs : fn.results.toList = rs := by rfl) (ha : (fn.name == "runtime.NumGoroutine") = false := by kernel_rfl) (hw : wfO o0 := by exact trivial) (hv : fl = true -> r.flat /\ flatO o1 := by exact fun _ => ⟨trivial, tv⟩) : Fun prog f args o0 r o1 fl := Fun.of_wp (oneOf J) tok mixed hf ha hb hn hs hw hv h
structure TRect where
 fX0 : Int
 fY0 : Int
 fX1 : Int
 fY1 : Int
instance : Inhabited TRect := ⟨⟨default, default, default, default⟩⟩
def encRect (x : TRect) : Nat -> AC := fun j => match j with
 | 0 => wi x.fX0
 | 1 => wi x.fY0
 | 2 => wi x.fX1
 | _ => wi x.fY1
theorem pl_encRect : ∀ (x : TRect) (j : Nat), plainC (encRect x j) = true := by
 intro x j
 unfold encRect
 split <;> rfl
theorem vl_encRect : ∀ (x : TRect) (j : Nat), valC (encRect x j) = true := by
 intro x j
 unfold encRect
 split <;> rfl
structure TS where
 fy : Int
 fb : TRect
instance : Inhabited TS := ⟨⟨default, default⟩⟩
def eS (x : TS) : Nat -> AC := fun j => match j with
 | 0 => wi x.fy
 | 1 => wi x.fb.fX0
 | 2 => wi x.fb.fY0
 | 3 => wi x.fb.fX1
 | _ => wi x.fb.fY1
theorem pl_encShape : ∀ (x : TS) (j : Nat), plainC (eS x j) = true := by
 intro x j
 unfold eS
 split <;> rfl
theorem vl_encShape : ∀ (x : TS) (j : Nat), valC (eS x j) = true := by
 intro x j
 unfold eS
 split <;> rfl
structure TPoint where
 fX : Int
 fY : Int
instance : Inhabited TPoint := ⟨⟨default, default⟩⟩
def encPoint (x : TPoint) : Nat -> AC := fun j => match j with
 | 0 => wi x.fX
 | _ => wi x.fY
theorem pl_encPoint : ∀ (x : TPoint) (j : Nat), plainC (encPoint x j) = true := by
 intro x j
 unfold encPoint
 split <;> rfl
theorem vl_encPoint : ∀ (x : TPoint) (j : Nat), valC (encPoint x j) = true := by
 intro x j
 unfold encPoint
 split <;> rfl
structure TB where
 fy : Int
 fa : TPoint
 fN : ByteArray
instance : Inhabited TB := ⟨⟨default, default, default⟩⟩
def eL (x : TB) : Nat -> AC := fun j => match j with
 | 0 => wi x.fy
 | 1 => wi x.fa.fX
 | 2 => wi x.fa.fY
 | _ => ws x.fN
theorem pl_encLabel : ∀ (x : TB) (j : Nat), plainC (eL x j) = true := by
 intro x j
 unfold eL
 split <;> rfl
theorem vl_encLabel : ∀ (x : TB) (j : Nat), valC (eL x j) = true := by
 intro x j
 unfold eL
 split <;> rfl
structure TM where
 fo : Int
 fX : Int
 fY : Int
instance : Inhabited TM := ⟨⟨default, default, default⟩⟩
def encTransform (x : TM) : Nat -> AC := fun j => match j with
 | 0 => wi x.fo
 | 1 => wi x.fX
 | _ => wi x.fY
theorem pl_encTransform : ∀ (x : TM) (j : Nat), plainC (encTransform x j) = true := by
 intro x j
 unfold encTransform
 split <;> rfl
theorem vl_encTransform : ∀ (x : TM) (j : Nat), valC (encTransform x j) = true := by
 intro x j
 unfold encTransform
 split <;> rfl
structure TI where
 fc : Int
 fp : TM
 fK : Int
 fR : Int
 fu : Int
 fv : Int
instance : Inhabited TI := ⟨⟨default, default, default, default, default, default⟩⟩
def eI (x : TI) : Nat -> AC := fun j => match j with
 | 0 => wi x.fc
 | 1 => wi x.fp.fo
 | 2 => wi x.fp.fX
 | 3 => wi x.fp.fY
 | 4 => wi x.fK
 | 5 => wi x.fR
 | 6 => wi x.fu
 | _ => wi x.fv
theorem pl_encInstance : ∀ (x : TI) (j : Nat), plainC (eI x j) = true := by
 intro x j
 unfold eI
 split <;> rfl
theorem vl_encInstance : ∀ (x : TI) (j : Nat), valC (eI x j) = true := by
 intro x j
 unfold eI
 split <;> rfl
structure TC where
 fN : ByteArray
 fS : List TS
 fL : List TB
 fI : List TI
instance : Inhabited TC := ⟨⟨default, default, default, default⟩⟩
def eC (U_ : {α : Type} -> List α -> Nat) (G_ : {α : Type} -> [Inhabited α] -> List α -> Nat -> α) (x : TC) : Nat -> AC := fun j => match j with
 | 0 => ws x.fN
 | 1 => .bs (U_ x.fS) 5 (row G_ (eS) x.fS)
 | 2 => .bs (U_ x.fL) 4 (row G_ (eL) x.fL)
 | _ => .bs (U_ x.fI) 8 (row G_ (eI) x.fI)
theorem pl_encCell {U_ : {α : Type} -> List α -> Nat} {G_ : {α : Type} -> [Inhabited α] -> List α -> Nat -> α} : ∀ (x : TC) (j : Nat), plainC (eC U_ G_ x j) = true := by
 intro x j
 unfold eC
 split <;> rfl
def oC (U_ : {α : Type} -> List α -> Nat) (G_ : {α : Type} -> [Inhabited α] -> List α -> Nat -> α) (x : TC) : Nat -> AC := fun j => match j with
 | 0 => ws x.fN
 | 1 => .ow (U_ x.fS) 5 (row G_ (eS) x.fS)
 | 2 => .ow (U_ x.fL) 4 (row G_ (eL) x.fL)
 | _ => .ow (U_ x.fI) 8 (row G_ (eI) x.fI)
theorem rC {U_ : {α : Type} -> List α -> Nat} {G_ : {α : Type} -> [Inhabited α] -> List α -> Nat -> α} : ∀ (x : TC) (j : Nat), (oC U_ G_ x j).ref = [] := by
 intro x j
 unfold oC
 split <;> rfl
theorem ln_oncCell {U_ : {α : Type} -> List α -> Nat} {G_ : {α : Type} -> [Inhabited α] -> List α -> Nat -> α} : ∀ (x : TC) (j : Nat), (oC U_ G_ x j).lentIn = eC U_ G_ x j := by
 intro x j
 unfold oC eC
 split <;> rfl
theorem fl_oncCell {U_ : {α : Type} -> List α -> Nat} {G_ : {α : Type} -> [Inhabited α] -> List α -> Nat -> α} : ∀ (x : TC) (j : Nat), (oC U_ G_ x j).flat := by
 intro x j
 unfold oC
 split <;> first | trivial | (exact fun i _ j _ => val_v (vl_encShape _ _)) | (exact fun i _ j _ => val_v (vl_encLabel _ _)) | (exact fun i _ j _ => val_v (vl_encInstance _ _))
structure TL where
 fC : List TC
instance : Inhabited TL := ⟨⟨default⟩⟩
def encLibrary (U_ : {α : Type} -> List α -> Nat) (G_ : {α : Type} -> [Inhabited α] -> List α -> Nat -> α) (x : TL) : Nat -> AC := fun j => match j with
 | _ => .bs (U_ x.fC) 4 (row G_ (eC U_ G_) x.fC)
theorem pl_encLibrary {U_ : {α : Type} -> List α -> Nat} {G_ : {α : Type} -> [Inhabited α] -> List α -> Nat -> α} : ∀ (x : TL) (j : Nat), plainC (encLibrary U_ G_ x j) = true := by
 intro x j
 unfold encLibrary
 split <;> rfl
structure TE where
 fk_ : Int
 fc : Int
 fx : Int
 fN : ByteArray
 fs_ : TS
 fl_ : TB
 fi_ : TI
instance : Inhabited TE := ⟨⟨default, default, default, default, default, default, default⟩⟩
def eE (x : TE) : Nat -> AC := fun j => match j with
 | 0 => wi x.fk_
 | 1 => wi x.fc
 | 2 => wi x.fx
 | 3 => ws x.fN
 | 4 => wi x.fs_.fy
 | 5 => wi x.fs_.fb.fX0
 | 6 => wi x.fs_.fb.fY0
 | 7 => wi x.fs_.fb.fX1
 | 8 => wi x.fs_.fb.fY1
 | 9 => wi x.fl_.fy
 | 10 => wi x.fl_.fa.fX
 | 11 => wi x.fl_.fa.fY
 | 12 => ws x.fl_.fN
 | 13 => wi x.fi_.fc
 | 14 => wi x.fi_.fp.fo
 | 15 => wi x.fi_.fp.fX
 | 16 => wi x.fi_.fp.fY
 | 17 => wi x.fi_.fK
 | 18 => wi x.fi_.fR
 | 19 => wi x.fi_.fu
 | _ => wi x.fi_.fv
theorem pl_encEdit : ∀ (x : TE) (j : Nat), plainC (eE x j) = true := by
 intro x j
 unfold eE
 split <;> rfl
theorem vl_encEdit : ∀ (x : TE) (j : Nat), valC (eE x j) = true := by
 intro x j
 unfold eE
 split <;> rfl
structure TD_ where
 fr_ : TL
 fU : List (List TE)
 fD : List (List TE)
instance : Inhabited TD_ := ⟨⟨default, default, default⟩⟩
def encEditor (U_ : {α : Type} -> List α -> Nat) (G_ : {α : Type} -> [Inhabited α] -> List α -> Nat -> α) (x : TD_) : Nat -> AC := fun j => match j with
 | 0 => .bs (U_ x.fr_.fC) 4 (row G_ (eC U_ G_) x.fr_.fC)
 | 1 => .bs (U_ x.fU) 1 (row G_ (eN U_ G_ 21 (eE)) x.fU)
 | _ => .bs (U_ x.fD) 1 (row G_ (eN U_ G_ 21 (eE)) x.fD)
theorem pl_encEditor {U_ : {α : Type} -> List α -> Nat} {G_ : {α : Type} -> [Inhabited α] -> List α -> Nat -> α} : ∀ (x : TD_) (j : Nat), plainC (encEditor U_ G_ x j) = true := by
 intro x j
 unfold encEditor
 split <;> rfl
abbrev cE (x : TE) : List AC := [wi x.fk_, wi x.fc, wi x.fx, ws x.fN, wi x.fs_.fy, wi x.fs_.fb.fX0, wi x.fs_.fb.fY0, wi x.fs_.fb.fX1, wi x.fs_.fb.fY1, wi x.fl_.fy, wi x.fl_.fa.fX, wi x.fl_.fa.fY, ws x.fl_.fN, wi x.fi_.fc, wi x.fi_.fp.fo, wi x.fi_.fp.fX, wi x.fi_.fp.fY, wi x.fi_.fK, wi x.fi_.fR, wi x.fi_.fu, wi x.fi_.fv]
set_option maxHeartbeats 4000000
/-- laws.szShapeS -/
def Fq142 (a0 : List TS) (a1 : Int) : Option (Int) :=
 br (std.lt (std.sub .i64 a1 (std.ofN (len a0))) 0)
 (some (-1))
 (some (std.sub .i64 a1 (std.ofN (len a0))))
theorem runq142 (a0 : List TS) (a1 : Int) (r : Int) (h : Fq142 a0 a1 = some r) : Fun prog 183 [.c (.bs (len a0) 5 (row gd (eS) a0)), .c (wi a1)] [] (.c (wi r)) [] true := by
 refine ow [] func183 ntmps183 ?_; unfold Fq142 at h; generalize hU_ : @len = U_, hG_ : @gd = G_, hA : std = A, hP : prog = P at *; cbv; revert h; refine fk ?_ ?_ <;> intro h <;> cbv
 ·exact df
 exact df

/-- laws.szLabel -/
def Fq13 (a0 : TB) (a1 : Int) : Option (Int) :=
 br (std.lt (std.sub .i64 a1 (std.ofN (std.slen a0.fN))) 0)
 (some (-1))
 (some (std.sub .i64 a1 (std.ofN (std.slen a0.fN))))
theorem runq13 (a0 : TB) (a1 : Int) (r : Int) (h : Fq13 a0 a1 = some r) : Fun prog 56 [.agg [wi a0.fy, wi a0.fa.fX, wi a0.fa.fY, ws a0.fN], .c (wi a1)] [] (.c (wi r)) [] true := by
 refine ow [] func56 ntmps56 ?_; unfold Fq13 at h; generalize hU_ : @len = U_, hG_ : @gd = G_, hA : std = A, hP : prog = P at *; cbv; revert h; refine fk ?_ ?_ <;> intro h <;> cbv
 ·exact df
 exact df

def Lq61_x3 (a0 : List TB) : (Int × Int) -> Option ((Int × Int) ⊕ ((Int) ⊕ (Int))) := fun x3 =>
 letO x3.1 fun v1 =>
 letO x3.2 fun v2 =>
 br (std.lt v2 (std.ofN (len a0)))
 (req (std.inR v2 (len a0)) <|
 (Fq13 (gd a0 (std.toN v2)) v1).bind fun y16 =>
 br (std.lt y16 0)
 (some (.inr (.inl (-1))))
 (some (.inl (y16, std.add .i64 v2 1))))
 (some (.inr (.inr v1)))
/-- laws.szLabelS -/
def Fq61 (a0 : List TB) (a1 : Int) : Option (Int) :=
 br (std.lt (std.sub .i64 a1 (std.ofN (len a0))) 0)
 (some (-1))
 ((whileP (σ := Int × Int) (ρ := (Int) ⊕ (Int)) (Lq61_x3 a0) (std.sub .i64 a1 (std.ofN (len a0)), 0)).bind fun y4 =>
 (match y4 with
 | .inl y4k0 => (
 letO y4k0 fun w20 =>
 some w20)
 | .inr y4m0 =>
 letO y4m0 fun y4k1 =>
 letO y4k1 fun w21 =>
 some w21))
theorem runq61 (a0 : List TB) (a1 : Int) (r : Int) (h : Fq61 a0 a1 = some r) : Fun prog 184 [.c (.bs (len a0) 4 (row gd (eL) a0)), .c (wi a1)] [] (.c (wi r)) [] true := by
 refine ow [] func184 ntmps184 ?_; unfold Fq61 at h; unfold Lq61_x3 at h; have hfq13 := @runq13; generalize hU_ : @len = U_, hG_ : @gd = G_, hA : std = A, hP : prog = P at *; cbv; revert h; refine fk ?_ ?_ <;> intro h <;> cbv
 ·exact df
 revert h; refine lc (fun x => (sp 27 [(0, .c (.bs (U_ a0) 4 (row G_ (eL) a0))), (1, .c (wi x.1)), (5, .c (wi x.2))] [])) (fun y e s => (match y with | .inl w => e = .ret /\ s.le (sp 27 [(4, .c (wi w))] []) | .inr w0 => (fun (w : Int) => e = .exit 0 /\ s.le (sp 27 [(1, .c (wi w))] [])) w0)) zb ?_ ?_
 ·rintro ⟨v1, v2⟩ z h K hK hY; replace h := oz (oz h); dsimp only at h; cbv; revert h; refine fk ?_ ?_ <;> intro h <;> cbv
  ·revert h; refine ra fun c15 h => ?_; revert h; refine rk0 (hfq13 _ _) fun y16 h => ?_; cbv; revert h; refine fk ?_ ?_ <;> intro h <;> cbv
   ·exact dy
   exact dm
  exact dy
 intro y4 h e13 s14 q12 hne; rcases y4 with y4k0 | y4m0
 ·replace h := h; obtain ⟨rfl, q12⟩ := q12; revert h; refine rz fun h => ?_; cbv; injection h with h; subst h; exact ⟨_, q12, lR _, zo, rfl⟩
 ·revert h; refine rz fun h => ?_; obtain ⟨rfl, q12⟩ := q12; revert h; refine rz fun h => ?_; cbv; refine ⟨_, q12, ?_⟩; cbv; exact df

/-- laws.szInstanceS -/
def Fq136 (a0 : List TI) (a1 : Int) : Option (Int) :=
 br (std.lt (std.sub .i64 a1 (std.ofN (len a0))) 0)
 (some (-1))
 (some (std.sub .i64 a1 (std.ofN (len a0))))
theorem runq136 (a0 : List TI) (a1 : Int) (r : Int) (h : Fq136 a0 a1 = some r) : Fun prog 185 [.c (.bs (len a0) 8 (row gd (eI) a0)), .c (wi a1)] [] (.c (wi r)) [] true := by
 refine ow [] func185 ntmps185 ?_; unfold Fq136 at h; generalize hU_ : @len = U_, hG_ : @gd = G_, hA : std = A, hP : prog = P at *; cbv; revert h; refine fk ?_ ?_ <;> intro h <;> cbv
 ·exact df
 exact df

/-- laws.szCell -/
def Fq25 (a0 : TC) (a1 : Int) : Option (Int) :=
 br (std.lt (std.sub .i64 a1 (std.ofN (std.slen a0.fN))) 0)
 (some (-1))
 ((Fq142 a0.fS (std.sub .i64 a1 (std.ofN (std.slen a0.fN)))).bind fun y1 =>
 br (std.lt y1 0)
 (some (-1))
 ((Fq61 a0.fL y1).bind fun y3 =>
 br (std.lt y3 0)
 (some (-1))
 ((Fq136 a0.fI y3).bind fun y5 =>
 br (std.lt y5 0)
 (some (-1))
 (some y5))))
theorem runq25 (a0 : TC) (a1 : Int) (r : Int) (h : Fq25 a0 a1 = some r) : Fun prog 104 [.agg [ws a0.fN, .bs (len a0.fS) 5 (row gd (eS) a0.fS), .bs (len a0.fL) 4 (row gd (eL) a0.fL), .bs (len a0.fI) 8 (row gd (eI) a0.fI)], .c (wi a1)] [] (.c (wi r)) [] true := by
 refine ow [] func104 ntmps104 ?_; unfold Fq25 at h; have hfq136 := @runq136; have hfq61 := @runq61; have hfq142 := @runq142; generalize hU_ : @len = U_, hG_ : @gd = G_, hA : std = A, hP : prog = P at *; cbv; revert h; refine fk ?_ ?_ <;> intro h <;> cbv
 ·exact df
 revert h; refine rk0 (hfq142 _ _) fun y1 h => ?_; cbv; revert h; refine fk ?_ ?_ <;> intro h <;> cbv
 ·exact df
 revert h; refine rk0 (hfq61 _ _) fun y3 h => ?_; cbv; revert h; refine fk ?_ ?_ <;> intro h <;> cbv
 ·exact df
 revert h; refine rk0 (hfq136 _ _) fun y5 h => ?_; cbv; revert h; refine fk ?_ ?_ <;> intro h <;> cbv
 ·exact df
 exact df

def Lq81_x3 (a0 : List TC) : (Int × Int) -> Option ((Int × Int) ⊕ ((Int) ⊕ (Int))) := fun x3 =>
 letO x3.1 fun v1 =>
 letO x3.2 fun v2 =>
 br (std.lt v2 (std.ofN (len a0)))
 (req (std.inR v2 (len a0)) <|
 (Fq25 (gd a0 (std.toN v2)) v1).bind fun y16 =>
 br (std.lt y16 0)
 (some (.inr (.inl (-1))))
 (some (.inl (y16, std.add .i64 v2 1))))
 (some (.inr (.inr v1)))
/-- laws.szCellS -/
def Fq81 (a0 : List TC) (a1 : Int) : Option (Int) :=
 br (std.lt (std.sub .i64 a1 (std.ofN (len a0))) 0)
 (some (-1))
 ((whileP (σ := Int × Int) (ρ := (Int) ⊕ (Int)) (Lq81_x3 a0) (std.sub .i64 a1 (std.ofN (len a0)), 0)).bind fun y4 =>
 (match y4 with
 | .inl y4k0 => (
 letO y4k0 fun w20 =>
 some w20)
 | .inr y4m0 =>
 letO y4m0 fun y4k1 =>
 letO y4k1 fun w21 =>
 some w21))
theorem runq81 (a0 : List TC) (a1 : Int) (r : Int) (h : Fq81 a0 a1 = some r) : Fun prog 55 [.c (.bs (len a0) 4 (row gd (eC len gd) a0)), .c (wi a1)] [] (.c (wi r)) [] true := by
 refine ow [] func55 ntmps55 ?_; unfold Fq81 at h; unfold Lq81_x3 at h; have hfq25 := @runq25; generalize hU_ : @len = U_, hG_ : @gd = G_, hA : std = A, hP : prog = P at *; cbv; revert h; refine fk ?_ ?_ <;> intro h <;> cbv
 ·exact df
 revert h; refine lc (fun x => (sp 27 [(0, .c (.bs (U_ a0) 4 (row G_ (eC U_ G_) a0))), (1, .c (wi x.1)), (5, .c (wi x.2))] [])) (fun y e s => (match y with | .inl w => e = .ret /\ s.le (sp 27 [(4, .c (wi w))] []) | .inr w0 => (fun (w : Int) => e = .exit 0 /\ s.le (sp 27 [(1, .c (wi w))] [])) w0)) zb ?_ ?_
 ·rintro ⟨v1, v2⟩ z h K hK hY; replace h := oz (oz h); dsimp only at h; cbv; revert h; refine fk ?_ ?_ <;> intro h <;> cbv
  ·revert h; refine ra fun c15 h => ?_; revert h; refine rk0 (hfq25 _ _) fun y16 h => ?_; cbv; revert h; refine fk ?_ ?_ <;> intro h <;> cbv
   ·exact dy
   exact dm
  exact dy
 intro y4 h e13 s14 q12 hne; rcases y4 with y4k0 | y4m0
 ·replace h := h; obtain ⟨rfl, q12⟩ := q12; revert h; refine rz fun h => ?_; cbv; injection h with h; subst h; exact ⟨_, q12, lR _, zo, rfl⟩
 ·revert h; refine rz fun h => ?_; obtain ⟨rfl, q12⟩ := q12; revert h; refine rz fun h => ?_; cbv; refine ⟨_, q12, ?_⟩; cbv; exact df
set_option maxHeartbeats 4000000
/-- laws.szLibrary -/
def Fq110 (a0 : TL) (a1 : Int) : Option (Int) :=
 (Fq81 a0.fC a1).bind fun y1 =>
 br (std.lt y1 0)
 (some (-1))
 (some y1)
theorem runq110 (a0 : TL) (a1 : Int) (r : Int) (h : Fq110 a0 a1 = some r) : Fun prog 14 [.agg [.bs (len a0.fC) 4 (row gd (eC len gd) a0.fC)], .c (wi a1)] [] (.c (wi r)) [] true := by
 refine ow [] func14 ntmps14 ?_; unfold Fq110 at h; have hfq81 := @runq81; generalize hU_ : @len = U_, hG_ : @gd = G_, hA : std = A, hP : prog = P at *; cbv; revert h; refine rk0 (hfq81 _ _) fun y1 h => ?_; cbv; revert h; refine fk ?_ ?_ <;> intro h <;> cbv
 ·exact df
 exact df

/-- laws.szEdit -/
def Fq2 (a0 : TE) (a1 : Int) : Option (Int) :=
 br (std.lt (std.sub .i64 a1 (std.ofN (std.slen a0.fN))) 0)
 (some (-1))
 ((Fq13 a0.fl_ (std.sub .i64 a1 (std.ofN (std.slen a0.fN)))).bind fun y1 =>
 br (std.lt y1 0)
 (some (-1))
 (some y1))
theorem runq2 (a0 : TE) (a1 : Int) (r : Int) (h : Fq2 a0 a1 = some r) : Fun prog 15 [.agg (cE a0), .c (wi a1)] [] (.c (wi r)) [] true := by
 refine ow [] func15 ntmps15 ?_; unfold Fq2 at h; have hfq13 := @runq13; generalize hU_ : @len = U_, hG_ : @gd = G_, hA : std = A, hP : prog = P at *; cbv; revert h; refine fk ?_ ?_ <;> intro h <;> cbv
 ·exact df
 revert h; refine rk0 (hfq13 _ _) fun y1 h => ?_; cbv; revert h; refine fk ?_ ?_ <;> intro h <;> cbv
 ·exact df
 exact df

def Lq8_x3 (a0 : List TE) : (Int × Int) -> Option ((Int × Int) ⊕ ((Int) ⊕ (Int))) := fun x3 =>
 letO x3.1 fun v1 =>
 letO x3.2 fun v2 =>
 br (std.lt v2 (std.ofN (len a0)))
 (req (std.inR v2 (len a0)) <|
 (Fq2 (gd a0 (std.toN v2)) v1).bind fun y16 =>
 br (std.lt y16 0)
 (some (.inr (.inl (-1))))
 (some (.inl (y16, std.add .i64 v2 1))))
 (some (.inr (.inr v1)))
/-- laws.szEditS -/
def Fq8 (a0 : List TE) (a1 : Int) : Option (Int) :=
 br (std.lt (std.sub .i64 a1 (std.ofN (len a0))) 0)
 (some (-1))
 ((whileP (σ := Int × Int) (ρ := (Int) ⊕ (Int)) (Lq8_x3 a0) (std.sub .i64 a1 (std.ofN (len a0)), 0)).bind fun y4 =>
 (match y4 with
 | .inl y4k0 => (
 letO y4k0 fun w20 =>
 some w20)
 | .inr y4m0 =>
 letO y4m0 fun y4k1 =>
 letO y4k1 fun w21 =>
 some w21))
theorem runq8 (a0 : List TE) (a1 : Int) (r : Int) (h : Fq8 a0 a1 = some r) : Fun prog 23 [.c (.bs (len a0) 21 (row gd (eE) a0)), .c (wi a1)] [] (.c (wi r)) [] true := by
 refine ow [] func23 ntmps23 ?_; unfold Fq8 at h; unfold Lq8_x3 at h; have hfq2 := @runq2; generalize hU_ : @len = U_, hG_ : @gd = G_, hA : std = A, hP : prog = P at *; cbv; revert h; refine fk ?_ ?_ <;> intro h <;> cbv
 ·exact df
 revert h; refine lc (fun x => (sp 27 [(0, .c (.bs (U_ a0) 21 (row G_ (eE) a0))), (1, .c (wi x.1)), (5, .c (wi x.2))] [])) (fun y e s => (match y with | .inl w => e = .ret /\ s.le (sp 27 [(4, .c (wi w))] []) | .inr w0 => (fun (w : Int) => e = .exit 0 /\ s.le (sp 27 [(1, .c (wi w))] [])) w0)) zb ?_ ?_
 ·rintro ⟨v1, v2⟩ z h K hK hY; replace h := oz (oz h); dsimp only at h; cbv; revert h; refine fk ?_ ?_ <;> intro h <;> cbv
  ·revert h; refine ra fun c15 h => ?_; revert h; refine rk0 (hfq2 _ _) fun y16 h => ?_; cbv; revert h; refine fk ?_ ?_ <;> intro h <;> cbv
   ·exact dy
   exact dm
  exact dy
 intro y4 h e13 s14 q12 hne; rcases y4 with y4k0 | y4m0
 ·replace h := h; obtain ⟨rfl, q12⟩ := q12; revert h; refine rz fun h => ?_; cbv; injection h with h; subst h; exact ⟨_, q12, lR _, zo, rfl⟩
 ·revert h; refine rz fun h => ?_; obtain ⟨rfl, q12⟩ := q12; revert h; refine rz fun h => ?_; cbv; refine ⟨_, q12, ?_⟩; cbv; exact df

def Lq54_x3 (a0 : List (List TE)) : (Int × Int) -> Option ((Int × Int) ⊕ ((Int) ⊕ (Int))) := fun x3 =>
 letO x3.1 fun v1 =>
 letO x3.2 fun v2 =>
 br (std.lt v2 (std.ofN (len a0)))
 (req (std.inR v2 (len a0)) <|
 (Fq8 (gd a0 (std.toN v2)) v1).bind fun y16 =>
 br (std.lt y16 0)
 (some (.inr (.inl (-1))))
 (some (.inl (y16, std.add .i64 v2 1))))
 (some (.inr (.inr v1)))
/-- laws.szEditSS -/
def Fq54 (a0 : List (List TE)) (a1 : Int) : Option (Int) :=
 br (std.lt (std.sub .i64 a1 (std.ofN (len a0))) 0)
 (some (-1))
 ((whileP (σ := Int × Int) (ρ := (Int) ⊕ (Int)) (Lq54_x3 a0) (std.sub .i64 a1 (std.ofN (len a0)), 0)).bind fun y4 =>
 (match y4 with
 | .inl y4k0 => (
 letO y4k0 fun w20 =>
 some w20)
 | .inr y4m0 =>
 letO y4m0 fun y4k1 =>
 letO y4k1 fun w21 =>
 some w21))
theorem runq54 (a0 : List (List TE)) (a1 : Int) (r : Int) (h : Fq54 a0 a1 = some r) : Fun prog 73 [.c (.bs (len a0) 1 (row gd (eN len gd 21 (eE)) a0)), .c (wi a1)] [] (.c (wi r)) [] true := by
 refine ow [] func73 ntmps73 ?_; unfold Fq54 at h; unfold Lq54_x3 at h; have hfq8 := @runq8; generalize hU_ : @len = U_, hG_ : @gd = G_, hA : std = A, hP : prog = P at *; cbv; revert h; refine fk ?_ ?_ <;> intro h <;> cbv
 ·exact df
 revert h; refine lc (fun x => (sp 27 [(0, .c (.bs (U_ a0) 1 (row G_ (eN U_ G_ 21 (eE)) a0))), (1, .c (wi x.1)), (5, .c (wi x.2))] [])) (fun y e s => (match y with | .inl w => e = .ret /\ s.le (sp 27 [(4, .c (wi w))] []) | .inr w0 => (fun (w : Int) => e = .exit 0 /\ s.le (sp 27 [(1, .c (wi w))] [])) w0)) zb ?_ ?_
 ·rintro ⟨v1, v2⟩ z h K hK hY; replace h := oz (oz h); dsimp only at h; cbv; revert h; refine fk ?_ ?_ <;> intro h <;> cbv
  ·revert h; refine ra fun c15 h => ?_; revert h; refine rk0 (hfq8 _ _) fun y16 h => ?_; cbv; revert h; refine fk ?_ ?_ <;> intro h <;> cbv
   ·exact dy
   exact dm
  exact dy
 intro y4 h e13 s14 q12 hne; rcases y4 with y4k0 | y4m0
 ·replace h := h; obtain ⟨rfl, q12⟩ := q12; revert h; refine rz fun h => ?_; cbv; injection h with h; subst h; exact ⟨_, q12, lR _, zo, rfl⟩
 ·revert h; refine rz fun h => ?_; obtain ⟨rfl, q12⟩ := q12; revert h; refine rz fun h => ?_; cbv; refine ⟨_, q12, ?_⟩; cbv; exact df

/-- laws.szEditor -/
def Fq50 (a0 : TD_) (a1 : Int) : Option (Int) :=
 (Fq110 a0.fr_ a1).bind fun y1 =>
 br (std.lt y1 0)
 (some (-1))
 ((Fq54 a0.fU y1).bind fun y3 =>
 br (std.lt y3 0)
 (some (-1))
 ((Fq54 a0.fD y3).bind fun y5 =>
 br (std.lt y5 0)
 (some (-1))
 (some y5)))
theorem runq50 (a0 : TD_) (a1 : Int) (r : Int) (h : Fq50 a0 a1 = some r) : Fun prog 29 [.agg [.bs (len a0.fr_.fC) 4 (row gd (eC len gd) a0.fr_.fC), .bs (len a0.fU) 1 (row gd (eN len gd 21 (eE)) a0.fU), .bs (len a0.fD) 1 (row gd (eN len gd 21 (eE)) a0.fD)], .c (wi a1)] [] (.c (wi r)) [] true := by
 refine ow [] func29 ntmps29 ?_; unfold Fq50 at h; have hfq54 := @runq54; have hfq110 := @runq110; generalize hU_ : @len = U_, hG_ : @gd = G_, hA : std = A, hP : prog = P at *; cbv; revert h; refine rk0 (hfq110 _ _) fun y1 h => ?_; cbv; revert h; refine fk ?_ ?_ <;> intro h <;> cbv
 ·exact df
 revert h; refine rk0 (hfq54 _ _) fun y3 h => ?_; cbv; revert h; refine fk ?_ ?_ <;> intro h <;> cbv
 ·exact df
 revert h; refine rk0 (hfq54 _ _) fun y5 h => ?_; cbv; revert h; refine fk ?_ ?_ <;> intro h <;> cbv
 ·exact df
 exact df

/-- laws.toRect -/
def Fq165 (a0 : TRect) : Option (TRect) :=
 some a0
theorem runq165 (a0 : TRect) (r : TRect) (h : Fq165 a0 = some r) : Fun prog 111 [.agg [wi a0.fX0, wi a0.fY0, wi a0.fX1, wi a0.fY1]] [] (.agg [wi r.fX0, wi r.fY0, wi r.fX1, wi r.fY1]) [] true := by
 refine ow [] func111 ntmps111 ?_ (hv := (fun _ => ⟨(by simp [AV.flat, AV.flat1, AC.flat]), tv⟩)); unfold Fq165 at h; generalize hU_ : @len = U_, hG_ : @gd = G_, hA : std = A, hP : prog = P at *; cbv; exact df
set_option maxHeartbeats 4000000
/-- laws.toShape -/
def Fq19 (a0 : TS) : Option (TS) :=
 (Fq165 a0.fb).bind fun y1 =>
 some (TS.mk a0.fy y1)
theorem runq19 (a0 : TS) (r : TS) (h : Fq19 a0 = some r) : Fun prog 61 [.agg [wi a0.fy, wi a0.fb.fX0, wi a0.fb.fY0, wi a0.fb.fX1, wi a0.fb.fY1]] [] (.agg [wi r.fy, wi r.fb.fX0, wi r.fb.fY0, wi r.fb.fX1, wi r.fb.fY1]) [] true := by
 refine ow [] func61 ntmps61 ?_ (hv := (fun _ => ⟨(by simp [AV.flat, AV.flat1, AC.flat]), tv⟩)); unfold Fq19 at h; have hfq165 := @runq165; generalize hU_ : @len = U_, hG_ : @gd = G_, hA : std = A, hP : prog = P at *; cbv; revert h; refine rk0 (hfq165 _) fun y1 h => ?_; cbv; exact df

def Lq62_x7 (a0 : List TS) (l1 : List TS) : (Int × (List TS)) -> Option ((Int × (List TS)) ⊕ (((List TS)))) := fun x7 =>
 letO x7.1 fun v5 =>
 letO x7.2 fun v6 =>
 br (std.lt v5 (std.ofN (len a0)))
 (req (std.inR v5 (len a0)) <|
 (Fq19 (gd a0 (std.toN v5))).bind fun y20 =>
 req (std.inR v5 (len l1)) <|
 req (len l1 = len v6) <|
 letO (List.set v6 (std.nadd 0 (std.toN v5)) y20) fun l23 =>
 some (.inl (std.add .i64 v5 1, l23)))
 (some (.inr v6))
/-- laws.toShapeS -/
def Fq62 (a0 : List TS) : Option (List TS) :=
 req (std.nneg (std.ofN (len a0))) <|
 req (std.room (std.toN (std.ofN (len a0))) 40) <|
 letO (List.replicate (std.toN (std.ofN (len a0))) (TS.mk 0 (TRect.mk 0 0 0 0))) fun l1 =>
 (whileP (σ := Int × (List TS)) (ρ := ((List TS))) (Lq62_x7 a0 l1) (0, l1)).bind fun y8 =>
 letO y8 fun y8k0 =>
 letO y8k0 fun w26 =>
 req (len l1 = len w26) <|
 some w26
theorem runq62 (a0 : List TS) (r : List TS) (h : Fq62 a0 = some r) : Fun prog 191 [.c (.bs (len a0) 5 (row gd (eS) a0))] [] (.c (.os 64000 0 (len r))) [(64000, .arr .rw [] (len r) 5 (row gd (eS) r))] true := by
 refine ow [] func191 ntmps191 ?_ (hv := (fun _ => ⟨trivial, ⟨fun i _ j _ => val_flat (vl_encShape _ _), tv⟩⟩)); unfold Fq62 at h; unfold Lq62_x7 at h; have hfq19 := @runq19; generalize hU_ : @len = U_, hG_ : @gd = G_, hA : std = A, hP : prog = P at *; cbv; revert h; refine rq fun c3 => rq fun c4 => rl fun l1 hl1 h => ?_
 have e2 : A.toN (A.ofN (U_ a0)) = U_ l1 := by subst hl1 hU_ hA; exact rep_len rfl
 refine And.intro (by first | exact ⟨c3, c4⟩ | exact ⟨rfl, c3, trivial, trivial, trivial, c4⟩ | (refine ⟨?_, ?_, ?_, ?_, ?_, ?_⟩ <;> first | exact c3 | exact c4 | trivial)) ?_; refine ⟨_, (co e2), _, row G_ (eS) l1, e2, wO ?_, ?_⟩
 ·subst hG_ hU_; exact upd_repL hl1 zr
 cbv; revert h; refine ln (.exit 0) (fun x => (sp 23 [(0, .c (.bs (U_ a0) 5 (row G_ (eS) a0))), (3, .c (.os 448 0 (U_ l1))), (4, .c (wi x.1))] [(448, .arr .rw [] (U_ l1) 5 (row G_ (eS) x.2))])) (fun w => (sp 23 [(3, .c (.os 448 0 (U_ l1)))] [(448, .arr .rw [] (U_ l1) 5 (row G_ (eS) w))])) zb ?_ ?_
 ·rintro ⟨v5, v6⟩ z h K hK hY; replace h := oz (oz h); dsimp only at h; cbv; revert h; refine fk ?_ ?_ <;> intro h <;> cbv
  ·revert h; refine ra fun c19 h => ?_; revert h; refine rk0 (hfq19 _) fun y20 h => ?_; cbv; revert h; refine ra fun c22 h => ?_; revert h; refine rq fun c24 => rl fun l23 hl23 h => ?_; refine ai c22 ?_; refine ⟨_, rfl, _, row G_ (eS) l23, rfl, wO (us hA hU_ hG_ hl23 c22 c24), ?_⟩; cbv; exact dm
  exact dx
 intro w26 h s q16; replace h := oz (oz h); cbv; refine ⟨_, q16, ?_⟩; cbv; revert h; refine rq fun c27 h => ?_; injection h with h; subst h; refine ⟨(sp 23 [(2, .c (.os 64000 0 (U_ w26)))] [(64000, .arr .rw [] (U_ w26) 5 (row G_ (eS) w26))]), ?_, ?_⟩
 ·refine St.le_trans (le_ren 448 64000 (by decide) rfl) ?_; rw [c27]; exact zb
 ·exact ⟨lR _, zo, rfl⟩

/-- laws.toPoint -/
def Fq164 (a0 : TPoint) : Option (TPoint) :=
 some a0
theorem runq164 (a0 : TPoint) (r : TPoint) (h : Fq164 a0 = some r) : Fun prog 112 [.agg [wi a0.fX, wi a0.fY]] [] (.agg [wi r.fX, wi r.fY]) [] true := by
 refine ow [] func112 ntmps112 ?_ (hv := (fun _ => ⟨(by simp [AV.flat, AV.flat1, AC.flat]), tv⟩)); unfold Fq164 at h; generalize hU_ : @len = U_, hG_ : @gd = G_, hA : std = A, hP : prog = P at *; cbv; exact df

/-- laws.toLabel -/
def Fq17 (a0 : TB) : Option (TB) :=
 (Fq164 a0.fa).bind fun y1 =>
 some (TB.mk a0.fy y1 a0.fN)
theorem runq17 (a0 : TB) (r : TB) (h : Fq17 a0 = some r) : Fun prog 62 [.agg [wi a0.fy, wi a0.fa.fX, wi a0.fa.fY, ws a0.fN]] [] (.agg [wi r.fy, wi r.fa.fX, wi r.fa.fY, ws r.fN]) [] true := by
 refine ow [] func62 ntmps62 ?_ (hv := (fun _ => ⟨(by simp [AV.flat, AV.flat1, AC.flat]), tv⟩)); unfold Fq17 at h; have hfq164 := @runq164; generalize hU_ : @len = U_, hG_ : @gd = G_, hA : std = A, hP : prog = P at *; cbv; revert h; refine rk0 (hfq164 _) fun y1 h => ?_; cbv; exact df

def Lq60_x7 (a0 : List TB) (l1 : List TB) : (Int × (List TB)) -> Option ((Int × (List TB)) ⊕ (((List TB)))) := fun x7 =>
 letO x7.1 fun v5 =>
 letO x7.2 fun v6 =>
 br (std.lt v5 (std.ofN (len a0)))
 (req (std.inR v5 (len a0)) <|
 (Fq17 (gd a0 (std.toN v5))).bind fun y20 =>
 req (std.inR v5 (len l1)) <|
 req (len l1 = len v6) <|
 letO (List.set v6 (std.nadd 0 (std.toN v5)) y20) fun l23 =>
 some (.inl (std.add .i64 v5 1, l23)))
 (some (.inr v6))
/-- laws.toLabelS -/
def Fq60 (a0 : List TB) : Option (List TB) :=
 req (std.nneg (std.ofN (len a0))) <|
 req (std.room (std.toN (std.ofN (len a0))) 40) <|
 letO (List.replicate (std.toN (std.ofN (len a0))) (TB.mk 0 (TPoint.mk 0 0) (ByteArray.mk #[]))) fun l1 =>
 (whileP (σ := Int × (List TB)) (ρ := ((List TB))) (Lq60_x7 a0 l1) (0, l1)).bind fun y8 =>
 letO y8 fun y8k0 =>
 letO y8k0 fun w26 =>
 req (len l1 = len w26) <|
 some w26
theorem runq60 (a0 : List TB) (r : List TB) (h : Fq60 a0 = some r) : Fun prog 192 [.c (.bs (len a0) 4 (row gd (eL) a0))] [] (.c (.os 64000 0 (len r))) [(64000, .arr .rw [] (len r) 4 (row gd (eL) r))] true := by
 refine ow [] func192 ntmps192 ?_ (hv := (fun _ => ⟨trivial, ⟨fun i _ j _ => val_flat (vl_encLabel _ _), tv⟩⟩)); unfold Fq60 at h; unfold Lq60_x7 at h; have hfq17 := @runq17; generalize hU_ : @len = U_, hG_ : @gd = G_, hA : std = A, hP : prog = P at *; cbv; revert h; refine rq fun c3 => rq fun c4 => rl fun l1 hl1 h => ?_
 have e2 : A.toN (A.ofN (U_ a0)) = U_ l1 := by subst hl1 hU_ hA; exact rep_len rfl
 refine And.intro (by first | exact ⟨c3, c4⟩ | exact ⟨rfl, c3, trivial, trivial, trivial, c4⟩ | (refine ⟨?_, ?_, ?_, ?_, ?_, ?_⟩ <;> first | exact c3 | exact c4 | trivial)) ?_; refine ⟨_, (co e2), _, row G_ (eL) l1, e2, wO ?_, ?_⟩
 ·subst hG_ hU_; exact upd_repL hl1 zr
 cbv; revert h; refine ln (.exit 0) (fun x => (sp 23 [(0, .c (.bs (U_ a0) 4 (row G_ (eL) a0))), (3, .c (.os 448 0 (U_ l1))), (4, .c (wi x.1))] [(448, .arr .rw [] (U_ l1) 4 (row G_ (eL) x.2))])) (fun w => (sp 23 [(3, .c (.os 448 0 (U_ l1)))] [(448, .arr .rw [] (U_ l1) 4 (row G_ (eL) w))])) zb ?_ ?_
 ·rintro ⟨v5, v6⟩ z h K hK hY; replace h := oz (oz h); dsimp only at h; cbv; revert h; refine fk ?_ ?_ <;> intro h <;> cbv
  ·revert h; refine ra fun c19 h => ?_; revert h; refine rk0 (hfq17 _) fun y20 h => ?_; cbv; revert h; refine ra fun c22 h => ?_; revert h; refine rq fun c24 => rl fun l23 hl23 h => ?_; refine ai c22 ?_; refine ⟨_, rfl, _, row G_ (eL) l23, rfl, wO (us hA hU_ hG_ hl23 c22 c24), ?_⟩; cbv; exact dm
  exact dx
 intro w26 h s q16; replace h := oz (oz h); cbv; refine ⟨_, q16, ?_⟩; cbv; revert h; refine rq fun c27 h => ?_; injection h with h; subst h; refine ⟨(sp 23 [(2, .c (.os 64000 0 (U_ w26)))] [(64000, .arr .rw [] (U_ w26) 4 (row G_ (eL) w26))]), ?_, ?_⟩
 ·refine St.le_trans (le_ren 448 64000 (by decide) rfl) ?_; rw [c27]; exact zb
 ·exact ⟨lR _, zo, rfl⟩

/-- laws.toTransform -/
def Fq166 (a0 : TM) : Option (TM) :=
 some a0
theorem runq166 (a0 : TM) (r : TM) (h : Fq166 a0 = some r) : Fun prog 113 [.agg [wi a0.fo, wi a0.fX, wi a0.fY]] [] (.agg [wi r.fo, wi r.fX, wi r.fY]) [] true := by
 refine ow [] func113 ntmps113 ?_ (hv := (fun _ => ⟨(by simp [AV.flat, AV.flat1, AC.flat]), tv⟩)); unfold Fq166 at h; generalize hU_ : @len = U_, hG_ : @gd = G_, hA : std = A, hP : prog = P at *; cbv; exact df
set_option maxHeartbeats 4000000
/-- laws.toInstance -/
def Fq18 (a0 : TI) : Option (TI) :=
 (Fq166 a0.fp).bind fun y1 =>
 some (TI.mk a0.fc y1 a0.fK a0.fR a0.fu a0.fv)
theorem runq18 (a0 : TI) (r : TI) (h : Fq18 a0 = some r) : Fun prog 63 [.agg [wi a0.fc, wi a0.fp.fo, wi a0.fp.fX, wi a0.fp.fY, wi a0.fK, wi a0.fR, wi a0.fu, wi a0.fv]] [] (.agg [wi r.fc, wi r.fp.fo, wi r.fp.fX, wi r.fp.fY, wi r.fK, wi r.fR, wi r.fu, wi r.fv]) [] true := by
 refine ow [] func63 ntmps63 ?_ (hv := (fun _ => ⟨(by simp [AV.flat, AV.flat1, AC.flat]), tv⟩)); unfold Fq18 at h; have hfq166 := @runq166; generalize hU_ : @len = U_, hG_ : @gd = G_, hA : std = A, hP : prog = P at *; cbv; revert h; refine rk0 (hfq166 _) fun y1 h => ?_; cbv; exact df

def Lq63_x7 (a0 : List TI) (l1 : List TI) : (Int × (List TI)) -> Option ((Int × (List TI)) ⊕ (((List TI)))) := fun x7 =>
 letO x7.1 fun v5 =>
 letO x7.2 fun v6 =>
 br (std.lt v5 (std.ofN (len a0)))
 (req (std.inR v5 (len a0)) <|
 (Fq18 (gd a0 (std.toN v5))).bind fun y20 =>
 req (std.inR v5 (len l1)) <|
 req (len l1 = len v6) <|
 letO (List.set v6 (std.nadd 0 (std.toN v5)) y20) fun l23 =>
 some (.inl (std.add .i64 v5 1, l23)))
 (some (.inr v6))
/-- laws.toInstanceS -/
def Fq63 (a0 : List TI) : Option (List TI) :=
 req (std.nneg (std.ofN (len a0))) <|
 req (std.room (std.toN (std.ofN (len a0))) 64) <|
 letO (List.replicate (std.toN (std.ofN (len a0))) (TI.mk 0 (TM.mk 0 0 0) 0 0 0 0)) fun l1 =>
 (whileP (σ := Int × (List TI)) (ρ := ((List TI))) (Lq63_x7 a0 l1) (0, l1)).bind fun y8 =>
 letO y8 fun y8k0 =>
 letO y8k0 fun w26 =>
 req (len l1 = len w26) <|
 some w26
theorem runq63 (a0 : List TI) (r : List TI) (h : Fq63 a0 = some r) : Fun prog 193 [.c (.bs (len a0) 8 (row gd (eI) a0))] [] (.c (.os 64000 0 (len r))) [(64000, .arr .rw [] (len r) 8 (row gd (eI) r))] true := by
 refine ow [] func193 ntmps193 ?_ (hv := (fun _ => ⟨trivial, ⟨fun i _ j _ => val_flat (vl_encInstance _ _), tv⟩⟩)); unfold Fq63 at h; unfold Lq63_x7 at h; have hfq18 := @runq18; generalize hU_ : @len = U_, hG_ : @gd = G_, hA : std = A, hP : prog = P at *; cbv; revert h; refine rq fun c3 => rq fun c4 => rl fun l1 hl1 h => ?_
 have e2 : A.toN (A.ofN (U_ a0)) = U_ l1 := by subst hl1 hU_ hA; exact rep_len rfl
 refine And.intro (by first | exact ⟨c3, c4⟩ | exact ⟨rfl, c3, trivial, trivial, trivial, c4⟩ | (refine ⟨?_, ?_, ?_, ?_, ?_, ?_⟩ <;> first | exact c3 | exact c4 | trivial)) ?_; refine ⟨_, (co e2), _, row G_ (eI) l1, e2, wO ?_, ?_⟩
 ·subst hG_ hU_; exact upd_repL hl1 zr
 cbv; revert h; refine ln (.exit 0) (fun x => (sp 23 [(0, .c (.bs (U_ a0) 8 (row G_ (eI) a0))), (3, .c (.os 448 0 (U_ l1))), (4, .c (wi x.1))] [(448, .arr .rw [] (U_ l1) 8 (row G_ (eI) x.2))])) (fun w => (sp 23 [(3, .c (.os 448 0 (U_ l1)))] [(448, .arr .rw [] (U_ l1) 8 (row G_ (eI) w))])) zb ?_ ?_
 ·rintro ⟨v5, v6⟩ z h K hK hY; replace h := oz (oz h); dsimp only at h; cbv; revert h; refine fk ?_ ?_ <;> intro h <;> cbv
  ·revert h; refine ra fun c19 h => ?_; revert h; refine rk0 (hfq18 _) fun y20 h => ?_; cbv; revert h; refine ra fun c22 h => ?_; revert h; refine rq fun c24 => rl fun l23 hl23 h => ?_; refine ai c22 ?_; refine ⟨_, rfl, _, row G_ (eI) l23, rfl, wO (us hA hU_ hG_ hl23 c22 c24), ?_⟩; cbv; exact dm
  exact dx
 intro w26 h s q16; replace h := oz (oz h); cbv; refine ⟨_, q16, ?_⟩; cbv; revert h; refine rq fun c27 h => ?_; injection h with h; subst h; refine ⟨(sp 23 [(2, .c (.os 64000 0 (U_ w26)))] [(64000, .arr .rw [] (U_ w26) 8 (row G_ (eI) w26))]), ?_, ?_⟩
 ·refine St.le_trans (le_ren 448 64000 (by decide) rfl) ?_; rw [c27]; exact zb
 ·exact ⟨lR _, zo, rfl⟩

/-- laws.toCell -/
def Fq22 (a0 : TC) : Option (TC) :=
 (Fq62 a0.fS).bind fun y1 =>
 (Fq60 a0.fL).bind fun y3 =>
 (Fq63 a0.fI).bind fun y5 =>
 some (TC.mk a0.fN y1 y3 y5)
theorem runq22 (a0 : TC) (r : TC) (h : Fq22 a0 = some r) : Fun prog 110 [.agg [ws a0.fN, .bs (len a0.fS) 5 (row gd (eS) a0.fS), .bs (len a0.fL) 4 (row gd (eL) a0.fL), .bs (len a0.fI) 8 (row gd (eI) a0.fI)]] [] (.agg [ws r.fN, .os 64000 0 (len r.fS), .os 64002 0 (len r.fL), .os 64004 0 (len r.fI)]) [(64000, .arr .rw [] (len r.fS) 5 (row gd (eS) r.fS)), (64002, .arr .rw [] (len r.fL) 4 (row gd (eL) r.fL)), (64004, .arr .rw [] (len r.fI) 8 (row gd (eI) r.fI))] true := by
 refine ow [] func110 ntmps110 ?_ (hv := (fun _ => ⟨(by simp [AV.flat, AV.flat1, AC.flat]), ⟨fun i _ j _ => val_flat (vl_encShape _ _), fun i _ j _ => val_flat (vl_encLabel _ _), fun i _ j _ => val_flat (vl_encInstance _ _), tv⟩⟩)); unfold Fq22 at h; have hfq63 := @runq63; have hfq60 := @runq60
 have hfq62 := @runq62; generalize hU_ : @len = U_, hG_ : @gd = G_, hA : std = A, hP : prog = P at *; cbv; revert h; refine rk [] [(64000, 576)] (hfq62 _) (fun _ => zf) fun y1 h => ⟨_, rfl, _, _, rfl, fun _ _ _ _ => .refl _, ?_⟩
 cbv; revert h; refine rk [] [(64000, 832)] (hfq60 _) (fun _ => zf) fun y3 h => ⟨_, rfl, _, _, rfl, fun _ _ _ _ => .refl _, ?_⟩
 cbv; revert h; refine rk [] [(64000, 1088)] (hfq63 _) (fun _ => zf) fun y5 h => ⟨_, rfl, _, _, rfl, fun _ _ _ _ => .refl _, ?_⟩
 cbv; injection h with h; subst h; exact ⟨_, St.le_trans (le_ren 576 64000 (by decide) rfl) (St.le_trans (le_ren 832 64002 (by decide) rfl) ((le_ren 1088 64004 (by decide) rfl))), lR _, zo, rfl⟩

def Lq59_x14 (a0 : List TC) (w7 : List TC) : (Int × (List TC)) -> Option ((Int × (List TC)) ⊕ (((List TC)))) := fun x14 =>
 letO x14.1 fun v12 =>
 letO x14.2 fun v13 =>
 br (std.lt v12 (std.ofN (len a0)))
 (((
 req (std.inR v12 (len a0)) <|
 (Fq22 (gd a0 (std.toN v12))).bind fun y34 =>
 req (std.inR v12 (len w7)) <|
 req (len w7 = len v13) <|
 letO (List.set v13 (std.nadd 0 (std.toN v12)) y34) fun l37 =>
 some l37
 ) : Option ((List TC))).bind fun y26 =>
 letO y26 fun w32 =>
 some (.inl (std.add .i64 v12 1, w32)))
 (some (.inr v13))
/-- laws.toCellS -/
def Fq59 (a0 : List TC) : Option (List TC) :=
 ((
 req (std.nneg (std.ofN (len a0))) <|
 req (std.room (std.toN (std.ofN (len a0))) 88) <|
 letO (List.replicate (std.toN (std.ofN (len a0))) (TC.mk (ByteArray.mk #[]) ([] : List TS) ([] : List TB) ([] : List TI))) fun l8 =>
 some l8
 ) : Option ((List TC))).bind fun y1 =>
 letO y1 fun w7 =>
 (whileP (σ := Int × (List TC)) (ρ := ((List TC))) (Lq59_x14 a0 w7) (0, w7)).bind fun y15 =>
 letO y15 fun y15k0 =>
 letO y15k0 fun w40 =>
 req (len w7 = len w40) <|
 some w40
theorem runq59 (a0 : List TC) (r : List TC) (h : Fq59 a0 = some r) : Fun prog 60 [.c (.bs (len a0) 4 (row gd (eC len gd) a0))] [] (.c (.os 64000 0 (len r))) [(64000, .arr .rw [] (len r) 4 (row gd (oC len gd) r))] true := by
 refine ow [1, 5] func60 ntmps60 ?_ (hv := (fun _ => ⟨trivial, ⟨fun i _ j _ => fl_oncCell _ _, tv⟩⟩)); unfold Fq59 at h; unfold Lq59_x14 at h; have hfq22 := @runq22; generalize hU_ : @len = U_, hG_ : @gd = G_, hA : std = A, hP : prog = P at *; cbv
 revert h; refine cu (fun y1 => (sp 23 [(0, .c (.bs (U_ a0) 4 (row G_ (eC U_ G_) a0))), (3, .c (.os 448 0 (U_ y1)))] [(448, .arr .rw [] (U_ y1) 4 (row G_ (oC U_ G_) y1))])) ?_ fun w7 => rz fun h => ?_
 ·intro y1 S hS h; cbv; revert h; refine rq fun c10 => rq fun c11 => rl fun l8 hl8 h => ?_; have e9 : A.toN (A.ofN (U_ a0)) = U_ l8 := by subst hl8 hU_ hA; exact rep_len rfl
  refine And.intro (by first | exact ⟨c10, c11⟩ | exact ⟨rfl, c10, trivial, trivial, trivial, c11⟩ | (refine ⟨?_, ?_, ?_, ?_, ?_, ?_⟩ <;> first | exact c10 | exact c11 | trivial)) ?_; refine ⟨_, (co e9), _, (fun _ j => ([ws (ByteArray.mk #[]), .v (.slice none 0 0), .v (.slice none 0 0), .v (.slice none 0 0)] : List AC).getD j .junk), e9, wO ?_, ?_⟩
  ·exact fun _ _ => zr
  cbv; injection h with h; subst h; subst hS; show St.le _ _
  refine St.le_trans (le_nilG (get' := (fun _ j => ([ws (ByteArray.mk #[]), .ow (U_ ([] : List TS)) 5 (row G_ (eS) ([] : List TS)), .ow (U_ ([] : List TB)) 4 (row G_ (eL) ([] : List TB)), .ow (U_ ([] : List TI)) 8 (row G_ (eI) ([] : List TI))] : List AC).getD j .junk)) 448 rfl ?_) ?_
  ·subst hU_; intro i _ j hj; match j, hj with | 0, _ => exact (.inl rfl) | 1, _ => exact (.inr ⟨rfl, _, _, rfl⟩) | 2, _ => exact (.inr ⟨rfl, _, _, rfl⟩) | 3, _ => exact (.inr ⟨rfl, _, _, rfl⟩) | (j_ + 4), h_ => omega
  exact lsp rfl zl ⟨oP (fun _ _ => rC _ _) (by subst hG_ hU_ hA; exact upd_repL hl8 (g := fun j => _) zr), tv⟩ rfl
 cbv; revert h; refine ln (.exit 0) (fun x => (sp 23 [(0, .c (.bs (U_ a0) 4 (row G_ (eC U_ G_) a0))), (3, .c (.os 448 0 (U_ w7))), (4, .c (wi x.1))] [(448, .arr .rw [] (U_ w7) 4 (row G_ (oC U_ G_) x.2))])) (fun w => (sp 23 [(3, .c (.os 448 0 (U_ w7)))] [(448, .arr .rw [] (U_ w7) 4 (row G_ (oC U_ G_) w))])) zb ?_ ?_
 ·rintro ⟨v12, v13⟩ z h K hK hY; replace h := oz (oz h); dsimp only at h; cbv; revert h; refine fk ?_ ?_ <;> intro h <;> cbv
  ·revert h; refine cu (fun y26 => (sp 23 [(0, .c (.bs (U_ a0) 4 (row G_ (eC U_ G_) a0))), (3, .c (.os 448 0 (U_ w7))), (4, .c (wi v12))] [(448, .arr .rw [] (U_ w7) 4 (row G_ (oC U_ G_) y26))])) ?_ fun w32 => rz fun h => ?_
   ·intro y26 S hS h; cbv; revert h; refine ra fun c33 h => ?_; revert h; refine rk [] [(64000, 1280), (64002, 1282), (64004, 1284)] (hfq22 _) (fun _ => zf) fun y34 h => ⟨_, rfl, _, _, rfl, fun _ _ _ _ => .refl _, _, _, rfl, fun _ _ _ _ => .refl _, _, _, rfl, fun _ _ _ _ => .refl _, ?_⟩
    cbv; revert h; refine ra fun c36 h => ?_; refine ai c36 ?_; refine ⟨_, rfl, _, (pC (row G_ (oC U_ G_) v13) (A.nadd 0 (A.toN v12)) [ws y34.fN, .os 1280 0 (U_ y34.fS), .os 1282 0 (U_ y34.fL), .os 1284 0 (U_ y34.fI)]), rfl, wO (patch_of zr), ?_⟩; cbv; revert h; refine rq fun c38 => rl fun l37 hl37 h => ?_; injection h with h; subst h; subst hS
    show St.le _ _; refine St.le_trans (le_foldP 448 1 1280 rfl rfl rfl (by decide) (by subst hA; exact ix c36) (by decide) rfl (fun _ _ => rC _ _)) ?_; refine St.le_trans (le_foldP 448 2 1282 rfl rfl rfl (by decide) (by subst hA; exact ix c36) (by decide) rfl (fun _ _ => rC _ _)) ?_
    refine St.le_trans (le_foldP 448 3 1284 rfl rfl rfl (by decide) (by subst hA; exact ix c36) (by decide) rfl (fun _ _ => rC _ _)) ?_; exact lsp rfl zl ⟨oP (fun _ _ => rC _ _) (by subst hG_ hU_ hA; exact patch_set hl37 (ix (by rw [<- c38]; exact c36)) zr), tv⟩ rfl
   cbv; exact dm
  exact dx
 intro w40 h s q23; replace h := oz (oz h); cbv; refine ⟨_, q23, ?_⟩; cbv; revert h; refine rq fun c41 h => ?_; injection h with h; subst h; refine ⟨(sp 23 [(2, .c (.os 64000 0 (U_ w40)))] [(64000, .arr .rw [] (U_ w40) 4 (row G_ (oC U_ G_) w40))]), ?_, ?_⟩
 ·refine St.le_trans (le_ren 448 64000 (by decide) rfl) ?_; rw [c41]; exact zb
 ·exact ⟨lR _, zo, rfl⟩

/-- laws.toLibrary -/
def Fq125 (a0 : TL) : Option (TL) :=
 (Fq59 a0.fC).bind fun y1 =>
 some (TL.mk y1)
theorem runq125 (a0 : TL) (r : TL) (h : Fq125 a0 = some r) : Fun prog 17 [.agg [.bs (len a0.fC) 4 (row gd (eC len gd) a0.fC)]] [] (.agg [.os 64000 0 (len r.fC)]) [(64000, .arr .rw [] (len r.fC) 4 (row gd (oC len gd) r.fC))] true := by
 refine ow [] func17 ntmps17 ?_ (hv := (fun _ => ⟨(by simp [AV.flat, AV.flat1, AC.flat]), ⟨fun i _ j _ => fl_oncCell _ _, tv⟩⟩)); unfold Fq125 at h; have hfq59 := @runq59; generalize hU_ : @len = U_, hG_ : @gd = G_, hA : std = A, hP : prog = P at *; cbv
 revert h; refine rk [] [(64000, 384)] (hfq59 _) (fun _ => zf) fun y1 h => ⟨_, rfl, _, _, rfl, fun _ _ _ _ => .refl _, ?_⟩
 cbv; injection h with h; subst h; exact ⟨_, le_ren 384 64000 (by decide) rfl, lR _, zo, rfl⟩

/-- laws.toEdit -/
def Fq0 (a0 : TE) : Option (TE) :=
 (Fq19 a0.fs_).bind fun y1 =>
 (Fq17 a0.fl_).bind fun y3 =>
 (Fq18 a0.fi_).bind fun y5 =>
 some (TE.mk a0.fk_ a0.fc a0.fx a0.fN y1 y3 y5)
theorem runq0 (a0 : TE) (r : TE) (h : Fq0 a0 = some r) : Fun prog 18 [.agg (cE a0)] [] (.agg (cE r)) [] true := by
 refine ow [] func18 ntmps18 ?_ (hv := (fun _ => ⟨(by simp [AV.flat, AV.flat1, AC.flat]), tv⟩)); unfold Fq0 at h; have hfq18 := @runq18; have hfq17 := @runq17; have hfq19 := @runq19; generalize hU_ : @len = U_, hG_ : @gd = G_, hA : std = A, hP : prog = P at *; cbv
 revert h; refine rk0 (hfq19 _) fun y1 h => ?_; cbv; revert h; refine rk0 (hfq17 _) fun y3 h => ?_; cbv; revert h; refine rk0 (hfq18 _) fun y5 h => ?_; cbv; exact df
set_option maxHeartbeats 4000000
def Lq6_x7 (a0 : List TE) (l1 : List TE) : (Int × (List TE)) -> Option ((Int × (List TE)) ⊕ (((List TE)))) := fun x7 =>
 letO x7.1 fun v5 =>
 letO x7.2 fun v6 =>
 br (std.lt v5 (std.ofN (len a0)))
 (req (std.inR v5 (len a0)) <|
 (Fq0 (gd a0 (std.toN v5))).bind fun y20 =>
 req (std.inR v5 (len l1)) <|
 req (len l1 = len v6) <|
 letO (List.set v6 (std.nadd 0 (std.toN v5)) y20) fun l23 =>
 some (.inl (std.add .i64 v5 1, l23)))
 (some (.inr v6))
/-- laws.toEditS -/
def Fq6 (a0 : List TE) : Option (List TE) :=
 req (std.nneg (std.ofN (len a0))) <|
 req (std.room (std.toN (std.ofN (len a0))) 184) <|
 letO (List.replicate (std.toN (std.ofN (len a0))) (TE.mk 0 0 0 (ByteArray.mk #[]) (TS.mk 0 (TRect.mk 0 0 0 0)) (TB.mk 0 (TPoint.mk 0 0) (ByteArray.mk #[])) (TI.mk 0 (TM.mk 0 0 0) 0 0 0 0))) fun l1 =>
 (whileP (σ := Int × (List TE)) (ρ := ((List TE))) (Lq6_x7 a0 l1) (0, l1)).bind fun y8 =>
 letO y8 fun y8k0 =>
 letO y8k0 fun w26 =>
 req (len l1 = len w26) <|
 some w26
theorem runq6 (a0 : List TE) (r : List TE) (h : Fq6 a0 = some r) : Fun prog 25 [.c (.bs (len a0) 21 (row gd (eE) a0))] [] (.c (.os 64000 0 (len r))) [(64000, .arr .rw [] (len r) 21 (row gd (eE) r))] true := by
 refine ow [] func25 ntmps25 ?_ (hv := (fun _ => ⟨trivial, ⟨fun i _ j _ => val_flat (vl_encEdit _ _), tv⟩⟩)); unfold Fq6 at h; unfold Lq6_x7 at h; have hfq0 := @runq0; generalize hU_ : @len = U_, hG_ : @gd = G_, hA : std = A, hP : prog = P at *; cbv; revert h; refine rq fun c3 => rq fun c4 => rl fun l1 hl1 h => ?_
 have e2 : A.toN (A.ofN (U_ a0)) = U_ l1 := by subst hl1 hU_ hA; exact rep_len rfl
 refine And.intro (by first | exact ⟨c3, c4⟩ | exact ⟨rfl, c3, trivial, trivial, trivial, c4⟩ | (refine ⟨?_, ?_, ?_, ?_, ?_, ?_⟩ <;> first | exact c3 | exact c4 | trivial)) ?_; refine ⟨_, (co e2), _, row G_ (eE) l1, e2, wO ?_, ?_⟩
 ·subst hG_ hU_; exact upd_repL hl1 zr
 cbv; revert h; refine ln (.exit 0) (fun x => (sp 23 [(0, .c (.bs (U_ a0) 21 (row G_ (eE) a0))), (3, .c (.os 448 0 (U_ l1))), (4, .c (wi x.1))] [(448, .arr .rw [] (U_ l1) 21 (row G_ (eE) x.2))])) (fun w => (sp 23 [(3, .c (.os 448 0 (U_ l1)))] [(448, .arr .rw [] (U_ l1) 21 (row G_ (eE) w))])) zb ?_ ?_
 ·rintro ⟨v5, v6⟩ z h K hK hY; replace h := oz (oz h); dsimp only at h; cbv; revert h; refine fk ?_ ?_ <;> intro h <;> cbv
  ·revert h; refine ra fun c19 h => ?_; revert h; refine rk0 (hfq0 _) fun y20 h => ?_; cbv; revert h; refine ra fun c22 h => ?_; revert h; refine rq fun c24 => rl fun l23 hl23 h => ?_; refine ai c22 ?_; refine ⟨_, rfl, _, row G_ (eE) l23, rfl, wO (us hA hU_ hG_ hl23 c22 c24), ?_⟩; cbv; exact dm
  exact dx
 intro w26 h s q16; replace h := oz (oz h); cbv; refine ⟨_, q16, ?_⟩; cbv; revert h; refine rq fun c27 h => ?_; injection h with h; subst h; refine ⟨(sp 23 [(2, .c (.os 64000 0 (U_ w26)))] [(64000, .arr .rw [] (U_ w26) 21 (row G_ (eE) w26))]), ?_, ?_⟩
 ·refine St.le_trans (le_ren 448 64000 (by decide) rfl) ?_; rw [c27]; exact zb
 ·exact ⟨lR _, zo, rfl⟩

def Lq52_x14 (a0 : List (List TE)) (w7 : List (List TE)) : (Int × (List (List TE))) -> Option ((Int × (List (List TE))) ⊕ (((List (List TE))))) := fun x14 =>
 letO x14.1 fun v12 =>
 letO x14.2 fun v13 =>
 br (std.lt v12 (std.ofN (len a0)))
 (((
 req (std.inR v12 (len a0)) <|
 (Fq6 (gd a0 (std.toN v12))).bind fun y34 =>
 req (std.inR v12 (len w7)) <|
 req (len w7 = len v13) <|
 letO (List.set v13 (std.nadd 0 (std.toN v12)) y34) fun l37 =>
 some l37
 ) : Option ((List (List TE)))).bind fun y26 =>
 letO y26 fun w32 =>
 some (.inl (std.add .i64 v12 1, w32)))
 (some (.inr v13))
/-- laws.toEditSS -/
def Fq52 (a0 : List (List TE)) : Option (List (List TE)) :=
 ((
 req (std.nneg (std.ofN (len a0))) <|
 req (std.room (std.toN (std.ofN (len a0))) 24) <|
 letO (List.replicate (std.toN (std.ofN (len a0))) ([] : List TE)) fun l8 =>
 some l8
 ) : Option ((List (List TE)))).bind fun y1 =>
 letO y1 fun w7 =>
 (whileP (σ := Int × (List (List TE))) (ρ := ((List (List TE)))) (Lq52_x14 a0 w7) (0, w7)).bind fun y15 =>
 letO y15 fun y15k0 =>
 letO y15k0 fun w40 =>
 req (len w7 = len w40) <|
 some w40
theorem runq52 (a0 : List (List TE)) (r : List (List TE)) (h : Fq52 a0 = some r) : Fun prog 76 [.c (.bs (len a0) 1 (row gd (eN len gd 21 (eE)) a0))] [] (.c (.os 64000 0 (len r))) [(64000, .arr .rw [] (len r) 1 (row gd (oN len gd 21 (eE)) r))] true := by
 refine ow [1, 5] func76 ntmps76 ?_ (hv := (fun _ => ⟨trivial, ⟨fun i _ j _ => fl_oncL (vl_encEdit) _ _, tv⟩⟩)); unfold Fq52 at h; unfold Lq52_x14 at h; have hfq6 := @runq6; generalize hU_ : @len = U_, hG_ : @gd = G_, hA : std = A, hP : prog = P at *; cbv
 revert h; refine cu (fun y1 => (sp 23 [(0, .c (.bs (U_ a0) 1 (row G_ (eN U_ G_ 21 (eE)) a0))), (3, .c (.os 448 0 (U_ y1)))] [(448, .arr .rw [] (U_ y1) 1 (row G_ (oN U_ G_ 21 (eE)) y1))])) ?_ fun w7 => rz fun h => ?_
 ·intro y1 S hS h; cbv; revert h; refine rq fun c10 => rq fun c11 => rl fun l8 hl8 h => ?_; have e9 : A.toN (A.ofN (U_ a0)) = U_ l8 := by subst hl8 hU_ hA; exact rep_len rfl
  refine And.intro (by first | exact ⟨c10, c11⟩ | exact ⟨rfl, c10, trivial, trivial, trivial, c11⟩ | (refine ⟨?_, ?_, ?_, ?_, ?_, ?_⟩ <;> first | exact c10 | exact c11 | trivial)) ?_; refine ⟨_, (co e9), _, (fun _ j => ([.v (.slice none 0 0)] : List AC).getD j .junk), e9, wO ?_, ?_⟩
  ·exact fun _ _ => zr
  cbv; injection h with h; subst h; subst hS; show St.le _ _; refine St.le_trans (le_nilG (get' := (fun _ j => ([.ow (U_ ([] : List TE)) 21 (row G_ (eE) ([] : List TE))] : List AC).getD j .junk)) 448 rfl ?_) ?_
  ·subst hU_; intro i _ j hj; match j, hj with | 0, _ => exact (.inr ⟨rfl, _, _, rfl⟩) | (j_ + 1), h_ => omega
  exact lsp rfl zl ⟨oP (fun _ _ => rfl) (by subst hG_ hU_ hA; exact upd_repL hl8 (g := fun j => _) zr), tv⟩ rfl
 cbv; revert h; refine ln (.exit 0) (fun x => (sp 23 [(0, .c (.bs (U_ a0) 1 (row G_ (eN U_ G_ 21 (eE)) a0))), (3, .c (.os 448 0 (U_ w7))), (4, .c (wi x.1))] [(448, .arr .rw [] (U_ w7) 1 (row G_ (oN U_ G_ 21 (eE)) x.2))])) (fun w => (sp 23 [(3, .c (.os 448 0 (U_ w7)))] [(448, .arr .rw [] (U_ w7) 1 (row G_ (oN U_ G_ 21 (eE)) w))])) zb ?_ ?_
 ·rintro ⟨v12, v13⟩ z h K hK hY; replace h := oz (oz h); dsimp only at h; cbv; revert h; refine fk ?_ ?_ <;> intro h <;> cbv
  ·revert h; refine cu (fun y26 => (sp 23 [(0, .c (.bs (U_ a0) 1 (row G_ (eN U_ G_ 21 (eE)) a0))), (3, .c (.os 448 0 (U_ w7))), (4, .c (wi v12))] [(448, .arr .rw [] (U_ w7) 1 (row G_ (oN U_ G_ 21 (eE)) y26))])) ?_ fun w32 => rz fun h => ?_
   ·intro y26 S hS h; cbv; revert h; refine ra fun c33 h => ?_; revert h; refine rk [] [(64000, 1280)] (hfq6 _) (fun _ => zf) fun y34 h => ⟨_, rfl, _, _, rfl, fun _ _ _ _ => .refl _, ?_⟩
    cbv; revert h; refine ra fun c36 h => ?_; refine ai c36 ?_; refine ⟨_, rfl, _, (pC (row G_ (oN U_ G_ 21 (eE)) v13) (A.nadd 0 (A.toN v12)) [.os 1280 0 (U_ y34)]), rfl, wO (patch_of zr), ?_⟩; cbv; revert h; refine rq fun c38 => rl fun l37 hl37 h => ?_; injection h with h; subst h; subst hS; show St.le _ _
    refine St.le_trans (le_foldP 448 0 1280 rfl rfl rfl (by decide) (by subst hA; exact ix c36) (by decide) rfl (fun _ _ => rfl)) ?_; exact lsp rfl zl ⟨oP (fun _ _ => rfl) (by subst hG_ hU_ hA; exact patch_set hl37 (ix (by rw [<- c38]; exact c36)) zr), tv⟩ rfl
   cbv; exact dm
  exact dx
 intro w40 h s q23; replace h := oz (oz h); cbv; refine ⟨_, q23, ?_⟩; cbv; revert h; refine rq fun c41 h => ?_; injection h with h; subst h; refine ⟨(sp 23 [(2, .c (.os 64000 0 (U_ w40)))] [(64000, .arr .rw [] (U_ w40) 1 (row G_ (oN U_ G_ 21 (eE)) w40))]), ?_, ?_⟩
 ·refine St.le_trans (le_ren 448 64000 (by decide) rfl) ?_; rw [c41]; exact zb
 ·exact ⟨lR _, zo, rfl⟩

/-- laws.toEditor -/
def Fq10 (a0 : TD_) : Option (TD_) :=
 (Fq125 a0.fr_).bind fun y1 =>
 (Fq52 a0.fU).bind fun y3 =>
 (Fq52 a0.fD).bind fun y5 =>
 some (TD_.mk y1 y3 y5)
theorem runq10 (a0 : TD_) (r : TD_) (h : Fq10 a0 = some r) : Fun prog 31 [.agg [.bs (len a0.fr_.fC) 4 (row gd (eC len gd) a0.fr_.fC), .bs (len a0.fU) 1 (row gd (eN len gd 21 (eE)) a0.fU), .bs (len a0.fD) 1 (row gd (eN len gd 21 (eE)) a0.fD)]] [] (.agg [.os 64000 0 (len r.fr_.fC), .os 64002 0 (len r.fU), .os 64004 0 (len r.fD)]) [(64000, .arr .rw [] (len r.fr_.fC) 4 (row gd (oC len gd) r.fr_.fC)), (64002, .arr .rw [] (len r.fU) 1 (row gd (oN len gd 21 (eE)) r.fU)), (64004, .arr .rw [] (len r.fD) 1 (row gd (oN len gd 21 (eE)) r.fD))] true := by
 refine ow [] func31 ntmps31 ?_ (hv := (fun _ => ⟨(by simp [AV.flat, AV.flat1, AC.flat]), ⟨fun i _ j _ => fl_oncCell _ _, fun i _ j _ => fl_oncL (vl_encEdit) _ _, fun i _ j _ => fl_oncL (vl_encEdit) _ _, tv⟩⟩)); unfold Fq10 at h; have hfq52 := @runq52; have hfq125 := @runq125
 generalize hU_ : @len = U_, hG_ : @gd = G_, hA : std = A, hP : prog = P at *; cbv; revert h; refine rk [] [(64000, 384)] (hfq125 _) (fun _ => zf) fun y1 h => ⟨_, rfl, _, _, rfl, fun _ _ _ _ => .refl _, ?_⟩
 cbv; revert h; refine rk [] [(64000, 640)] (hfq52 _) (fun _ => zf) fun y3 h => ⟨_, rfl, _, _, rfl, fun _ _ _ _ => .refl _, ?_⟩
 cbv; revert h; refine rk [] [(64000, 896)] (hfq52 _) (fun _ => zf) fun y5 h => ⟨_, rfl, _, _, rfl, fun _ _ _ _ => .refl _, ?_⟩
 cbv; injection h with h; subst h; exact ⟨_, St.le_trans (le_ren 384 64000 (by decide) rfl) (St.le_trans (le_ren 640 64002 (by decide) rfl) ((le_ren 896 64004 (by decide) rfl))), lR _, zo, rfl⟩

def Lq32_x2 (a0 : ByteArray) : (Int) -> Option ((Int) ⊕ ((Unit) ⊕ (Unit))) := fun x2 =>
 letO x2 fun v1 =>
 br (std.lt v1 (std.ofN (std.slen a0)))
 (((
 req (std.inR v1 (std.slen a0)) <|
 br (std.le 97 (std.sat a0 (std.toN v1)))
 (req (std.inR v1 (std.slen a0)) <|
 br (std.le (std.sat a0 (std.toN v1)) 122)
 (some false)
 (req (std.inR v1 (std.slen a0)) <|
 br (std.le 48 (std.sat a0 (std.toN v1)))
 (req (std.inR v1 (std.slen a0)) <|
 some (!(std.le (std.sat a0 (std.toN v1)) 57)))
 (some true)))
 (req (std.inR v1 (std.slen a0)) <|
 br (std.le 48 (std.sat a0 (std.toN v1)))
 (req (std.inR v1 (std.slen a0)) <|
 some (!(std.le (std.sat a0 (std.toN v1)) 57)))
 (some true))
 ) : Option (Bool)).bind fun y14 =>
 letO y14 fun w20 =>
 br w20
 (some (.inr (.inl ())))
 (some (.inl (std.add .i64 v1 1))))
 (some (.inr (.inr ())))
/-- spec.IsName -/
def Fq32 (a0 : ByteArray) : Option (Bool) :=
 (whileP (σ := Int) (ρ := (Unit) ⊕ (Unit)) (Lq32_x2 a0) 0).bind fun y3 =>
 (match y3 with
 | .inl y3k0 => (
 some false)
 | .inr y3m0 =>
 ((
 br (std.le 1 (std.ofN (std.slen a0)))
 (some (std.le (std.ofN (std.slen a0)) 8))
 (some false)
 ) : Option (Bool)).bind fun y33 =>
 letO y33 fun w39 =>
 some w39)
theorem runq32 (a0 : ByteArray) (r : Bool) (h : Fq32 a0 = some r) : Fun prog 173 [.c (ws a0)] [] (.c (.v (.bool r))) [] true := by
 refine ow [4, 6] func173 ntmps173 ?_; unfold Fq32 at h; unfold Lq32_x2 at h; generalize hU_ : @len = U_, hG_ : @gd = G_, hA : std = A, hP : prog = P at *; cbv
 revert h; refine lc (fun x => (sp 41 [(0, .c (ws a0)), (3, .c (wi x))] [])) (fun y e s => (match y with | .inl w => e = .ret /\ s.le (sp 41 [(2, .c (.v (.bool false)))] []) | .inr w0 => (fun (w : Unit) => e = .exit 0 /\ s.le (sp 41 [(0, .c (ws a0))] [])) w0)) zb ?_ ?_
 ·intro v1 z h K hK hY; replace h := oz h; cbv; revert h; refine fk ?_ ?_ <;> intro h <;> cbv
  ·revert h; refine cu (fun y14 => (sp 41 [(0, .c (ws a0)), (3, .c (wi v1)), (32, .c (.v (.bool y14)))] [])) (fun y14 S hS h => rg) fun w20 => rz fun h => ?_; cbv; revert h; refine fk ?_ ?_ <;> intro h <;> cbv
   ·exact dy
   exact dm
  exact dy
 intro y3 h e12 s13 q11 hne; rcases y3 with y3k0 | y3m0
 ·replace h := h; obtain ⟨rfl, q11⟩ := q11; cbv; injection h with h; subst h; exact ⟨_, q11, lR _, zo, rfl⟩
 ·obtain ⟨rfl, q11⟩ := q11; cbv; refine ⟨_, q11, ?_⟩; cbv; revert h; refine cu (fun y33 => (sp 41 [(2, .c (.v (.bool y33)))] [])) (fun y33 S hS h => rg) fun w39 => rz fun h => ?_; cbv; exact df

/-- spec.l09In -/
def Fq3 (a0 : Int) (a1 : Int) (a2 : Int) : Option (Bool) :=
 ((
 br (std.le a1 a0)
 (some (std.le a0 a2))
 (some false)
 ) : Option (Bool)).bind fun y1 =>
 letO y1 fun w7 =>
 some w7
theorem runq3 (a0 : Int) (a1 : Int) (a2 : Int) (r : Bool) (h : Fq3 a0 a1 a2 = some r) : Fun prog 134 [.c (wi a0), .c (wi a1), .c (wi a2)] [] (.c (.v (.bool r))) [] true := by
 refine ow [1] func134 ntmps134 ?_; unfold Fq3 at h; generalize hU_ : @len = U_, hG_ : @gd = G_, hA : std = A, hP : prog = P at *; cbv; revert h; refine cu (fun y1 => (sp 15 [(6, .c (.v (.bool y1)))] [])) (fun y1 S hS h => rg) fun w7 => rz fun h => ?_; cbv; exact df

/-- spec.l09Layer -/
def Fq87 (a0 : Int) : Option (Bool) :=
 (Fq3 a0 0 7).bind fun y1 =>
 some y1
theorem runq87 (a0 : Int) (r : Bool) (h : Fq87 a0 = some r) : Fun prog 240 [.c (wi a0)] [] (.c (.v (.bool r))) [] true := by
 refine ow [] func240 ntmps240 ?_; unfold Fq87 at h; have hfq3 := @runq3; generalize hU_ : @len = U_, hG_ : @gd = G_, hA : std = A, hP : prog = P at *; cbv; revert h; refine rk0 (hfq3 _ _ _) fun y1 h => ?_; cbv; exact df
set_option maxHeartbeats 4000000
/-- spec.l09Rect -/
def Fq135 (a0 : TRect) : Option (Bool) :=
 ((
 br (std.le (-40) a0.fX0)
 (br (std.lt a0.fX0 a0.fX1)
 (br (std.le a0.fX1 40)
 (br (std.le (-40) a0.fY0)
 (br (std.lt a0.fY0 a0.fY1)
 (some (std.le a0.fY1 40))
 (some false))
 (some false))
 (some false))
 (some false))
 (some false)
 ) : Option (Bool)).bind fun y1 =>
 letO y1 fun w7 =>
 some w7
theorem runq135 (a0 : TRect) (r : Bool) (h : Fq135 a0 = some r) : Fun prog 241 [.agg [wi a0.fX0, wi a0.fY0, wi a0.fX1, wi a0.fY1]] [] (.c (.v (.bool r))) [] true := by
 refine ow [1] func241 ntmps241 ?_; unfold Fq135 at h; generalize hU_ : @len = U_, hG_ : @gd = G_, hA : std = A, hP : prog = P at *; cbv; revert h; refine cu (fun y1 => (sp 35 [(2, .c (.v (.bool y1)))] [])) (fun y1 S hS h => rg) fun w7 => rz fun h => ?_; cbv; exact df

/-- spec.l09Shape -/
def Fq88 (a0 : TS) : Option (Bool) :=
 ((
 (Fq87 a0.fy).bind fun y8 =>
 br y8
 ((Fq135 a0.fb).bind fun y10 =>
 some y10)
 (some false)
 ) : Option (Bool)).bind fun y1 =>
 letO y1 fun w7 =>
 some w7
theorem runq88 (a0 : TS) (r : Bool) (h : Fq88 a0 = some r) : Fun prog 174 [.agg [wi a0.fy, wi a0.fb.fX0, wi a0.fb.fY0, wi a0.fb.fX1, wi a0.fb.fY1]] [] (.c (.v (.bool r))) [] true := by
 refine ow [1] func174 ntmps174 ?_; unfold Fq88 at h; have hfq87 := @runq87; have hfq135 := @runq135; generalize hU_ : @len = U_, hG_ : @gd = G_, hA : std = A, hP : prog = P at *; cbv; revert h; refine cu (fun y1 => (sp 11 [(2, .c (.v (.bool y1)))] [])) ?_ fun w7 => rz fun h => ?_
 ·intro y1 S hS h; cbv; revert h; refine rk0 (hfq87 _) fun y8 h => ?_; cbv; revert h; refine fk ?_ ?_ <;> intro h <;> cbv
  ·revert h; refine rk0 (hfq135 _) fun y10 h => ?_; cbv; exact dn
  exact dn
 cbv; exact df

/-- spec.l09Unit -/
def Fq152 (a0 : TPoint) : Option (Bool) :=
 ((
 (Fq3 a0.fX (-40) 39).bind fun y8 =>
 br y8
 ((Fq3 a0.fY (-40) 39).bind fun y10 =>
 some y10)
 (some false)
 ) : Option (Bool)).bind fun y1 =>
 letO y1 fun w7 =>
 some w7
theorem runq152 (a0 : TPoint) (r : Bool) (h : Fq152 a0 = some r) : Fun prog 242 [.agg [wi a0.fX, wi a0.fY]] [] (.c (.v (.bool r))) [] true := by
 refine ow [1] func242 ntmps242 ?_; unfold Fq152 at h; have hfq3 := @runq3; generalize hU_ : @len = U_, hG_ : @gd = G_, hA : std = A, hP : prog = P at *; cbv; revert h; refine cu (fun y1 => (sp 11 [(2, .c (.v (.bool y1)))] [])) ?_ fun w7 => rz fun h => ?_
 ·intro y1 S hS h; cbv; revert h; refine rk0 (hfq3 _ _ _) fun y8 h => ?_; cbv; revert h; refine fk ?_ ?_ <;> intro h <;> cbv
  ·revert h; refine rk0 (hfq3 _ _ _) fun y10 h => ?_; cbv; exact dn
  exact dn
 cbv; exact df

/-- spec.l09Label -/
def Fq85 (a0 : TB) : Option (Bool) :=
 ((
 (Fq87 a0.fy).bind fun y8 =>
 br y8
 ((Fq152 a0.fa).bind fun y10 =>
 br y10
 ((Fq32 a0.fN).bind fun y12 =>
 some y12)
 (some false))
 (some false)
 ) : Option (Bool)).bind fun y1 =>
 letO y1 fun w7 =>
 some w7
theorem runq85 (a0 : TB) (r : Bool) (h : Fq85 a0 = some r) : Fun prog 175 [.agg [wi a0.fy, wi a0.fa.fX, wi a0.fa.fY, ws a0.fN]] [] (.c (.v (.bool r))) [] true := by
 refine ow [1] func175 ntmps175 ?_; unfold Fq85 at h; have hfq32 := @runq32; have hfq87 := @runq87; have hfq152 := @runq152; generalize hU_ : @len = U_, hG_ : @gd = G_, hA : std = A, hP : prog = P at *; cbv; revert h; refine cu (fun y1 => (sp 16 [(2, .c (.v (.bool y1)))] [])) ?_ fun w7 => rz fun h => ?_
 ·intro y1 S hS h; cbv; revert h; refine rk0 (hfq87 _) fun y8 h => ?_; cbv; revert h; refine fk ?_ ?_ <;> intro h <;> cbv
  ·revert h; refine rk0 (hfq152 _) fun y10 h => ?_; cbv; revert h; refine fk ?_ ?_ <;> intro h <;> cbv
   ·revert h; refine rk0 (hfq32 _) fun y12 h => ?_; cbv; exact dn
   exact dn
  exact dn
 cbv; exact df

/-- spec.l09Transform -/
def Fq117 (a0 : TM) : Option (Bool) :=
 ((
 (Fq3 a0.fo 0 7).bind fun y8 =>
 br y8
 ((Fq3 a0.fX (-80) 80).bind fun y10 =>
 br y10
 ((Fq3 a0.fY (-80) 80).bind fun y12 =>
 some y12)
 (some false))
 (some false)
 ) : Option (Bool)).bind fun y1 =>
 letO y1 fun w7 =>
 some w7
theorem runq117 (a0 : TM) (r : Bool) (h : Fq117 a0 = some r) : Fun prog 243 [.agg [wi a0.fo, wi a0.fX, wi a0.fY]] [] (.c (.v (.bool r))) [] true := by
 refine ow [1] func243 ntmps243 ?_; unfold Fq117 at h; have hfq3 := @runq3; generalize hU_ : @len = U_, hG_ : @gd = G_, hA : std = A, hP : prog = P at *; cbv; revert h; refine cu (fun y1 => (sp 16 [(2, .c (.v (.bool y1)))] [])) ?_ fun w7 => rz fun h => ?_
 ·intro y1 S hS h; cbv; revert h; refine rk0 (hfq3 _ _ _) fun y8 h => ?_; cbv; revert h; refine fk ?_ ?_ <;> intro h <;> cbv
  ·revert h; refine rk0 (hfq3 _ _ _) fun y10 h => ?_; cbv; revert h; refine fk ?_ ?_ <;> intro h <;> cbv
   ·revert h; refine rk0 (hfq3 _ _ _) fun y12 h => ?_; cbv; exact dn
   exact dn
  exact dn
 cbv; exact df

/-- spec.l09Instance -/
def Fq94 (a0 : TI) (a1 : Int) : Option (Bool) :=
 ((
 (Fq3 a0.fc 0 (std.sub .i64 a1 1)).bind fun y8 =>
 br (!(y8))
 (some true)
 ((Fq117 a0.fp).bind fun y10 =>
 br (!(y10))
 (some true)
 ((Fq3 a0.fK 1 4).bind fun y12 =>
 br (!(y12))
 (some true)
 ((Fq3 a0.fR 1 4).bind fun y14 =>
 some (!(y14)))))
 ) : Option (Bool)).bind fun y1 =>
 letO y1 fun w7 =>
 br w7
 (some false)
 (((
 (Fq3 a0.fu (-80) 80).bind fun y26 =>
 br (!(y26))
 (some true)
 ((Fq3 a0.fv (-80) 80).bind fun y28 =>
 some (!(y28)))
 ) : Option (Bool)).bind fun y19 =>
 letO y19 fun w25 =>
 br w25
 (some false)
 (((
 br (std.lt 1 a0.fK)
 (br (std.lt 1 a0.fR)
 (some true)
 (some (std.eq a0.fv 0)))
 (br (std.eq a0.fu 0)
 (br (std.lt 1 a0.fR)
 (some true)
 (some (std.eq a0.fv 0)))
 (some false))
 ) : Option (Bool)).bind fun y31 =>
 letO y31 fun w37 =>
 some w37))
theorem runq94 (a0 : TI) (a1 : Int) (r : Bool) (h : Fq94 a0 a1 = some r) : Fun prog 176 [.agg [wi a0.fc, wi a0.fp.fo, wi a0.fp.fX, wi a0.fp.fY, wi a0.fK, wi a0.fR, wi a0.fu, wi a0.fv], .c (wi a1)] [] (.c (.v (.bool r))) [] true := by
 refine ow [1, 3, 5] func176 ntmps176 ?_; unfold Fq94 at h; have hfq3 := @runq3; have hfq117 := @runq117; generalize hU_ : @len = U_, hG_ : @gd = G_, hA : std = A, hP : prog = P at *; cbv
 revert h; refine cu (fun y1 => (sp 57 [(2, .c (.ptr 128 0)), (28, .c (.v (.bool y1)))] [(128, .var [wi a0.fc, wi a0.fp.fo, wi a0.fp.fX, wi a0.fp.fY, wi a0.fK, wi a0.fR, wi a0.fu, wi a0.fv])])) ?_ fun w7 => rz fun h => ?_
 ·intro y1 S hS h; cbv; revert h; refine rk0 (hfq3 _ _ _) fun y8 h => ?_; cbv; revert h; refine fk ?_ ?_ <;> intro h <;> cbv
  ·exact dn
  revert h; refine rk0 (hfq117 _) fun y10 h => ?_; cbv; revert h; refine fk ?_ ?_ <;> intro h <;> cbv
  ·exact dn
  revert h; refine rk0 (hfq3 _ _ _) fun y12 h => ?_; cbv; revert h; refine fk ?_ ?_ <;> intro h <;> cbv
  ·exact dn
  revert h; refine rk0 (hfq3 _ _ _) fun y14 h => ?_; cbv; exact dn
 cbv; revert h; refine fk ?_ ?_ <;> intro h <;> cbv
 ·exact df
 revert h; refine cu (fun y19 => (sp 57 [(2, .c (.ptr 128 0)), (38, .c (.v (.bool y19)))] [(128, .var [wi a0.fc, wi a0.fp.fo, wi a0.fp.fX, wi a0.fp.fY, wi a0.fK, wi a0.fR, wi a0.fu, wi a0.fv])])) ?_ fun w25 => rz fun h => ?_
 ·intro y19 S hS h; cbv; revert h; refine rk0 (hfq3 _ _ _) fun y26 h => ?_; cbv; revert h; refine fk ?_ ?_ <;> intro h <;> cbv
  ·exact dn
  revert h; refine rk0 (hfq3 _ _ _) fun y28 h => ?_; cbv; exact dn
 cbv; revert h; refine fk ?_ ?_ <;> intro h <;> cbv
 ·exact df
 revert h; refine cu (fun y31 => (sp 57 [(4, .c (.v (.bool y31)))] [])) (fun y31 S hS h => rg) fun w37 => rz fun h => ?_; cbv; exact df
set_option maxHeartbeats 4000000
def Lq27_x52 (a0 : TC) (a1 : Int) : (Int) -> Option ((Int) ⊕ ((Bool) ⊕ (Unit))) := fun x52 =>
 letO x52 fun v51 =>
 br (std.lt v51 (std.ofN (len a0.fI)))
 (req (std.inR v51 (len a0.fI)) <|
 (Fq94 (gd a0.fI (std.toN v51)) a1).bind fun y65 =>
 br (!(y65))
 (some (.inr (.inl false)))
 (some (.inl (std.add .i64 v51 1))))
 (some (.inr (.inr ())))
def Lq27_x33 (a0 : TC) : (Int) -> Option ((Int) ⊕ ((Bool) ⊕ (Unit))) := fun x33 =>
 letO x33 fun v32 =>
 br (std.lt v32 (std.ofN (len a0.fL)))
 (req (std.inR v32 (len a0.fL)) <|
 (Fq85 (gd a0.fL (std.toN v32))).bind fun y46 =>
 br (!(y46))
 (some (.inr (.inl false)))
 (some (.inl (std.add .i64 v32 1))))
 (some (.inr (.inr ())))
def Lq27_x14 (a0 : TC) : (Int) -> Option ((Int) ⊕ ((Bool) ⊕ (Unit))) := fun x14 =>
 letO x14 fun v13 =>
 br (std.lt v13 (std.ofN (len a0.fS)))
 (req (std.inR v13 (len a0.fS)) <|
 (Fq88 (gd a0.fS (std.toN v13))).bind fun y27 =>
 br (!(y27))
 (some (.inr (.inl false)))
 (some (.inl (std.add .i64 v13 1))))
 (some (.inr (.inr ())))
/-- spec.l09Cell -/
def Fq27 (a0 : TC) (a1 : Int) : Option (Bool) :=
 ((
 (Fq32 a0.fN).bind fun y8 =>
 br (!(y8))
 (some true)
 (br (std.lt 24 (std.ofN (len a0.fS)))
 (some true)
 (br (std.lt 8 (std.ofN (len a0.fL)))
 (some true)
 (some (std.lt 8 (std.ofN (len a0.fI))))))
 ) : Option (Bool)).bind fun y1 =>
 letO y1 fun w7 =>
 br w7
 (some false)
 ((whileP (σ := Int) (ρ := (Bool) ⊕ (Unit)) (Lq27_x14 a0) 0).bind fun y15 =>
 (match y15 with
 | .inl y15k0 => (
 letO y15k0 fun w31 =>
 some w31)
 | .inr y15m0 =>
 (whileP (σ := Int) (ρ := (Bool) ⊕ (Unit)) (Lq27_x33 a0) 0).bind fun y34 =>
 (match y34 with
 | .inl y34k0 => (
 letO y34k0 fun w50 =>
 some w50)
 | .inr y34m0 =>
 (whileP (σ := Int) (ρ := (Bool) ⊕ (Unit)) (Lq27_x52 a0 a1) 0).bind fun y53 =>
 (match y53 with
 | .inl y53k0 => (
 letO y53k0 fun w69 =>
 some w69)
 | .inr y53m0 =>
 some true))))
theorem runq27 (a0 : TC) (a1 : Int) (r : Bool) (h : Fq27 a0 a1 = some r) : Fun prog 98 [.agg [ws a0.fN, .bs (len a0.fS) 5 (row gd (eS) a0.fS), .bs (len a0.fL) 4 (row gd (eL) a0.fL), .bs (len a0.fI) 8 (row gd (eI) a0.fI)], .c (wi a1)] [] (.c (.v (.bool r))) [] true := by
 refine ow [1] func98 ntmps98 ?_; unfold Fq27 at h; unfold Lq27_x14 at h; unfold Lq27_x33 at h; unfold Lq27_x52 at h; have hfq32 := @runq32; have hfq94 := @runq94; have hfq85 := @runq85; have hfq88 := @runq88
 generalize hU_ : @len = U_, hG_ : @gd = G_, hA : std = A, hP : prog = P at *; cbv
 revert h; refine cu (fun y1 => (sp 73 [(1, .c (wi a1)), (2, .c (.ptr 128 0)), (29, .c (.v (.bool y1)))] [(128, .var [ws a0.fN, .bs (U_ a0.fS) 5 (row G_ (eS) a0.fS), .bs (U_ a0.fL) 4 (row G_ (eL) a0.fL), .bs (U_ a0.fI) 8 (row G_ (eI) a0.fI)])])) ?_ fun w7 => rz fun h => ?_
 ·intro y1 S hS h; cbv; revert h; refine rk0 (hfq32 _) fun y8 h => ?_; cbv; revert h; refine fk ?_ ?_ <;> intro h <;> cbv
  ·exact dn
  revert h; refine fk ?_ ?_ <;> intro h <;> cbv
  ·exact dn
  revert h; refine fk ?_ ?_ <;> intro h <;> cbv
  ·exact dn
  exact dn
 cbv; revert h; refine fk ?_ ?_ <;> intro h <;> cbv
 ·exact df
 revert h; refine lc (fun x => (sp 73 [(1, .c (wi a1)), (2, .c (.ptr 128 0)), (5, .c (wi x))] [(128, .var [ws a0.fN, .bs (U_ a0.fS) 5 (row G_ (eS) a0.fS), .bs (U_ a0.fL) 4 (row G_ (eL) a0.fL), .bs (U_ a0.fI) 8 (row G_ (eI) a0.fI)])])) (fun y e s => (match y with | .inl w => e = .ret /\ s.le (sp 73 [(4, .c (.v (.bool w)))] []) | .inr w0 => (fun (w : Unit) => e = .exit 0 /\ s.le (sp 73 [(1, .c (wi a1)), (2, .c (.ptr 128 0))] [(128, .var [ws a0.fN, .bs (U_ a0.fS) 5 (row G_ (eS) a0.fS), .bs (U_ a0.fL) 4 (row G_ (eL) a0.fL), .bs (U_ a0.fI) 8 (row G_ (eI) a0.fI)])])) w0)) zb ?_ ?_
 ·intro v13 z h K hK hY; replace h := oz h; cbv; revert h; refine fk ?_ ?_ <;> intro h <;> cbv
  ·revert h; refine ra fun c26 h => ?_; revert h; refine rk0 (hfq88 _) fun y27 h => ?_; cbv; revert h; refine fk ?_ ?_ <;> intro h <;> cbv
   ·exact dy
   exact dm
  exact dy
 intro y15 h e24 s25 q23 hne; rcases y15 with y15k0 | y15m0
 ·replace h := h; obtain ⟨rfl, q23⟩ := q23; revert h; refine rz fun h => ?_; cbv; injection h with h; subst h; exact ⟨_, q23, lR _, zo, rfl⟩
 ·obtain ⟨rfl, q23⟩ := q23; cbv; refine ⟨_, q23, ?_⟩; cbv
  revert h; refine lc (fun x => (sp 73 [(1, .c (wi a1)), (2, .c (.ptr 128 0)), (6, .c (wi x))] [(128, .var [ws a0.fN, .bs (U_ a0.fS) 5 (row G_ (eS) a0.fS), .bs (U_ a0.fL) 4 (row G_ (eL) a0.fL), .bs (U_ a0.fI) 8 (row G_ (eI) a0.fI)])])) (fun y e s => (match y with | .inl w => e = .ret /\ s.le (sp 73 [(4, .c (.v (.bool w)))] []) | .inr w0 => (fun (w : Unit) => e = .exit 2 /\ s.le (sp 73 [(1, .c (wi a1)), (2, .c (.ptr 128 0))] [(128, .var [ws a0.fN, .bs (U_ a0.fS) 5 (row G_ (eS) a0.fS), .bs (U_ a0.fL) 4 (row G_ (eL) a0.fL), .bs (U_ a0.fI) 8 (row G_ (eI) a0.fI)])])) w0)) zb ?_ ?_
  ·intro v32 z h K hK hY; replace h := oz h; cbv; revert h; refine fk ?_ ?_ <;> intro h <;> cbv
   ·revert h; refine ra fun c45 h => ?_; revert h; refine rk0 (hfq85 _) fun y46 h => ?_; cbv; revert h; refine fk ?_ ?_ <;> intro h <;> cbv
    ·exact dy
    exact dm
   exact dy
  intro y34 h e43 s44 q42 hne; rcases y34 with y34k0 | y34m0
  ·replace h := h; obtain ⟨rfl, q42⟩ := q42; revert h; refine rz fun h => ?_; cbv; injection h with h; subst h; exact ⟨_, q42, lR _, zo, rfl⟩
  ·obtain ⟨rfl, q42⟩ := q42; cbv; refine ⟨_, q42, ?_⟩; cbv
   revert h; refine lc (fun x => (sp 73 [(1, .c (wi a1)), (2, .c (.ptr 128 0)), (7, .c (wi x))] [(128, .var [ws a0.fN, .bs (U_ a0.fS) 5 (row G_ (eS) a0.fS), .bs (U_ a0.fL) 4 (row G_ (eL) a0.fL), .bs (U_ a0.fI) 8 (row G_ (eI) a0.fI)])])) (fun y e s => (match y with | .inl w => e = .ret /\ s.le (sp 73 [(4, .c (.v (.bool w)))] []) | .inr w0 => (fun (w : Unit) => e = .exit 4 /\ s.le (sp 73 [] [])) w0)) zb ?_ ?_
   ·intro v51 z h K hK hY; replace h := oz h; cbv; revert h; refine fk ?_ ?_ <;> intro h <;> cbv
    ·revert h; refine ra fun c64 h => ?_; revert h; refine rk0 (hfq94 _ _) fun y65 h => ?_; cbv; revert h; refine fk ?_ ?_ <;> intro h <;> cbv
     ·exact dy
     exact dm
    exact dy
   intro y53 h e62 s63 q61 hne; rcases y53 with y53k0 | y53m0
   ·replace h := h; obtain ⟨rfl, q61⟩ := q61; revert h; refine rz fun h => ?_; cbv; injection h with h; subst h; exact ⟨_, q61, lR _, zo, rfl⟩
   ·obtain ⟨rfl, q61⟩ := q61; cbv; refine ⟨_, q61, ?_⟩; cbv; exact df

def Lq20_x26 (a0 : TL) (v9 : Int) : (Int) -> Option ((Int) ⊕ ((Bool) ⊕ (Unit))) := fun x26 =>
 letO x26 fun v25 =>
 br (std.lt v25 v9)
 (req (std.inR v25 (len a0.fC)) <|
 req (std.inR v9 (len a0.fC)) <|
 br (std.seq (gd a0.fC (std.toN v25)).fN (gd a0.fC (std.toN v9)).fN)
 (some (.inr (.inl false)))
 (some (.inl (std.add .i64 v25 1))))
 (some (.inr (.inr ())))
def Lq20_x10 (a0 : TL) : (Int) -> Option ((Int) ⊕ ((Bool) ⊕ (Unit))) := fun x10 =>
 letO x10 fun v9 =>
 br (std.lt v9 (std.ofN (len a0.fC)))
 (req (std.inR v9 (len a0.fC)) <|
 (Fq27 (gd a0.fC (std.toN v9)) v9).bind fun y23 =>
 br (!(y23))
 (some (.inr (.inl false)))
 ((whileP (σ := Int) (ρ := (Bool) ⊕ (Unit)) (Lq20_x26 a0 v9) 0).bind fun y27 =>
 (match y27 with
 | .inl y27k0 => (
 letO y27k0 fun w42 =>
 some (.inr (.inl w42)))
 | .inr y27m0 =>
 some (.inl (std.add .i64 v9 1)))))
 (some (.inr (.inr ())))
/-- spec.IsValidLibrary -/
def Fq20 (a0 : TL) : Option (Bool) :=
 ((
 br (std.lt (std.ofN (len a0.fC)) 1)
 (some true)
 (some (std.lt 8 (std.ofN (len a0.fC))))
 ) : Option (Bool)).bind fun y1 =>
 letO y1 fun w7 =>
 br w7
 (some false)
 ((whileP (σ := Int) (ρ := (Bool) ⊕ (Unit)) (Lq20_x10 a0) 0).bind fun y11 =>
 (match y11 with
 | .inl y11k0 => (
 letO y11k0 fun w45 =>
 some w45)
 | .inr y11m0 =>
 some true))
theorem runq20 (a0 : TL) (r : Bool) (h : Fq20 a0 = some r) : Fun prog 48 [.agg [.bs (len a0.fC) 4 (row gd (eC len gd) a0.fC)]] [] (.c (.v (.bool r))) [] true := by
 refine ow [1] func48 ntmps48 ?_; unfold Fq20 at h; unfold Lq20_x10 at h; unfold Lq20_x26 at h; have hfq27 := @runq27; generalize hU_ : @len = U_, hG_ : @gd = G_, hA : std = A, hP : prog = P at *; cbv
 revert h; refine cu (fun y1 => (sp 48 [(1, .c (.ptr 64 0)), (14, .c (.v (.bool y1)))] [(64, .var [.bs (U_ a0.fC) 4 (row G_ (eC U_ G_) a0.fC)])])) (fun y1 S hS h => rg) fun w7 => rz fun h => ?_; cbv; revert h; refine fk ?_ ?_ <;> intro h <;> cbv
 ·exact df
 revert h; refine lc (fun x => (sp 48 [(1, .c (.ptr 64 0)), (3, .c (wi x))] [(64, .var [.bs (U_ a0.fC) 4 (row G_ (eC U_ G_) a0.fC)])])) (fun y e s => (match y with | .inl w => e = .ret /\ s.le (sp 48 [(2, .c (.v (.bool w)))] []) | .inr w0 => (fun (w : Unit) => e = .exit 0 /\ s.le (sp 48 [] [])) w0)) zb ?_ ?_
 ·intro v9 z h K hK hY; replace h := oz h; cbv; revert h; refine fk ?_ ?_ <;> intro h <;> cbv
  ·revert h; refine ra fun c22 h => ?_; revert h; refine rk0 (hfq27 _ _) fun y23 h => ?_; cbv; revert h; refine fk ?_ ?_ <;> intro h <;> cbv
   ·exact dy
   revert h; refine lc (fun x => (sp 48 [(1, .c (.ptr 64 0)), (3, .c (wi v9)), (4, .c (wi x))] [(64, .var [.bs (U_ a0.fC) 4 (row G_ (eC U_ G_) a0.fC)])])) (fun y e s => (match y with | .inl w => e = .ret /\ s.le (sp 48 [(2, .c (.v (.bool w)))] []) | .inr w0 => (fun (w : Unit) => e = .exit 2 /\ s.le (sp 48 [(1, .c (.ptr 64 0)), (3, .c (wi v9))] [(64, .var [.bs (U_ a0.fC) 4 (row G_ (eC U_ G_) a0.fC)])])) w0)) zb ?_ ?_
   ·intro v25 z h K hK hY; replace h := oz h; cbv; revert h; refine fk ?_ ?_ <;> intro h <;> cbv
    ·revert h; refine ra fun c38 h => ?_; revert h; refine ra fun c39 h => ?_; revert h; refine fk ?_ ?_ <;> intro h <;> cbv
     ·exact dy
     exact dm
    exact dy
   intro y27 h e36 s37 q35 hne; rcases y27 with y27k0 | y27m0
   ·replace h := h; obtain ⟨rfl, q35⟩ := q35; revert h; refine rl fun w42 hw42 h => ?_; have hw42 : w42 = y27k0 := hw42; subst hw42; cbv; injection h with h; refine hY _ h.symm _ _ (And.intro rfl ?_) (by intro hh; cases hh); refine St.le_trans q35 ?_; exact zb
   ·obtain ⟨rfl, q35⟩ := q35; cbv; refine ⟨_, q35, ?_⟩; cbv; exact dm
  exact dy
 intro y11 h e20 s21 q19 hne; rcases y11 with y11k0 | y11m0
 ·replace h := h; obtain ⟨rfl, q19⟩ := q19; revert h; refine rz fun h => ?_; cbv; injection h with h; subst h; exact ⟨_, q19, lR _, zo, rfl⟩
 ·obtain ⟨rfl, q19⟩ := q19; cbv; refine ⟨_, q19, ?_⟩; cbv; exact df

/-- spec.l13NoShape -/
def Fq105 (a0 : TS) : Option (Bool) :=
 some (std.band (std.eq a0.fy 0) (std.band (std.band (std.eq a0.fb.fX0 0) (std.band (std.eq a0.fb.fY0 0) (std.band (std.eq a0.fb.fX1 0) (std.band (std.eq a0.fb.fY1 0) (true))))) (true)))
theorem runq105 (a0 : TS) (r : Bool) (h : Fq105 a0 = some r) : Fun prog 186 [.agg [wi a0.fy, wi a0.fb.fX0, wi a0.fb.fY0, wi a0.fb.fX1, wi a0.fb.fY1]] [] (.c (.v (.bool r))) [] true := by
 refine ow [] func186 ntmps186 ?_; unfold Fq105 at h; generalize hU_ : @len = U_, hG_ : @gd = G_, hA : std = A, hP : prog = P at *; cbv; exact df

/-- spec.l13NoLabel -/
def Fq108 (a0 : TB) : Option (Bool) :=
 some (std.band (std.eq a0.fy 0) (std.band (std.band (std.eq a0.fa.fX 0) (std.band (std.eq a0.fa.fY 0) (true))) (std.band (std.seq a0.fN (ByteArray.mk #[])) (true))))
theorem runq108 (a0 : TB) (r : Bool) (h : Fq108 a0 = some r) : Fun prog 187 [.agg [wi a0.fy, wi a0.fa.fX, wi a0.fa.fY, ws a0.fN]] [] (.c (.v (.bool r))) [] true := by
 refine ow [] func187 ntmps187 ?_; unfold Fq108 at h; generalize hU_ : @len = U_, hG_ : @gd = G_, hA : std = A, hP : prog = P at *; cbv; exact df

/-- spec.l13NoInstance -/
def Fq134 (a0 : TI) : Option (Bool) :=
 some (std.band (std.eq a0.fc 0) (std.band (std.band (std.eq a0.fp.fo 0) (std.band (std.eq a0.fp.fX 0) (std.band (std.eq a0.fp.fY 0) (true)))) (std.band (std.eq a0.fK 0) (std.band (std.eq a0.fR 0) (std.band (std.eq a0.fu 0) (std.band (std.eq a0.fv 0) (true)))))))
theorem runq134 (a0 : TI) (r : Bool) (h : Fq134 a0 = some r) : Fun prog 188 [.agg [wi a0.fc, wi a0.fp.fo, wi a0.fp.fX, wi a0.fp.fY, wi a0.fK, wi a0.fR, wi a0.fu, wi a0.fv]] [] (.c (.v (.bool r))) [] true := by
 refine ow [] func188 ntmps188 ?_; unfold Fq134 at h; generalize hU_ : @len = U_, hG_ : @gd = G_, hA : std = A, hP : prog = P at *; cbv; exact df

/-- spec.IsValidEdit -/
def Fq91 (a0 : TE) : Option (Bool) :=
 ((
 (Fq3 a0.fk_ 1 9).bind fun y8 =>
 br (!(y8))
 (some true)
 ((Fq3 a0.fc 0 8).bind fun y10 =>
 br (!(y10))
 (some true)
 ((Fq3 a0.fx 0 24).bind fun y12 =>
 some (!(y12))))
 ) : Option (Bool)).bind fun y1 =>
 letO y1 fun w7 =>
 br w7
 (some false)
 (((
 br (std.le 7 a0.fk_)
 (some (std.not (std.eq a0.fx 0)))
 (some false)
 ) : Option (Bool)).bind fun y16 =>
 letO y16 fun w22 =>
 br w22
 (some false)
 (((
 br (std.eq a0.fk_ 7)
 (some true)
 (some (std.eq a0.fk_ 8))
 ) : Option (Bool)).bind fun y24 =>
 letO y24 fun w30 =>
 ((
 br w30
 ((Fq32 a0.fN).bind fun y39 =>
 br (!(y39))
 (some true)
 (br (!(w30))
 (some (std.not (std.seq a0.fN (ByteArray.mk #[]))))
 (some false)))
 (br (!(w30))
 (some (std.not (std.seq a0.fN (ByteArray.mk #[]))))
 (some false))
 ) : Option (Bool)).bind fun y32 =>
 letO y32 fun w38 =>
 br w38
 (some false)
 (((
 br (std.eq a0.fk_ 1)
 ((Fq88 a0.fs_).bind fun y52 =>
 br (!(y52))
 (some true)
 (br (std.not (std.eq a0.fk_ 1))
 ((Fq105 a0.fs_).bind fun y54 =>
 some (!(y54)))
 (some false)))
 (br (std.not (std.eq a0.fk_ 1))
 ((Fq105 a0.fs_).bind fun y58 =>
 some (!(y58)))
 (some false))
 ) : Option (Bool)).bind fun y45 =>
 letO y45 fun w51 =>
 br w51
 (some false)
 (((
 br (std.eq a0.fk_ 3)
 ((Fq85 a0.fl_).bind fun y69 =>
 br (!(y69))
 (some true)
 (br (std.not (std.eq a0.fk_ 3))
 ((Fq108 a0.fl_).bind fun y71 =>
 some (!(y71)))
 (some false)))
 (br (std.not (std.eq a0.fk_ 3))
 ((Fq108 a0.fl_).bind fun y75 =>
 some (!(y75)))
 (some false))
 ) : Option (Bool)).bind fun y62 =>
 letO y62 fun w68 =>
 br w68
 (some false)
 (br (std.eq a0.fk_ 5)
 ((Fq94 a0.fi_ 8).bind fun y79 =>
 some y79)
 ((Fq134 a0.fi_).bind fun y81 =>
 some y81))))))
theorem runq91 (a0 : TE) (r : Bool) (h : Fq91 a0 = some r) : Fun prog 105 [.agg (cE a0)] [] (.c (.v (.bool r))) [] true := by
 refine ow [1, 3, 5, 6, 8, 10] func105 ntmps105 ?_; unfold Fq91 at h; have hfq32 := @runq32; have hfq3 := @runq3; have hfq94 := @runq94; have hfq85 := @runq85; have hfq88 := @runq88; have hfq134 := @runq134
 have hfq108 := @runq108; have hfq105 := @runq105; generalize hU_ : @len = U_, hG_ : @gd = G_, hA : std = A, hP : prog = P at *; cbv
 revert h; refine cu (fun y1 => (sp 101 [(1, .c (.ptr 64 0)), (19, .c (.v (.bool y1)))] [(64, .var (cE a0))])) ?_ fun w7 => rz fun h => ?_
 ·intro y1 S hS h; cbv; revert h; refine rk0 (hfq3 _ _ _) fun y8 h => ?_; cbv; revert h; refine fk ?_ ?_ <;> intro h <;> cbv
  ·exact dn
  revert h; refine rk0 (hfq3 _ _ _) fun y10 h => ?_; cbv; revert h; refine fk ?_ ?_ <;> intro h <;> cbv
  ·exact dn
  revert h; refine rk0 (hfq3 _ _ _) fun y12 h => ?_; cbv; exact dn
 cbv; revert h; refine fk ?_ ?_ <;> intro h <;> cbv
 ·exact df
 revert h; refine cu (fun y16 => (sp 101 [(1, .c (.ptr 64 0)), (27, .c (.v (.bool y16)))] [(64, .var (cE a0))])) (fun y16 S hS h => rg) fun w22 => rz fun h => ?_
 cbv; revert h; refine fk ?_ ?_ <;> intro h <;> cbv
 ·exact df
 revert h; refine cu (fun y24 => (sp 101 [(1, .c (.ptr 64 0)), (3, .c (.v (.bool y24)))] [(64, .var (cE a0))])) (fun y24 S hS h => rg) fun w30 => rz fun h => ?_
 cbv
 revert h; refine cu (fun y32 => (sp 101 [(1, .c (.ptr 64 0)), (51, .c (.v (.bool y32)))] [(64, .var (cE a0))])) ?_ fun w38 => rz fun h => ?_
 ·intro y32 S hS h; cbv; revert h; refine fk ?_ ?_ <;> intro h <;> cbv
  ·revert h; refine rk0 (hfq32 _) fun y39 h => ?_; cbv; revert h; refine fk ?_ ?_ <;> intro h <;> cbv
   ·exact dn
   revert h; refine fk ?_ ?_ <;> intro h <;> cbv
   ·exact dn
   exact dn
  revert h; refine fk ?_ ?_ <;> intro h <;> cbv
  ·exact dn
  exact dn
 cbv; revert h; refine fk ?_ ?_ <;> intro h <;> cbv
 ·exact df
 revert h; refine cu (fun y45 => (sp 101 [(1, .c (.ptr 64 0)), (71, .c (.v (.bool y45)))] [(64, .var (cE a0))])) ?_ fun w51 => rz fun h => ?_
 ·intro y45 S hS h; cbv; revert h; refine fk ?_ ?_ <;> intro h <;> cbv
  ·revert h; refine rk0 (hfq88 _) fun y52 h => ?_; cbv; revert h; refine fk ?_ ?_ <;> intro h <;> cbv
   ·exact dn
   revert h; refine fk ?_ ?_ <;> intro h <;> cbv
   ·revert h; refine rk0 (hfq105 _) fun y54 h => ?_; cbv; exact dn
   exact dn
  revert h; refine fk ?_ ?_ <;> intro h <;> cbv
  ·revert h; refine rk0 (hfq105 _) fun y58 h => ?_; cbv; exact dn
  exact dn
 cbv; revert h; refine fk ?_ ?_ <;> intro h <;> cbv
 ·exact df
 revert h; refine cu (fun y62 => (sp 101 [(1, .c (.ptr 64 0)), (91, .c (.v (.bool y62)))] [(64, .var (cE a0))])) ?_ fun w68 => rz fun h => ?_
 ·intro y62 S hS h; cbv; revert h; refine fk ?_ ?_ <;> intro h <;> cbv
  ·revert h; refine rk0 (hfq85 _) fun y69 h => ?_; cbv; revert h; refine fk ?_ ?_ <;> intro h <;> cbv
   ·exact dn
   revert h; refine fk ?_ ?_ <;> intro h <;> cbv
   ·revert h; refine rk0 (hfq108 _) fun y71 h => ?_; cbv; exact dn
   exact dn
  revert h; refine fk ?_ ?_ <;> intro h <;> cbv
  ·revert h; refine rk0 (hfq108 _) fun y75 h => ?_; cbv; exact dn
  exact dn
 cbv; revert h; refine fk ?_ ?_ <;> intro h <;> cbv
 ·exact df
 revert h; refine fk ?_ ?_ <;> intro h <;> cbv
 ·revert h; refine rk0 (hfq94 _ _) fun y79 h => ?_; cbv; exact df
 revert h; refine rk0 (hfq134 _) fun y81 h => ?_; cbv; exact df
set_option maxHeartbeats 4000000
def Lq68_x2 (a0 : List TE) : (Int) -> Option ((Int) ⊕ ((Unit) ⊕ (Unit))) := fun x2 =>
 letO x2 fun v1 =>
 br (std.lt v1 (std.ofN (len a0)))
 (req (std.inR v1 (len a0)) <|
 (Fq91 (gd a0 (std.toN v1))).bind fun y15 =>
 br (!(y15))
 (some (.inr (.inl ())))
 (some (.inl (std.add .i64 v1 1))))
 (some (.inr (.inr ())))
/-- spec.l13Transaction -/
def Fq68 (a0 : List TE) : Option (Bool) :=
 (whileP (σ := Int) (ρ := (Unit) ⊕ (Unit)) (Lq68_x2 a0) 0).bind fun y3 =>
 (match y3 with
 | .inl y3k0 => (
 some false)
 | .inr y3m0 =>
 (Fq3 (std.ofN (len a0)) 1 8).bind fun y19 =>
 some y19)
theorem runq68 (a0 : List TE) (r : Bool) (h : Fq68 a0 = some r) : Fun prog 214 [.c (.bs (len a0) 21 (row gd (eE) a0))] [] (.c (.v (.bool r))) [] true := by
 refine ow [] func214 ntmps214 ?_; unfold Fq68 at h; unfold Lq68_x2 at h; have hfq91 := @runq91; have hfq3 := @runq3; generalize hU_ : @len = U_, hG_ : @gd = G_, hA : std = A, hP : prog = P at *; cbv
 revert h; refine lc (fun x => (sp 19 [(0, .c (.bs (U_ a0) 21 (row G_ (eE) a0))), (3, .c (wi x))] [])) (fun y e s => (match y with | .inl w => e = .ret /\ s.le (sp 19 [(2, .c (.v (.bool false)))] []) | .inr w0 => (fun (w : Unit) => e = .exit 0 /\ s.le (sp 19 [(0, .c (.bs (U_ a0) 21 (row G_ (eE) a0)))] [])) w0)) zb ?_ ?_
 ·intro v1 z h K hK hY; replace h := oz h; cbv; revert h; refine fk ?_ ?_ <;> intro h <;> cbv
  ·revert h; refine ra fun c14 h => ?_; revert h; refine rk0 (hfq91 _) fun y15 h => ?_; cbv; revert h; refine fk ?_ ?_ <;> intro h <;> cbv
   ·exact dy
   exact dm
  exact dy
 intro y3 h e12 s13 q11 hne; rcases y3 with y3k0 | y3m0
 ·replace h := h; obtain ⟨rfl, q11⟩ := q11; cbv; injection h with h; subst h; exact ⟨_, q11, lR _, zo, rfl⟩
 ·obtain ⟨rfl, q11⟩ := q11; cbv; refine ⟨_, q11, ?_⟩; cbv; revert h; refine rk0 (hfq3 _ _ _) fun y19 h => ?_; cbv; exact df

def Lq57_x2 (a0 : List (List TE)) : (Int) -> Option ((Int) ⊕ ((Unit) ⊕ (Unit))) := fun x2 =>
 letO x2 fun v1 =>
 br (std.lt v1 (std.ofN (len a0)))
 (req (std.inR v1 (len a0)) <|
 (Fq68 (gd a0 (std.toN v1))).bind fun y15 =>
 br (!(y15))
 (some (.inr (.inl ())))
 (some (.inl (std.add .i64 v1 1))))
 (some (.inr (.inr ())))
/-- spec.l13Stack -/
def Fq57 (a0 : List (List TE)) : Option (Bool) :=
 (whileP (σ := Int) (ρ := (Unit) ⊕ (Unit)) (Lq57_x2 a0) 0).bind fun y3 =>
 (match y3 with
 | .inl y3k0 => (
 some false)
 | .inr y3m0 =>
 some (std.le (std.ofN (len a0)) 6))
theorem runq57 (a0 : List (List TE)) (r : Bool) (h : Fq57 a0 = some r) : Fun prog 140 [.c (.bs (len a0) 1 (row gd (eN len gd 21 (eE)) a0))] [] (.c (.v (.bool r))) [] true := by
 refine ow [] func140 ntmps140 ?_; unfold Fq57 at h; unfold Lq57_x2 at h; have hfq68 := @runq68; generalize hU_ : @len = U_, hG_ : @gd = G_, hA : std = A, hP : prog = P at *; cbv
 revert h; refine lc (fun x => (sp 19 [(0, .c (.bs (U_ a0) 1 (row G_ (eN U_ G_ 21 (eE)) a0))), (3, .c (wi x))] [])) (fun y e s => (match y with | .inl w => e = .ret /\ s.le (sp 19 [(2, .c (.v (.bool false)))] []) | .inr w0 => (fun (w : Unit) => e = .exit 0 /\ s.le (sp 19 [(0, .c (.bs (U_ a0) 1 (row G_ (eN U_ G_ 21 (eE)) a0)))] [])) w0)) zb ?_ ?_
 ·intro v1 z h K hK hY; replace h := oz h; cbv; revert h; refine fk ?_ ?_ <;> intro h <;> cbv
  ·revert h; refine ra fun c14 h => ?_; revert h; refine rk0 (hfq68 _) fun y15 h => ?_; cbv; revert h; refine fk ?_ ?_ <;> intro h <;> cbv
   ·exact dy
   exact dm
  exact dy
 intro y3 h e12 s13 q11 hne; rcases y3 with y3k0 | y3m0
 ·replace h := h; obtain ⟨rfl, q11⟩ := q11; cbv; injection h with h; subst h; exact ⟨_, q11, lR _, zo, rfl⟩
 ·obtain ⟨rfl, q11⟩ := q11; cbv; refine ⟨_, q11, ?_⟩; cbv; exact df

/-- spec.l13Editor -/
def Fq53 (a0 : TD_) : Option (Bool) :=
 ((
 (Fq20 a0.fr_).bind fun y8 =>
 br y8
 ((Fq57 a0.fU).bind fun y10 =>
 br y10
 ((Fq57 a0.fD).bind fun y12 =>
 some y12)
 (some false))
 (some false)
 ) : Option (Bool)).bind fun y1 =>
 letO y1 fun w7 =>
 some w7
theorem runq53 (a0 : TD_) (r : Bool) (h : Fq53 a0 = some r) : Fun prog 74 [.agg [.bs (len a0.fr_.fC) 4 (row gd (eC len gd) a0.fr_.fC), .bs (len a0.fU) 1 (row gd (eN len gd 21 (eE)) a0.fU), .bs (len a0.fD) 1 (row gd (eN len gd 21 (eE)) a0.fD)]] [] (.c (.v (.bool r))) [] true := by
 refine ow [1] func74 ntmps74 ?_; unfold Fq53 at h; have hfq20 := @runq20; have hfq57 := @runq57; generalize hU_ : @len = U_, hG_ : @gd = G_, hA : std = A, hP : prog = P at *; cbv; revert h; refine cu (fun y1 => (sp 16 [(2, .c (.v (.bool y1)))] [])) ?_ fun w7 => rz fun h => ?_
 ·intro y1 S hS h; cbv; revert h; refine rk0 (hfq20 _) fun y8 h => ?_; cbv; revert h; refine fk ?_ ?_ <;> intro h <;> cbv
  ·revert h; refine rk0 (hfq57 _) fun y10 h => ?_; cbv; revert h; refine fk ?_ ?_ <;> intro h <;> cbv
   ·revert h; refine rk0 (hfq57 _) fun y12 h => ?_; cbv; exact dn
   exact dn
  exact dn
 cbv; exact df

/-- spec.l09CopyCell -/
def Fq130 (a0 : TC) : Option (TC) :=
 letO ([] : List TS) fun l1 =>
 req (std.room (std.nadd (len l1) (len a0.fS)) 40) <|
 letO (l1 ++ a0.fS) fun l3 =>
 letO ([] : List TB) fun l6 =>
 req (std.room (std.nadd (len l6) (len a0.fL)) 40) <|
 letO (l6 ++ a0.fL) fun l8 =>
 letO ([] : List TI) fun l11 =>
 req (std.room (std.nadd (len l11) (len a0.fI)) 64) <|
 letO (l11 ++ a0.fI) fun l13 =>
 some (TC.mk a0.fN l3 l8 l13)
theorem runq130 (a0 : TC) (r : TC) (h : Fq130 a0 = some r) : Fun prog 109 [.agg [ws a0.fN, .bs (len a0.fS) 5 (row gd (eS) a0.fS), .bs (len a0.fL) 4 (row gd (eL) a0.fL), .bs (len a0.fI) 8 (row gd (eI) a0.fI)]] [] (.agg [ws r.fN, .os 64000 0 (len r.fS), .os 64002 0 (len r.fL), .os 64004 0 (len r.fI)]) [(64000, .arr .rw [] (len r.fS) 5 (row gd (eS) r.fS)), (64002, .arr .rw [] (len r.fL) 4 (row gd (eL) r.fL)), (64004, .arr .rw [] (len r.fI) 8 (row gd (eI) r.fI))] true := by
 refine ow [] func109 ntmps109 ?_ (hv := (fun _ => ⟨(by simp [AV.flat, AV.flat1, AC.flat]), ⟨fun i _ j _ => val_flat (vl_encShape _ _), fun i _ j _ => val_flat (vl_encLabel _ _), fun i _ j _ => val_flat (vl_encInstance _ _), tv⟩⟩)); unfold Fq130 at h; generalize hU_ : @len = U_, hG_ : @gd = G_, hA : std = A, hP : prog = P at *; cbv
 revert h; refine rl fun l1 hl1 h => ?_; have e2 : 0 = U_ l1 := by subst hl1 hU_; rfl
 refine ⟨_, (co e2), _, row G_ (eS) l1, e2, wO ?_, ?_⟩
 ·intro i hi j hj; rw [<- e2] at hi; subst hl1; subst hG_; omega
 cbv; revert h; refine rq fun c5 => rl fun l3 hl3 h => ?_; have e4 := nl hA hU_ hl3; refine ⟨c5, _, (co e4), _, row G_ (eS) l3, e4, wO ?_, ?_⟩
 ·subst hG_ hU_ hA; exact app_bs (pl_encShape) hl3 (Nat.le_refl _)
 cbv; revert h; refine rl fun l6 hl6 h => ?_; have e7 : 0 = U_ l6 := by subst hl6 hU_; rfl
 refine ⟨_, (co e7), _, row G_ (eL) l6, e7, wO ?_, ?_⟩
 ·intro i hi j hj; rw [<- e7] at hi; subst hl6; subst hG_; omega
 cbv; revert h; refine rq fun c10 => rl fun l8 hl8 h => ?_; have e9 := nl hA hU_ hl8; refine ⟨c10, _, (co e9), _, row G_ (eL) l8, e9, wO ?_, ?_⟩
 ·subst hG_ hU_ hA; exact app_bs (pl_encLabel) hl8 (Nat.le_refl _)
 cbv; revert h; refine rl fun l11 hl11 h => ?_; have e12 : 0 = U_ l11 := by subst hl11 hU_; rfl
 refine ⟨_, (co e12), _, row G_ (eI) l11, e12, wO ?_, ?_⟩
 ·intro i hi j hj; rw [<- e12] at hi; subst hl11; subst hG_; omega
 cbv; revert h; refine rq fun c15 => rl fun l13 hl13 h => ?_; have e14 := nl hA hU_ hl13; refine ⟨c15, _, (co e14), _, row G_ (eI) l13, e14, wO ?_, ?_⟩
 ·subst hG_ hU_ hA; exact app_bs (pl_encInstance) hl13 (Nat.le_refl _)
 cbv; injection h with h; subst h; exact ⟨_, St.le_trans (le_ren 320 64000 (by decide) rfl) (St.le_trans (le_ren 576 64002 (by decide) rfl) ((le_ren 832 64004 (by decide) rfl))), lR _, zo, rfl⟩

def Lq23_x3 (a0 : TL) : (Int × (List TC)) -> Option ((Int × (List TC)) ⊕ (((List TC)))) := fun x3 =>
 letO x3.1 fun v1 =>
 letO x3.2 fun v2 =>
 br (std.lt v1 (std.ofN (len a0.fC)))
 (((
 req (std.inR v1 (len a0.fC)) <|
 (Fq130 (gd a0.fC (std.toN v1))).bind fun y23 =>
 letO ([y23] : List TC) fun l25 =>
 req (std.room (std.nadd (len v2) (len l25)) 88) <|
 letO (v2 ++ l25) fun l27 =>
 some l27
 ) : Option ((List TC))).bind fun y15 =>
 letO y15 fun w21 =>
 some (.inl (std.add .i64 v1 1, w21)))
 (some (.inr v2))
/-- spec.l09Copy -/
def Fq23 (a0 : TL) : Option (TL) :=
 (whileP (σ := Int × (List TC)) (ρ := ((List TC))) (Lq23_x3 a0) (0, ([] : List TC))).bind fun y4 =>
 letO y4 fun y4k0 =>
 letO y4k0 fun w31 =>
 some (TL.mk w31)
theorem runq23 (a0 : TL) (r : TL) (h : Fq23 a0 = some r) : Fun prog 59 [.agg [.bs (len a0.fC) 4 (row gd (eC len gd) a0.fC)]] [] (.agg [.os 64000 0 (len r.fC)]) [(64000, .arr .rw [] (len r.fC) 4 (row gd (oC len gd) r.fC))] true := by
 refine ow [5] func59 ntmps59 ?_ (hv := (fun _ => ⟨(by simp [AV.flat, AV.flat1, AC.flat]), ⟨fun i _ j _ => fl_oncCell _ _, tv⟩⟩)); unfold Fq23 at h; unfold Lq23_x3 at h; have hfq130 := @runq130; generalize hU_ : @len = U_, hG_ : @gd = G_, hA : std = A, hP : prog = P at *; cbv
 revert h; refine ln (.exit 0) (fun x => (sp 25 [(1, .c (.ptr 64 0)), (2, .c (.ptr 128 0)), (3, .c (.ptr 192 0)), (4, .c (wi x.1))] [(64, .var [.bs (U_ a0.fC) 4 (row G_ (eC U_ G_) a0.fC)]), (128, .var [.v (.slice none 0 0)]), (192, .var [.os 1408 0 (U_ x.2)]), (1408, .arr .rw [] (U_ x.2) 4 (row G_ (oC U_ G_) x.2))])) (fun w => (sp 25 [(2, .c (.ptr 128 0)), (3, .c (.ptr 192 0))] [(128, .var [.v (.slice none 0 0)]), (192, .var [.os 1408 0 (U_ w)]), (1408, .arr .rw [] (U_ w) 4 (row G_ (oC U_ G_) w))])) ?_ ?_ ?_
 ·show St.le _ _; refine St.le_trans (le_nilV 192 0 1408 4 (row G_ (oC U_ G_) ([] : List TC)) (by decide) (by decide) rfl rfl) ?_; subst hU_; exact zb
 ·rintro ⟨v1, v2⟩ z h K hK hY; replace h := oz (oz h); dsimp only at h; cbv; revert h; refine fk ?_ ?_ <;> intro h <;> cbv
  ·revert h; refine cu (fun y15 => (sp 25 [(1, .c (.ptr 64 0)), (2, .c (.ptr 128 0)), (3, .c (.ptr 192 0)), (4, .c (wi v1))] [(64, .var [.bs (U_ a0.fC) 4 (row G_ (eC U_ G_) a0.fC)]), (128, .var [.v (.slice none 0 0)]), (192, .var [.os 1408 0 (U_ y15)]), (1408, .arr .rw [] (U_ y15) 4 (row G_ (oC U_ G_) y15))])) ?_ fun w21 => rz fun h => ?_
   ·intro y15 S hS h; cbv; revert h; refine ra fun c22 h => ?_; revert h; refine rk [] [(64000, 1280), (64002, 1282), (64004, 1284)] (hfq130 _) (fun _ => zf) fun y23 h => ⟨_, rfl, _, _, rfl, fun _ _ _ _ => .refl _, _, _, rfl, fun _ _ _ _ => .refl _, _, _, rfl, fun _ _ _ _ => .refl _, ?_⟩
    cbv; revert h; refine rl fun l25 hl25 h => ?_; have e26 : 1 = U_ l25 := by subst hl25 hU_; rfl
    refine ⟨_, (co e26), _, (pC (fun _ _ => AC.junk) 0 [ws y23.fN, .os 1280 0 (U_ y23.fS), .os 1282 0 (U_ y23.fL), .os 1284 0 (U_ y23.fI)]), e26, wO ?_, ?_⟩
    ·refine patch_one (by subst hl25 hU_; rfl) ?_; exact zr
    cbv; revert h; refine rq fun c29 => rl fun l27 hl27 h => ?_; have e28 := nl hA hU_ hl27; refine ⟨c29, _, (co e28), _, (pC (row G_ (oC U_ G_) v2) (U_ v2) [ws y23.fN, .os 1280 0 (U_ y23.fS), .os 1282 0 (U_ y23.fL), .os 1284 0 (U_ y23.fI)]), e28, wO ?_, ?_⟩
    ·subst hU_ hA; refine patch_joinG (by first | (rw [hl27]; simp [len]; done) | (rw [hl27]; simp [len]; omega) | (subst_vars; simp [len])) ?_; exact zr
    cbv; rw [hl25] at hl27; injection h with h; subst h; subst hS; show St.le _ _; refine St.le_trans (le_foldP 1408 1 1280 rfl rfl rfl (by decide) (by subst hU_; exact app_lt hl27) (by decide) rfl (fun _ _ => rC _ _)) ?_; refine St.le_trans (le_foldP 1408 2 1282 rfl rfl rfl (by decide) (by subst hU_; exact app_lt hl27) (by decide) rfl (fun _ _ => rC _ _)) ?_
    refine St.le_trans (le_foldP 1408 3 1284 rfl rfl rfl (by decide) (by subst hU_; exact app_lt hl27) (by decide) rfl (fun _ _ => rC _ _)) ?_; exact lsp rfl zl ⟨rfl, rfl, rfl, oP (fun _ _ => rC _ _) (by subst hG_ hU_ hA; exact patch_app hl27 (Nat.le_refl _) zr), tv⟩ rfl
   cbv; exact dm
  exact dx
 intro w31 h s q12; replace h := oz (oz h); cbv; refine ⟨_, q12, ?_⟩; cbv; injection h with h; subst h; exact ⟨_, le_ren 1408 64000 (by decide) rfl, lR _, zo, rfl⟩

def Lq56_x2 (a0 : TL) (a1 : Int) (a2 : ByteArray) : (Int) -> Option ((Int) ⊕ ((Bool) ⊕ (Unit))) := fun x2 =>
 letO x2 fun v1 =>
 br (std.lt v1 (std.ofN (len a0.fC)))
 (((
 br (std.not (std.eq v1 a1))
 (req (std.inR v1 (len a0.fC)) <|
 some (std.seq (gd a0.fC (std.toN v1)).fN a2))
 (some false)
 ) : Option (Bool)).bind fun y14 =>
 letO y14 fun w20 =>
 br w20
 (some (.inr (.inl true)))
 (some (.inl (std.add .i64 v1 1))))
 (some (.inr (.inr ())))
/-- spec.l13Named -/
def Fq56 (a0 : TL) (a1 : Int) (a2 : ByteArray) : Option (Bool) :=
 (whileP (σ := Int) (ρ := (Bool) ⊕ (Unit)) (Lq56_x2 a0 a1 a2) 0).bind fun y3 =>
 (match y3 with
 | .inl y3k0 => (
 letO y3k0 fun w25 =>
 some w25)
 | .inr y3m0 =>
 some false)
theorem runq56 (a0 : TL) (a1 : Int) (a2 : ByteArray) (r : Bool) (h : Fq56 a0 a1 a2 = some r) : Fun prog 189 [.agg [.bs (len a0.fC) 4 (row gd (eC len gd) a0.fC)], .c (wi a1), .c (ws a2)] [] (.c (.v (.bool r))) [] true := by
 refine ow [4] func189 ntmps189 ?_; unfold Fq56 at h; unfold Lq56_x2 at h; generalize hU_ : @len = U_, hG_ : @gd = G_, hA : std = A, hP : prog = P at *; cbv
 revert h; refine lc (fun x => (sp 28 [(1, .c (wi a1)), (2, .c (ws a2)), (3, .c (.ptr 192 0)), (7, .c (wi x))] [(192, .var [.bs (U_ a0.fC) 4 (row G_ (eC U_ G_) a0.fC)])])) (fun y e s => (match y with | .inl w => e = .ret /\ s.le (sp 28 [(6, .c (.v (.bool w)))] []) | .inr w0 => (fun (w : Unit) => e = .exit 0 /\ s.le (sp 28 [] [])) w0)) zb ?_ ?_
 ·intro v1 z h K hK hY; replace h := oz h; cbv; revert h; refine fk ?_ ?_ <;> intro h <;> cbv
  ·revert h; refine cu (fun y14 => (sp 28 [(1, .c (wi a1)), (2, .c (ws a2)), (3, .c (.ptr 192 0)), (7, .c (wi v1)), (27, .c (.v (.bool y14)))] [(192, .var [.bs (U_ a0.fC) 4 (row G_ (eC U_ G_) a0.fC)])])) (fun y14 S hS h => rg) fun w20 => rz fun h => ?_; cbv; revert h; refine fk ?_ ?_ <;> intro h <;> cbv
   ·exact dy
   exact dm
  exact dy
 intro y3 h e12 s13 q11 hne; rcases y3 with y3k0 | y3m0
 ·replace h := h; obtain ⟨rfl, q11⟩ := q11; revert h; refine rz fun h => ?_; cbv; injection h with h; subst h; exact ⟨_, q11, lR _, zo, rfl⟩
 ·obtain ⟨rfl, q11⟩ := q11; cbv; refine ⟨_, q11, ?_⟩; cbv; exact df
end
end Go.Proofs.YtohgghncmkiicaaGreat.AM
