/-
  What the functions that the law reaches compute, and that they do. No condition.
-/
import Derived.Test.YtohgghncmkiicaaGreatAmSV
namespace Go.Proofs.YtohgghncmkiicaaGreat.AM
noncomputable section
open Go Go.Proofs Go.RowKit Go.Proofs.Tryz
set_option linter.unusedVariables false
set_option linter.unusedSimpArgs false
set_option maxRecDepth 100000

set_option maxHeartbeats 4000000
def Lq76_x2 (a0 : TC) (a1 : Int) : (Int) -> Option ((Int) ⊕ ((Bool) ⊕ (Unit))) := fun x2 =>
 letO x2 fun v1 =>
 br (std.lt v1 (std.ofN (len a0.fI)))
 (req (std.inR v1 (len a0.fI)) <|
 br (std.eq (gd a0.fI (std.toN v1)).fc a1)
 (some (.inr (.inl true)))
 (some (.inl (std.add .i64 v1 1))))
 (some (.inr (.inr ())))
/-- spec.l09Uses -/
def Fq76 (a0 : TC) (a1 : Int) : Option (Bool) :=
 (whileP (σ := Int) (ρ := (Bool) ⊕ (Unit)) (Lq76_x2 a0 a1) 0).bind fun y3 =>
 (match y3 with
 | .inl y3k0 => (
 letO y3k0 fun w17 =>
 some w17)
 | .inr y3m0 =>
 some false)
theorem runq76 (a0 : TC) (a1 : Int) (r : Bool) (h : Fq76 a0 a1 = some r) : Fun prog 246 [.agg [ws a0.fN, .bs (len a0.fS) 5 (row gd (eS) a0.fS), .bs (len a0.fL) 4 (row gd (eL) a0.fL), .bs (len a0.fI) 8 (row gd (eI) a0.fI)], .c (wi a1)] [] (.c (.v (.bool r))) [] true := by
 refine ow [] func246 ntmps246 ?_; unfold Fq76 at h; unfold Lq76_x2 at h; generalize hU_ : @len = U_, hG_ : @gd = G_, hA : std = A, hP : prog = P at *; cbv
 revert h; refine lc (fun x => (sp 21 [(1, .c (wi a1)), (2, .c (.ptr 128 0)), (5, .c (wi x))] [(128, .var [ws a0.fN, .bs (U_ a0.fS) 5 (row G_ (eS) a0.fS), .bs (U_ a0.fL) 4 (row G_ (eL) a0.fL), .bs (U_ a0.fI) 8 (row G_ (eI) a0.fI)])])) (fun y e s => (match y with | .inl w => e = .ret /\ s.le (sp 21 [(4, .c (.v (.bool w)))] []) | .inr w0 => (fun (w : Unit) => e = .exit 0 /\ s.le (sp 21 [] [])) w0)) zb ?_ ?_
 ·intro v1 z h K hK hY; replace h := oz h; cbv; revert h; refine fk ?_ ?_ <;> intro h <;> cbv
  ·revert h; refine ra fun c14 h => ?_; revert h; refine fk ?_ ?_ <;> intro h <;> cbv
   ·exact dy
   exact dm
  exact dy
 intro y3 h e12 s13 q11 hne; rcases y3 with y3k0 | y3m0
 ·replace h := h; obtain ⟨rfl, q11⟩ := q11; revert h; refine rz fun h => ?_; cbv; injection h with h; subst h; exact ⟨_, q11, lR _, zo, rfl⟩
 ·obtain ⟨rfl, q11⟩ := q11; cbv; refine ⟨_, q11, ?_⟩; cbv; exact df

def Lq72_x2 (a0 : TL) (a1 : Int) : (Int) -> Option ((Int) ⊕ ((Bool) ⊕ (Unit))) := fun x2 =>
 letO x2 fun v1 =>
 br (std.lt v1 (std.ofN (len a0.fC)))
 (req (std.inR v1 (len a0.fC)) <|
 (Fq76 (gd a0.fC (std.toN v1)) a1).bind fun y15 =>
 br y15
 (some (.inr (.inl true)))
 (some (.inl (std.add .i64 v1 1))))
 (some (.inr (.inr ())))
/-- spec.l13Placed -/
def Fq72 (a0 : TL) (a1 : Int) : Option (Bool) :=
 (whileP (σ := Int) (ρ := (Bool) ⊕ (Unit)) (Lq72_x2 a0 a1) 0).bind fun y3 =>
 (match y3 with
 | .inl y3k0 => (
 letO y3k0 fun w19 =>
 some w19)
 | .inr y3m0 =>
 some false)
theorem runq72 (a0 : TL) (a1 : Int) (r : Bool) (h : Fq72 a0 a1 = some r) : Fun prog 190 [.agg [.bs (len a0.fC) 4 (row gd (eC len gd) a0.fC)], .c (wi a1)] [] (.c (.v (.bool r))) [] true := by
 refine ow [] func190 ntmps190 ?_; unfold Fq72 at h; unfold Lq72_x2 at h; have hfq76 := @runq76; generalize hU_ : @len = U_, hG_ : @gd = G_, hA : std = A, hP : prog = P at *; cbv
 revert h; refine lc (fun x => (sp 20 [(1, .c (wi a1)), (2, .c (.ptr 128 0)), (5, .c (wi x))] [(128, .var [.bs (U_ a0.fC) 4 (row G_ (eC U_ G_) a0.fC)])])) (fun y e s => (match y with | .inl w => e = .ret /\ s.le (sp 20 [(4, .c (.v (.bool w)))] []) | .inr w0 => (fun (w : Unit) => e = .exit 0 /\ s.le (sp 20 [] [])) w0)) zb ?_ ?_
 ·intro v1 z h K hK hY; replace h := oz h; cbv; revert h; refine fk ?_ ?_ <;> intro h <;> cbv
  ·revert h; refine ra fun c14 h => ?_; revert h; refine rk0 (hfq76 _ _) fun y15 h => ?_; cbv; revert h; refine fk ?_ ?_ <;> intro h <;> cbv
   ·exact dy
   exact dm
  exact dy
 intro y3 h e12 s13 q11 hne; rcases y3 with y3k0 | y3m0
 ·replace h := h; obtain ⟨rfl, q11⟩ := q11; revert h; refine rz fun h => ?_; cbv; injection h with h; subst h; exact ⟨_, q11, lR _, zo, rfl⟩
 ·obtain ⟨rfl, q11⟩ := q11; cbv; refine ⟨_, q11, ?_⟩; cbv; exact df

/-- spec.l13CellCode -/
def Fq144 (a0 : TL) (a1 : TE) : Option (Int) :=
 ((
 br (std.eq a1.fk_ 8)
 (br (std.lt (std.ofN (len a0.fC)) a1.fc)
 (some true)
 (br (std.not (std.eq a1.fk_ 8))
 (some (std.le (std.ofN (len a0.fC)) a1.fc))
 (some false)))
 (br (std.not (std.eq a1.fk_ 8))
 (some (std.le (std.ofN (len a0.fC)) a1.fc))
 (some false))
 ) : Option (Bool)).bind fun y1 =>
 letO y1 fun w7 =>
 br w7
 (some 5)
 (((
 br (std.eq a1.fk_ 8)
 (some (std.eq (std.ofN (len a0.fC)) 8))
 (some false)
 ) : Option (Bool)).bind fun y12 =>
 letO y12 fun w18 =>
 br w18
 (some 3)
 (((
 br (std.eq a1.fk_ 8)
 ((Fq56 (TL.mk a0.fC) (-1) a1.fN).bind fun y27 =>
 some y27)
 (some false)
 ) : Option (Bool)).bind fun y20 =>
 letO y20 fun w26 =>
 br w26
 (some 6)
 (((
 br (std.eq a1.fk_ 7)
 ((Fq56 (TL.mk a0.fC) a1.fc a1.fN).bind fun y37 =>
 some y37)
 (some false)
 ) : Option (Bool)).bind fun y30 =>
 letO y30 fun w36 =>
 br w36
 (some 6)
 (((
 br (std.eq a1.fk_ 9)
 (req (std.inR a1.fc (len a0.fC)) <|
 ((
 br (std.eq (std.ofN (len a0.fC)) 1)
 (some true)
 (br (std.lt 0 (std.add .i64 (std.add .i64 (std.ofN (len (gd a0.fC (std.toN a1.fc)).fS)) (std.ofN (len (gd a0.fC (std.toN a1.fc)).fL))) (std.ofN (len (gd a0.fC (std.toN a1.fc)).fI))))
 (some true)
 ((Fq72 (TL.mk a0.fC) a1.fc).bind fun y54 =>
 some y54))
 ) : Option (Bool)).bind fun y47 =>
 letO y47 fun w53 =>
 br w53
 ((some 6).bind fun r58 => some (.inl r58))
 (some (.inr ())))
 (some (.inr ()))
 ) : Option (_ ⊕ Unit)).bind fun z42 => (match z42 with
 | .inl r => some r
 | .inr y40 =>
 some 0)))))
theorem runq144 (a0 : TL) (a1 : TE) (r : Int) (h : Fq144 a0 a1 = some r) : Fun prog 106 [.agg [.bs (len a0.fC) 4 (row gd (eC len gd) a0.fC)], .agg (cE a1)] [] (.c (wi r)) [] true := by
 refine ow [2, 4, 6, 8, 12, 100061] func106 ntmps106 ?_; unfold Fq144 at h; have hfq56 := @runq56; have hfq72 := @runq72; generalize hU_ : @len = U_, hG_ : @gd = G_, hA : std = A, hP : prog = P at *; cbv
 revert h; refine cu (fun y1 => (sp 93 [(2, .c (.ptr 128 0)), (3, .c (.ptr 192 0)), (5, .c (wi (A.ofN (U_ a0.fC)))), (10, .c (.v (.bool y1)))] [(128, .var [.bs (U_ a0.fC) 4 (row G_ (eC U_ G_) a0.fC)]), (192, .var (cE a1))])) (fun y1 S hS h => rg) fun w7 => rz fun h => ?_
 cbv; revert h; refine fk ?_ ?_ <;> intro h <;> cbv
 ·exact df
 revert h; refine cu (fun y12 => (sp 93 [(2, .c (.ptr 128 0)), (3, .c (.ptr 192 0)), (5, .c (wi (A.ofN (U_ a0.fC)))), (31, .c (.v (.bool y12)))] [(128, .var [.bs (U_ a0.fC) 4 (row G_ (eC U_ G_) a0.fC)]), (192, .var (cE a1))])) (fun y12 S hS h => rg) fun w18 => rz fun h => ?_
 cbv; revert h; refine fk ?_ ?_ <;> intro h <;> cbv
 ·exact df
 revert h; refine cu (fun y20 => (sp 93 [(2, .c (.ptr 128 0)), (3, .c (.ptr 192 0)), (5, .c (wi (A.ofN (U_ a0.fC)))), (39, .c (.v (.bool y20)))] [(128, .var [.bs (U_ a0.fC) 4 (row G_ (eC U_ G_) a0.fC)]), (192, .var (cE a1))])) ?_ fun w26 => rz fun h => ?_
 ·intro y20 S hS h; cbv; revert h; refine fk ?_ ?_ <;> intro h <;> cbv
  ·revert h; refine rk0 (hfq56 _ _ _) fun y27 h => ?_; cbv; exact dn
  exact dn
 cbv; revert h; refine fk ?_ ?_ <;> intro h <;> cbv
 ·exact df
 revert h; refine cu (fun y30 => (sp 93 [(2, .c (.ptr 128 0)), (3, .c (.ptr 192 0)), (5, .c (wi (A.ofN (U_ a0.fC)))), (49, .c (.v (.bool y30)))] [(128, .var [.bs (U_ a0.fC) 4 (row G_ (eC U_ G_) a0.fC)]), (192, .var (cE a1))])) ?_ fun w36 => rz fun h => ?_
 ·intro y30 S hS h; cbv; revert h; refine fk ?_ ?_ <;> intro h <;> cbv
  ·revert h; refine rk0 (hfq56 _ _ _) fun y37 h => ?_; cbv; exact dn
  exact dn
 cbv; revert h; refine fk ?_ ?_ <;> intro h <;> cbv
 ·exact df
 obtain ⟨z42, hy41, hz43⟩ := ob_ h; obtain ⟨S, hS⟩ : ∃ S, S = (match z42 with | .inl _ => none | .inr y40 => some (sp 93 [] [])) := ⟨_, rfl⟩; refine ⟨S, ?_, ?_⟩
 ·have h := hy41; clear hy41; cbv; revert h; refine fk ?_ ?_ <;> intro h <;> cbv
  ·revert h; refine ra fun c46 h => ?_; revert h; refine cu (fun y47 => (sp 93 [(92, .c (.v (.bool y47)))] [])) ?_ fun w53 => rz fun h => ?_
   ·intro y47 S hS h; cbv; revert h; refine fk ?_ ?_ <;> intro h <;> cbv
    ·exact dn
    revert h; refine fk ?_ ?_ <;> intro h <;> cbv
    ·exact dn
    revert h; refine rk0 (hfq72 _ _) fun y54 h => ?_; cbv; exact dn
   cbv; revert h; refine fk ?_ ?_ <;> intro h <;> cbv
   ·obtain ⟨r58, h59, he60⟩ := ob_ h; injection he60 with he60; subst he60; injection hz43 with hz43; subst hz43; have h := h59; exact df
   exact dn
  exact dn
 ·clear hy41; subst hS; rcases z42 with _ | y40
  ·trivial
  ·have h := hz43; clear hz43; cbv; exact df

/-- spec.l13Counts -/
def Fq156 (a0 : TC) (a1 : Int) : Option (Int × Int) :=
 ((
 br (std.eq a1 1)
 (some true)
 (some (std.eq a1 2))
 ) : Option (Bool)).bind fun y1 =>
 letO y1 fun w7 =>
 ((
 br w7
 ((some (std.ofN (len a0.fS), (24 : Int))).bind fun r15 => some (.inl r15))
 (((
 br (std.eq a1 3)
 (some true)
 (some (std.eq a1 4))
 ) : Option (Bool)).bind fun y18 =>
 letO y18 fun w24 =>
 ((
 br w24
 (((some (std.ofN (len a0.fL), (8 : Int))).bind fun r32 => some (.inl r32)).bind fun r35 => some (.inl r35))
 (some (.inr ()))
 ) : Option (_ ⊕ Unit)).bind fun z28 => (match z28 with
 | .inl r => some r
 | .inr y26 =>
 some (.inr ())))
 ) : Option (_ ⊕ Unit)).bind fun z11 => (match z11 with
 | .inl r => some r
 | .inr y9 =>
 some (std.ofN (len a0.fI), (8 : Int)))
theorem runq156 (a0 : TC) (a1 : Int) (r : Int × Int) (h : Fq156 a0 a1 = some r) : Fun prog 107 [.agg [ws a0.fN, .bs (len a0.fS) 5 (row gd (eS) a0.fS), .bs (len a0.fL) 4 (row gd (eL) a0.fL), .bs (len a0.fI) 8 (row gd (eI) a0.fI)], .c (wi a1)] [] (.tup [.c (wi r.1), .c (wi r.2)]) [] true := by
 refine ow [100007, 100013] func107 ntmps107 ?_ (hv := (fun _ => ⟨(by simp [AV.flat, AV.flat1, AC.flat]), tv⟩)); unfold Fq156 at h; generalize hU_ : @len = U_, hG_ : @gd = G_, hA : std = A, hP : prog = P at *; cbv
 revert h; refine cu (fun y1 => some (sp 22 [(2, .c (.ptr 128 0)), (6, .c (wi a1)), (7, .c (.v (.bool y1)))] [(128, .var [ws a0.fN, .bs (U_ a0.fS) 5 (row G_ (eS) a0.fS), .bs (U_ a0.fL) 4 (row G_ (eL) a0.fL), .bs (U_ a0.fI) 8 (row G_ (eI) a0.fI)])])) (fun y1 S hS h => rg) fun w7 => rz fun h => ?_; cbv
 obtain ⟨z11, hy10, hz12⟩ := ob_ h; obtain ⟨S, hS⟩ : ∃ S, S = (match z11 with | .inl _ => none | .inr y9 => some (sp 22 [(2, .c (.ptr 128 0))] [(128, .var [ws a0.fN, .bs (U_ a0.fS) 5 (row G_ (eS) a0.fS), .bs (U_ a0.fL) 4 (row G_ (eL) a0.fL), .bs (U_ a0.fI) 8 (row G_ (eI) a0.fI)])])) := ⟨_, rfl⟩; refine ⟨S, ?_, ?_⟩
 ·have h := hy10; clear hy10; cbv; revert h; refine fk ?_ ?_ <;> intro h <;> cbv
  ·obtain ⟨r15, h16, he17⟩ := ob_ h; injection he17 with he17; subst he17; injection hz12 with hz12; subst hz12; have h := h16; exact df
  revert h; refine cu (fun y18 => some (sp 22 [(2, .c (.ptr 128 0)), (13, .c (.v (.bool y18)))] [(128, .var [ws a0.fN, .bs (U_ a0.fS) 5 (row G_ (eS) a0.fS), .bs (U_ a0.fL) 4 (row G_ (eL) a0.fL), .bs (U_ a0.fI) 8 (row G_ (eI) a0.fI)])])) (fun y18 S hS h => rg) fun w24 => rz fun h => ?_; cbv
  obtain ⟨z28, hy27, hz29⟩ := ob_ h; obtain ⟨S, hS⟩ : ∃ S, S = (match z28 with | .inl _ => none | .inr y26 => some (sp 22 [(2, .c (.ptr 128 0))] [(128, .var [ws a0.fN, .bs (U_ a0.fS) 5 (row G_ (eS) a0.fS), .bs (U_ a0.fL) 4 (row G_ (eL) a0.fL), .bs (U_ a0.fI) 8 (row G_ (eI) a0.fI)])])) := ⟨_, rfl⟩; refine ⟨S, ?_, ?_⟩
  ·have h := hy27; clear hy27; cbv; revert h; refine fk ?_ ?_ <;> intro h <;> cbv
   ·obtain ⟨r35, h36, he37⟩ := ob_ h; injection he37 with he37; subst he37; injection hz29 with hz29; subst hz29; have h := h36; obtain ⟨r32, h33, he34⟩ := ob_ h; injection he34 with he34; subst he34; injection hz12 with hz12; subst hz12; have h := h33; exact df
   exact dn
  ·clear hy27; subst hS; rcases z28 with _ | y26
   ·trivial
   ·have h := hz29; clear hz29; cbv; exact dn
 ·clear hy10; subst hS; rcases z11 with _ | y9
  ·trivial
  ·have h := hz12; clear hz12; cbv; exact df

/-- spec.l13Code -/
def Fq140 (a0 : TL) (a1 : TE) : Option (Int) :=
 ((
 (Fq20 (TL.mk a0.fC)).bind fun y8 =>
 br (!(y8))
 (some true)
 ((Fq91 a1).bind fun y10 =>
 some (!(y10)))
 ) : Option (Bool)).bind fun y1 =>
 letO y1 fun w7 =>
 br w7
 (some 1)
 (br (std.le 7 a1.fk_)
 ((Fq144 (TL.mk a0.fC) a1).bind fun y13 =>
 some y13)
 (br (std.le (std.ofN (len a0.fC)) a1.fc)
 (some 5)
 (req (std.inR a1.fc (len a0.fC)) <|
 (Fq156 (gd a0.fC (std.toN a1.fc)) a1.fk_).bind fun y16 =>
 ((
 br (std.eq a1.fk_ 2)
 (some true)
 (br (std.eq a1.fk_ 4)
 (some true)
 (some (std.eq a1.fk_ 6)))
 ) : Option (Bool)).bind fun y18 =>
 letO y18 fun w24 =>
 ((
 br w24
 (some (std.le y16.1 a1.fx))
 (some false)
 ) : Option (Bool)).bind fun y27 =>
 letO y27 fun w33 =>
 br w33
 (some 5)
 (br w24
 (some 0)
 (br (std.lt y16.1 a1.fx)
 (some 2)
 (br (std.eq y16.1 y16.2)
 (some 3)
 (((
 br (std.eq a1.fk_ 5)
 (some (std.le a1.fc a1.fi_.fc))
 (some false)
 ) : Option (Bool)).bind fun y35 =>
 letO y35 fun w41 =>
 br w41
 (some 6)
 (some 0))))))))
theorem runq140 (a0 : TL) (a1 : TE) (r : Int) (h : Fq140 a0 a1 = some r) : Fun prog 57 [.agg [.bs (len a0.fC) 4 (row gd (eC len gd) a0.fC)], .agg (cE a1)] [] (.c (wi r)) [] true := by
 refine ow [1, 8, 9, 17] func57 ntmps57 ?_; unfold Fq140 at h; have hfq91 := @runq91; have hfq20 := @runq20; have hfq144 := @runq144; have hfq156 := @runq156; generalize hU_ : @len = U_, hG_ : @gd = G_, hA : std = A, hP : prog = P at *; cbv
 revert h; refine cu (fun y1 => (sp 84 [(2, .c (.ptr 128 0)), (3, .c (.ptr 192 0)), (15, .c (.v (.bool y1)))] [(128, .var [.bs (U_ a0.fC) 4 (row G_ (eC U_ G_) a0.fC)]), (192, .var (cE a1))])) ?_ fun w7 => rz fun h => ?_
 ·intro y1 S hS h; cbv; revert h; refine rk0 (hfq20 _) fun y8 h => ?_; cbv; revert h; refine fk ?_ ?_ <;> intro h <;> cbv
  ·exact dn
  revert h; refine rk0 (hfq91 _) fun y10 h => ?_; cbv; exact dn
 cbv; revert h; refine fk ?_ ?_ <;> intro h <;> cbv
 ·exact df
 revert h; refine fk ?_ ?_ <;> intro h <;> cbv
 ·revert h; refine rk0 (hfq144 _ _) fun y13 h => ?_; cbv; exact df
 revert h; refine fk ?_ ?_ <;> intro h <;> cbv
 ·exact df
 revert h; refine ra fun c15 h => ?_; revert h; refine rk0 (hfq156 _ _) fun y16 h => ?_; cbv
 revert h; refine cu (fun y18 => (sp 84 [(3, .c (.ptr 192 0)), (5, .c (wi y16.1)), (6, .c (wi y16.2)), (7, .c (.v (.bool y18)))] [(192, .var (cE a1))])) (fun y18 S hS h => rg) fun w24 => rz fun h => ?_
 cbv
 revert h; refine cu (fun y27 => (sp 84 [(3, .c (.ptr 192 0)), (5, .c (wi y16.1)), (6, .c (wi y16.2)), (7, .c (.v (.bool w24))), (53, .c (.v (.bool y27)))] [(192, .var (cE a1))])) (fun y27 S hS h => rg) fun w33 => rz fun h => ?_
 cbv; revert h; refine fk ?_ ?_ <;> intro h <;> cbv
 ·exact df
 revert h; refine fk ?_ ?_ <;> intro h <;> cbv
 ·exact df
 revert h; refine fk ?_ ?_ <;> intro h <;> cbv
 ·exact df
 revert h; refine fk ?_ ?_ <;> intro h <;> cbv
 ·exact df
 revert h; refine cu (fun y35 => (sp 84 [(72, .c (.v (.bool y35)))] [])) (fun y35 S hS h => rg) fun w41 => rz fun h => ?_; cbv; revert h; refine fk ?_ ?_ <;> intro h <;> cbv
 ·exact df
 exact df

/-- spec.l13Inverse -/
def Fq35 (a0 : TL) (a1 : TE) : Option (TE) :=
 br (std.eq a1.fk_ 8)
 (some (TE.mk 9 a1.fc a1.fx (ByteArray.mk #[]) (TS.mk 0 (TRect.mk 0 0 0 0)) (TB.mk 0 (TPoint.mk 0 0) (ByteArray.mk #[])) (TI.mk 0 (TM.mk 0 0 0) 0 0 0 0)))
 (((
 br (std.eq a1.fk_ 1)
 (some true)
 (((
 br (std.eq a1.fk_ 3)
 (some true)
 (some (std.eq a1.fk_ 5))
 ) : Option (Bool)).bind fun y8 =>
 letO y8 fun w14 =>
 some w14)
 ) : Option (Bool)).bind fun y1 =>
 letO y1 fun w7 =>
 ((
 br w7
 ((some (TE.mk (std.add .i64 a1.fk_ 1) a1.fc a1.fx (ByteArray.mk #[]) (TS.mk 0 (TRect.mk 0 0 0 0)) (TB.mk 0 (TPoint.mk 0 0) (ByteArray.mk #[])) (TI.mk 0 (TM.mk 0 0 0) 0 0 0 0))).bind fun r23 => some (.inl r23))
 (some (.inr ()))
 ) : Option (_ ⊕ Unit)).bind fun z19 => (match z19 with
 | .inl r => some r
 | .inr y17 =>
 req (std.inR a1.fc (len a0.fC)) <|
 ((
 br (std.eq a1.fk_ 2)
 (req (std.inR a1.fx (len (gd a0.fC (std.toN a1.fc)).fS)) <|
 some ((gd (gd a0.fC (std.toN a1.fc)).fS (std.toN a1.fx)).fy, (gd (gd a0.fC (std.toN a1.fc)).fS (std.toN a1.fx)).fb.fX0, (gd (gd a0.fC (std.toN a1.fc)).fS (std.toN a1.fx)).fb.fY0, (gd (gd a0.fC (std.toN a1.fc)).fS (std.toN a1.fx)).fb.fX1, (gd (gd a0.fC (std.toN a1.fc)).fS (std.toN a1.fx)).fb.fY1, (ByteArray.mk #[]), 0, 0, 0, (ByteArray.mk #[]), 0, 0, 0, 0, 0, 0, 0, 0))
 (((
 br (std.eq a1.fk_ 4)
 (req (std.inR a1.fx (len (gd a0.fC (std.toN a1.fc)).fL)) <|
 some ((gd (gd a0.fC (std.toN a1.fc)).fL (std.toN a1.fx)).fy, (gd (gd a0.fC (std.toN a1.fc)).fL (std.toN a1.fx)).fa.fX, (gd (gd a0.fC (std.toN a1.fc)).fL (std.toN a1.fx)).fa.fY, (gd (gd a0.fC (std.toN a1.fc)).fL (std.toN a1.fx)).fN, (ByteArray.mk #[]), 0, 0, 0, 0, 0, 0, 0, 0))
 (((
 br (std.eq a1.fk_ 6)
 (req (std.inR a1.fx (len (gd a0.fC (std.toN a1.fc)).fI)) <|
 some ((gd (gd a0.fC (std.toN a1.fc)).fI (std.toN a1.fx)).fc, (gd (gd a0.fC (std.toN a1.fc)).fI (std.toN a1.fx)).fp.fo, (gd (gd a0.fC (std.toN a1.fc)).fI (std.toN a1.fx)).fp.fX, (gd (gd a0.fC (std.toN a1.fc)).fI (std.toN a1.fx)).fp.fY, (gd (gd a0.fC (std.toN a1.fc)).fI (std.toN a1.fx)).fK, (gd (gd a0.fC (std.toN a1.fc)).fI (std.toN a1.fx)).fR, (gd (gd a0.fC (std.toN a1.fc)).fI (std.toN a1.fx)).fu, (gd (gd a0.fC (std.toN a1.fc)).fI (std.toN a1.fx)).fv, (ByteArray.mk #[])))
 (some (0, 0, 0, 0, 0, 0, 0, 0, (gd a0.fC (std.toN a1.fc)).fN))
 ) : Option (Int × Int × Int × Int × Int × Int × Int × Int × ByteArray)).bind fun y73 =>
 letO y73.1 fun w79 =>
 letO y73.2.1 fun w80 =>
 letO y73.2.2.1 fun w81 =>
 letO y73.2.2.2.1 fun w82 =>
 letO y73.2.2.2.2.1 fun w83 =>
 letO y73.2.2.2.2.2.1 fun w84 =>
 letO y73.2.2.2.2.2.2.1 fun w85 =>
 letO y73.2.2.2.2.2.2.2.1 fun w86 =>
 letO y73.2.2.2.2.2.2.2.2 fun w87 =>
 some (0, 0, 0, (ByteArray.mk #[]), w87, w79, w80, w81, w82, w83, w84, w85, w86))
 ) : Option (Int × Int × Int × ByteArray × ByteArray × Int × Int × Int × Int × Int × Int × Int × Int)).bind fun y53 =>
 letO y53.1 fun w59 =>
 letO y53.2.1 fun w60 =>
 letO y53.2.2.1 fun w61 =>
 letO y53.2.2.2.1 fun w62 =>
 letO y53.2.2.2.2.1 fun w63 =>
 letO y53.2.2.2.2.2.1 fun w64 =>
 letO y53.2.2.2.2.2.2.1 fun w65 =>
 letO y53.2.2.2.2.2.2.2.1 fun w66 =>
 letO y53.2.2.2.2.2.2.2.2.1 fun w67 =>
 letO y53.2.2.2.2.2.2.2.2.2.1 fun w68 =>
 letO y53.2.2.2.2.2.2.2.2.2.2.1 fun w69 =>
 letO y53.2.2.2.2.2.2.2.2.2.2.2.1 fun w70 =>
 letO y53.2.2.2.2.2.2.2.2.2.2.2.2 fun w71 =>
 some (0, 0, 0, 0, 0, w63, w59, w60, w61, w62, w64, w65, w66, w67, w68, w69, w70, w71))
 ) : Option (Int × Int × Int × Int × Int × ByteArray × Int × Int × Int × ByteArray × Int × Int × Int × Int × Int × Int × Int × Int)).bind fun y28 =>
 letO y28.1 fun w34 =>
 letO y28.2.1 fun w35 =>
 letO y28.2.2.1 fun w36 =>
 letO y28.2.2.2.1 fun w37 =>
 letO y28.2.2.2.2.1 fun w38 =>
 letO y28.2.2.2.2.2.1 fun w39 =>
 letO y28.2.2.2.2.2.2.1 fun w40 =>
 letO y28.2.2.2.2.2.2.2.1 fun w41 =>
 letO y28.2.2.2.2.2.2.2.2.1 fun w42 =>
 letO y28.2.2.2.2.2.2.2.2.2.1 fun w43 =>
 letO y28.2.2.2.2.2.2.2.2.2.2.1 fun w44 =>
 letO y28.2.2.2.2.2.2.2.2.2.2.2.1 fun w45 =>
 letO y28.2.2.2.2.2.2.2.2.2.2.2.2.1 fun w46 =>
 letO y28.2.2.2.2.2.2.2.2.2.2.2.2.2.1 fun w47 =>
 letO y28.2.2.2.2.2.2.2.2.2.2.2.2.2.2.1 fun w48 =>
 letO y28.2.2.2.2.2.2.2.2.2.2.2.2.2.2.2.1 fun w49 =>
 letO y28.2.2.2.2.2.2.2.2.2.2.2.2.2.2.2.2.1 fun w50 =>
 letO y28.2.2.2.2.2.2.2.2.2.2.2.2.2.2.2.2.2 fun w51 =>
 ((
 br (std.eq a1.fk_ 7)
 (some 7)
 (some (std.sub .i64 a1.fk_ 1))
 ) : Option (Int)).bind fun y92 =>
 letO y92 fun w98 =>
 some (TE.mk w98 a1.fc a1.fx w39 (TS.mk w34 (TRect.mk w35 w36 w37 w38)) (TB.mk w40 (TPoint.mk w41 w42) w43) (TI.mk w44 (TM.mk w45 w46 w47) w48 w49 w50 w51))))
theorem runq35 (a0 : TL) (a1 : TE) (r : TE) (h : Fq35 a0 a1 = some r) : Fun prog 135 [.agg [.bs (len a0.fC) 4 (row gd (eC len gd) a0.fC)], .agg (cE a1)] [] (.agg (cE r)) [] true := by
 refine ow [100018, 100038, 100047, 100056, 100071] func135 ntmps135 ?_ (hv := (fun _ => ⟨(by simp [AV.flat, AV.flat1, AC.flat]), tv⟩)); unfold Fq35 at h; generalize hU_ : @len = U_, hG_ : @gd = G_, hA : std = A, hP : prog = P at *; cbv; revert h; refine fk ?_ ?_ <;> intro h <;> cbv
 ·exact df
 revert h; refine cu (fun y1 => some (sp 74 [(2, .c (.ptr 128 0)), (3, .c (.ptr 192 0)), (4, .c (.ptr 256 0)), (5, .c (.ptr 320 0)), (18, .c (.v (.bool y1)))] [(128, .var [.bs (U_ a0.fC) 4 (row G_ (eC U_ G_) a0.fC)]), (192, .var (cE a1)), (256, .var [wi 0, wi 0, wi 0, ws (ByteArray.mk #[]), wi 0, wi 0, wi 0, wi 0, wi 0, wi 0, wi 0, wi 0, ws (ByteArray.mk #[]), wi 0, wi 0, wi 0, wi 0, wi 0, wi 0, wi 0, wi 0]), (320, .var [wi 0, wi a1.fc, wi a1.fx, ws (ByteArray.mk #[]), wi 0, wi 0, wi 0, wi 0, wi 0, wi 0, wi 0, wi 0, ws (ByteArray.mk #[]), wi 0, wi 0, wi 0, wi 0, wi 0, wi 0, wi 0, wi 0])])) ?_ fun w7 => rz fun h => ?_
 ·intro y1 S hS h; cbv; revert h; refine fk ?_ ?_ <;> intro h <;> cbv
  ·exact dn
  revert h; refine cu (fun y8 => some (sp 74 [(2, .c (.ptr 128 0)), (3, .c (.ptr 192 0)), (4, .c (.ptr 256 0)), (5, .c (.ptr 320 0)), (18, .c (.v (.bool y8)))] [(128, .var [.bs (U_ a0.fC) 4 (row G_ (eC U_ G_) a0.fC)]), (192, .var (cE a1)), (256, .var [wi 0, wi 0, wi 0, ws (ByteArray.mk #[]), wi 0, wi 0, wi 0, wi 0, wi 0, wi 0, wi 0, wi 0, ws (ByteArray.mk #[]), wi 0, wi 0, wi 0, wi 0, wi 0, wi 0, wi 0, wi 0]), (320, .var [wi 0, wi a1.fc, wi a1.fx, ws (ByteArray.mk #[]), wi 0, wi 0, wi 0, wi 0, wi 0, wi 0, wi 0, wi 0, ws (ByteArray.mk #[]), wi 0, wi 0, wi 0, wi 0, wi 0, wi 0, wi 0, wi 0])])) (fun y8 S hS h => rg) fun w14 => rz fun h => ?_
  cbv; exact dn
 cbv; obtain ⟨z19, hy18, hz20⟩ := ob_ h
 obtain ⟨S, hS⟩ : ∃ S, S = (match z19 with | .inl _ => none | .inr y17 => some (sp 74 [(2, .c (.ptr 128 0)), (3, .c (.ptr 192 0)), (4, .c (.ptr 256 0)), (5, .c (.ptr 320 0))] [(128, .var [.bs (U_ a0.fC) 4 (row G_ (eC U_ G_) a0.fC)]), (192, .var (cE a1)), (256, .var [wi 0, wi 0, wi 0, ws (ByteArray.mk #[]), wi 0, wi 0, wi 0, wi 0, wi 0, wi 0, wi 0, wi 0, ws (ByteArray.mk #[]), wi 0, wi 0, wi 0, wi 0, wi 0, wi 0, wi 0, wi 0]), (320, .var [wi 0, wi a1.fc, wi a1.fx, ws (ByteArray.mk #[]), wi 0, wi 0, wi 0, wi 0, wi 0, wi 0, wi 0, wi 0, ws (ByteArray.mk #[]), wi 0, wi 0, wi 0, wi 0, wi 0, wi 0, wi 0, wi 0])])) := ⟨_, rfl⟩
 refine ⟨S, ?_, ?_⟩
 ·have h := hy18; clear hy18; cbv; revert h; refine fk ?_ ?_ <;> intro h <;> cbv
  ·obtain ⟨r23, h24, he25⟩ := ob_ h; injection he25 with he25; subst he25; injection hz20 with hz20; subst hz20; have h := h24; exact df
  exact dn
 ·clear hy18; subst hS; rcases z19 with _ | y17
  ·trivial
  ·have h := hz20; clear hz20; cbv; revert h; refine ra fun c27 h => ?_
   revert h; refine cu (fun y28 => some (sp 74 [(3, .c (.ptr 192 0)), (4, .c (.ptr 256 0)), (5, .c (.ptr 320 0))] [(192, .var (cE a1)), (256, .var [wi 0, wi 0, wi 0, ws (ByteArray.mk #[]), wi 0, wi 0, wi 0, wi 0, wi 0, wi 0, wi 0, wi 0, ws (ByteArray.mk #[]), wi 0, wi 0, wi 0, wi 0, wi 0, wi 0, wi 0, wi 0]), (320, .var [wi 0, wi a1.fc, wi a1.fx, ws y28.2.2.2.2.2.1, wi y28.1, wi y28.2.1, wi y28.2.2.1, wi y28.2.2.2.1, wi y28.2.2.2.2.1, wi y28.2.2.2.2.2.2.1, wi y28.2.2.2.2.2.2.2.1, wi y28.2.2.2.2.2.2.2.2.1, ws y28.2.2.2.2.2.2.2.2.2.1, wi y28.2.2.2.2.2.2.2.2.2.2.1, wi y28.2.2.2.2.2.2.2.2.2.2.2.1, wi y28.2.2.2.2.2.2.2.2.2.2.2.2.1, wi y28.2.2.2.2.2.2.2.2.2.2.2.2.2.1, wi y28.2.2.2.2.2.2.2.2.2.2.2.2.2.2.1, wi y28.2.2.2.2.2.2.2.2.2.2.2.2.2.2.2.1, wi y28.2.2.2.2.2.2.2.2.2.2.2.2.2.2.2.2.1, wi y28.2.2.2.2.2.2.2.2.2.2.2.2.2.2.2.2.2])])) ?_ ?_
   ·intro y28 S hS h; cbv; revert h; refine fk ?_ ?_ <;> intro h <;> cbv
    ·revert h; refine ra fun c52 h => ?_; exact dn
    revert h; refine cu (fun y53 => some (sp 74 [(3, .c (.ptr 192 0)), (4, .c (.ptr 256 0)), (5, .c (.ptr 320 0))] [(192, .var (cE a1)), (256, .var [wi 0, wi 0, wi 0, ws (ByteArray.mk #[]), wi 0, wi 0, wi 0, wi 0, wi 0, wi 0, wi 0, wi 0, ws (ByteArray.mk #[]), wi 0, wi 0, wi 0, wi 0, wi 0, wi 0, wi 0, wi 0]), (320, .var [wi 0, wi a1.fc, wi a1.fx, ws y53.2.2.2.2.1, wi 0, wi 0, wi 0, wi 0, wi 0, wi y53.1, wi y53.2.1, wi y53.2.2.1, ws y53.2.2.2.1, wi y53.2.2.2.2.2.1, wi y53.2.2.2.2.2.2.1, wi y53.2.2.2.2.2.2.2.1, wi y53.2.2.2.2.2.2.2.2.1, wi y53.2.2.2.2.2.2.2.2.2.1, wi y53.2.2.2.2.2.2.2.2.2.2.1, wi y53.2.2.2.2.2.2.2.2.2.2.2.1, wi y53.2.2.2.2.2.2.2.2.2.2.2.2])])) ?_ ?_
    ·intro y53 S hS h; cbv; revert h; refine fk ?_ ?_ <;> intro h <;> cbv
     ·revert h; refine ra fun c72 h => ?_; exact dn
     revert h; refine cu (fun y73 => some (sp 74 [(3, .c (.ptr 192 0)), (4, .c (.ptr 256 0)), (5, .c (.ptr 320 0))] [(192, .var (cE a1)), (256, .var [wi 0, wi 0, wi 0, ws (ByteArray.mk #[]), wi 0, wi 0, wi 0, wi 0, wi 0, wi 0, wi 0, wi 0, ws (ByteArray.mk #[]), wi 0, wi 0, wi 0, wi 0, wi 0, wi 0, wi 0, wi 0]), (320, .var [wi 0, wi a1.fc, wi a1.fx, ws y73.2.2.2.2.2.2.2.2, wi 0, wi 0, wi 0, wi 0, wi 0, wi 0, wi 0, wi 0, ws (ByteArray.mk #[]), wi y73.1, wi y73.2.1, wi y73.2.2.1, wi y73.2.2.2.1, wi y73.2.2.2.2.1, wi y73.2.2.2.2.2.1, wi y73.2.2.2.2.2.2.1, wi y73.2.2.2.2.2.2.2.1])])) (fun y73 S hS h => rg) ?_
     rintro ⟨w79, w80, w81, w82, w83, w84, w85, w86, w87⟩ h; replace h := oz (oz (oz (oz (oz (oz (oz (oz (oz h)))))))); dsimp only at h; cbv; exact dn
    rintro ⟨w59, w60, w61, w62, w63, w64, w65, w66, w67, w68, w69, w70, w71⟩ h; replace h := oz (oz (oz (oz (oz (oz (oz (oz (oz (oz (oz (oz (oz h)))))))))))); dsimp only at h; cbv; exact dn
   rintro ⟨w34, w35, w36, w37, w38, w39, w40, w41, w42, w43, w44, w45, w46, w47, w48, w49, w50, w51⟩ h; replace h := oz (oz (oz (oz (oz (oz (oz (oz (oz (oz (oz (oz (oz (oz (oz (oz (oz (oz h))))))))))))))))); dsimp only at h; cbv
   revert h; refine cu (fun y92 => some (sp 74 [(4, .c (.ptr 256 0)), (5, .c (.ptr 320 0))] [(256, .var [wi 0, wi 0, wi 0, ws (ByteArray.mk #[]), wi 0, wi 0, wi 0, wi 0, wi 0, wi 0, wi 0, wi 0, ws (ByteArray.mk #[]), wi 0, wi 0, wi 0, wi 0, wi 0, wi 0, wi 0, wi 0]), (320, .var [wi y92, wi a1.fc, wi a1.fx, ws w39, wi w34, wi w35, wi w36, wi w37, wi w38, wi w40, wi w41, wi w42, ws w43, wi w44, wi w45, wi w46, wi w47, wi w48, wi w49, wi w50, wi w51])])) (fun y92 S hS h => rg) fun w98 => rz fun h => ?_
   cbv; exact df
set_option maxHeartbeats 4000000
def Lq31_x25 (a0 : TL) (a1 : Int) (a2 : Int) (v1 : Int) (v2 : List TC) : (Int × (List TI)) -> Option ((Int × (List TI)) ⊕ (((List TC)))) := fun x25 =>
 letO x25.1 fun v23 =>
 letO x25.2 fun v24 =>
 ((
 some (std.lt v23 (std.ofN (len (gd v2 (std.nadd 0 (std.toN v1))).fI)))
 ) : Option (Bool)).bind fun y37 =>
 letO y37 fun w43 =>
 br w43
 (((
 req (std.inR v23 (len (gd v2 (std.nadd 0 (std.toN v1))).fI)) <|
 some (std.le a1 (gd v24 (std.nadd 0 (std.toN v23))).fc)
 ) : Option (Bool)).bind fun y44 =>
 letO y44 fun w50 =>
 ((
 br w50
 (((
 req (std.inR v23 (len (gd v2 (std.nadd 0 (std.toN v1))).fI)) <|
 req (std.inR v23 (len (gd v2 (std.nadd 0 (std.toN v1))).fI)) <|
 req (len (gd v2 (std.nadd 0 (std.toN v1))).fI = len v24) <|
 letO (List.set v24 (std.nadd 0 (std.toN v23)) (TI.mk (std.add .i64 (gd v24 (std.nadd 0 (std.toN v23))).fc a2) (gd v24 (std.nadd 0 (std.toN v23))).fp (gd v24 (std.nadd 0 (std.toN v23))).fK (gd v24 (std.nadd 0 (std.toN v23))).fR (gd v24 (std.nadd 0 (std.toN v23))).fu (gd v24 (std.nadd 0 (std.toN v23))).fv)) fun l68 =>
 some l68
 ) : Option ((List TI))).bind fun y59 =>
 letO y59 fun w65 =>
 some w65)
 (some v24)
 ) : Option ((List TI))).bind fun y52 =>
 letO y52 fun w58 =>
 some (.inl (std.add .i64 v23 1, w58)))
 (req (len (gd v2 (std.nadd 0 (std.toN v1))).fI = len v24) <|
 req (len a0.fC = len v2) <|
 letO (List.set v2 (std.nadd 0 (std.toN v1)) (TC.mk (gd v2 (std.nadd 0 (std.toN v1))).fN (gd v2 (std.nadd 0 (std.toN v1))).fS (gd v2 (std.nadd 0 (std.toN v1))).fL v24)) fun l72 =>
 some (.inr l72))
def Lq31_x3 (a0 : TL) (a1 : Int) (a2 : Int) : (Int × (List TC)) -> Option ((Int × (List TC)) ⊕ (((List TC)))) := fun x3 =>
 letO x3.1 fun v1 =>
 letO x3.2 fun v2 =>
 br (std.lt v1 (std.ofN (len a0.fC)))
 (((
 req (std.inR v1 (len a0.fC)) <|
 some ()
 ) : Option (Unit)).bind fun y15 =>
 req (std.inR v1 (len a0.fC)) <|
 (whileP (σ := Int × (List TI)) (ρ := ((List TC))) (Lq31_x25 a0 a1 a2 v1 v2) (0, (gd v2 (std.nadd 0 (std.toN v1))).fI)).bind fun y26 =>
 letO y26 fun y26k0 =>
 letO y26k0 fun w75 =>
 some (.inl (std.add .i64 v1 1, w75)))
 (some (.inr v2))
/-- spec.l13Shift -/
def Fq31 (a0 : TL) (a1 : Int) (a2 : Int) : Option (List TC) :=
 (whileP (σ := Int × (List TC)) (ρ := ((List TC))) (Lq31_x3 a0 a1 a2) (0, a0.fC)).bind fun y4 =>
 letO y4 fun y4k0 =>
 letO y4k0 fun w77 =>
 req (len a0.fC = len w77) <|
 some w77
theorem runq31 (a0 : TL) (a1 : Int) (a2 : Int) (r : List TC) (h : Fq31 a0 a1 a2 = some r) : Fun prog 108 [.agg [.os 5 0 (len a0.fC)], .c (wi a1), .c (wi a2)] [(5, .arr .rw [] (len a0.fC) 4 (row gd (oC len gd) a0.fC))] (.tup []) [(5, .arr .rw [] (len r) 4 (row gd (oC len gd) r))] true := by
 refine ow [4, 6, 8, 9, 100034] func108 ntmps108 ?_ (hw := ⟨fun i _ j _ k hk => (noref (rC _ _) hk).elim, tv⟩) (hv := (fun _ => ⟨(by simp [AV.flat, AV.flat1, AC.flat]), ⟨fun i _ j _ => fl_oncCell _ _, tv⟩⟩)); unfold Fq31 at h; unfold Lq31_x3 at h; unfold Lq31_x25 at h
 generalize hU_ : @len = U_, hG_ : @gd = G_, hA : std = A, hP : prog = P at *; cbv
 revert h; refine ln (.exit 0) (fun x => (sp 46 [(1, .c (wi a1)), (2, .c (wi a2)), (3, .c (.ptr 192 0)), (6, .c (wi x.1))] [(192, .var [.os 5 0 (U_ a0.fC)]), (5, .arr .rw [] (U_ a0.fC) 4 (row G_ (oC U_ G_) x.2))])) (fun w => (sp 46 [] [(5, .arr .rw [] (U_ a0.fC) 4 (row G_ (oC U_ G_) w))])) zb ?_ ?_
 ·rintro ⟨v1, v2⟩ z h K hK hY; replace h := oz (oz h); dsimp only at h; cbv; revert h; refine fk ?_ ?_ <;> intro h <;> cbv
  ·revert h; refine cu (fun y15 => (sp 46 [(1, .c (wi a1)), (2, .c (wi a2)), (3, .c (.ptr 192 0)), (6, .c (wi v1)), (7, .c (.os 1346 0 (U_ (G_ v2 (A.nadd 0 (A.toN v1))).fI)))] [(192, .var [.os 5 0 (U_ a0.fC)]), (1346, .arr .rw [] (U_ (G_ v2 (A.nadd 0 (A.toN v1))).fI) 8 (row G_ (eI) (G_ v2 (A.nadd 0 (A.toN v1))).fI)), (5, .arr .rw [1346] (U_ a0.fC) 4 (pC (row G_ (oC U_ G_) v2) (A.nadd 0 (A.toN v1)) [ws (G_ v2 (A.nadd 0 (A.toN v1))).fN, .ow (U_ (G_ v2 (A.nadd 0 (A.toN v1))).fS) 5 (row G_ (eS) (G_ v2 (A.nadd 0 (A.toN v1))).fS), .ow (U_ (G_ v2 (A.nadd 0 (A.toN v1))).fL) 4 (row G_ (eL) (G_ v2 (A.nadd 0 (A.toN v1))).fL), .os 1346 0 (U_ (G_ v2 (A.nadd 0 (A.toN v1))).fI)]))])) ?_ fun y15 h => ?_
   ·intro y15 S hS h; cbv; revert h; refine ra fun c21 h => ?_; refine ai c21 ?_
    refine ⟨_, rfl, _, (pC (row G_ (oC U_ G_) v2) (A.nadd 0 (A.toN v1)) [ws (G_ v2 (A.nadd 0 (A.toN v1))).fN, .ow (U_ (G_ v2 (A.nadd 0 (A.toN v1))).fS) 5 (row G_ (eS) (G_ v2 (A.nadd 0 (A.toN v1))).fS), .ow (U_ (G_ v2 (A.nadd 0 (A.toN v1))).fL) 4 (row G_ (eL) (G_ v2 (A.nadd 0 (A.toN v1))).fL), .os 1346 0 (U_ (G_ v2 (A.nadd 0 (A.toN v1))).fI)]), rfl, wO (patch_of zr), ?_⟩
    refine ⟨_, row G_ (eI) (G_ v2 (A.nadd 0 (A.toN v1))).fI, rfl, wO (fun i _ j _ => plain_cp (pl_encInstance _ _)), ?_⟩; cbv; exact dn
   revert h; refine rq fun c22 h => ?_; cbv
   revert h; refine ln (.exit 2) (fun x => (sp 46 [(1, .c (wi a1)), (2, .c (wi a2)), (3, .c (.ptr 192 0)), (6, .c (wi v1)), (7, .c (.os 1346 0 (U_ (G_ v2 (A.nadd 0 (A.toN v1))).fI))), (8, .c (wi x.1))] [(192, .var [.os 5 0 (U_ a0.fC)]), (1346, .arr .rw [] (U_ (G_ v2 (A.nadd 0 (A.toN v1))).fI) 8 (row G_ (eI) x.2)), (5, .arr .rw [1346] (U_ a0.fC) 4 (pC (row G_ (oC U_ G_) v2) (A.nadd 0 (A.toN v1)) [ws (G_ v2 (A.nadd 0 (A.toN v1))).fN, .ow (U_ (G_ v2 (A.nadd 0 (A.toN v1))).fS) 5 (row G_ (eS) (G_ v2 (A.nadd 0 (A.toN v1))).fS), .ow (U_ (G_ v2 (A.nadd 0 (A.toN v1))).fL) 4 (row G_ (eL) (G_ v2 (A.nadd 0 (A.toN v1))).fL), .os 1346 0 (U_ (G_ v2 (A.nadd 0 (A.toN v1))).fI)]))])) (fun w => (sp 46 [(1, .c (wi a1)), (2, .c (wi a2)), (3, .c (.ptr 192 0)), (6, .c (wi v1))] [(192, .var [.os 5 0 (U_ a0.fC)]), (5, .arr .rw [] (U_ a0.fC) 4 (row G_ (oC U_ G_) w))])) zb ?_ ?_
   ·rintro ⟨v23, v24⟩ z h K hK hY; replace h := oz (oz h); dsimp only at h; cbv
    revert h; refine cu (fun y37 => (sp 46 [(1, .c (wi a1)), (2, .c (wi a2)), (3, .c (.ptr 192 0)), (6, .c (wi v1)), (7, .c (.os 1346 0 (U_ (G_ v2 (A.nadd 0 (A.toN v1))).fI))), (8, .c (wi v23)), (25, .c (.v (.bool y37)))] [(192, .var [.os 5 0 (U_ a0.fC)]), (1346, .arr .rw [] (U_ (G_ v2 (A.nadd 0 (A.toN v1))).fI) 8 (row G_ (eI) v24)), (5, .arr .rw [1346] (U_ a0.fC) 4 (pC (row G_ (oC U_ G_) v2) (A.nadd 0 (A.toN v1)) [ws (G_ v2 (A.nadd 0 (A.toN v1))).fN, .ow (U_ (G_ v2 (A.nadd 0 (A.toN v1))).fS) 5 (row G_ (eS) (G_ v2 (A.nadd 0 (A.toN v1))).fS), .ow (U_ (G_ v2 (A.nadd 0 (A.toN v1))).fL) 4 (row G_ (eL) (G_ v2 (A.nadd 0 (A.toN v1))).fL), .os 1346 0 (U_ (G_ v2 (A.nadd 0 (A.toN v1))).fI)]))])) (fun y37 S hS h => rg) fun w43 => rz fun h => ?_
    cbv; revert h; refine fk ?_ ?_ <;> intro h <;> cbv
    ·revert h; refine cu (fun y44 => (sp 46 [(1, .c (wi a1)), (2, .c (wi a2)), (3, .c (.ptr 192 0)), (6, .c (wi v1)), (7, .c (.os 1346 0 (U_ (G_ v2 (A.nadd 0 (A.toN v1))).fI))), (8, .c (wi v23)), (34, .c (.v (.bool y44)))] [(192, .var [.os 5 0 (U_ a0.fC)]), (1346, .arr .rw [] (U_ (G_ v2 (A.nadd 0 (A.toN v1))).fI) 8 (row G_ (eI) v24)), (5, .arr .rw [1346] (U_ a0.fC) 4 (pC (row G_ (oC U_ G_) v2) (A.nadd 0 (A.toN v1)) [ws (G_ v2 (A.nadd 0 (A.toN v1))).fN, .ow (U_ (G_ v2 (A.nadd 0 (A.toN v1))).fS) 5 (row G_ (eS) (G_ v2 (A.nadd 0 (A.toN v1))).fS), .ow (U_ (G_ v2 (A.nadd 0 (A.toN v1))).fL) 4 (row G_ (eL) (G_ v2 (A.nadd 0 (A.toN v1))).fL), .os 1346 0 (U_ (G_ v2 (A.nadd 0 (A.toN v1))).fI)]))])) ?_ fun w50 => rz fun h => ?_
     ·intro y44 S hS h; cbv; revert h; refine ra fun c51 h => ?_; refine ai c51 ?_; exact dn
     cbv
     revert h; refine cu (fun y52 => some (sp 46 [(1, .c (wi a1)), (2, .c (wi a2)), (3, .c (.ptr 192 0)), (6, .c (wi v1)), (7, .c (.os 1346 0 (U_ (G_ v2 (A.nadd 0 (A.toN v1))).fI))), (8, .c (wi v23))] [(192, .var [.os 5 0 (U_ a0.fC)]), (1346, .arr .rw [] (U_ (G_ v2 (A.nadd 0 (A.toN v1))).fI) 8 (row G_ (eI) y52)), (5, .arr .rw [1346] (U_ a0.fC) 4 (pC (row G_ (oC U_ G_) v2) (A.nadd 0 (A.toN v1)) [ws (G_ v2 (A.nadd 0 (A.toN v1))).fN, .ow (U_ (G_ v2 (A.nadd 0 (A.toN v1))).fS) 5 (row G_ (eS) (G_ v2 (A.nadd 0 (A.toN v1))).fS), .ow (U_ (G_ v2 (A.nadd 0 (A.toN v1))).fL) 4 (row G_ (eL) (G_ v2 (A.nadd 0 (A.toN v1))).fL), .os 1346 0 (U_ (G_ v2 (A.nadd 0 (A.toN v1))).fI)]))])) ?_ fun w58 => rz fun h => ?_
     ·intro y52 S hS h; cbv; revert h; refine fk ?_ ?_ <;> intro h <;> cbv
      ·revert h; refine cu (fun y59 => (sp 46 [(1, .c (wi a1)), (2, .c (wi a2)), (3, .c (.ptr 192 0)), (6, .c (wi v1)), (7, .c (.os 1346 0 (U_ (G_ v2 (A.nadd 0 (A.toN v1))).fI))), (8, .c (wi v23))] [(192, .var [.os 5 0 (U_ a0.fC)]), (1346, .arr .rw [] (U_ (G_ v2 (A.nadd 0 (A.toN v1))).fI) 8 (row G_ (eI) y59)), (5, .arr .rw [1346] (U_ a0.fC) 4 (pC (row G_ (oC U_ G_) v2) (A.nadd 0 (A.toN v1)) [ws (G_ v2 (A.nadd 0 (A.toN v1))).fN, .ow (U_ (G_ v2 (A.nadd 0 (A.toN v1))).fS) 5 (row G_ (eS) (G_ v2 (A.nadd 0 (A.toN v1))).fS), .ow (U_ (G_ v2 (A.nadd 0 (A.toN v1))).fL) 4 (row G_ (eL) (G_ v2 (A.nadd 0 (A.toN v1))).fL), .os 1346 0 (U_ (G_ v2 (A.nadd 0 (A.toN v1))).fI)]))])) ?_ fun w65 => rz fun h => ?_
       ·intro y59 S hS h; cbv; revert h; refine ra fun c66 h => ?_; refine ai c66 ?_; revert h; refine ra fun c67 h => ?_; revert h; refine rq fun c69 => rl fun l68 hl68 h => ?_; refine ai c67 ?_; refine ⟨_, rfl, _, row G_ (eI) l68, rfl, wO (us hA hU_ hG_ hl68 c67 c69), ?_⟩; cbv; exact dn
       cbv; exact dn
      exact dn
     cbv; exact dm
    revert h; refine rq fun c71 => rq fun c73 => rl fun l72 hl72 h => ?_; injection h with h; refine hY _ h.symm _ ?_; refine St.le_trans (le_foldP 5 3 1346 rfl rfl rfl (by decide) (by subst hA; exact ix c22) (by decide) rfl (fun _ _ => rC _ _)) ?_
    exact lsp rfl zl ⟨rfl, oP (fun _ _ => rC _ _) (by subst hG_ hU_ hA; exact patch_set hl72 (ix (by rw [<- c73]; exact c22)) zr), tv⟩ rfl
   intro w75 h s q34; replace h := oz (oz h); cbv; refine ⟨_, q34, ?_⟩; cbv; exact dm
  exact dx
 intro w77 h s q12; replace h := oz (oz h); cbv; refine ⟨_, q12, ?_⟩; cbv; revert h; refine rq fun c78 h => ?_; injection h with h; subst h; refine ⟨(sp 46 [] [(5, .arr .rw [] (U_ w77) 4 (row G_ (oC U_ G_) w77))]), ?_, ?_⟩
 ·rw [c78]; exact zb
 ·exact ⟨lR _, zo, rfl⟩

/-- spec.l13Do -/
def Fq137 (a0 : TL) (a1 : TE) : Option (TL) :=
 br (std.eq a1.fk_ 8)
 ((Fq31 a0 a1.fc 1).bind fun y1 =>
 req (len y1 = len a0.fC) <|
 req (std.upTo (std.ofN (len a0.fC)) (len a0.fC)) <|
 req (std.upTo a1.fc (std.toN (std.ofN (len a0.fC)))) <|
 req (std.upTo a1.fc (len a0.fC)) <|
 letO (List.take (std.nsub (std.toN (std.ofN (len a0.fC))) (std.toN a1.fc)) (List.drop (std.nadd 0 (std.toN a1.fc)) y1)) fun l7 =>
 req (std.room (std.nadd (len ([] : List TC)) (std.nsub (std.toN (std.ofN (len a0.fC))) (std.toN a1.fc))) 88) <|
 req (std.nsub (std.toN (std.ofN (len a0.fC))) (std.toN a1.fc) = len l7) <|
 req ((len a0.fC) <= 5000) <|
 letO (([] : List TC) ++ l7) fun l8 =>
 req (std.upTo a1.fc (len a0.fC)) <|
 req (std.upTo 0 (std.toN a1.fc)) <|
 letO (List.take (std.nsub (std.toN a1.fc) (std.toN 0)) (List.drop (std.nadd 0 (std.toN 0)) y1)) fun l16 =>
 req (std.room (std.nadd (len ([] : List TC)) (std.nsub (std.toN a1.fc) (std.toN 0))) 88) <|
 req (std.nsub (std.toN a1.fc) (std.toN 0) = len l16) <|
 req ((std.nadd 0 (std.toN 0)) + (std.nsub (std.toN a1.fc) (std.toN 0)) <= (std.nadd 0 (std.toN a1.fc)) \/ (std.nadd 0 (std.toN a1.fc)) + (std.nsub (std.toN (std.ofN (len a0.fC))) (std.toN a1.fc)) <= (std.nadd 0 (std.toN 0))) <|
 req ((len a0.fC) <= 5000) <|
 letO (([] : List TC) ++ l16) fun l17 =>
 letO ([(TC.mk a1.fN ([] : List TS) ([] : List TB) ([] : List TI))] : List TC) fun l23 =>
 req (std.room (std.nadd (len l17) (len l23)) 88) <|
 letO (l17 ++ l23) fun l25 =>
 req (std.room (std.nadd (len l25) (len l8)) 88) <|
 letO (l25 ++ l8) fun l28 =>
 some (TL.mk l28))
 (br (std.eq a1.fk_ 9)
 (req (std.upTo a1.fc (len a0.fC)) <|
 req (std.upTo 0 (std.toN a1.fc)) <|
 letO (List.take (std.nsub (std.toN a1.fc) (std.toN 0)) (List.drop (std.nadd 0 (std.toN 0)) a0.fC)) fun l35 =>
 req (std.room (std.nadd (len ([] : List TC)) (std.nsub (std.toN a1.fc) (std.toN 0))) 88) <|
 req (std.nsub (std.toN a1.fc) (std.toN 0) = len l35) <|
 req ((len a0.fC) <= 5000) <|
 letO (([] : List TC) ++ l35) fun l36 =>
 req (std.upTo (std.ofN (len a0.fC)) (len a0.fC)) <|
 req (std.upTo (std.add .i64 a1.fc 1) (std.toN (std.ofN (len a0.fC)))) <|
 req (std.upTo (std.add .i64 a1.fc 1) (len a0.fC)) <|
 letO (List.take (std.nsub (std.toN (std.ofN (len a0.fC))) (std.toN (std.add .i64 a1.fc 1))) (List.drop (std.nadd 0 (std.toN (std.add .i64 a1.fc 1))) a0.fC)) fun l44 =>
 req (std.room (std.nadd (len l36) (std.nsub (std.toN (std.ofN (len a0.fC))) (std.toN (std.add .i64 a1.fc 1)))) 88) <|
 req (std.nsub (std.toN (std.ofN (len a0.fC))) (std.toN (std.add .i64 a1.fc 1)) = len l44) <|
 req ((std.nadd 0 (std.toN (std.add .i64 a1.fc 1))) + (std.nsub (std.toN (std.ofN (len a0.fC))) (std.toN (std.add .i64 a1.fc 1))) <= (std.nadd 0 (std.toN 0)) \/ (std.nadd 0 (std.toN 0)) + (std.nsub (std.toN a1.fc) (std.toN 0)) <= (std.nadd 0 (std.toN (std.add .i64 a1.fc 1)))) <|
 req ((len a0.fC) <= 5000) <|
 letO (l36 ++ l44) fun l45 =>
 (Fq31 (TL.mk l45) a1.fc (-1)).bind fun y51 =>
 req (len y51 = len l45) <|
 req (len l45 = len y51) <|
 some (TL.mk y51))
 (req (std.inR a1.fc (len a0.fC)) <|
 ((
 some a1.fk_
 ) : Option (Int)).bind fun y56 =>
 letO y56 fun w62 =>
 req (std.inR a1.fc (len a0.fC)) <|
 ((
 br (std.eq w62 1)
 (((
 letO ([] : List TS) fun l79 =>
 req (std.upTo (std.ofN (len (gd a0.fC (std.nadd 0 (std.toN a1.fc))).fS)) (len (gd a0.fC (std.nadd 0 (std.toN a1.fc))).fS)) <|
 req (std.upTo a1.fx (std.toN (std.ofN (len (gd a0.fC (std.nadd 0 (std.toN a1.fc))).fS)))) <|
 req (std.upTo a1.fx (len (gd a0.fC (std.nadd 0 (std.toN a1.fc))).fS)) <|
 letO (List.take (std.nsub (std.toN (std.ofN (len (gd a0.fC (std.nadd 0 (std.toN a1.fc))).fS))) (std.toN a1.fx)) (List.drop (std.nadd 0 (std.toN a1.fx)) (gd a0.fC (std.nadd 0 (std.toN a1.fc))).fS)) fun l84 =>
 req (std.room (std.nadd (len l79) (std.nsub (std.toN (std.ofN (len (gd a0.fC (std.nadd 0 (std.toN a1.fc))).fS))) (std.toN a1.fx))) 40) <|
 req (std.nsub (std.toN (std.ofN (len (gd a0.fC (std.nadd 0 (std.toN a1.fc))).fS))) (std.toN a1.fx) = len l84) <|
 letO (l79 ++ l84) fun l85 =>
 some (a0.fC, l85)
 ) : Option ((List TC) × (List TS))).bind fun y71 =>
 letO y71.1 fun w77 =>
 letO y71.2 fun w78 =>
 ((
 letO ([] : List TS) fun l96 =>
 req (std.upTo a1.fx (len (gd w77 (std.nadd 0 (std.toN a1.fc))).fS)) <|
 req (std.upTo 0 (std.toN a1.fx)) <|
 letO (List.take (std.nsub (std.toN a1.fx) (std.toN 0)) (List.drop (std.nadd 0 (std.toN 0)) (gd w77 (std.nadd 0 (std.toN a1.fc))).fS)) fun l100 =>
 req (std.room (std.nadd (len l96) (std.nsub (std.toN a1.fx) (std.toN 0))) 40) <|
 req (std.nsub (std.toN a1.fx) (std.toN 0) = len l100) <|
 letO (l96 ++ l100) fun l101 =>
 letO ([a1.fs_] : List TS) fun l105 =>
 req (std.room (std.nadd (len l101) (len l105)) 40) <|
 letO (l101 ++ l105) fun l107 =>
 req (std.room (std.nadd (len l107) (len w78)) 40) <|
 letO (l107 ++ w78) fun l110 =>
 req (len a0.fC = len w77) <|
 letO (List.set w77 (std.nadd 0 (std.toN a1.fc)) (TC.mk (gd w77 (std.nadd 0 (std.toN a1.fc))).fN l110 (gd w77 (std.nadd 0 (std.toN a1.fc))).fL (gd w77 (std.nadd 0 (std.toN a1.fc))).fI)) fun l113 =>
 some l113
 ) : Option ((List TC))).bind fun y89 =>
 letO y89 fun w95 =>
 some w95)
 (((
 br (std.eq w62 2)
 (((
 letO ([] : List TS) fun l129 =>
 req (std.upTo a1.fx (len (gd a0.fC (std.nadd 0 (std.toN a1.fc))).fS)) <|
 req (std.upTo 0 (std.toN a1.fx)) <|
 letO (List.take (std.nsub (std.toN a1.fx) (std.toN 0)) (List.drop (std.nadd 0 (std.toN 0)) (gd a0.fC (std.nadd 0 (std.toN a1.fc))).fS)) fun l133 =>
 req (std.room (std.nadd (len l129) (std.nsub (std.toN a1.fx) (std.toN 0))) 40) <|
 req (std.nsub (std.toN a1.fx) (std.toN 0) = len l133) <|
 letO (l129 ++ l133) fun l134 =>
 req (std.upTo (std.ofN (len (gd a0.fC (std.nadd 0 (std.toN a1.fc))).fS)) (len (gd a0.fC (std.nadd 0 (std.toN a1.fc))).fS)) <|
 req (std.upTo (std.add .i64 a1.fx 1) (std.toN (std.ofN (len (gd a0.fC (std.nadd 0 (std.toN a1.fc))).fS)))) <|
 req (std.upTo (std.add .i64 a1.fx 1) (len (gd a0.fC (std.nadd 0 (std.toN a1.fc))).fS)) <|
 letO (List.take (std.nsub (std.toN (std.ofN (len (gd a0.fC (std.nadd 0 (std.toN a1.fc))).fS))) (std.toN (std.add .i64 a1.fx 1))) (List.drop (std.nadd 0 (std.toN (std.add .i64 a1.fx 1))) (gd a0.fC (std.nadd 0 (std.toN a1.fc))).fS)) fun l141 =>
 req (std.room (std.nadd (len l134) (std.nsub (std.toN (std.ofN (len (gd a0.fC (std.nadd 0 (std.toN a1.fc))).fS))) (std.toN (std.add .i64 a1.fx 1)))) 40) <|
 req (std.nsub (std.toN (std.ofN (len (gd a0.fC (std.nadd 0 (std.toN a1.fc))).fS))) (std.toN (std.add .i64 a1.fx 1)) = len l141) <|
 letO (l134 ++ l141) fun l142 =>
 letO (List.set a0.fC (std.nadd 0 (std.toN a1.fc)) (TC.mk (gd a0.fC (std.nadd 0 (std.toN a1.fc))).fN l142 (gd a0.fC (std.nadd 0 (std.toN a1.fc))).fL (gd a0.fC (std.nadd 0 (std.toN a1.fc))).fI)) fun l146 =>
 some l146
 ) : Option ((List TC))).bind fun y122 =>
 letO y122 fun w128 =>
 some w128)
 (((
 br (std.eq w62 3)
 (((
 letO ([] : List TB) fun l162 =>
 req (std.upTo (std.ofN (len (gd a0.fC (std.nadd 0 (std.toN a1.fc))).fL)) (len (gd a0.fC (std.nadd 0 (std.toN a1.fc))).fL)) <|
 req (std.upTo a1.fx (std.toN (std.ofN (len (gd a0.fC (std.nadd 0 (std.toN a1.fc))).fL)))) <|
 req (std.upTo a1.fx (len (gd a0.fC (std.nadd 0 (std.toN a1.fc))).fL)) <|
 letO (List.take (std.nsub (std.toN (std.ofN (len (gd a0.fC (std.nadd 0 (std.toN a1.fc))).fL))) (std.toN a1.fx)) (List.drop (std.nadd 0 (std.toN a1.fx)) (gd a0.fC (std.nadd 0 (std.toN a1.fc))).fL)) fun l167 =>
 req (std.room (std.nadd (len l162) (std.nsub (std.toN (std.ofN (len (gd a0.fC (std.nadd 0 (std.toN a1.fc))).fL))) (std.toN a1.fx))) 40) <|
 req (std.nsub (std.toN (std.ofN (len (gd a0.fC (std.nadd 0 (std.toN a1.fc))).fL))) (std.toN a1.fx) = len l167) <|
 letO (l162 ++ l167) fun l168 =>
 some (a0.fC, l168)
 ) : Option ((List TC) × (List TB))).bind fun y154 =>
 letO y154.1 fun w160 =>
 letO y154.2 fun w161 =>
 ((
 letO ([] : List TB) fun l179 =>
 req (std.upTo a1.fx (len (gd w160 (std.nadd 0 (std.toN a1.fc))).fL)) <|
 req (std.upTo 0 (std.toN a1.fx)) <|
 letO (List.take (std.nsub (std.toN a1.fx) (std.toN 0)) (List.drop (std.nadd 0 (std.toN 0)) (gd w160 (std.nadd 0 (std.toN a1.fc))).fL)) fun l183 =>
 req (std.room (std.nadd (len l179) (std.nsub (std.toN a1.fx) (std.toN 0))) 40) <|
 req (std.nsub (std.toN a1.fx) (std.toN 0) = len l183) <|
 letO (l179 ++ l183) fun l184 =>
 letO ([a1.fl_] : List TB) fun l188 =>
 req (std.room (std.nadd (len l184) (len l188)) 40) <|
 letO (l184 ++ l188) fun l190 =>
 req (std.room (std.nadd (len l190) (len w161)) 40) <|
 letO (l190 ++ w161) fun l193 =>
 req (len a0.fC = len w160) <|
 letO (List.set w160 (std.nadd 0 (std.toN a1.fc)) (TC.mk (gd w160 (std.nadd 0 (std.toN a1.fc))).fN (gd w160 (std.nadd 0 (std.toN a1.fc))).fS l193 (gd w160 (std.nadd 0 (std.toN a1.fc))).fI)) fun l196 =>
 some l196
 ) : Option ((List TC))).bind fun y172 =>
 letO y172 fun w178 =>
 some w178)
 (((
 br (std.eq w62 4)
 (((
 letO ([] : List TB) fun l212 =>
 req (std.upTo a1.fx (len (gd a0.fC (std.nadd 0 (std.toN a1.fc))).fL)) <|
 req (std.upTo 0 (std.toN a1.fx)) <|
 letO (List.take (std.nsub (std.toN a1.fx) (std.toN 0)) (List.drop (std.nadd 0 (std.toN 0)) (gd a0.fC (std.nadd 0 (std.toN a1.fc))).fL)) fun l216 =>
 req (std.room (std.nadd (len l212) (std.nsub (std.toN a1.fx) (std.toN 0))) 40) <|
 req (std.nsub (std.toN a1.fx) (std.toN 0) = len l216) <|
 letO (l212 ++ l216) fun l217 =>
 req (std.upTo (std.ofN (len (gd a0.fC (std.nadd 0 (std.toN a1.fc))).fL)) (len (gd a0.fC (std.nadd 0 (std.toN a1.fc))).fL)) <|
 req (std.upTo (std.add .i64 a1.fx 1) (std.toN (std.ofN (len (gd a0.fC (std.nadd 0 (std.toN a1.fc))).fL)))) <|
 req (std.upTo (std.add .i64 a1.fx 1) (len (gd a0.fC (std.nadd 0 (std.toN a1.fc))).fL)) <|
 letO (List.take (std.nsub (std.toN (std.ofN (len (gd a0.fC (std.nadd 0 (std.toN a1.fc))).fL))) (std.toN (std.add .i64 a1.fx 1))) (List.drop (std.nadd 0 (std.toN (std.add .i64 a1.fx 1))) (gd a0.fC (std.nadd 0 (std.toN a1.fc))).fL)) fun l224 =>
 req (std.room (std.nadd (len l217) (std.nsub (std.toN (std.ofN (len (gd a0.fC (std.nadd 0 (std.toN a1.fc))).fL))) (std.toN (std.add .i64 a1.fx 1)))) 40) <|
 req (std.nsub (std.toN (std.ofN (len (gd a0.fC (std.nadd 0 (std.toN a1.fc))).fL))) (std.toN (std.add .i64 a1.fx 1)) = len l224) <|
 letO (l217 ++ l224) fun l225 =>
 letO (List.set a0.fC (std.nadd 0 (std.toN a1.fc)) (TC.mk (gd a0.fC (std.nadd 0 (std.toN a1.fc))).fN (gd a0.fC (std.nadd 0 (std.toN a1.fc))).fS l225 (gd a0.fC (std.nadd 0 (std.toN a1.fc))).fI)) fun l229 =>
 some l229
 ) : Option ((List TC))).bind fun y205 =>
 letO y205 fun w211 =>
 some w211)
 (((
 br (std.eq w62 5)
 (((
 letO ([] : List TI) fun l245 =>
 req (std.upTo (std.ofN (len (gd a0.fC (std.nadd 0 (std.toN a1.fc))).fI)) (len (gd a0.fC (std.nadd 0 (std.toN a1.fc))).fI)) <|
 req (std.upTo a1.fx (std.toN (std.ofN (len (gd a0.fC (std.nadd 0 (std.toN a1.fc))).fI)))) <|
 req (std.upTo a1.fx (len (gd a0.fC (std.nadd 0 (std.toN a1.fc))).fI)) <|
 letO (List.take (std.nsub (std.toN (std.ofN (len (gd a0.fC (std.nadd 0 (std.toN a1.fc))).fI))) (std.toN a1.fx)) (List.drop (std.nadd 0 (std.toN a1.fx)) (gd a0.fC (std.nadd 0 (std.toN a1.fc))).fI)) fun l250 =>
 req (std.room (std.nadd (len l245) (std.nsub (std.toN (std.ofN (len (gd a0.fC (std.nadd 0 (std.toN a1.fc))).fI))) (std.toN a1.fx))) 64) <|
 req (std.nsub (std.toN (std.ofN (len (gd a0.fC (std.nadd 0 (std.toN a1.fc))).fI))) (std.toN a1.fx) = len l250) <|
 letO (l245 ++ l250) fun l251 =>
 some (a0.fC, l251)
 ) : Option ((List TC) × (List TI))).bind fun y237 =>
 letO y237.1 fun w243 =>
 letO y237.2 fun w244 =>
 ((
 letO ([] : List TI) fun l262 =>
 req (std.upTo a1.fx (len (gd w243 (std.nadd 0 (std.toN a1.fc))).fI)) <|
 req (std.upTo 0 (std.toN a1.fx)) <|
 letO (List.take (std.nsub (std.toN a1.fx) (std.toN 0)) (List.drop (std.nadd 0 (std.toN 0)) (gd w243 (std.nadd 0 (std.toN a1.fc))).fI)) fun l266 =>
 req (std.room (std.nadd (len l262) (std.nsub (std.toN a1.fx) (std.toN 0))) 64) <|
 req (std.nsub (std.toN a1.fx) (std.toN 0) = len l266) <|
 letO (l262 ++ l266) fun l267 =>
 letO ([a1.fi_] : List TI) fun l271 =>
 req (std.room (std.nadd (len l267) (len l271)) 64) <|
 letO (l267 ++ l271) fun l273 =>
 req (std.room (std.nadd (len l273) (len w244)) 64) <|
 letO (l273 ++ w244) fun l276 =>
 req (len a0.fC = len w243) <|
 letO (List.set w243 (std.nadd 0 (std.toN a1.fc)) (TC.mk (gd w243 (std.nadd 0 (std.toN a1.fc))).fN (gd w243 (std.nadd 0 (std.toN a1.fc))).fS (gd w243 (std.nadd 0 (std.toN a1.fc))).fL l276)) fun l279 =>
 some l279
 ) : Option ((List TC))).bind fun y255 =>
 letO y255 fun w261 =>
 some w261)
 (((
 br (std.eq w62 6)
 (((
 letO ([] : List TI) fun l295 =>
 req (std.upTo a1.fx (len (gd a0.fC (std.nadd 0 (std.toN a1.fc))).fI)) <|
 req (std.upTo 0 (std.toN a1.fx)) <|
 letO (List.take (std.nsub (std.toN a1.fx) (std.toN 0)) (List.drop (std.nadd 0 (std.toN 0)) (gd a0.fC (std.nadd 0 (std.toN a1.fc))).fI)) fun l299 =>
 req (std.room (std.nadd (len l295) (std.nsub (std.toN a1.fx) (std.toN 0))) 64) <|
 req (std.nsub (std.toN a1.fx) (std.toN 0) = len l299) <|
 letO (l295 ++ l299) fun l300 =>
 req (std.upTo (std.ofN (len (gd a0.fC (std.nadd 0 (std.toN a1.fc))).fI)) (len (gd a0.fC (std.nadd 0 (std.toN a1.fc))).fI)) <|
 req (std.upTo (std.add .i64 a1.fx 1) (std.toN (std.ofN (len (gd a0.fC (std.nadd 0 (std.toN a1.fc))).fI)))) <|
 req (std.upTo (std.add .i64 a1.fx 1) (len (gd a0.fC (std.nadd 0 (std.toN a1.fc))).fI)) <|
 letO (List.take (std.nsub (std.toN (std.ofN (len (gd a0.fC (std.nadd 0 (std.toN a1.fc))).fI))) (std.toN (std.add .i64 a1.fx 1))) (List.drop (std.nadd 0 (std.toN (std.add .i64 a1.fx 1))) (gd a0.fC (std.nadd 0 (std.toN a1.fc))).fI)) fun l307 =>
 req (std.room (std.nadd (len l300) (std.nsub (std.toN (std.ofN (len (gd a0.fC (std.nadd 0 (std.toN a1.fc))).fI))) (std.toN (std.add .i64 a1.fx 1)))) 64) <|
 req (std.nsub (std.toN (std.ofN (len (gd a0.fC (std.nadd 0 (std.toN a1.fc))).fI))) (std.toN (std.add .i64 a1.fx 1)) = len l307) <|
 letO (l300 ++ l307) fun l308 =>
 letO (List.set a0.fC (std.nadd 0 (std.toN a1.fc)) (TC.mk (gd a0.fC (std.nadd 0 (std.toN a1.fc))).fN (gd a0.fC (std.nadd 0 (std.toN a1.fc))).fS (gd a0.fC (std.nadd 0 (std.toN a1.fc))).fL l308)) fun l312 =>
 some l312
 ) : Option ((List TC))).bind fun y288 =>
 letO y288 fun w294 =>
 some w294)
 (((
 br (std.eq w62 7)
 (((
 letO (List.set a0.fC (std.nadd 0 (std.toN a1.fc)) (TC.mk a1.fN (gd a0.fC (std.nadd 0 (std.toN a1.fc))).fS (gd a0.fC (std.nadd 0 (std.toN a1.fc))).fL (gd a0.fC (std.nadd 0 (std.toN a1.fc))).fI)) fun l327 =>
 some l327
 ) : Option ((List TC))).bind fun y320 =>
 letO y320 fun w326 =>
 some w326)
 (some a0.fC)
 ) : Option ((List TC))).bind fun y313 =>
 letO y313 fun w319 =>
 some w319)
 ) : Option ((List TC))).bind fun y281 =>
 letO y281 fun w287 =>
 some w287)
 ) : Option ((List TC))).bind fun y230 =>
 letO y230 fun w236 =>
 some w236)
 ) : Option ((List TC))).bind fun y198 =>
 letO y198 fun w204 =>
 some w204)
 ) : Option ((List TC))).bind fun y147 =>
 letO y147 fun w153 =>
 some w153)
 ) : Option ((List TC))).bind fun y115 =>
 letO y115 fun w121 =>
 some w121)
 ) : Option ((List TC))).bind fun y64 =>
 letO y64 fun w70 =>
 req (len a0.fC = len w70) <|
 some (TL.mk w70)))
theorem runq137 (a0 : TL) (a1 : TE) (r : TL) (h : Fq137 a0 a1 = some r) : Fun prog 58 [.agg [.os 5 0 (len a0.fC)], .agg (cE a1)] [(5, .arr .rw [] (len a0.fC) 4 (row gd (oC len gd) a0.fC))] (.agg [.os 64000 0 (len r.fC)]) [(64000, .arr .rw [] (len r.fC) 4 (row gd (oC len gd) r.fC))] true := by
 refine ow [13, 15, 16, 18, 20, 21, 23, 25, 26, 28, 30, 100073, 100100, 100121, 100148, 100169, 100196, 100217] func58 ntmps58 ?_ (hw := ⟨fun i _ j _ k hk => (noref (rC _ _) hk).elim, tv⟩) (hv := (fun _ => ⟨(by simp [AV.flat, AV.flat1, AC.flat]), ⟨fun i _ j _ => fl_oncCell _ _, tv⟩⟩)); unfold Fq137 at h; have hfq31 := @runq31
 generalize hU_ : @len = U_, hG_ : @gd = G_, hA : std = A, hP : prog = P at *; cbv; revert h; refine fk ?_ ?_ <;> intro h <;> cbv
 ·revert h; refine rb fun y1 hy2 => rq fun c31 h => ?_; refine rc [(5, 5)] [(5, 5)] (hfq31 _ _ _ _ hy2) yf ⟨_, rfl, U_ a0.fC, _, c31, fun _ _ _ _ => .refl _, ?_⟩; cbv; have e3 : 0 = U_ ([] : List TC) := by subst hU_; rfl
  refine ⟨_, (co e3), _, row G_ (oC U_ G_) ([] : List TC), e3, wO ?_, ?_⟩
  ·intro i hi j hj; rw [<- e3] at hi; subst hG_; omega
  cbv; revert h; refine rq fun c4 => rq fun c5 => rq fun c6 h => ?_; refine And.intro (by first | exact ⟨c4, c5, (fun _ => c6), tv⟩ | exact ⟨c4, c5, (fun _ => c6)⟩ | exact ⟨c4, c5, tv⟩ | exact ⟨c4, c5⟩) ?_; revert h; refine rl fun l7 hl7 => rq fun c10 => rq fun c11 => rq fun c12 => rl fun l8 hl8 h => ?_
  have e9 : A.nadd (U_ ([] : List TC)) (A.nsub (A.toN (A.ofN (U_ a0.fC))) (A.toN a1.fc)) = U_ l8 := by rw [c11]; subst hl8 hU_ hA; simp [std, len]
  refine ⟨c10, _, (co e9), _, row G_ (oC U_ G_) l8, e9, wO ?_, ?_⟩
  ·subst hG_ hU_ hA; exact app_nil_mvP hl7 c11 hl8 (Nat.le_refl _) (fun i h1 h2 j => rfl)
  refine ⟨_, (partC (A.nadd 0 (A.toN a1.fc)) (A.nsub (A.toN (A.ofN (U_ a0.fC))) (A.toN a1.fc)) (row G_ (oC U_ G_) y1)), rfl, wO (partC_of c12), ?_⟩; cbv; have e13 : 0 = U_ ([] : List TC) := by subst hU_; rfl
  refine ⟨_, (co e13), _, row G_ (oC U_ G_) ([] : List TC), e13, wO ?_, ?_⟩
  ·intro i hi j hj; rw [<- e13] at hi; subst hG_; omega
  cbv; revert h; refine rq fun c14 => rq fun c15 h => ?_; refine And.intro (by first | exact ⟨c14, c15, (fun h0 => by cases h0), tv⟩ | exact ⟨c14, c15, (fun h0 => by cases h0)⟩ | exact ⟨c14, c15, tv⟩ | exact ⟨c14, c15⟩) ?_; revert h; refine rl fun l16 hl16 => rq fun c19 => rq fun c20 => rq fun c21 => rq fun c22 => rl fun l17 hl17 h => ?_
  have e18 : A.nadd (U_ ([] : List TC)) (A.nsub (A.toN a1.fc) (A.toN 0)) = U_ l17 := by rw [c20]; subst hl17 hU_ hA; simp [std, len]
  refine ⟨c19, _, (co e18), _, row G_ (oC U_ G_) l17, e18, wO ?_, ?_⟩
  ·subst hG_ hU_ hA; exact app_nil_mvP hl16 c20 hl17 (Nat.le_refl _) (fun i h1 h2 j => (partC_out (out_of c21 h1 h2)).trans (rfl))
  refine ⟨_, (partC (A.nadd 0 (A.toN 0)) (A.nsub (A.toN a1.fc) (A.toN 0)) (partC (A.nadd 0 (A.toN a1.fc)) (A.nsub (A.toN (A.ofN (U_ a0.fC))) (A.toN a1.fc)) (row G_ (oC U_ G_) y1))), rfl, wO (partC_of c22), ?_⟩; cbv; revert h; refine rl fun l23 hl23 h => ?_; have e24 : 1 = U_ l23 := by subst hl23 hU_; rfl
  refine ⟨_, (co e24), _, row G_ (oC U_ G_) l23, e24, ?_, ?_⟩
  ·intro i hi j hj; rw [<- e24] at hi; subst hl23; subst hG_ hU_; obtain rfl : i = 0 := (by omega) <;> obtain rfl | rfl | rfl | rfl : j = 0 \/ j = 1 \/ j = 2 \/ j = 3 := (by omega)
   all_goals first | rfl | exact AC.wk.refl _ | exact AC.wk.ow | exact AC.wk.bs
  cbv; revert h; refine rq fun c27 => rl fun l25 hl25 h => ?_; have e26 := nl hA hU_ hl25; refine ⟨c27, _, (co e26), _, row G_ (oC U_ G_) l25, e26, wO ?_, ?_⟩
  ·subst hG_ hU_ hA; exact app_mv (off := 0) hl25
  refine ⟨_, _, rfl, fun _ _ _ _ => .refl _, ?_⟩; cbv; revert h; refine rq fun c30 => rl fun l28 hl28 h => ?_; have e29 := nl hA hU_ hl28; refine ⟨c30, _, (co e29), _, row G_ (oC U_ G_) l28, e29, wO ?_, ?_⟩
  ·subst hG_ hU_ hA; exact app_mv (off := 0) hl28
  refine ⟨_, _, rfl, fun _ _ _ _ => .refl _, ?_⟩; cbv; injection h with h; subst h; exact ⟨_, le_ren 1792 64000 (by decide) rfl, lR _, zo, rfl⟩
 revert h; refine fk ?_ ?_ <;> intro h <;> cbv
 ·have e32 : 0 = U_ ([] : List TC) := by subst hU_; rfl
  refine ⟨_, (co e32), _, row G_ (oC U_ G_) ([] : List TC), e32, wO ?_, ?_⟩
  ·intro i hi j hj; rw [<- e32] at hi; subst hG_; omega
  cbv; revert h; refine rq fun c33 => rq fun c34 h => ?_; refine And.intro (by first | exact ⟨c33, c34, (fun h0 => by cases h0), tv⟩ | exact ⟨c33, c34, (fun h0 => by cases h0)⟩ | exact ⟨c33, c34, tv⟩ | exact ⟨c33, c34⟩) ?_; revert h; refine rl fun l35 hl35 => rq fun c38 => rq fun c39 => rq fun c40 => rl fun l36 hl36 h => ?_
  have e37 : A.nadd (U_ ([] : List TC)) (A.nsub (A.toN a1.fc) (A.toN 0)) = U_ l36 := by rw [c39]; subst hl36 hU_ hA; simp [std, len]
  refine ⟨c38, _, (co e37), _, row G_ (oC U_ G_) l36, e37, wO ?_, ?_⟩
  ·subst hG_ hU_ hA; exact app_nil_mvP hl35 c39 hl36 (Nat.le_refl _) (fun i h1 h2 j => rfl)
  refine ⟨_, (partC (A.nadd 0 (A.toN 0)) (A.nsub (A.toN a1.fc) (A.toN 0)) (row G_ (oC U_ G_) a0.fC)), rfl, wO (partC_of c40), ?_⟩; cbv; revert h; refine rq fun c41 => rq fun c42 => rq fun c43 h => ?_; refine And.intro (by first | exact ⟨c41, c42, (fun _ => c43), tv⟩ | exact ⟨c41, c42, (fun _ => c43)⟩ | exact ⟨c41, c42, tv⟩ | exact ⟨c41, c42⟩) ?_
  revert h; refine rl fun l44 hl44 => rq fun c47 => rq fun c48 => rq fun c49 => rq fun c50 => rl fun l45 hl45 h => ?_; have e46 : A.nadd (U_ l36) (A.nsub (A.toN (A.ofN (U_ a0.fC))) (A.toN (A.add .i64 a1.fc 1))) = U_ l45 := by rw [c48]; subst hl45 hU_ hA; simp [std, len]
  refine ⟨c47, _, (co e46), _, row G_ (oC U_ G_) l45, e46, wO ?_, ?_⟩
  ·subst hG_ hU_ hA; exact app_mvP hl44 c48 hl45 (Nat.le_refl _) (fun i h1 h2 j => (partC_out (out_of c49 h1 h2)).trans (rfl))
  refine ⟨_, (partC (A.nadd 0 (A.toN (A.add .i64 a1.fc 1))) (A.nsub (A.toN (A.ofN (U_ a0.fC))) (A.toN (A.add .i64 a1.fc 1))) (partC (A.nadd 0 (A.toN 0)) (A.nsub (A.toN a1.fc) (A.toN 0)) (row G_ (oC U_ G_) a0.fC))), rfl, wO (partC_of c50), ?_⟩; cbv; revert h; refine rb fun y51 hy52 => rq fun c54 h => ?_
  refine rc [(5, 2944)] [(5, 2944)] (hfq31 _ _ _ _ hy52) yf ⟨_, rfl, U_ l45, _, c54, fun _ _ _ _ => .refl _, ?_⟩; cbv; revert h; refine rq fun c53 h => ?_; injection h with h; subst h; refine ⟨(sp 225 [(4, .c (.ptr 256 0))] [(256, .var [.os 64000 0 (U_ y51)]), (64000, .arr .rw [] (U_ y51) 4 (row G_ (oC U_ G_) y51))]), ?_, ?_⟩
  ·refine St.le_trans (le_ren 2944 64000 (by decide) rfl) ?_; rw [c53]; exact zb
  ·exact ⟨lR _, zo, rfl⟩
 revert h; refine ra fun c55 h => ?_
 revert h; refine cu (fun y56 => (sp 225 [(2, .c (.ptr 128 0)), (3, .c (.ptr 192 0)), (4, .c (.ptr 256 0)), (5, .c (wi a1.fx)), (7, .c (.ep 5 (A.nadd 0 (A.toN a1.fc)) 0)), (72, .c (wi y56))] [(128, .var [.os 5 0 (U_ a0.fC)]), (192, .var (cE a1)), (256, .var [.v (.slice none 0 0)]), (5, .arr .rw [60004, 60006, 60008] (U_ a0.fC) 4 (pC (row G_ (oC U_ G_) a0.fC) (A.nadd 0 (A.toN a1.fc)) [ws (G_ a0.fC (A.nadd 0 (A.toN a1.fc))).fN, .os 60004 0 (U_ (G_ a0.fC (A.nadd 0 (A.toN a1.fc))).fS), .os 60006 0 (U_ (G_ a0.fC (A.nadd 0 (A.toN a1.fc))).fL), .os 60008 0 (U_ (G_ a0.fC (A.nadd 0 (A.toN a1.fc))).fI)])), (60004, .arr .rw [] (U_ (G_ a0.fC (A.nadd 0 (A.toN a1.fc))).fS) 5 (row G_ (eS) (G_ a0.fC (A.nadd 0 (A.toN a1.fc))).fS)), (60006, .arr .rw [] (U_ (G_ a0.fC (A.nadd 0 (A.toN a1.fc))).fL) 4 (row G_ (eL) (G_ a0.fC (A.nadd 0 (A.toN a1.fc))).fL)), (60008, .arr .rw [] (U_ (G_ a0.fC (A.nadd 0 (A.toN a1.fc))).fI) 8 (row G_ (eI) (G_ a0.fC (A.nadd 0 (A.toN a1.fc))).fI))])) ?_ fun w62 => rz fun h => ?_
 ·intro y56 S hS h; cbv; injection h with h; subst h; subst hS; show St.le _ _
  refine St.le_trans (le_expose 5 (A.nadd 0 (A.toN a1.fc)) 60000 [ws (G_ a0.fC (A.nadd 0 (A.toN a1.fc))).fN, .ow (U_ (G_ a0.fC (A.nadd 0 (A.toN a1.fc))).fS) 5 (row G_ (eS) (G_ a0.fC (A.nadd 0 (A.toN a1.fc))).fS), .ow (U_ (G_ a0.fC (A.nadd 0 (A.toN a1.fc))).fL) 4 (row G_ (eL) (G_ a0.fC (A.nadd 0 (A.toN a1.fc))).fL), .ow (U_ (G_ a0.fC (A.nadd 0 (A.toN a1.fc))).fI) 8 (row G_ (eI) (G_ a0.fC (A.nadd 0 (A.toN a1.fc))).fI)] rfl (by subst hA; exact ix c55) rfl rfl rfl zr rfl) ?_
  exact lsp rfl zl ⟨rfl, rfl, rfl, oW (patch_of zr), oW (fun i _ j _ => plain_cp (pl_encShape _ _)), oW (fun i _ j _ => plain_cp (pl_encLabel _ _)), oW (fun i _ j _ => plain_cp (pl_encInstance _ _)), tv⟩ rfl
 revert h; refine rq fun c63 h => ?_; cbv; revert h; refine cu (fun y64 => some (sp 225 [(2, .c (.ptr 128 0)), (4, .c (.ptr 256 0))] [(128, .var [.os 5 0 (U_ a0.fC)]), (256, .var [.v (.slice none 0 0)]), (5, .arr .rw [] (U_ a0.fC) 4 (row G_ (oC U_ G_) y64))])) ?_ fun w70 => rz fun h => ?_
 ·intro y64 S hS h; cbv; revert h; refine fk ?_ ?_ <;> intro h <;> cbv
  ·revert h; refine cu (fun y71 => (sp 225 [(2, .c (.ptr 128 0)), (3, .c (.ptr 192 0)), (4, .c (.ptr 256 0)), (5, .c (wi a1.fx)), (7, .c (.ep 5 (A.nadd 0 (A.toN a1.fc)) 0)), (8, .c (.os 4800 0 (U_ y71.2)))] [(128, .var [.os 5 0 (U_ a0.fC)]), (192, .var (cE a1)), (256, .var [.v (.slice none 0 0)]), (5, .arr .rw [] (U_ a0.fC) 4 (row G_ (oC U_ G_) y71.1)), (4800, .arr .rw [] (U_ y71.2) 5 (row G_ (eS) y71.2))])) ?_ ?_
   ·intro y71 S hS h; cbv; revert h; refine rl fun l79 hl79 h => ?_; have e80 : 0 = U_ l79 := by subst hl79 hU_; rfl
    refine ⟨_, (co e80), _, row G_ (eS) l79, e80, wO ?_, ?_⟩
    ·intro i hi j hj; rw [<- e80] at hi; subst hl79; subst hG_; omega
    cbv; refine ai c55 ?_; revert h; refine rq fun c81 => rq fun c82 => rq fun c83 h => ?_; refine And.intro (by first | exact ⟨c81, c82, (fun _ => c83), tv⟩ | exact ⟨c81, c82, (fun _ => c83)⟩ | exact ⟨c81, c82, tv⟩ | exact ⟨c81, c82⟩) ?_; revert h; refine rl fun l84 hl84 => rq fun c87 => rq fun c88 => rl fun l85 hl85 h => ?_
    have e86 : A.nadd (U_ l79) (A.nsub (A.toN (A.ofN (U_ (G_ a0.fC (A.nadd 0 (A.toN a1.fc))).fS))) (A.toN a1.fx)) = U_ l85 := by rw [c88]; subst hl85 hU_ hA; simp [std, len]
    refine ⟨c87, _, (co e86), _, row G_ (eS) l85, e86, wO ?_, ?_⟩
    ·subst hG_ hU_ hA; exact app_osP (pl_encShape) hl84 c88 hl85 (Nat.le_refl _)
    cbv; injection h with h; subst h; subst hS; show St.le _ _; refine St.le_trans (le_foldP 5 1 60004 rfl rfl rfl (by decide) (by subst hA; exact ix c63) (by decide) rfl (fun _ _ => rC _ _)) ?_; refine St.le_trans (le_foldP 5 2 60006 rfl rfl rfl (by decide) (by subst hA; exact ix c63) (by decide) rfl (fun _ _ => rC _ _)) ?_
    refine St.le_trans (le_foldP 5 3 60008 rfl rfl rfl (by decide) (by subst hA; exact ix c63) (by decide) rfl (fun _ _ => rC _ _)) ?_; exact lsp rfl zl ⟨rfl, rfl, rfl, oP (fun _ _ => rC _ _) (by subst hG_ hU_ hA; exact patch_same zr), oS, tv⟩ rfl
   rintro ⟨w77, w78⟩ h; replace h := oz (oz h); dsimp only at h; cbv; revert h; refine cu (fun y89 => (sp 225 [(2, .c (.ptr 128 0)), (4, .c (.ptr 256 0))] [(128, .var [.os 5 0 (U_ a0.fC)]), (256, .var [.v (.slice none 0 0)]), (5, .arr .rw [] (U_ a0.fC) 4 (row G_ (oC U_ G_) y89))])) ?_ fun w95 => rz fun h => ?_
   ·intro y89 S hS h; cbv; revert h; refine rl fun l96 hl96 h => ?_; have e97 : 0 = U_ l96 := by subst hl96 hU_; rfl
    refine ⟨_, (co e97), _, row G_ (eS) l96, e97, wO ?_, ?_⟩
    ·intro i hi j hj; rw [<- e97] at hi; subst hl96; subst hG_; omega
    cbv; refine ai c55 ?_
    refine ⟨_, rfl, _, (pC (row G_ (oC U_ G_) w77) (A.nadd 0 (A.toN a1.fc)) [ws (G_ w77 (A.nadd 0 (A.toN a1.fc))).fN, .os 5634 0 (U_ (G_ w77 (A.nadd 0 (A.toN a1.fc))).fS), .ow (U_ (G_ w77 (A.nadd 0 (A.toN a1.fc))).fL) 4 (row G_ (eL) (G_ w77 (A.nadd 0 (A.toN a1.fc))).fL), .ow (U_ (G_ w77 (A.nadd 0 (A.toN a1.fc))).fI) 8 (row G_ (eI) (G_ w77 (A.nadd 0 (A.toN a1.fc))).fI)]), rfl, wO (patch_of zr), ?_⟩
    refine ⟨_, row G_ (eS) (G_ w77 (A.nadd 0 (A.toN a1.fc))).fS, rfl, wO (fun i _ j _ => plain_cp (pl_encShape _ _)), ?_⟩; cbv; revert h; refine rq fun c98 => rq fun c99 h => ?_; refine And.intro (by first | exact ⟨c98, c99, (fun h0 => by cases h0), tv⟩ | exact ⟨c98, c99, (fun h0 => by cases h0)⟩ | exact ⟨c98, c99, tv⟩ | exact ⟨c98, c99⟩) ?_
    revert h; refine rl fun l100 hl100 => rq fun c103 => rq fun c104 => rl fun l101 hl101 h => ?_; have e102 : A.nadd (U_ l96) (A.nsub (A.toN a1.fx) (A.toN 0)) = U_ l101 := by rw [c104]; subst hl101 hU_ hA; simp [std, len]
    refine ⟨c103, _, (co e102), _, row G_ (eS) l101, e102, wO ?_, ?_⟩
    ·subst hG_ hU_ hA; exact app_osP (pl_encShape) hl100 c104 hl101 (Nat.le_refl _)
    cbv; revert h; refine rl fun l105 hl105 h => ?_; have e106 : 1 = U_ l105 := by subst hl105 hU_; rfl
    refine ⟨_, (co e106), _, row G_ (eS) l105, e106, wO ?_, ?_⟩
    ·intro i hi j hj; rw [<- e106] at hi; subst hl105; subst hG_; obtain rfl : i = 0 := (by omega) <;> obtain rfl | rfl | rfl | rfl | rfl : j = 0 \/ j = 1 \/ j = 2 \/ j = 3 \/ j = 4 := (by omega)
     all_goals rfl
    cbv; revert h; refine rq fun c109 => rl fun l107 hl107 h => ?_; have e108 := nl hA hU_ hl107; refine ⟨c109, _, (co e108), _, row G_ (eS) l107, e108, wO ?_, ?_⟩
    ·subst hG_ hU_ hA; exact app_os (off := 0) (pl_encShape) hl107 (Nat.le_refl _)
    cbv; revert h; refine rq fun c112 => rl fun l110 hl110 h => ?_; have e111 := nl hA hU_ hl110; refine ⟨c112, _, (co e111), _, row G_ (eS) l110, e111, wO ?_, ?_⟩
    ·subst hG_ hU_ hA; exact app_os (off := 0) (pl_encShape) hl110 (Nat.le_refl _)
    cbv; refine ai c55 ?_
    refine ⟨_, rfl, _, (pC (row G_ (oC U_ G_) w77) (A.nadd 0 (A.toN a1.fc)) [ws (G_ w77 (A.nadd 0 (A.toN a1.fc))).fN, .os 5376 0 (U_ l110), .ow (U_ (G_ w77 (A.nadd 0 (A.toN a1.fc))).fL) 4 (row G_ (eL) (G_ w77 (A.nadd 0 (A.toN a1.fc))).fL), .ow (U_ (G_ w77 (A.nadd 0 (A.toN a1.fc))).fI) 8 (row G_ (eI) (G_ w77 (A.nadd 0 (A.toN a1.fc))).fI)]), rfl, wO ?_, ?_⟩
    ·first | refine patch_of2 ?_ | refine patch_of2K (fun _ _ => rC _ _) ?_
     exact zr
    cbv; revert h; refine rq fun c114 => rl fun l113 hl113 h => ?_; injection h with h; subst h; subst hS; show St.le _ _; refine St.le_trans (le_foldP 5 1 5376 rfl rfl rfl (by decide) (by subst hA; exact ix c55) (by decide) rfl (fun _ _ => rC _ _)) ?_
    exact lsp rfl zl ⟨rfl, rfl, oP (fun _ _ => rC _ _) (by subst hG_ hU_ hA; exact patch_set hl113 (ix (by rw [<- c114]; exact c55)) zr), tv⟩ rfl
   cbv; exact dn
  revert h; refine cu (fun y115 => some (sp 225 [(2, .c (.ptr 128 0)), (4, .c (.ptr 256 0))] [(128, .var [.os 5 0 (U_ a0.fC)]), (256, .var [.v (.slice none 0 0)]), (5, .arr .rw [] (U_ a0.fC) 4 (row G_ (oC U_ G_) y115))])) ?_ fun w121 => rz fun h => ?_
  ·intro y115 S hS h; cbv; revert h; refine fk ?_ ?_ <;> intro h <;> cbv
   ·revert h; refine cu (fun y122 => (sp 225 [(2, .c (.ptr 128 0)), (4, .c (.ptr 256 0))] [(128, .var [.os 5 0 (U_ a0.fC)]), (256, .var [.v (.slice none 0 0)]), (5, .arr .rw [] (U_ a0.fC) 4 (row G_ (oC U_ G_) y122))])) ?_ fun w128 => rz fun h => ?_
    ·intro y122 S hS h; cbv; revert h; refine rl fun l129 hl129 h => ?_; have e130 : 0 = U_ l129 := by subst hl129 hU_; rfl
     refine ⟨_, (co e130), _, row G_ (eS) l129, e130, wO ?_, ?_⟩
     ·intro i hi j hj; rw [<- e130] at hi; subst hl129; subst hG_; omega
     cbv; refine ai c55 ?_; revert h; refine rq fun c131 => rq fun c132 h => ?_; refine And.intro (by first | exact ⟨c131, c132, (fun h0 => by cases h0), tv⟩ | exact ⟨c131, c132, (fun h0 => by cases h0)⟩ | exact ⟨c131, c132, tv⟩ | exact ⟨c131, c132⟩) ?_; revert h; refine rl fun l133 hl133 => rq fun c136 => rq fun c137 => rl fun l134 hl134 h => ?_
     have e135 : A.nadd (U_ l129) (A.nsub (A.toN a1.fx) (A.toN 0)) = U_ l134 := by rw [c137]; subst hl134 hU_ hA; simp [std, len]
     refine ⟨c136, _, (co e135), _, row G_ (eS) l134, e135, wO ?_, ?_⟩
     ·subst hG_ hU_ hA; exact app_osP (pl_encShape) hl133 c137 hl134 (Nat.le_refl _)
     cbv; refine ai c55 ?_; revert h; refine rq fun c138 => rq fun c139 => rq fun c140 h => ?_; refine And.intro (by first | exact ⟨c138, c139, (fun _ => c140), tv⟩ | exact ⟨c138, c139, (fun _ => c140)⟩ | exact ⟨c138, c139, tv⟩ | exact ⟨c138, c139⟩) ?_; revert h; refine rl fun l141 hl141 => rq fun c144 => rq fun c145 => rl fun l142 hl142 h => ?_
     have e143 : A.nadd (U_ l134) (A.nsub (A.toN (A.ofN (U_ (G_ a0.fC (A.nadd 0 (A.toN a1.fc))).fS))) (A.toN (A.add .i64 a1.fx 1))) = U_ l142 := by rw [c145]; subst hl142 hU_ hA; simp [std, len]
     refine ⟨c144, _, (co e143), _, row G_ (eS) l142, e143, wO ?_, ?_⟩
     ·subst hG_ hU_ hA; exact app_osP (pl_encShape) hl141 c145 hl142 (Nat.le_refl _)
     cbv; refine ai c55 ?_; refine ⟨_, rfl, _, (pC (row G_ (oC U_ G_) a0.fC) (A.nadd 0 (A.toN a1.fc)) [ws (G_ a0.fC (A.nadd 0 (A.toN a1.fc))).fN, .os 6592 0 (U_ l142), .os 60006 0 (U_ (G_ a0.fC (A.nadd 0 (A.toN a1.fc))).fL), .os 60008 0 (U_ (G_ a0.fC (A.nadd 0 (A.toN a1.fc))).fI)]), rfl, wO ?_, ?_⟩
     ·first | refine patch_of2 ?_ | refine patch_of2K (fun _ _ => rC _ _) ?_
      exact zr
     cbv; revert h; refine rl fun l146 hl146 h => ?_; injection h with h; subst h; subst hS; show St.le _ _; refine St.le_trans (le_foldP 5 1 6592 rfl rfl rfl (by decide) (by subst hA; exact ix c55) (by decide) rfl (fun _ _ => rC _ _)) ?_; refine St.le_trans (le_foldP 5 2 60006 rfl rfl rfl (by decide) (by subst hA; exact ix c55) (by decide) rfl (fun _ _ => rC _ _)) ?_
     refine St.le_trans (le_foldP 5 3 60008 rfl rfl rfl (by decide) (by subst hA; exact ix c55) (by decide) rfl (fun _ _ => rC _ _)) ?_; exact lsp rfl zl ⟨rfl, rfl, oP (fun _ _ => rC _ _) (by subst hG_ hU_ hA; exact patch_set hl146 (ix c55) zr), tv⟩ rfl
    cbv; exact dn
   revert h; refine cu (fun y147 => some (sp 225 [(2, .c (.ptr 128 0)), (4, .c (.ptr 256 0))] [(128, .var [.os 5 0 (U_ a0.fC)]), (256, .var [.v (.slice none 0 0)]), (5, .arr .rw [] (U_ a0.fC) 4 (row G_ (oC U_ G_) y147))])) ?_ fun w153 => rz fun h => ?_
   ·intro y147 S hS h; cbv; revert h; refine fk ?_ ?_ <;> intro h <;> cbv
    ·revert h; refine cu (fun y154 => (sp 225 [(2, .c (.ptr 128 0)), (3, .c (.ptr 192 0)), (4, .c (.ptr 256 0)), (5, .c (wi a1.fx)), (7, .c (.ep 5 (A.nadd 0 (A.toN a1.fc)) 0)), (9, .c (.os 7872 0 (U_ y154.2)))] [(128, .var [.os 5 0 (U_ a0.fC)]), (192, .var (cE a1)), (256, .var [.v (.slice none 0 0)]), (5, .arr .rw [] (U_ a0.fC) 4 (row G_ (oC U_ G_) y154.1)), (7872, .arr .rw [] (U_ y154.2) 4 (row G_ (eL) y154.2))])) ?_ ?_
     ·intro y154 S hS h; cbv; revert h; refine rl fun l162 hl162 h => ?_; have e163 : 0 = U_ l162 := by subst hl162 hU_; rfl
      refine ⟨_, (co e163), _, row G_ (eL) l162, e163, wO ?_, ?_⟩
      ·intro i hi j hj; rw [<- e163] at hi; subst hl162; subst hG_; omega
      cbv; refine ai c55 ?_; revert h; refine rq fun c164 => rq fun c165 => rq fun c166 h => ?_; refine And.intro (by first | exact ⟨c164, c165, (fun _ => c166), tv⟩ | exact ⟨c164, c165, (fun _ => c166)⟩ | exact ⟨c164, c165, tv⟩ | exact ⟨c164, c165⟩) ?_; revert h; refine rl fun l167 hl167 => rq fun c170 => rq fun c171 => rl fun l168 hl168 h => ?_
      have e169 : A.nadd (U_ l162) (A.nsub (A.toN (A.ofN (U_ (G_ a0.fC (A.nadd 0 (A.toN a1.fc))).fL))) (A.toN a1.fx)) = U_ l168 := by rw [c171]; subst hl168 hU_ hA; simp [std, len]
      refine ⟨c170, _, (co e169), _, row G_ (eL) l168, e169, wO ?_, ?_⟩
      ·subst hG_ hU_ hA; exact app_osP (pl_encLabel) hl167 c171 hl168 (Nat.le_refl _)
      cbv; injection h with h; subst h; subst hS; show St.le _ _; refine St.le_trans (le_foldP 5 1 60004 rfl rfl rfl (by decide) (by subst hA; exact ix c63) (by decide) rfl (fun _ _ => rC _ _)) ?_; refine St.le_trans (le_foldP 5 2 60006 rfl rfl rfl (by decide) (by subst hA; exact ix c63) (by decide) rfl (fun _ _ => rC _ _)) ?_
      refine St.le_trans (le_foldP 5 3 60008 rfl rfl rfl (by decide) (by subst hA; exact ix c63) (by decide) rfl (fun _ _ => rC _ _)) ?_; exact lsp rfl zl ⟨rfl, rfl, rfl, oP (fun _ _ => rC _ _) (by subst hG_ hU_ hA; exact patch_same zr), oS, tv⟩ rfl
     rintro ⟨w160, w161⟩ h; replace h := oz (oz h); dsimp only at h; cbv; revert h; refine cu (fun y172 => (sp 225 [(2, .c (.ptr 128 0)), (4, .c (.ptr 256 0))] [(128, .var [.os 5 0 (U_ a0.fC)]), (256, .var [.v (.slice none 0 0)]), (5, .arr .rw [] (U_ a0.fC) 4 (row G_ (oC U_ G_) y172))])) ?_ fun w178 => rz fun h => ?_
     ·intro y172 S hS h; cbv; revert h; refine rl fun l179 hl179 h => ?_; have e180 : 0 = U_ l179 := by subst hl179 hU_; rfl
      refine ⟨_, (co e180), _, row G_ (eL) l179, e180, wO ?_, ?_⟩
      ·intro i hi j hj; rw [<- e180] at hi; subst hl179; subst hG_; omega
      cbv; refine ai c55 ?_
      refine ⟨_, rfl, _, (pC (row G_ (oC U_ G_) w160) (A.nadd 0 (A.toN a1.fc)) [ws (G_ w160 (A.nadd 0 (A.toN a1.fc))).fN, .ow (U_ (G_ w160 (A.nadd 0 (A.toN a1.fc))).fS) 5 (row G_ (eS) (G_ w160 (A.nadd 0 (A.toN a1.fc))).fS), .os 8706 0 (U_ (G_ w160 (A.nadd 0 (A.toN a1.fc))).fL), .ow (U_ (G_ w160 (A.nadd 0 (A.toN a1.fc))).fI) 8 (row G_ (eI) (G_ w160 (A.nadd 0 (A.toN a1.fc))).fI)]), rfl, wO (patch_of zr), ?_⟩
      refine ⟨_, row G_ (eL) (G_ w160 (A.nadd 0 (A.toN a1.fc))).fL, rfl, wO (fun i _ j _ => plain_cp (pl_encLabel _ _)), ?_⟩; cbv; revert h; refine rq fun c181 => rq fun c182 h => ?_; refine And.intro (by first | exact ⟨c181, c182, (fun h0 => by cases h0), tv⟩ | exact ⟨c181, c182, (fun h0 => by cases h0)⟩ | exact ⟨c181, c182, tv⟩ | exact ⟨c181, c182⟩) ?_
      revert h; refine rl fun l183 hl183 => rq fun c186 => rq fun c187 => rl fun l184 hl184 h => ?_; have e185 : A.nadd (U_ l179) (A.nsub (A.toN a1.fx) (A.toN 0)) = U_ l184 := by rw [c187]; subst hl184 hU_ hA; simp [std, len]
      refine ⟨c186, _, (co e185), _, row G_ (eL) l184, e185, wO ?_, ?_⟩
      ·subst hG_ hU_ hA; exact app_osP (pl_encLabel) hl183 c187 hl184 (Nat.le_refl _)
      cbv; revert h; refine rl fun l188 hl188 h => ?_; have e189 : 1 = U_ l188 := by subst hl188 hU_; rfl
      refine ⟨_, (co e189), _, row G_ (eL) l188, e189, wO ?_, ?_⟩
      ·intro i hi j hj; rw [<- e189] at hi; subst hl188; subst hG_; obtain rfl : i = 0 := (by omega) <;> obtain rfl | rfl | rfl | rfl : j = 0 \/ j = 1 \/ j = 2 \/ j = 3 := (by omega)
       all_goals rfl
      cbv; revert h; refine rq fun c192 => rl fun l190 hl190 h => ?_; have e191 := nl hA hU_ hl190; refine ⟨c192, _, (co e191), _, row G_ (eL) l190, e191, wO ?_, ?_⟩
      ·subst hG_ hU_ hA; exact app_os (off := 0) (pl_encLabel) hl190 (Nat.le_refl _)
      cbv; revert h; refine rq fun c195 => rl fun l193 hl193 h => ?_; have e194 := nl hA hU_ hl193; refine ⟨c195, _, (co e194), _, row G_ (eL) l193, e194, wO ?_, ?_⟩
      ·subst hG_ hU_ hA; exact app_os (off := 0) (pl_encLabel) hl193 (Nat.le_refl _)
      cbv; refine ai c55 ?_
      refine ⟨_, rfl, _, (pC (row G_ (oC U_ G_) w160) (A.nadd 0 (A.toN a1.fc)) [ws (G_ w160 (A.nadd 0 (A.toN a1.fc))).fN, .ow (U_ (G_ w160 (A.nadd 0 (A.toN a1.fc))).fS) 5 (row G_ (eS) (G_ w160 (A.nadd 0 (A.toN a1.fc))).fS), .os 8448 0 (U_ l193), .ow (U_ (G_ w160 (A.nadd 0 (A.toN a1.fc))).fI) 8 (row G_ (eI) (G_ w160 (A.nadd 0 (A.toN a1.fc))).fI)]), rfl, wO ?_, ?_⟩
      ·first | refine patch_of2 ?_ | refine patch_of2K (fun _ _ => rC _ _) ?_
       exact zr
      cbv; revert h; refine rq fun c197 => rl fun l196 hl196 h => ?_; injection h with h; subst h; subst hS; show St.le _ _; refine St.le_trans (le_foldP 5 2 8448 rfl rfl rfl (by decide) (by subst hA; exact ix c55) (by decide) rfl (fun _ _ => rC _ _)) ?_
      exact lsp rfl zl ⟨rfl, rfl, oP (fun _ _ => rC _ _) (by subst hG_ hU_ hA; exact patch_set hl196 (ix (by rw [<- c197]; exact c55)) zr), tv⟩ rfl
     cbv; exact dn
    revert h; refine cu (fun y198 => some (sp 225 [(2, .c (.ptr 128 0)), (4, .c (.ptr 256 0))] [(128, .var [.os 5 0 (U_ a0.fC)]), (256, .var [.v (.slice none 0 0)]), (5, .arr .rw [] (U_ a0.fC) 4 (row G_ (oC U_ G_) y198))])) ?_ fun w204 => rz fun h => ?_
    ·intro y198 S hS h; cbv; revert h; refine fk ?_ ?_ <;> intro h <;> cbv
     ·revert h; refine cu (fun y205 => (sp 225 [(2, .c (.ptr 128 0)), (4, .c (.ptr 256 0))] [(128, .var [.os 5 0 (U_ a0.fC)]), (256, .var [.v (.slice none 0 0)]), (5, .arr .rw [] (U_ a0.fC) 4 (row G_ (oC U_ G_) y205))])) ?_ fun w211 => rz fun h => ?_
      ·intro y205 S hS h; cbv; revert h; refine rl fun l212 hl212 h => ?_; have e213 : 0 = U_ l212 := by subst hl212 hU_; rfl
       refine ⟨_, (co e213), _, row G_ (eL) l212, e213, wO ?_, ?_⟩
       ·intro i hi j hj; rw [<- e213] at hi; subst hl212; subst hG_; omega
       cbv; refine ai c55 ?_; revert h; refine rq fun c214 => rq fun c215 h => ?_; refine And.intro (by first | exact ⟨c214, c215, (fun h0 => by cases h0), tv⟩ | exact ⟨c214, c215, (fun h0 => by cases h0)⟩ | exact ⟨c214, c215, tv⟩ | exact ⟨c214, c215⟩) ?_; revert h; refine rl fun l216 hl216 => rq fun c219 => rq fun c220 => rl fun l217 hl217 h => ?_
       have e218 : A.nadd (U_ l212) (A.nsub (A.toN a1.fx) (A.toN 0)) = U_ l217 := by rw [c220]; subst hl217 hU_ hA; simp [std, len]
       refine ⟨c219, _, (co e218), _, row G_ (eL) l217, e218, wO ?_, ?_⟩
       ·subst hG_ hU_ hA; exact app_osP (pl_encLabel) hl216 c220 hl217 (Nat.le_refl _)
       cbv; refine ai c55 ?_; revert h; refine rq fun c221 => rq fun c222 => rq fun c223 h => ?_; refine And.intro (by first | exact ⟨c221, c222, (fun _ => c223), tv⟩ | exact ⟨c221, c222, (fun _ => c223)⟩ | exact ⟨c221, c222, tv⟩ | exact ⟨c221, c222⟩) ?_; revert h; refine rl fun l224 hl224 => rq fun c227 => rq fun c228 => rl fun l225 hl225 h => ?_
       have e226 : A.nadd (U_ l217) (A.nsub (A.toN (A.ofN (U_ (G_ a0.fC (A.nadd 0 (A.toN a1.fc))).fL))) (A.toN (A.add .i64 a1.fx 1))) = U_ l225 := by rw [c228]; subst hl225 hU_ hA; simp [std, len]
       refine ⟨c227, _, (co e226), _, row G_ (eL) l225, e226, wO ?_, ?_⟩
       ·subst hG_ hU_ hA; exact app_osP (pl_encLabel) hl224 c228 hl225 (Nat.le_refl _)
       cbv; refine ai c55 ?_; refine ⟨_, rfl, _, (pC (row G_ (oC U_ G_) a0.fC) (A.nadd 0 (A.toN a1.fc)) [ws (G_ a0.fC (A.nadd 0 (A.toN a1.fc))).fN, .os 60004 0 (U_ (G_ a0.fC (A.nadd 0 (A.toN a1.fc))).fS), .os 9664 0 (U_ l225), .os 60008 0 (U_ (G_ a0.fC (A.nadd 0 (A.toN a1.fc))).fI)]), rfl, wO ?_, ?_⟩
       ·first | refine patch_of2 ?_ | refine patch_of2K (fun _ _ => rC _ _) ?_
        exact zr
       cbv; revert h; refine rl fun l229 hl229 h => ?_; injection h with h; subst h; subst hS; show St.le _ _; refine St.le_trans (le_foldP 5 1 60004 rfl rfl rfl (by decide) (by subst hA; exact ix c55) (by decide) rfl (fun _ _ => rC _ _)) ?_; refine St.le_trans (le_foldP 5 2 9664 rfl rfl rfl (by decide) (by subst hA; exact ix c55) (by decide) rfl (fun _ _ => rC _ _)) ?_
       refine St.le_trans (le_foldP 5 3 60008 rfl rfl rfl (by decide) (by subst hA; exact ix c55) (by decide) rfl (fun _ _ => rC _ _)) ?_; exact lsp rfl zl ⟨rfl, rfl, oP (fun _ _ => rC _ _) (by subst hG_ hU_ hA; exact patch_set hl229 (ix c55) zr), tv⟩ rfl
      cbv; exact dn
     revert h; refine cu (fun y230 => some (sp 225 [(2, .c (.ptr 128 0)), (4, .c (.ptr 256 0))] [(128, .var [.os 5 0 (U_ a0.fC)]), (256, .var [.v (.slice none 0 0)]), (5, .arr .rw [] (U_ a0.fC) 4 (row G_ (oC U_ G_) y230))])) ?_ fun w236 => rz fun h => ?_
     ·intro y230 S hS h; cbv; revert h; refine fk ?_ ?_ <;> intro h <;> cbv
      ·revert h; refine cu (fun y237 => (sp 225 [(2, .c (.ptr 128 0)), (3, .c (.ptr 192 0)), (4, .c (.ptr 256 0)), (5, .c (wi a1.fx)), (7, .c (.ep 5 (A.nadd 0 (A.toN a1.fc)) 0)), (10, .c (.os 10944 0 (U_ y237.2)))] [(128, .var [.os 5 0 (U_ a0.fC)]), (192, .var (cE a1)), (256, .var [.v (.slice none 0 0)]), (5, .arr .rw [] (U_ a0.fC) 4 (row G_ (oC U_ G_) y237.1)), (10944, .arr .rw [] (U_ y237.2) 8 (row G_ (eI) y237.2))])) ?_ ?_
       ·intro y237 S hS h; cbv; revert h; refine rl fun l245 hl245 h => ?_; have e246 : 0 = U_ l245 := by subst hl245 hU_; rfl
        refine ⟨_, (co e246), _, row G_ (eI) l245, e246, wO ?_, ?_⟩
        ·intro i hi j hj; rw [<- e246] at hi; subst hl245; subst hG_; omega
        cbv; refine ai c55 ?_; revert h; refine rq fun c247 => rq fun c248 => rq fun c249 h => ?_; refine And.intro (by first | exact ⟨c247, c248, (fun _ => c249), tv⟩ | exact ⟨c247, c248, (fun _ => c249)⟩ | exact ⟨c247, c248, tv⟩ | exact ⟨c247, c248⟩) ?_; revert h; refine rl fun l250 hl250 => rq fun c253 => rq fun c254 => rl fun l251 hl251 h => ?_
        have e252 : A.nadd (U_ l245) (A.nsub (A.toN (A.ofN (U_ (G_ a0.fC (A.nadd 0 (A.toN a1.fc))).fI))) (A.toN a1.fx)) = U_ l251 := by rw [c254]; subst hl251 hU_ hA; simp [std, len]
        refine ⟨c253, _, (co e252), _, row G_ (eI) l251, e252, wO ?_, ?_⟩
        ·subst hG_ hU_ hA; exact app_osP (pl_encInstance) hl250 c254 hl251 (Nat.le_refl _)
        cbv; injection h with h; subst h; subst hS; show St.le _ _; refine St.le_trans (le_foldP 5 1 60004 rfl rfl rfl (by decide) (by subst hA; exact ix c63) (by decide) rfl (fun _ _ => rC _ _)) ?_; refine St.le_trans (le_foldP 5 2 60006 rfl rfl rfl (by decide) (by subst hA; exact ix c63) (by decide) rfl (fun _ _ => rC _ _)) ?_
        refine St.le_trans (le_foldP 5 3 60008 rfl rfl rfl (by decide) (by subst hA; exact ix c63) (by decide) rfl (fun _ _ => rC _ _)) ?_; exact lsp rfl zl ⟨rfl, rfl, rfl, oP (fun _ _ => rC _ _) (by subst hG_ hU_ hA; exact patch_same zr), oS, tv⟩ rfl
       rintro ⟨w243, w244⟩ h; replace h := oz (oz h); dsimp only at h; cbv; revert h; refine cu (fun y255 => (sp 225 [(2, .c (.ptr 128 0)), (4, .c (.ptr 256 0))] [(128, .var [.os 5 0 (U_ a0.fC)]), (256, .var [.v (.slice none 0 0)]), (5, .arr .rw [] (U_ a0.fC) 4 (row G_ (oC U_ G_) y255))])) ?_ fun w261 => rz fun h => ?_
       ·intro y255 S hS h; cbv; revert h; refine rl fun l262 hl262 h => ?_; have e263 : 0 = U_ l262 := by subst hl262 hU_; rfl
        refine ⟨_, (co e263), _, row G_ (eI) l262, e263, wO ?_, ?_⟩
        ·intro i hi j hj; rw [<- e263] at hi; subst hl262; subst hG_; omega
        cbv; refine ai c55 ?_
        refine ⟨_, rfl, _, (pC (row G_ (oC U_ G_) w243) (A.nadd 0 (A.toN a1.fc)) [ws (G_ w243 (A.nadd 0 (A.toN a1.fc))).fN, .ow (U_ (G_ w243 (A.nadd 0 (A.toN a1.fc))).fS) 5 (row G_ (eS) (G_ w243 (A.nadd 0 (A.toN a1.fc))).fS), .ow (U_ (G_ w243 (A.nadd 0 (A.toN a1.fc))).fL) 4 (row G_ (eL) (G_ w243 (A.nadd 0 (A.toN a1.fc))).fL), .os 11778 0 (U_ (G_ w243 (A.nadd 0 (A.toN a1.fc))).fI)]), rfl, wO (patch_of zr), ?_⟩
        refine ⟨_, row G_ (eI) (G_ w243 (A.nadd 0 (A.toN a1.fc))).fI, rfl, wO (fun i _ j _ => plain_cp (pl_encInstance _ _)), ?_⟩; cbv; revert h; refine rq fun c264 => rq fun c265 h => ?_; refine And.intro (by first | exact ⟨c264, c265, (fun h0 => by cases h0), tv⟩ | exact ⟨c264, c265, (fun h0 => by cases h0)⟩ | exact ⟨c264, c265, tv⟩ | exact ⟨c264, c265⟩) ?_
        revert h; refine rl fun l266 hl266 => rq fun c269 => rq fun c270 => rl fun l267 hl267 h => ?_; have e268 : A.nadd (U_ l262) (A.nsub (A.toN a1.fx) (A.toN 0)) = U_ l267 := by rw [c270]; subst hl267 hU_ hA; simp [std, len]
        refine ⟨c269, _, (co e268), _, row G_ (eI) l267, e268, wO ?_, ?_⟩
        ·subst hG_ hU_ hA; exact app_osP (pl_encInstance) hl266 c270 hl267 (Nat.le_refl _)
        cbv; revert h; refine rl fun l271 hl271 h => ?_; have e272 : 1 = U_ l271 := by subst hl271 hU_; rfl
        refine ⟨_, (co e272), _, row G_ (eI) l271, e272, wO ?_, ?_⟩
        ·intro i hi j hj; rw [<- e272] at hi; subst hl271; subst hG_; obtain rfl : i = 0 := (by omega) <;> obtain rfl | rfl | rfl | rfl | rfl | rfl | rfl | rfl : j = 0 \/ j = 1 \/ j = 2 \/ j = 3 \/ j = 4 \/ j = 5 \/ j = 6 \/ j = 7 := (by omega)
         all_goals rfl
        cbv; revert h; refine rq fun c275 => rl fun l273 hl273 h => ?_; have e274 := nl hA hU_ hl273; refine ⟨c275, _, (co e274), _, row G_ (eI) l273, e274, wO ?_, ?_⟩
        ·subst hG_ hU_ hA; exact app_os (off := 0) (pl_encInstance) hl273 (Nat.le_refl _)
        cbv; revert h; refine rq fun c278 => rl fun l276 hl276 h => ?_; have e277 := nl hA hU_ hl276; refine ⟨c278, _, (co e277), _, row G_ (eI) l276, e277, wO ?_, ?_⟩
        ·subst hG_ hU_ hA; exact app_os (off := 0) (pl_encInstance) hl276 (Nat.le_refl _)
        cbv; refine ai c55 ?_
        refine ⟨_, rfl, _, (pC (row G_ (oC U_ G_) w243) (A.nadd 0 (A.toN a1.fc)) [ws (G_ w243 (A.nadd 0 (A.toN a1.fc))).fN, .ow (U_ (G_ w243 (A.nadd 0 (A.toN a1.fc))).fS) 5 (row G_ (eS) (G_ w243 (A.nadd 0 (A.toN a1.fc))).fS), .ow (U_ (G_ w243 (A.nadd 0 (A.toN a1.fc))).fL) 4 (row G_ (eL) (G_ w243 (A.nadd 0 (A.toN a1.fc))).fL), .os 11520 0 (U_ l276)]), rfl, wO ?_, ?_⟩
        ·first | refine patch_of2 ?_ | refine patch_of2K (fun _ _ => rC _ _) ?_
         exact zr
        cbv; revert h; refine rq fun c280 => rl fun l279 hl279 h => ?_; injection h with h; subst h; subst hS; show St.le _ _; refine St.le_trans (le_foldP 5 3 11520 rfl rfl rfl (by decide) (by subst hA; exact ix c55) (by decide) rfl (fun _ _ => rC _ _)) ?_
        exact lsp rfl zl ⟨rfl, rfl, oP (fun _ _ => rC _ _) (by subst hG_ hU_ hA; exact patch_set hl279 (ix (by rw [<- c280]; exact c55)) zr), tv⟩ rfl
       cbv; exact dn
      revert h; refine cu (fun y281 => some (sp 225 [(2, .c (.ptr 128 0)), (4, .c (.ptr 256 0))] [(128, .var [.os 5 0 (U_ a0.fC)]), (256, .var [.v (.slice none 0 0)]), (5, .arr .rw [] (U_ a0.fC) 4 (row G_ (oC U_ G_) y281))])) ?_ fun w287 => rz fun h => ?_
      ·intro y281 S hS h; cbv; revert h; refine fk ?_ ?_ <;> intro h <;> cbv
       ·revert h; refine cu (fun y288 => (sp 225 [(2, .c (.ptr 128 0)), (4, .c (.ptr 256 0))] [(128, .var [.os 5 0 (U_ a0.fC)]), (256, .var [.v (.slice none 0 0)]), (5, .arr .rw [] (U_ a0.fC) 4 (row G_ (oC U_ G_) y288))])) ?_ fun w294 => rz fun h => ?_
        ·intro y288 S hS h; cbv; revert h; refine rl fun l295 hl295 h => ?_; have e296 : 0 = U_ l295 := by subst hl295 hU_; rfl
         refine ⟨_, (co e296), _, row G_ (eI) l295, e296, wO ?_, ?_⟩
         ·intro i hi j hj; rw [<- e296] at hi; subst hl295; subst hG_; omega
         cbv; refine ai c55 ?_; revert h; refine rq fun c297 => rq fun c298 h => ?_; refine And.intro (by first | exact ⟨c297, c298, (fun h0 => by cases h0), tv⟩ | exact ⟨c297, c298, (fun h0 => by cases h0)⟩ | exact ⟨c297, c298, tv⟩ | exact ⟨c297, c298⟩) ?_; revert h; refine rl fun l299 hl299 => rq fun c302 => rq fun c303 => rl fun l300 hl300 h => ?_
         have e301 : A.nadd (U_ l295) (A.nsub (A.toN a1.fx) (A.toN 0)) = U_ l300 := by rw [c303]; subst hl300 hU_ hA; simp [std, len]
         refine ⟨c302, _, (co e301), _, row G_ (eI) l300, e301, wO ?_, ?_⟩
         ·subst hG_ hU_ hA; exact app_osP (pl_encInstance) hl299 c303 hl300 (Nat.le_refl _)
         cbv; refine ai c55 ?_; revert h; refine rq fun c304 => rq fun c305 => rq fun c306 h => ?_; refine And.intro (by first | exact ⟨c304, c305, (fun _ => c306), tv⟩ | exact ⟨c304, c305, (fun _ => c306)⟩ | exact ⟨c304, c305, tv⟩ | exact ⟨c304, c305⟩) ?_; revert h; refine rl fun l307 hl307 => rq fun c310 => rq fun c311 => rl fun l308 hl308 h => ?_
         have e309 : A.nadd (U_ l300) (A.nsub (A.toN (A.ofN (U_ (G_ a0.fC (A.nadd 0 (A.toN a1.fc))).fI))) (A.toN (A.add .i64 a1.fx 1))) = U_ l308 := by rw [c311]; subst hl308 hU_ hA; simp [std, len]
         refine ⟨c310, _, (co e309), _, row G_ (eI) l308, e309, wO ?_, ?_⟩
         ·subst hG_ hU_ hA; exact app_osP (pl_encInstance) hl307 c311 hl308 (Nat.le_refl _)
         cbv; refine ai c55 ?_; refine ⟨_, rfl, _, (pC (row G_ (oC U_ G_) a0.fC) (A.nadd 0 (A.toN a1.fc)) [ws (G_ a0.fC (A.nadd 0 (A.toN a1.fc))).fN, .os 60004 0 (U_ (G_ a0.fC (A.nadd 0 (A.toN a1.fc))).fS), .os 60006 0 (U_ (G_ a0.fC (A.nadd 0 (A.toN a1.fc))).fL), .os 12736 0 (U_ l308)]), rfl, wO ?_, ?_⟩
         ·first | refine patch_of2 ?_ | refine patch_of2K (fun _ _ => rC _ _) ?_
          exact zr
         cbv; revert h; refine rl fun l312 hl312 h => ?_; injection h with h; subst h; subst hS; show St.le _ _; refine St.le_trans (le_foldP 5 1 60004 rfl rfl rfl (by decide) (by subst hA; exact ix c55) (by decide) rfl (fun _ _ => rC _ _)) ?_; refine St.le_trans (le_foldP 5 2 60006 rfl rfl rfl (by decide) (by subst hA; exact ix c55) (by decide) rfl (fun _ _ => rC _ _)) ?_
         refine St.le_trans (le_foldP 5 3 12736 rfl rfl rfl (by decide) (by subst hA; exact ix c55) (by decide) rfl (fun _ _ => rC _ _)) ?_; exact lsp rfl zl ⟨rfl, rfl, oP (fun _ _ => rC _ _) (by subst hG_ hU_ hA; exact patch_set hl312 (ix c55) zr), tv⟩ rfl
        cbv; exact dn
       revert h; refine cu (fun y313 => some (sp 225 [(2, .c (.ptr 128 0)), (4, .c (.ptr 256 0))] [(128, .var [.os 5 0 (U_ a0.fC)]), (256, .var [.v (.slice none 0 0)]), (5, .arr .rw [] (U_ a0.fC) 4 (row G_ (oC U_ G_) y313))])) ?_ fun w319 => rz fun h => ?_
       ·intro y313 S hS h; cbv; revert h; refine fk ?_ ?_ <;> intro h <;> cbv
        ·revert h; refine cu (fun y320 => (sp 225 [(2, .c (.ptr 128 0)), (4, .c (.ptr 256 0))] [(128, .var [.os 5 0 (U_ a0.fC)]), (256, .var [.v (.slice none 0 0)]), (5, .arr .rw [] (U_ a0.fC) 4 (row G_ (oC U_ G_) y320))])) ?_ fun w326 => rz fun h => ?_
         ·intro y320 S hS h; cbv; refine ai c55 ?_; refine ⟨_, rfl, _, (pC (row G_ (oC U_ G_) a0.fC) (A.nadd 0 (A.toN a1.fc)) [ws a1.fN, .os 60004 0 (U_ (G_ a0.fC (A.nadd 0 (A.toN a1.fc))).fS), .os 60006 0 (U_ (G_ a0.fC (A.nadd 0 (A.toN a1.fc))).fL), .os 60008 0 (U_ (G_ a0.fC (A.nadd 0 (A.toN a1.fc))).fI)]), rfl, wO ?_, ?_⟩
          ·first | refine patch_of2 ?_ | refine patch_of2K (fun _ _ => rC _ _) ?_
           exact zr
          cbv; revert h; refine rl fun l327 hl327 h => ?_; injection h with h; subst h; subst hS; show St.le _ _; refine St.le_trans (le_foldP 5 1 60004 rfl rfl rfl (by decide) (by subst hA; exact ix c55) (by decide) rfl (fun _ _ => rC _ _)) ?_; refine St.le_trans (le_foldP 5 2 60006 rfl rfl rfl (by decide) (by subst hA; exact ix c55) (by decide) rfl (fun _ _ => rC _ _)) ?_
          refine St.le_trans (le_foldP 5 3 60008 rfl rfl rfl (by decide) (by subst hA; exact ix c55) (by decide) rfl (fun _ _ => rC _ _)) ?_; exact lsp rfl zl ⟨rfl, rfl, oP (fun _ _ => rC _ _) (by subst hG_ hU_ hA; exact patch_set hl327 (ix c55) zr), tv⟩ rfl
         cbv; exact dn
        injection h with h; subst h; subst hS; show St.le _ _; refine St.le_trans (le_foldP 5 1 60004 rfl rfl rfl (by decide) (by subst hA; exact ix c63) (by decide) rfl (fun _ _ => rC _ _)) ?_; refine St.le_trans (le_foldP 5 2 60006 rfl rfl rfl (by decide) (by subst hA; exact ix c63) (by decide) rfl (fun _ _ => rC _ _)) ?_
        refine St.le_trans (le_foldP 5 3 60008 rfl rfl rfl (by decide) (by subst hA; exact ix c63) (by decide) rfl (fun _ _ => rC _ _)) ?_; exact lsp rfl zl ⟨rfl, rfl, oP (fun _ _ => rC _ _) (by subst hG_ hU_ hA; exact patch_same zr), tv⟩ rfl
       cbv; exact dn
      cbv; exact dn
     cbv; exact dn
    cbv; exact dn
   cbv; exact dn
  cbv; exact dn
 cbv; revert h; refine rq fun c335 h => ?_; injection h with h; subst h; refine ⟨(sp 225 [(4, .c (.ptr 256 0))] [(256, .var [.os 64000 0 (U_ w70)]), (64000, .arr .rw [] (U_ w70) 4 (row G_ (oC U_ G_) w70))]), ?_, ?_⟩
 ·refine St.le_trans (le_ren 5 64000 (by decide) rfl) ?_; rw [c335]; exact zb
 ·exact ⟨lR _, zo, rfl⟩

def Lq45_x12 (a1 : List TE) : (Int × (List TE) × (List TC)) -> Option ((Int × (List TE) × (List TC)) ⊕ ((Int × Int) ⊕ ((List TE) × (List TC)))) := fun x12 =>
 letO x12.1 fun v9 =>
 letO x12.2.1 fun v10 =>
 letO x12.2.2 fun v11 =>
 br (std.lt v9 (std.ofN (len a1)))
 (req (std.inR v9 (len a1)) <|
 (Fq140 (TL.mk v11) (gd a1 (std.toN v9))).bind fun y25 =>
 br (std.not (std.eq y25 0))
 (some (.inr (.inl (y25, v9))))
 (req (std.inR v9 (len a1)) <|
 (Fq35 (TL.mk v11) (gd a1 (std.toN v9))).bind fun y28 =>
 letO ([y28] : List TE) fun l30 =>
 req (std.room (std.nadd (len l30) (len v10)) 184) <|
 letO (l30 ++ v10) fun l32 =>
 req (std.inR v9 (len a1)) <|
 (Fq137 (TL.mk v11) (gd a1 (std.toN v9))).bind fun y36 =>
 some (.inl (std.add .i64 v9 1, l32, y36.fC))))
 (some (.inr (.inr (v10, v11))))
/-- spec.l13All -/
def Fq45 (a0 : TL) (a1 : List TE) : Option (TL × (List TE) × Int × Int) :=
 (Fq20 a0).bind fun y1 =>
 br (!(y1))
 (some ((TL.mk ([] : List TC)), ([] : List TE), (1 : Int), ((-1) : Int)))
 ((Fq3 (std.ofN (len a1)) 1 8).bind fun y3 =>
 br (!(y3))
 (some ((TL.mk ([] : List TC)), ([] : List TE), (3 : Int), ((-1) : Int)))
 ((Fq23 a0).bind fun y5 =>
 letO ([] : List TE) fun l7 =>
 (whileP (σ := Int × (List TE) × (List TC)) (ρ := (Int × Int) ⊕ ((List TE) × (List TC))) (Lq45_x12 a1) (0, l7, y5.fC)).bind fun y13 =>
 (match y13 with
 | .inl y13k0 => (
 letO y13k0.1 fun w40 =>
 letO y13k0.2 fun w41 =>
 some ((TL.mk ([] : List TC)), ([] : List TE), w40, w41))
 | .inr y13m0 =>
 letO y13m0 fun y13k1 =>
 letO y13k1.1 fun w42 =>
 letO y13k1.2 fun w43 =>
 some ((TL.mk w43), w42, (0 : Int), ((-1) : Int)))))
theorem runq45 (a0 : TL) (a1 : List TE) (r : TL × (List TE) × Int × Int) (h : Fq45 a0 a1 = some r) : Fun prog 69 [.agg [.bs (len a0.fC) 4 (row gd (eC len gd) a0.fC)], .c (.bs (len a1) 21 (row gd (eE) a1))] [] (.tup [.agg [.os 64000 0 (len r.1.fC)], .c (.os 64002 0 (len r.2.1)), .c (wi r.2.2.1), .c (wi r.2.2.2)]) [(64000, .arr .rw [] (len r.1.fC) 4 (row gd (oC len gd) r.1.fC)), (64002, .arr .rw [] (len r.2.1) 21 (row gd (eE) r.2.1))] true := by
 refine ow [] func69 ntmps69 ?_ (hv := (fun _ => ⟨(by simp [AV.flat, AV.flat1, AC.flat]), ⟨fun i _ j _ => fl_oncCell _ _, fun i _ j _ => val_flat (vl_encEdit _ _), tv⟩⟩)); unfold Fq45 at h; unfold Lq45_x12 at h; have hfq20 := @runq20; have hfq23 := @runq23; have hfq3 := @runq3
 have hfq140 := @runq140; have hfq137 := @runq137; have hfq35 := @runq35; generalize hU_ : @len = U_, hG_ : @gd = G_, hA : std = A, hP : prog = P at *; cbv; revert h; refine rk0 (hfq20 _) fun y1 h => ?_; cbv; revert h; refine fk ?_ ?_ <;> intro h <;> cbv
 ·injection h with h; subst h
  refine ⟨(sp 58 [(4, .c (.ptr 256 0)), (5, .c (.os 64002 0 (U_ ([] : List TE)))), (6, .c (wi 1)), (7, .c (wi (-1)))] [(256, .var [.os 64000 0 (U_ ([] : List TC))]), (64002, .arr .rw [] (U_ ([] : List TE)) 21 (row G_ (eE) ([] : List TE))), (64000, .arr .rw [] (U_ ([] : List TC)) 4 (row G_ (oC U_ G_) ([] : List TC)))]), ?_, ?_⟩
  ·refine St.le_trans (le_nilV 256 0 64000 4 (row G_ (oC U_ G_) ([] : List TC)) (by decide) (by decide) rfl rfl) ?_; refine St.le_trans (le_nilT 5 64002 21 (row G_ (eE) ([] : List TE)) (by decide) rfl) ?_; subst hU_; exact zb
  ·subst hU_; exact ⟨lR _, zo, rfl⟩
 revert h; refine rk0 (hfq3 _ _ _) fun y3 h => ?_; cbv; revert h; refine fk ?_ ?_ <;> intro h <;> cbv
 ·injection h with h; subst h
  refine ⟨(sp 58 [(4, .c (.ptr 256 0)), (5, .c (.os 64002 0 (U_ ([] : List TE)))), (6, .c (wi 3)), (7, .c (wi (-1)))] [(256, .var [.os 64000 0 (U_ ([] : List TC))]), (64002, .arr .rw [] (U_ ([] : List TE)) 21 (row G_ (eE) ([] : List TE))), (64000, .arr .rw [] (U_ ([] : List TC)) 4 (row G_ (oC U_ G_) ([] : List TC)))]), ?_, ?_⟩
  ·refine St.le_trans (le_nilV 256 0 64000 4 (row G_ (oC U_ G_) ([] : List TC)) (by decide) (by decide) rfl rfl) ?_; refine St.le_trans (le_nilT 5 64002 21 (row G_ (eE) ([] : List TE)) (by decide) rfl) ?_; subst hU_; exact zb
  ·subst hU_; exact ⟨lR _, zo, rfl⟩
 revert h; refine rk [] [(64000, 1408)] (hfq23 _) (fun _ => zf) fun y5 h => ⟨_, rfl, _, _, rfl, fun _ _ _ _ => .refl _, ?_⟩
 cbv; revert h; refine rl fun l7 hl7 h => ?_; have e8 : 0 = U_ l7 := by subst hl7 hU_; rfl
 refine ⟨_, (co e8), _, row G_ (eE) l7, e8, wO ?_, ?_⟩
 ·intro i hi j hj; rw [<- e8] at hi; subst hl7; subst hG_; omega
 cbv
 revert h; refine lc (fun x => (sp 58 [(1, .c (.bs (U_ a1) 21 (row G_ (eE) a1))), (4, .c (.ptr 256 0)), (8, .c (.ptr 512 0)), (9, .c (.os 62000 0 (U_ x.2.1))), (10, .c (wi x.1))] [(256, .var [.v (.slice none 0 0)]), (512, .var [.os 62002 0 (U_ x.2.2)]), (62000, .arr .rw [] (U_ x.2.1) 21 (row G_ (eE) x.2.1)), (62002, .arr .rw [] (U_ x.2.2) 4 (row G_ (oC U_ G_) x.2.2))])) (fun y e s => (match y with | .inl w => e = .ret /\ s.le (sp 58 [(4, .c (.ptr 256 0)), (5, .c (.v (.slice none 0 0))), (6, .c (wi w.1)), (7, .c (wi w.2))] [(256, .var [.v (.slice none 0 0)])]) | .inr w0 => (fun (w : (List TE) × (List TC)) => e = .exit 0 /\ s.le (sp 58 [(4, .c (.ptr 256 0)), (8, .c (.ptr 512 0)), (9, .c (.os 62000 0 (U_ w.1)))] [(256, .var [.v (.slice none 0 0)]), (512, .var [.os 62002 0 (U_ w.2)]), (62000, .arr .rw [] (U_ w.1) 21 (row G_ (eE) w.1)), (62002, .arr .rw [] (U_ w.2) 4 (row G_ (oC U_ G_) w.2))])) w0)) ?_ ?_ ?_
 ·show St.le _ _; refine St.le_trans (le_ren 1472 62000 (by decide) rfl) ?_; refine St.le_trans (le_ren 1408 62002 (by decide) rfl) ?_; exact zb
 ·rintro ⟨v9, v10, v11⟩ z h K hK hY; replace h := oz (oz (oz h)); dsimp only at h; cbv; revert h; refine fk ?_ ?_ <;> intro h <;> cbv
  ·revert h; refine ra fun c24 h => ?_; revert h; refine rk [] [] (hfq140 _ _) (fun _ => zg (lc_ (le_agg ⟨gD (rC) (ln_oncCell) rfl rfl rfl, tv⟩) (zs1))) fun y25 h => ?_; cbv; revert h; refine fk ?_ ?_ <;> intro h <;> cbv
   ·exact dy
   revert h; refine ra fun c27 h => ?_; revert h; refine rk [] [] (hfq35 _ _) (fun _ => zg (lc_ (le_agg ⟨gD (rC) (ln_oncCell) rfl rfl rfl, tv⟩) (zs1))) fun y28 h => ?_; cbv; revert h; refine rl fun l30 hl30 h => ?_; have e31 : 1 = U_ l30 := by subst hl30 hU_; rfl
   refine ⟨_, (co e31), _, row G_ (eE) l30, e31, wO ?_, ?_⟩
   ·intro i hi j hj; rw [<- e31] at hi; subst hl30; subst hG_
    obtain rfl : i = 0 := (by omega) <;> obtain rfl | rfl | rfl | rfl | rfl | rfl | rfl | rfl | rfl | rfl | rfl | rfl | rfl | rfl | rfl | rfl | rfl | rfl | rfl | rfl | rfl : j = 0 \/ j = 1 \/ j = 2 \/ j = 3 \/ j = 4 \/ j = 5 \/ j = 6 \/ j = 7 \/ j = 8 \/ j = 9 \/ j = 10 \/ j = 11 \/ j = 12 \/ j = 13 \/ j = 14 \/ j = 15 \/ j = 16 \/ j = 17 \/ j = 18 \/ j = 19 \/ j = 20 := (by omega)
    all_goals rfl
   cbv; revert h; refine rq fun c34 => rl fun l32 hl32 h => ?_; have e33 := nl hA hU_ hl32; refine ⟨c34, _, (co e33), _, row G_ (eE) l32, e33, wO ?_, ?_⟩
   ·subst hG_ hU_ hA; exact app_os (off := 0) (pl_encEdit) hl32 (Nat.le_refl _)
   cbv; revert h; refine ra fun c35 h => ?_; revert h; refine rk [(5, 62002)] [(64000, 3520)] (hfq137 _ _) (fun _ => zf) fun y36 h => ⟨_, rfl, _, _, rfl, fun _ _ _ _ => .refl _, ?_⟩
   cbv; injection h with h; refine hK _ h.symm _ ?_; refine St.le_trans (le_swap 3008 62000 (by decide) (by decide)) ?_; refine St.le_trans (le_ren 3520 62002 (by decide) rfl) ?_; exact zb
  exact dy
 intro y13 h e22 s23 q21 hne; rcases y13 with y13k0 | y13m0
 ·replace h := h; obtain ⟨rfl, q21⟩ := q21; obtain ⟨y13k0_0, y13k0_1⟩ := y13k0; revert h; refine rl fun w40 hw40 h => ?_; have hw40 : w40 = y13k0_0 := hw40; subst hw40; revert h; refine rz fun h => ?_; cbv; injection h with h; subst h
  refine ⟨(sp 58 [(4, .c (.ptr 256 0)), (5, .c (.os 64002 0 (U_ ([] : List TE)))), (6, .c (wi w40)), (7, .c (wi y13k0_1))] [(256, .var [.os 64000 0 (U_ ([] : List TC))]), (64002, .arr .rw [] (U_ ([] : List TE)) 21 (row G_ (eE) ([] : List TE))), (64000, .arr .rw [] (U_ ([] : List TC)) 4 (row G_ (oC U_ G_) ([] : List TC)))]), ?_, ?_⟩
  ·refine St.le_trans q21 ?_; refine St.le_trans (le_nilV 256 0 64000 4 (row G_ (oC U_ G_) ([] : List TC)) (by decide) (by decide) rfl rfl) ?_; refine St.le_trans (le_nilT 5 64002 21 (row G_ (eE) ([] : List TE)) (by decide) rfl) ?_; subst hU_; exact zb
  ·subst hU_; exact ⟨lR _, zo, rfl⟩
 ·revert h; refine rz fun h => ?_; obtain ⟨rfl, q21⟩ := q21; obtain ⟨y13k1_0, y13k1_1⟩ := y13m0; revert h; refine rl fun w42 hw42 h => ?_; have hw42 : w42 = y13k1_0 := hw42; subst hw42; revert h; refine rz fun h => ?_; cbv; refine ⟨_, q21, ?_⟩; cbv; injection h with h; subst h; exact ⟨_, St.le_trans (le_ren 62002 64000 (by decide) rfl) ((le_ren 62000 64002 (by decide) rfl)), lR _, zo, rfl⟩

def Lq46_x4 (a0 : List (List TE)) : (Int × (List (List TE))) -> Option ((Int × (List (List TE))) ⊕ (((List (List TE))))) := fun x4 =>
 letO x4.1 fun v2 =>
 letO x4.2 fun v3 =>
 br (std.lt v2 (std.ofN (len a0)))
 (((
 letO ([] : List TE) fun l23 =>
 req (std.inR v2 (len a0)) <|
 req (std.room (std.nadd (len l23) (len (gd a0 (std.toN v2)))) 184) <|
 letO (l23 ++ (gd a0 (std.toN v2))) fun l26 =>
 letO ([l26] : List (List TE)) fun l29 =>
 req (std.room (std.nadd (len v3) (len l29)) 24) <|
 letO (v3 ++ l29) fun l31 =>
 some l31
 ) : Option ((List (List TE)))).bind fun y16 =>
 letO y16 fun w22 =>
 some (.inl (std.add .i64 v2 1, w22)))
 (some (.inr v3))
/-- spec.l13CopyStack -/
def Fq46 (a0 : List (List TE)) : Option (List (List TE)) :=
 (whileP (σ := Int × (List (List TE))) (ρ := ((List (List TE)))) (Lq46_x4 a0) (0, ([] : List (List TE)))).bind fun y5 =>
 letO y5 fun y5k0 =>
 letO y5k0 fun w35 =>
 some w35
theorem runq46 (a0 : List (List TE)) (r : List (List TE)) (h : Fq46 a0 = some r) : Fun prog 141 [.c (.bs (len a0) 1 (row gd (eN len gd 21 (eE)) a0))] [] (.c (.os 64000 0 (len r))) [(64000, .arr .rw [] (len r) 1 (row gd (oN len gd 21 (eE)) r))] true := by
 refine ow [5] func141 ntmps141 ?_ (hv := (fun _ => ⟨trivial, ⟨fun i _ j _ => fl_oncL (vl_encEdit) _ _, tv⟩⟩)); unfold Fq46 at h; unfold Lq46_x4 at h; generalize hU_ : @len = U_, hG_ : @gd = G_, hA : std = A, hP : prog = P at *; cbv; have e1 : 0 = U_ ([] : List (List TE)) := by subst hU_; rfl
 refine ⟨_, (co e1), _, row G_ (oN U_ G_ 21 (eE)) ([] : List (List TE)), e1, wO ?_, ?_⟩
 ·intro i hi j hj; rw [<- e1] at hi; subst hG_; omega
 cbv; revert h; refine ln (.exit 0) (fun x => (sp 22 [(0, .c (.bs (U_ a0) 1 (row G_ (eN U_ G_ 21 (eE)) a0))), (3, .c (.os 320 0 (U_ x.2))), (4, .c (wi x.1))] [(320, .arr .rw [] (U_ x.2) 1 (row G_ (oN U_ G_ 21 (eE)) x.2))])) (fun w => (sp 22 [(3, .c (.os 320 0 (U_ w)))] [(320, .arr .rw [] (U_ w) 1 (row G_ (oN U_ G_ 21 (eE)) w))])) zb ?_ ?_
 ·rintro ⟨v2, v3⟩ z h K hK hY; replace h := oz (oz h); dsimp only at h; cbv; revert h; refine fk ?_ ?_ <;> intro h <;> cbv
  ·revert h; refine cu (fun y16 => (sp 22 [(0, .c (.bs (U_ a0) 1 (row G_ (eN U_ G_ 21 (eE)) a0))), (3, .c (.os 320 0 (U_ y16))), (4, .c (wi v2))] [(320, .arr .rw [] (U_ y16) 1 (row G_ (oN U_ G_ 21 (eE)) y16))])) ?_ fun w22 => rz fun h => ?_
   ·intro y16 S hS h; cbv; revert h; refine rl fun l23 hl23 h => ?_; have e24 : 0 = U_ l23 := by subst hl23 hU_; rfl
    refine ⟨_, (co e24), _, row G_ (eE) l23, e24, wO ?_, ?_⟩
    ·intro i hi j hj; rw [<- e24] at hi; subst hl23; subst hG_; omega
    cbv; revert h; refine ra fun c25 h => ?_; revert h; refine rq fun c28 => rl fun l26 hl26 h => ?_; have e27 := nl hA hU_ hl26; refine ⟨c28, _, (co e27), _, row G_ (eE) l26, e27, wO ?_, ?_⟩
    ·subst hG_ hU_ hA; exact app_bs (pl_encEdit) hl26 (Nat.le_refl _)
    cbv; revert h; refine rl fun l29 hl29 h => ?_; have e30 : 1 = U_ l29 := by subst hl29 hU_; rfl
    refine ⟨_, (co e30), _, (pC (fun _ _ => AC.junk) 0 [.os 832 0 (U_ l26)]), e30, wO ?_, ?_⟩
    ·refine patch_one (by subst hl29 hU_; rfl) ?_; exact zr
    cbv; revert h; refine rq fun c33 => rl fun l31 hl31 h => ?_; have e32 := nl hA hU_ hl31; refine ⟨c33, _, (co e32), _, (pC (row G_ (oN U_ G_ 21 (eE)) v3) (U_ v3) [.os 832 0 (U_ l26)]), e32, wO ?_, ?_⟩
    ·subst hU_ hA; refine patch_joinG (by first | (rw [hl31]; simp [len]; done) | (rw [hl31]; simp [len]; omega) | (subst_vars; simp [len])) ?_; exact zr
    cbv; rw [hl29] at hl31; injection h with h; subst h; subst hS; show St.le _ _; refine St.le_trans (le_foldP 320 0 832 rfl rfl rfl (by decide) (by subst hU_; exact app_lt hl31) (by decide) rfl (fun _ _ => rfl)) ?_; exact lsp rfl zl ⟨oP (fun _ _ => rfl) (by subst hG_ hU_ hA; exact patch_app hl31 (Nat.le_refl _) zr), tv⟩ rfl
   cbv; exact dm
  exact dx
 intro w35 h s q13; replace h := oz (oz h); cbv; refine ⟨_, q13, ?_⟩; cbv; injection h with h; subst h; exact ⟨_, le_ren 320 64000 (by decide) rfl, lR _, zo, rfl⟩

/-- spec.l13Push -/
def Fq71 (a0 : List (List TE)) (a1 : List TE) : Option (List (List TE)) :=
 ((
 (Fq46 a0).bind fun y8 =>
 letO ([a1] : List (List TE)) fun l10 =>
 req (std.room (std.nadd (len y8) (len l10)) 24) <|
 letO (y8 ++ l10) fun l12 =>
 some l12
 ) : Option ((List (List TE)))).bind fun y1 =>
 letO y1 fun w7 =>
 ((
 br (std.lt 6 (std.ofN (len w7)))
 (req (std.upTo (std.ofN (len w7)) (len w7)) <|
 req (std.upTo 1 (std.toN (std.ofN (len w7)))) <|
 req (std.upTo 1 (len w7)) <|
 letO (List.take (std.nsub (std.toN (std.ofN (len w7))) (std.toN 1)) (List.drop (std.nadd 0 (std.toN 1)) w7)) fun l25 =>
 req (std.nsub (std.toN (std.ofN (len w7))) (std.toN 1) = len l25) <|
 req (0 < std.nsub (std.toN (std.ofN (len w7))) (std.toN 1)) <|
 some l25)
 (some w7)
 ) : Option ((List (List TE)))).bind fun y15 =>
 letO y15 fun w21 =>
 some w21
theorem runq71 (a0 : List (List TE)) (a1 : List TE) (r : List (List TE)) (h : Fq71 a0 a1 = some r) : Fun prog 75 [.c (.bs (len a0) 1 (row gd (eN len gd 21 (eE)) a0)), .c (.os 5 0 (len a1))] [(5, .arr .rw [] (len a1) 21 (row gd (eE) a1))] (.c (.os 64000 0 (len r))) [(64000, .arr .rw [] (len r) 1 (row gd (oN len gd 21 (eE)) r))] true := by
 refine ow [1, 100013] func75 ntmps75 ?_ (hw := ⟨fun i _ j _ k hk => (noref (plain_nil (pl_encEdit _ _)) hk).elim, tv⟩) (hv := (fun _ => ⟨trivial, ⟨fun i _ j _ => fl_oncL (vl_encEdit) _ _, tv⟩⟩)); unfold Fq71 at h; have hfq46 := @runq46; generalize hU_ : @len = U_, hG_ : @gd = G_, hA : std = A, hP : prog = P at *; cbv
 revert h; refine cu (fun y1 => (sp 17 [(5, .c (.os 448 0 (U_ y1)))] [(448, .arr .rw [] (U_ y1) 1 (row G_ (oN U_ G_ 21 (eE)) y1))])) ?_ fun w7 => rz fun h => ?_
 ·intro y1 S hS h; cbv; revert h; refine rk [] [(64000, 448)] (hfq46 _) (fun _ => zf) fun y8 h => ⟨_, rfl, _, _, rfl, fun _ _ _ _ => .refl _, ?_⟩
  cbv; revert h; refine rl fun l10 hl10 h => ?_; have e11 : 1 = U_ l10 := by subst hl10 hU_; rfl
  refine ⟨_, (co e11), _, (pC (fun _ _ => AC.junk) 0 [.os 5 0 (U_ a1)]), e11, wO ?_, ?_⟩
  ·refine patch_one (by subst hl10 hU_; rfl) ?_; exact zr
  cbv; revert h; refine rq fun c14 => rl fun l12 hl12 h => ?_; have e13 := nl hA hU_ hl12; refine ⟨c14, _, (co e13), _, (pC (row G_ (oN U_ G_ 21 (eE)) y8) (U_ y8) [.os 5 0 (U_ a1)]), e13, wO ?_, ?_⟩
  ·subst hU_ hA; refine patch_joinG (by first | (rw [hl12]; simp [len]; done) | (rw [hl12]; simp [len]; omega) | (subst_vars; simp [len])) ?_; exact zr
  cbv; rw [hl10] at hl12; injection h with h; subst h; subst hS; show St.le _ _; refine St.le_trans (le_foldP 448 0 5 rfl rfl rfl (by decide) (by subst hU_; exact app_lt hl12) (by decide) rfl (fun _ _ => rfl)) ?_; exact lsp rfl zl ⟨oP (fun _ _ => rfl) (by subst hG_ hU_ hA; exact patch_app hl12 (Nat.le_refl _) zr), tv⟩ rfl
 cbv; revert h; refine cu (fun y15 => some (sp 17 [(5, .c (.os 448 0 (U_ y15)))] [(448, .arr .rw [] (U_ y15) 1 (row G_ (oN U_ G_ 21 (eE)) y15))])) ?_ fun w21 => rz fun h => ?_
 ·intro y15 S hS h; cbv; revert h; refine fk ?_ ?_ <;> intro h <;> cbv
  ·revert h; refine rq fun c22 => rq fun c23 => rq fun c24 h => ?_; refine And.intro (by first | exact ⟨c22, c23, (fun _ => c24), tv⟩ | exact ⟨c22, c23, (fun _ => c24)⟩ | exact ⟨c22, c23, tv⟩ | exact ⟨c22, c23⟩) ?_; revert h; refine rl fun l25 hl25 => rq fun c26 => rq fun c27 h => ?_; injection h with h; subst h; subst hS; show St.le _ _
   refine St.le_trans (le_tail 5 448 (A.nadd 0 (A.toN 1)) (A.nsub (A.toN (A.ofN (U_ w7))) (A.toN 1)) c27 (by decide) rfl rfl) ?_; rw [c26]; exact lsp rfl zl ⟨oW (by subst hG_; exact fun i hi j hj => congrArg (fun x => (oN U_ gd 21 (eE)) x j) (part_gd hl25 (by rw [c26]; exact hi))), tv⟩ rfl
  exact dn
 cbv; injection h with h; subst h; exact ⟨_, le_ren 448 64000 (by decide) rfl, lR _, zo, rfl⟩

def Lq33_x2 (a0 : ByteArray) : (Int) -> Option ((Int) ⊕ ((Unit) ⊕ (Unit))) := fun x2 =>
 letO x2 fun v1 =>
 br (std.lt v1 (std.ofN (std.slen a0)))
 (((
 req (std.inR v1 (std.slen a0)) <|
 br (std.lt (std.sat a0 (std.toN v1)) 97)
 (req (std.inR v1 (std.slen a0)) <|
 br (std.lt (std.sat a0 (std.toN v1)) 48)
 (some true)
 (req (std.inR v1 (std.slen a0)) <|
 some (std.lt 57 (std.sat a0 (std.toN v1)))))
 (req (std.inR v1 (std.slen a0)) <|
 br (std.lt 122 (std.sat a0 (std.toN v1)))
 (req (std.inR v1 (std.slen a0)) <|
 br (std.lt (std.sat a0 (std.toN v1)) 48)
 (some true)
 (req (std.inR v1 (std.slen a0)) <|
 some (std.lt 57 (std.sat a0 (std.toN v1)))))
 (some false))
 ) : Option (Bool)).bind fun y14 =>
 letO y14 fun w20 =>
 br w20
 (some (.inr (.inl ())))
 (some (.inl (std.add .i64 v1 1))))
 (some (.inr (.inr ())))
/-- impl.IsName -/
def Fq33 (a0 : ByteArray) : Option (Bool) :=
 (whileP (σ := Int) (ρ := (Unit) ⊕ (Unit)) (Lq33_x2 a0) 0).bind fun y3 =>
 (match y3 with
 | .inl y3k0 => (
 some false)
 | .inr y3m0 =>
 ((
 br (std.le 1 (std.ofN (std.slen a0)))
 (some (std.le (std.ofN (std.slen a0)) 8))
 (some false)
 ) : Option (Bool)).bind fun y33 =>
 letO y33 fun w39 =>
 some w39)
theorem runq33 (a0 : ByteArray) (r : Bool) (h : Fq33 a0 = some r) : Fun prog 161 [.c (ws a0)] [] (.c (.v (.bool r))) [] true := by
 refine ow [4, 6] func161 ntmps161 ?_; unfold Fq33 at h; unfold Lq33_x2 at h; generalize hU_ : @len = U_, hG_ : @gd = G_, hA : std = A, hP : prog = P at *; cbv
 revert h; refine lc (fun x => (sp 40 [(0, .c (ws a0)), (3, .c (wi x))] [])) (fun y e s => (match y with | .inl w => e = .ret /\ s.le (sp 40 [(2, .c (.v (.bool false)))] []) | .inr w0 => (fun (w : Unit) => e = .exit 0 /\ s.le (sp 40 [(0, .c (ws a0))] [])) w0)) zb ?_ ?_
 ·intro v1 z h K hK hY; replace h := oz h; cbv; revert h; refine fk ?_ ?_ <;> intro h <;> cbv
  ·revert h; refine cu (fun y14 => (sp 40 [(0, .c (ws a0)), (3, .c (wi v1)), (31, .c (.v (.bool y14)))] [])) (fun y14 S hS h => rg) fun w20 => rz fun h => ?_; cbv; revert h; refine fk ?_ ?_ <;> intro h <;> cbv
   ·exact dy
   exact dm
  exact dy
 intro y3 h e12 s13 q11 hne; rcases y3 with y3k0 | y3m0
 ·replace h := h; obtain ⟨rfl, q11⟩ := q11; cbv; injection h with h; subst h; exact ⟨_, q11, lR _, zo, rfl⟩
 ·obtain ⟨rfl, q11⟩ := q11; cbv; refine ⟨_, q11, ?_⟩; cbv; revert h; refine cu (fun y33 => (sp 40 [(2, .c (.v (.bool y33)))] [])) (fun y33 S hS h => rg) fun w39 => rz fun h => ?_; cbv; exact df
end
end Go.Proofs.YtohgghncmkiicaaGreat.AM
