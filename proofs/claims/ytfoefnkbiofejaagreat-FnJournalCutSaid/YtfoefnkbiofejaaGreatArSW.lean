/-
  What the functions that the law reaches compute, and that they do. No condition.
-/
import Derived.Test.YtfoefnkbiofejaaGreatArSV
namespace Go.Proofs.YtfoefnkbiofejaaGreat.AM
noncomputable section
open Go Go.Proofs Go.RowKit Go.Proofs.Tryz
set_option linter.unusedVariables false
set_option linter.unusedSimpArgs false
set_option maxRecDepth 100000

set_option maxHeartbeats 40000000
/-- spec.IsValidEdit -/
def Fq102 (a0 : TE) : Option (Bool) :=
 ((
 (Fq1 a0.fk_ 1 9).bind fun y8 =>
 br (!(y8))
 (some true)
 ((Fq1 a0.fc 0 8).bind fun y10 =>
 br (!(y10))
 (some true)
 ((Fq1 a0.fx 0 24).bind fun y12 =>
 some (!(y12))))
 ) : Option (Bool)).bind fun y1 =>
 letO y1 fun w7 =>
 br w7
 (some false)
 (((
 br (std.le 7 a0.fk_)
 (some (std.not (std.eq a0.fx 0)))
 (some false)
 ) : Option (Bool)).bind fun y16 =>
 letO y16 fun w22 =>
 br w22
 (some false)
 (((
 br (std.eq a0.fk_ 7)
 (some true)
 (some (std.eq a0.fk_ 8))
 ) : Option (Bool)).bind fun y24 =>
 letO y24 fun w30 =>
 ((
 br w30
 ((Fq19 a0.fN).bind fun y39 =>
 br (!(y39))
 (some true)
 (br (!(w30))
 (some (std.not (std.seq a0.fN (ByteArray.mk #[]))))
 (some false)))
 (br (!(w30))
 (some (std.not (std.seq a0.fN (ByteArray.mk #[]))))
 (some false))
 ) : Option (Bool)).bind fun y32 =>
 letO y32 fun w38 =>
 br w38
 (some false)
 (((
 br (std.eq a0.fk_ 1)
 ((Fq61 a0.fs_).bind fun y52 =>
 br (!(y52))
 (some true)
 (br (std.not (std.eq a0.fk_ 1))
 ((Fq75 a0.fs_).bind fun y54 =>
 some (!(y54)))
 (some false)))
 (br (std.not (std.eq a0.fk_ 1))
 ((Fq75 a0.fs_).bind fun y58 =>
 some (!(y58)))
 (some false))
 ) : Option (Bool)).bind fun y45 =>
 letO y45 fun w51 =>
 br w51
 (some false)
 (((
 br (std.eq a0.fk_ 3)
 ((Fq62 a0.fl_).bind fun y69 =>
 br (!(y69))
 (some true)
 (br (std.not (std.eq a0.fk_ 3))
 ((Fq79 a0.fl_).bind fun y71 =>
 some (!(y71)))
 (some false)))
 (br (std.not (std.eq a0.fk_ 3))
 ((Fq79 a0.fl_).bind fun y75 =>
 some (!(y75)))
 (some false))
 ) : Option (Bool)).bind fun y62 =>
 letO y62 fun w68 =>
 br w68
 (some false)
 (br (std.eq a0.fk_ 5)
 ((Fq49 a0.fi_ 8).bind fun y79 =>
 some y79)
 ((Fq106 a0.fi_).bind fun y81 =>
 some y81))))))
theorem runq102 (a0 : TE) (r : Bool) (h : Fq102 a0 = some r) : Fun prog 111 [.agg (cE a0)] [] (.c (.v (.bool r))) [] true := by
 refine ow [1, 3, 5, 6, 8, 10] func111 ntmps111 ?_; unfold Fq102 at h; have hfq19 := @runq19; have hfq1 := @runq1; have hfq49 := @runq49; have hfq62 := @runq62; have hfq61 := @runq61; have hfq106 := @runq106
 have hfq79 := @runq79; have hfq75 := @runq75; generalize hU : @len = U_, hG_ : @gd = G_, hA : std = A, hP : prog = P at *; cbv
 revert h; refine cu (fun y1 => (sp 101 [(1, .c (.ptr 64 0)), (19, .c (.v (.bool y1)))] [(64, .var (cE a0))])) ?_ fun w7 => rz fun h => ?_
 ·intro y1 S hS h; cbv; revert h; refine rk0 (hfq1 _ _ _) fun y8 h => ?_; cbv; revert h; refine fk ?_ ?_ <;> intro h <;> cbv
  ·exact dn
  revert h; refine rk0 (hfq1 _ _ _) fun y10 h => ?_; cbv; revert h; refine fk ?_ ?_ <;> intro h <;> cbv
  ·exact dn
  revert h; refine rk0 (hfq1 _ _ _) fun y12 h => ?_; cbv; exact dn
 cbv; revert h; refine fk ?_ ?_ <;> intro h <;> cbv
 ·exact df
 revert h; refine cu (fun y16 => (sp 101 [(1, .c (.ptr 64 0)), (27, .c (.v (.bool y16)))] [(64, .var (cE a0))])) (fun y16 S hS h => rg) fun w22 => rz fun h => ?_
 cbv; revert h; refine fk ?_ ?_ <;> intro h <;> cbv
 ·exact df
 revert h; refine cu (fun y24 => (sp 101 [(1, .c (.ptr 64 0)), (3, .c (.v (.bool y24)))] [(64, .var (cE a0))])) (fun y24 S hS h => rg) fun w30 => rz fun h => ?_
 cbv
 revert h; refine cu (fun y32 => (sp 101 [(1, .c (.ptr 64 0)), (51, .c (.v (.bool y32)))] [(64, .var (cE a0))])) ?_ fun w38 => rz fun h => ?_
 ·intro y32 S hS h; cbv; revert h; refine fk ?_ ?_ <;> intro h <;> cbv
  ·revert h; refine rk0 (hfq19 _) fun y39 h => ?_; cbv; revert h; refine fk ?_ ?_ <;> intro h <;> cbv
   ·exact dn
   revert h; refine fk ?_ ?_ <;> intro h <;> cbv
   ·exact dn
   exact dn
  revert h; refine fk ?_ ?_ <;> intro h <;> cbv
  ·exact dn
  exact dn
 cbv; revert h; refine fk ?_ ?_ <;> intro h <;> cbv
 ·exact df
 revert h; refine cu (fun y45 => (sp 101 [(1, .c (.ptr 64 0)), (71, .c (.v (.bool y45)))] [(64, .var (cE a0))])) ?_ fun w51 => rz fun h => ?_
 ·intro y45 S hS h; cbv; revert h; refine fk ?_ ?_ <;> intro h <;> cbv
  ·revert h; refine rk0 (hfq61 _) fun y52 h => ?_; cbv; revert h; refine fk ?_ ?_ <;> intro h <;> cbv
   ·exact dn
   revert h; refine fk ?_ ?_ <;> intro h <;> cbv
   ·revert h; refine rk0 (hfq75 _) fun y54 h => ?_; cbv; exact dn
   exact dn
  revert h; refine fk ?_ ?_ <;> intro h <;> cbv
  ·revert h; refine rk0 (hfq75 _) fun y58 h => ?_; cbv; exact dn
  exact dn
 cbv; revert h; refine fk ?_ ?_ <;> intro h <;> cbv
 ·exact df
 revert h; refine cu (fun y62 => (sp 101 [(1, .c (.ptr 64 0)), (91, .c (.v (.bool y62)))] [(64, .var (cE a0))])) ?_ fun w68 => rz fun h => ?_
 ·intro y62 S hS h; cbv; revert h; refine fk ?_ ?_ <;> intro h <;> cbv
  ·revert h; refine rk0 (hfq62 _) fun y69 h => ?_; cbv; revert h; refine fk ?_ ?_ <;> intro h <;> cbv
   ·exact dn
   revert h; refine fk ?_ ?_ <;> intro h <;> cbv
   ·revert h; refine rk0 (hfq79 _) fun y71 h => ?_; cbv; exact dn
   exact dn
  revert h; refine fk ?_ ?_ <;> intro h <;> cbv
  ·revert h; refine rk0 (hfq79 _) fun y75 h => ?_; cbv; exact dn
  exact dn
 cbv; revert h; refine fk ?_ ?_ <;> intro h <;> cbv
 ·exact df
 revert h; refine fk ?_ ?_ <;> intro h <;> cbv
 ·revert h; refine rk0 (hfq49 _ _) fun y79 h => ?_; cbv; exact df
 revert h; refine rk0 (hfq106 _) fun y81 h => ?_; cbv; exact df

def Lq35_x2 (a0 : TL) (a1 : Int) (a2 : ByteArray) : (Int) -> Option ((Int) ⊕ ((Bool) ⊕ (Unit))) := fun x2 =>
 letO x2 fun v1 =>
 br (std.lt v1 (std.ofN (len a0.fC)))
 (((
 br (std.not (std.eq v1 a1))
 (req (std.inR v1 (len a0.fC)) <|
 some (std.seq (gd a0.fC (std.toN v1)).fN a2))
 (some false)
 ) : Option (Bool)).bind fun y14 =>
 letO y14 fun w20 =>
 br w20
 (some (.inr (.inl true)))
 (some (.inl (std.add .i64 v1 1))))
 (some (.inr (.inr ())))
/-- spec.l13Named -/
def Fq35 (a0 : TL) (a1 : Int) (a2 : ByteArray) : Option (Bool) :=
  (whileP (σ := Int) (ρ := (Bool) ⊕ (Unit)) (Lq35_x2 a0 a1 a2) 0).bind fun y3 =>
  (match y3 with
 | .inl y3k0 => (
  letO y3k0 fun w25 =>
  some w25)
 | .inr y3m0 =>
  some false)
theorem runq35 (a0 : TL) (a1 : Int) (a2 : ByteArray) (r : Bool) (h : Fq35 a0 a1 a2 = some r) : Fun prog 158 [.agg [.bs (len a0.fC) 4 (row gd (eC len gd) a0.fC)], .c (wi a1), .c (ws a2)] [] (.c (.v (.bool r))) [] true := by
 refine ow [4] func158 ntmps158 ?_; unfold Fq35 at h; unfold Lq35_x2 at h; generalize hU : @len = U_, hG_ : @gd = G_, hA : std = A, hP : prog = P at *; cbv
 revert h; refine lc (fun x => (sp 28 [(1, .c (wi a1)), (2, .c (ws a2)), (3, .c (.ptr 192 0)), (7, .c (wi x))] [(192, .var [.bs (U_ a0.fC) 4 (row G_ (eC U_ G_) a0.fC)])])) (fun y e s => (match y with | .inl w => e = .ret /\ s.le (sp 28 [(6, .c (.v (.bool w)))] []) | .inr w0 => (fun (w : Unit) => e = .exit 0 /\ s.le (sp 28 [] [])) w0)) zb ?_ ?_
 ·intro v1 z h K hK hY; replace h := oz h; cbv; revert h; refine fk ?_ ?_ <;> intro h <;> cbv
  ·revert h; refine cu (fun y14 => (sp 28 [(1, .c (wi a1)), (2, .c (ws a2)), (3, .c (.ptr 192 0)), (7, .c (wi v1)), (27, .c (.v (.bool y14)))] [(192, .var [.bs (U_ a0.fC) 4 (row G_ (eC U_ G_) a0.fC)])])) (fun y14 S hS h => rg) fun w20 => rz fun h => ?_; cbv; revert h; refine fk ?_ ?_ <;> intro h <;> cbv
   ·exact dy
   exact dm
  exact dy
 intro y3 h e12 s13 q11 hne; rcases y3 with y3k0 | y3m0
 ·replace h := h; obtain ⟨rfl, q11⟩ := q11; revert h; refine rz fun h => ?_; cbv; injection h with h; subst h; exact ⟨_, q11, lR _, zo, rfl⟩
 ·obtain ⟨rfl, q11⟩ := q11; cbv; refine ⟨_, q11, ?_⟩; cbv; exact df

def Lq42_x2 (a0 : TC) (a1 : Int) : (Int) -> Option ((Int) ⊕ ((Bool) ⊕ (Unit))) := fun x2 =>
 letO x2 fun v1 =>
 br (std.lt v1 (std.ofN (len a0.fI)))
 (req (std.inR v1 (len a0.fI)) <|
 br (std.eq (gd a0.fI (std.toN v1)).fc a1)
 (some (.inr (.inl true)))
 (some (.inl (std.add .i64 v1 1))))
 (some (.inr (.inr ())))
/-- spec.l09Uses -/
def Fq42 (a0 : TC) (a1 : Int) : Option (Bool) :=
  (whileP (σ := Int) (ρ := (Bool) ⊕ (Unit)) (Lq42_x2 a0 a1) 0).bind fun y3 =>
  (match y3 with
 | .inl y3k0 => (
  letO y3k0 fun w17 =>
  some w17)
 | .inr y3m0 =>
  some false)
theorem runq42 (a0 : TC) (a1 : Int) (r : Bool) (h : Fq42 a0 a1 = some r) : Fun prog 167 [.agg [ws a0.fN, .bs (len a0.fS) 5 (row gd (eS) a0.fS), .bs (len a0.fL) 4 (row gd (eL_0) a0.fL), .bs (len a0.fI) 8 (row gd (eI) a0.fI)], .c (wi a1)] [] (.c (.v (.bool r))) [] true := by
 refine ow [] func167 ntmps167 ?_; unfold Fq42 at h; unfold Lq42_x2 at h; generalize hU : @len = U_, hG_ : @gd = G_, hA : std = A, hP : prog = P at *; cbv
 revert h; refine lc (fun x => (sp 21 [(1, .c (wi a1)), (2, .c (.ptr 128 0)), (5, .c (wi x))] [(128, .var [ws a0.fN, .bs (U_ a0.fS) 5 (row G_ (eS) a0.fS), .bs (U_ a0.fL) 4 (row G_ (eL_0) a0.fL), .bs (U_ a0.fI) 8 (row G_ (eI) a0.fI)])])) (fun y e s => (match y with | .inl w => e = .ret /\ s.le (sp 21 [(4, .c (.v (.bool w)))] []) | .inr w0 => (fun (w : Unit) => e = .exit 0 /\ s.le (sp 21 [] [])) w0)) zb ?_ ?_
 ·intro v1 z h K hK hY; replace h := oz h; cbv; revert h; refine fk ?_ ?_ <;> intro h <;> cbv
  ·revert h; refine ra fun c14 h => ?_; revert h; refine fk ?_ ?_ <;> intro h <;> cbv
   ·exact dy
   exact dm
  exact dy
 intro y3 h e12 s13 q11 hne; rcases y3 with y3k0 | y3m0
 ·replace h := h; obtain ⟨rfl, q11⟩ := q11; revert h; refine rz fun h => ?_; cbv; injection h with h; subst h; exact ⟨_, q11, lR _, zo, rfl⟩
 ·obtain ⟨rfl, q11⟩ := q11; cbv; refine ⟨_, q11, ?_⟩; cbv; exact df

def Lq46_x2 (a0 : TL) (a1 : Int) : (Int) -> Option ((Int) ⊕ ((Bool) ⊕ (Unit))) := fun x2 =>
 letO x2 fun v1 =>
 br (std.lt v1 (std.ofN (len a0.fC)))
 (req (std.inR v1 (len a0.fC)) <|
 (Fq42 (gd a0.fC (std.toN v1)) a1).bind fun y15 =>
 br y15
 (some (.inr (.inl true)))
 (some (.inl (std.add .i64 v1 1))))
 (some (.inr (.inr ())))
/-- spec.l13Placed -/
def Fq46 (a0 : TL) (a1 : Int) : Option (Bool) :=
  (whileP (σ := Int) (ρ := (Bool) ⊕ (Unit)) (Lq46_x2 a0 a1) 0).bind fun y3 =>
  (match y3 with
 | .inl y3k0 => (
  letO y3k0 fun w19 =>
  some w19)
 | .inr y3m0 =>
  some false)
theorem runq46 (a0 : TL) (a1 : Int) (r : Bool) (h : Fq46 a0 a1 = some r) : Fun prog 159 [.agg [.bs (len a0.fC) 4 (row gd (eC len gd) a0.fC)], .c (wi a1)] [] (.c (.v (.bool r))) [] true := by
 refine ow [] func159 ntmps159 ?_; unfold Fq46 at h; unfold Lq46_x2 at h; have hfq42 := @runq42; generalize hU : @len = U_, hG_ : @gd = G_, hA : std = A, hP : prog = P at *; cbv
 revert h; refine lc (fun x => (sp 20 [(1, .c (wi a1)), (2, .c (.ptr 128 0)), (5, .c (wi x))] [(128, .var [.bs (U_ a0.fC) 4 (row G_ (eC U_ G_) a0.fC)])])) (fun y e s => (match y with | .inl w => e = .ret /\ s.le (sp 20 [(4, .c (.v (.bool w)))] []) | .inr w0 => (fun (w : Unit) => e = .exit 0 /\ s.le (sp 20 [] [])) w0)) zb ?_ ?_
 ·intro v1 z h K hK hY; replace h := oz h; cbv; revert h; refine fk ?_ ?_ <;> intro h <;> cbv
  ·revert h; refine ra fun c14 h => ?_; revert h; refine rk0 (hfq42 _ _) fun y15 h => ?_; cbv; revert h; refine fk ?_ ?_ <;> intro h <;> cbv
   ·exact dy
   exact dm
  exact dy
 intro y3 h e12 s13 q11 hne; rcases y3 with y3k0 | y3m0
 ·replace h := h; obtain ⟨rfl, q11⟩ := q11; revert h; refine rz fun h => ?_; cbv; injection h with h; subst h; exact ⟨_, q11, lR _, zo, rfl⟩
 ·obtain ⟨rfl, q11⟩ := q11; cbv; refine ⟨_, q11, ?_⟩; cbv; exact df

/-- spec.l13CellCode -/
def Fq88 (a0 : TL) (a1 : TE) : Option (Int) :=
  ((
  br (std.eq a1.fk_ 8)
  (br (std.lt (std.ofN (len a0.fC)) a1.fc)
  (some true)
  (br (std.not (std.eq a1.fk_ 8))
  (some (std.le (std.ofN (len a0.fC)) a1.fc))
  (some false)))
  (br (std.not (std.eq a1.fk_ 8))
  (some (std.le (std.ofN (len a0.fC)) a1.fc))
  (some false))
  ) : Option (Bool)).bind fun y1 =>
  letO y1 fun w7 =>
  br w7
  (some 5)
  (((
  br (std.eq a1.fk_ 8)
  (some (std.eq (std.ofN (len a0.fC)) 8))
  (some false)
  ) : Option (Bool)).bind fun y12 =>
  letO y12 fun w18 =>
  br w18
  (some 3)
  (((
  br (std.eq a1.fk_ 8)
  ((Fq35 (TL.mk a0.fC) (-1) a1.fN).bind fun y27 =>
  some y27)
  (some false)
  ) : Option (Bool)).bind fun y20 =>
  letO y20 fun w26 =>
  br w26
  (some 6)
  (((
  br (std.eq a1.fk_ 7)
  ((Fq35 (TL.mk a0.fC) a1.fc a1.fN).bind fun y37 =>
  some y37)
  (some false)
  ) : Option (Bool)).bind fun y30 =>
  letO y30 fun w36 =>
  br w36
  (some 6)
  (((
  br (std.eq a1.fk_ 9)
  (req (std.inR a1.fc (len a0.fC)) <|
  ((
  br (std.eq (std.ofN (len a0.fC)) 1)
  (some true)
  (br (std.lt 0 (std.add .i64 (std.add .i64 (std.ofN (len (gd a0.fC (std.toN a1.fc)).fS)) (std.ofN (len (gd a0.fC (std.toN a1.fc)).fL))) (std.ofN (len (gd a0.fC (std.toN a1.fc)).fI))))
  (some true)
  ((Fq46 (TL.mk a0.fC) a1.fc).bind fun y54 =>
  some y54))
  ) : Option (Bool)).bind fun y47 =>
  letO y47 fun w53 =>
  br w53
  ((some 6).bind fun r58 => some (.inl r58))
  (some (.inr ())))
  (some (.inr ()))
  ) : Option (_ ⊕ Unit)).bind fun z42 => (match z42 with
 | .inl r => some r
 | .inr y40 =>
  some 0)))))
theorem runq88 (a0 : TL) (a1 : TE) (r : Int) (h : Fq88 a0 a1 = some r) : Fun prog 112 [.agg [.bs (len a0.fC) 4 (row gd (eC len gd) a0.fC)], .agg (cE a1)] [] (.c (wi r)) [] true := by
 refine ow [2, 4, 6, 8, 12, 100061] func112 ntmps112 ?_; unfold Fq88 at h; have hfq35 := @runq35; have hfq46 := @runq46; generalize hU : @len = U_, hG_ : @gd = G_, hA : std = A, hP : prog = P at *; cbv
 revert h; refine cu (fun y1 => (sp 93 [(2, .c (.ptr 128 0)), (3, .c (.ptr 192 0)), (5, .c (wi (A.ofN (U_ a0.fC)))), (10, .c (.v (.bool y1)))] [(128, .var [.bs (U_ a0.fC) 4 (row G_ (eC U_ G_) a0.fC)]), (192, .var (cE a1))])) (fun y1 S hS h => rg) fun w7 => rz fun h => ?_
 cbv; revert h; refine fk ?_ ?_ <;> intro h <;> cbv
 ·exact df
 revert h; refine cu (fun y12 => (sp 93 [(2, .c (.ptr 128 0)), (3, .c (.ptr 192 0)), (5, .c (wi (A.ofN (U_ a0.fC)))), (31, .c (.v (.bool y12)))] [(128, .var [.bs (U_ a0.fC) 4 (row G_ (eC U_ G_) a0.fC)]), (192, .var (cE a1))])) (fun y12 S hS h => rg) fun w18 => rz fun h => ?_
 cbv; revert h; refine fk ?_ ?_ <;> intro h <;> cbv
 ·exact df
 revert h; refine cu (fun y20 => (sp 93 [(2, .c (.ptr 128 0)), (3, .c (.ptr 192 0)), (5, .c (wi (A.ofN (U_ a0.fC)))), (39, .c (.v (.bool y20)))] [(128, .var [.bs (U_ a0.fC) 4 (row G_ (eC U_ G_) a0.fC)]), (192, .var (cE a1))])) ?_ fun w26 => rz fun h => ?_
 ·intro y20 S hS h; cbv; revert h; refine fk ?_ ?_ <;> intro h <;> cbv
  ·revert h; refine rk0 (hfq35 _ _ _) fun y27 h => ?_; cbv; exact dn
  exact dn
 cbv; revert h; refine fk ?_ ?_ <;> intro h <;> cbv
 ·exact df
 revert h; refine cu (fun y30 => (sp 93 [(2, .c (.ptr 128 0)), (3, .c (.ptr 192 0)), (5, .c (wi (A.ofN (U_ a0.fC)))), (49, .c (.v (.bool y30)))] [(128, .var [.bs (U_ a0.fC) 4 (row G_ (eC U_ G_) a0.fC)]), (192, .var (cE a1))])) ?_ fun w36 => rz fun h => ?_
 ·intro y30 S hS h; cbv; revert h; refine fk ?_ ?_ <;> intro h <;> cbv
  ·revert h; refine rk0 (hfq35 _ _ _) fun y37 h => ?_; cbv; exact dn
  exact dn
 cbv; revert h; refine fk ?_ ?_ <;> intro h <;> cbv
 ·exact df
 obtain ⟨z42, hy41, hz43⟩ := ob_ h; obtain ⟨S, hS⟩ : ∃ S, S = (match z42 with | .inl _ => none | .inr y40 => some (sp 93 [] [])) := ⟨_, rfl⟩; refine ⟨S, ?_, ?_⟩
 ·have h := hy41; clear hy41; cbv; revert h; refine fk ?_ ?_ <;> intro h <;> cbv
  ·revert h; refine ra fun c46 h => ?_; revert h; refine cu (fun y47 => (sp 93 [(92, .c (.v (.bool y47)))] [])) ?_ fun w53 => rz fun h => ?_
   ·intro y47 S hS h; cbv; revert h; refine fk ?_ ?_ <;> intro h <;> cbv
    ·exact dn
    revert h; refine fk ?_ ?_ <;> intro h <;> cbv
    ·exact dn
    revert h; refine rk0 (hfq46 _ _) fun y54 h => ?_; cbv; exact dn
   cbv; revert h; refine fk ?_ ?_ <;> intro h <;> cbv
   ·obtain ⟨r58, h59, he60⟩ := ob_ h; injection he60 with he60; subst he60; injection hz43 with hz43; subst hz43; have h := h59; exact df
   exact dn
  exact dn
 ·clear hy41; subst hS; rcases z42 with _ | y40
  ·trivial
  ·have h := hz43; clear hz43; cbv; exact df

/-- spec.l13Counts -/
def Fq125 (a0 : TC) (a1 : Int) : Option (Int × Int) :=
  ((
  br (std.eq a1 1)
  (some true)
  (some (std.eq a1 2))
  ) : Option (Bool)).bind fun y1 =>
  letO y1 fun w7 =>
  ((
  br w7
  ((some (std.ofN (len a0.fS), (24 : Int))).bind fun r15 => some (.inl r15))
  (((
  br (std.eq a1 3)
  (some true)
  (some (std.eq a1 4))
  ) : Option (Bool)).bind fun y18 =>
  letO y18 fun w24 =>
  ((
  br w24
  (((some (std.ofN (len a0.fL), (8 : Int))).bind fun r32 => some (.inl r32)).bind fun r35 => some (.inl r35))
  (some (.inr ()))
  ) : Option (_ ⊕ Unit)).bind fun z28 => (match z28 with
 | .inl r => some r
 | .inr y26 =>
  some (.inr ())))
  ) : Option (_ ⊕ Unit)).bind fun z11 => (match z11 with
 | .inl r => some r
 | .inr y9 =>
  some (std.ofN (len a0.fI), (8 : Int)))
theorem runq125 (a0 : TC) (a1 : Int) (r : Int × Int) (h : Fq125 a0 a1 = some r) : Fun prog 113 [.agg [ws a0.fN, .bs (len a0.fS) 5 (row gd (eS) a0.fS), .bs (len a0.fL) 4 (row gd (eL_0) a0.fL), .bs (len a0.fI) 8 (row gd (eI) a0.fI)], .c (wi a1)] [] (.tup [.c (wi r.1), .c (wi r.2)]) [] true := by
 refine ow [100007, 100013] func113 ntmps113 ?_ (hv := (fun _ => ⟨(by simp [AV.flat, AV.flat1, AC.flat]), tv⟩)); unfold Fq125 at h; generalize hU : @len = U_, hG_ : @gd = G_, hA : std = A, hP : prog = P at *; cbv
 revert h; refine cu (fun y1 => some (sp 22 [(2, .c (.ptr 128 0)), (6, .c (wi a1)), (7, .c (.v (.bool y1)))] [(128, .var [ws a0.fN, .bs (U_ a0.fS) 5 (row G_ (eS) a0.fS), .bs (U_ a0.fL) 4 (row G_ (eL_0) a0.fL), .bs (U_ a0.fI) 8 (row G_ (eI) a0.fI)])])) (fun y1 S hS h => rg) fun w7 => rz fun h => ?_; cbv
 obtain ⟨z11, hy10, hz12⟩ := ob_ h; obtain ⟨S, hS⟩ : ∃ S, S = (match z11 with | .inl _ => none | .inr y9 => some (sp 22 [(2, .c (.ptr 128 0))] [(128, .var [ws a0.fN, .bs (U_ a0.fS) 5 (row G_ (eS) a0.fS), .bs (U_ a0.fL) 4 (row G_ (eL_0) a0.fL), .bs (U_ a0.fI) 8 (row G_ (eI) a0.fI)])])) := ⟨_, rfl⟩; refine ⟨S, ?_, ?_⟩
 ·have h := hy10; clear hy10; cbv; revert h; refine fk ?_ ?_ <;> intro h <;> cbv
  ·obtain ⟨r15, h16, he17⟩ := ob_ h; injection he17 with he17; subst he17; injection hz12 with hz12; subst hz12; have h := h16; exact df
  revert h; refine cu (fun y18 => some (sp 22 [(2, .c (.ptr 128 0)), (13, .c (.v (.bool y18)))] [(128, .var [ws a0.fN, .bs (U_ a0.fS) 5 (row G_ (eS) a0.fS), .bs (U_ a0.fL) 4 (row G_ (eL_0) a0.fL), .bs (U_ a0.fI) 8 (row G_ (eI) a0.fI)])])) (fun y18 S hS h => rg) fun w24 => rz fun h => ?_; cbv
  obtain ⟨z28, hy27, hz29⟩ := ob_ h; obtain ⟨S, hS⟩ : ∃ S, S = (match z28 with | .inl _ => none | .inr y26 => some (sp 22 [(2, .c (.ptr 128 0))] [(128, .var [ws a0.fN, .bs (U_ a0.fS) 5 (row G_ (eS) a0.fS), .bs (U_ a0.fL) 4 (row G_ (eL_0) a0.fL), .bs (U_ a0.fI) 8 (row G_ (eI) a0.fI)])])) := ⟨_, rfl⟩; refine ⟨S, ?_, ?_⟩
  ·have h := hy27; clear hy27; cbv; revert h; refine fk ?_ ?_ <;> intro h <;> cbv
   ·obtain ⟨r35, h36, he37⟩ := ob_ h; injection he37 with he37; subst he37; injection hz29 with hz29; subst hz29; have h := h36; obtain ⟨r32, h33, he34⟩ := ob_ h; injection he34 with he34; subst he34; injection hz12 with hz12; subst hz12; have h := h33; exact df
   exact dn
  ·clear hy27; subst hS; rcases z28 with _ | y26
   ·trivial
   ·have h := hz29; clear hz29; cbv; exact dn
 ·clear hy10; subst hS; rcases z11 with _ | y9
  ·trivial
  ·have h := hz12; clear hz12; cbv; exact df
set_option maxHeartbeats 40000000
/-- spec.l13Code -/
def Fq37 (a0 : TL) (a1 : TE) : Option (Int) :=
 ((
 (Fq9 (TL.mk a0.fC)).bind fun y8 =>
 br (!(y8))
 (some true)
 ((Fq102 a1).bind fun y10 =>
 some (!(y10)))
 ) : Option (Bool)).bind fun y1 =>
 letO y1 fun w7 =>
 br w7
 (some 1)
 (br (std.le 7 a1.fk_)
 ((Fq88 (TL.mk a0.fC) a1).bind fun y13 =>
 some y13)
 (br (std.le (std.ofN (len a0.fC)) a1.fc)
 (some 5)
 (req (std.inR a1.fc (len a0.fC)) <|
 (Fq125 (gd a0.fC (std.toN a1.fc)) a1.fk_).bind fun y16 =>
 ((
 br (std.eq a1.fk_ 2)
 (some true)
 (br (std.eq a1.fk_ 4)
 (some true)
 (some (std.eq a1.fk_ 6)))
 ) : Option (Bool)).bind fun y18 =>
 letO y18 fun w24 =>
 ((
 br w24
 (some (std.le y16.1 a1.fx))
 (some false)
 ) : Option (Bool)).bind fun y27 =>
 letO y27 fun w33 =>
 br w33
 (some 5)
 (br w24
 (some 0)
 (br (std.lt y16.1 a1.fx)
 (some 2)
 (br (std.eq y16.1 y16.2)
 (some 3)
 (((
 br (std.eq a1.fk_ 5)
 (some (std.le a1.fc a1.fi_.fc))
 (some false)
 ) : Option (Bool)).bind fun y35 =>
 letO y35 fun w41 =>
 br w41
 (some 6)
 (some 0))))))))
theorem runq37 (a0 : TL) (a1 : TE) (r : Int) (h : Fq37 a0 a1 = some r) : Fun prog 53 [.agg [.bs (len a0.fC) 4 (row gd (eC len gd) a0.fC)], .agg (cE a1)] [] (.c (wi r)) [] true := by
 refine ow [1, 8, 9, 17] func53 ntmps53 ?_; unfold Fq37 at h; have hfq102 := @runq102; have hfq9 := @runq9; have hfq88 := @runq88; have hfq125 := @runq125; generalize hU : @len = U_, hG_ : @gd = G_, hA : std = A, hP : prog = P at *; cbv
 revert h; refine cu (fun y1 => (sp 84 [(2, .c (.ptr 128 0)), (3, .c (.ptr 192 0)), (15, .c (.v (.bool y1)))] [(128, .var [.bs (U_ a0.fC) 4 (row G_ (eC U_ G_) a0.fC)]), (192, .var (cE a1))])) ?_ fun w7 => rz fun h => ?_
 ·intro y1 S hS h; cbv; revert h; refine rk0 (hfq9 _) fun y8 h => ?_; cbv; revert h; refine fk ?_ ?_ <;> intro h <;> cbv
  ·exact dn
  revert h; refine rk0 (hfq102 _) fun y10 h => ?_; cbv; exact dn
 cbv; revert h; refine fk ?_ ?_ <;> intro h <;> cbv
 ·exact df
 revert h; refine fk ?_ ?_ <;> intro h <;> cbv
 ·revert h; refine rk0 (hfq88 _ _) fun y13 h => ?_; cbv; exact df
 revert h; refine fk ?_ ?_ <;> intro h <;> cbv
 ·exact df
 revert h; refine ra fun c15 h => ?_; revert h; refine rk0 (hfq125 _ _) fun y16 h => ?_; cbv
 revert h; refine cu (fun y18 => (sp 84 [(3, .c (.ptr 192 0)), (5, .c (wi y16.1)), (6, .c (wi y16.2)), (7, .c (.v (.bool y18)))] [(192, .var (cE a1))])) (fun y18 S hS h => rg) fun w24 => rz fun h => ?_
 cbv
 revert h; refine cu (fun y27 => (sp 84 [(3, .c (.ptr 192 0)), (5, .c (wi y16.1)), (6, .c (wi y16.2)), (7, .c (.v (.bool w24))), (53, .c (.v (.bool y27)))] [(192, .var (cE a1))])) (fun y27 S hS h => rg) fun w33 => rz fun h => ?_
 cbv; revert h; refine fk ?_ ?_ <;> intro h <;> cbv
 ·exact df
 revert h; refine fk ?_ ?_ <;> intro h <;> cbv
 ·exact df
 revert h; refine fk ?_ ?_ <;> intro h <;> cbv
 ·exact df
 revert h; refine fk ?_ ?_ <;> intro h <;> cbv
 ·exact df
 revert h; refine cu (fun y35 => (sp 84 [(72, .c (.v (.bool y35)))] [])) (fun y35 S hS h => rg) fun w41 => rz fun h => ?_; cbv; revert h; refine fk ?_ ?_ <;> intro h <;> cbv
 ·exact df
 exact df

/-- spec.l09CopyCell -/
def Fq104 (a0 : TC) : Option (TC) :=
 letO ([] : List TS) fun l1 =>
 req (std.room (std.nadd (len l1) (len a0.fS)) 40) <|
 letO (l1 ++ a0.fS) fun l3 =>
 letO ([] : List TB) fun l6 =>
 req (std.room (std.nadd (len l6) (len a0.fL)) 40) <|
 letO (l6 ++ a0.fL) fun l8 =>
 letO ([] : List TI) fun l11 =>
 req (std.room (std.nadd (len l11) (len a0.fI)) 64) <|
 letO (l11 ++ a0.fI) fun l13 =>
 some (TC.mk a0.fN l3 l8 l13)
theorem runq104 (a0 : TC) (r : TC) (h : Fq104 a0 = some r) : Fun prog 115 [.agg [ws a0.fN, .bs (len a0.fS) 5 (row gd (eS) a0.fS), .bs (len a0.fL) 4 (row gd (eL_0) a0.fL), .bs (len a0.fI) 8 (row gd (eI) a0.fI)]] [] (.agg [ws r.fN, .os 64000 0 (len r.fS), .os 64002 0 (len r.fL), .os 64004 0 (len r.fI)]) [(64000, .arr .rw [] (len r.fS) 5 (row gd (eS) r.fS)), (64002, .arr .rw [] (len r.fL) 4 (row gd (eL_0) r.fL)), (64004, .arr .rw [] (len r.fI) 8 (row gd (eI) r.fI))] true := by
 refine ow [] func115 ntmps115 ?_ (hv := (fun _ => ⟨(by simp [AV.flat, AV.flat1, AC.flat]), ⟨fun i _ j _ => val_flat (vl_encShape _ _), fun i _ j _ => val_flat (vl_encLabel _ _), fun i _ j _ => val_flat (vl_encInstance _ _), tv⟩⟩)); unfold Fq104 at h; generalize hU : @len = U_, hG_ : @gd = G_, hA : std = A, hP : prog = P at *; cbv
 revert h; refine rl fun l1 hl1 h => ?_; have e2 : 0 = U_ l1 := by subst hl1 hU; rfl
 refine ⟨_, (co e2), _, row G_ (eS) l1, e2, wO ?_, ?_⟩
 ·intro i hi j hj; rw [<- e2] at hi; subst hl1; subst hG_; omega
 cbv; revert h; refine rq fun c5 => rl fun l3 hl3 h => ?_; have e4 := nl hA hU hl3; refine ⟨c5, _, (co e4), _, row G_ (eS) l3, e4, wO ?_, ?_⟩
 ·subst hG_ hU hA; exact app_bs (pl_encShape) hl3 (Nat.le_refl _)
 cbv; revert h; refine rl fun l6 hl6 h => ?_; have e7 : 0 = U_ l6 := by subst hl6 hU; rfl
 refine ⟨_, (co e7), _, row G_ (eL_0) l6, e7, wO ?_, ?_⟩
 ·intro i hi j hj; rw [<- e7] at hi; subst hl6; subst hG_; omega
 cbv; revert h; refine rq fun c10 => rl fun l8 hl8 h => ?_; have e9 := nl hA hU hl8; refine ⟨c10, _, (co e9), _, row G_ (eL_0) l8, e9, wO ?_, ?_⟩
 ·subst hG_ hU hA; exact app_bs (pl_encLabel) hl8 (Nat.le_refl _)
 cbv; revert h; refine rl fun l11 hl11 h => ?_; have e12 : 0 = U_ l11 := by subst hl11 hU; rfl
 refine ⟨_, (co e12), _, row G_ (eI) l11, e12, wO ?_, ?_⟩
 ·intro i hi j hj; rw [<- e12] at hi; subst hl11; subst hG_; omega
 cbv; revert h; refine rq fun c15 => rl fun l13 hl13 h => ?_; have e14 := nl hA hU hl13; refine ⟨c15, _, (co e14), _, row G_ (eI) l13, e14, wO ?_, ?_⟩
 ·subst hG_ hU hA; exact app_bs (pl_encInstance) hl13 (Nat.le_refl _)
 cbv; injection h with h; subst h; exact ⟨_, St.le_trans (le_ren 320 64000 (by decide) rfl) (St.le_trans (le_ren 576 64002 (by decide) rfl) ((le_ren 832 64004 (by decide) rfl))), lR _, zo, rfl⟩

def Lq7_x3 (a0 : TL) : (Int × (List TC)) -> Option ((Int × (List TC)) ⊕ (((List TC)))) := fun x3 =>
 letO x3.1 fun v1 =>
 letO x3.2 fun v2 =>
 br (std.lt v1 (std.ofN (len a0.fC)))
 (((
 req (std.inR v1 (len a0.fC)) <|
 (Fq104 (gd a0.fC (std.toN v1))).bind fun y23 =>
 letO ([y23] : List TC) fun l25 =>
 req (std.room (std.nadd (len v2) (len l25)) 88) <|
 letO (v2 ++ l25) fun l27 =>
 some l27
 ) : Option ((List TC))).bind fun y15 =>
 letO y15 fun w21 =>
 some (.inl (std.add .i64 v1 1, w21)))
 (some (.inr v2))
/-- spec.l09Copy -/
def Fq7 (a0 : TL) : Option (TL) :=
 (whileP (σ := Int × (List TC)) (ρ := ((List TC))) (Lq7_x3 a0) (0, ([] : List TC))).bind fun y4 =>
 letO y4 fun y4k0 =>
 letO y4k0 fun w31 =>
 some (TL.mk w31)
theorem runq7 (a0 : TL) (r : TL) (h : Fq7 a0 = some r) : Fun prog 55 [.agg [.bs (len a0.fC) 4 (row gd (eC len gd) a0.fC)]] [] (.agg [.os 64000 0 (len r.fC)]) [(64000, .arr .rw [] (len r.fC) 4 (row gd (oC len gd) r.fC))] true := by
 refine ow [5] func55 ntmps55 ?_ (hv := (fun _ => ⟨(by simp [AV.flat, AV.flat1, AC.flat]), ⟨fun i _ j _ => fl_oncCell _ _, tv⟩⟩)); unfold Fq7 at h; unfold Lq7_x3 at h; have hfq104 := @runq104; generalize hU : @len = U_, hG_ : @gd = G_, hA : std = A, hP : prog = P at *; cbv
 revert h; refine ln (.exit 0) (fun x => (sp 25 [(1, .c (.ptr 64 0)), (2, .c (.ptr 128 0)), (3, .c (.ptr 192 0)), (4, .c (wi x.1))] [(64, .var [.bs (U_ a0.fC) 4 (row G_ (eC U_ G_) a0.fC)]), (128, .var [.v (.slice none 0 0)]), (192, .var [.os 1408 0 (U_ x.2)]), (1408, .arr .rw [] (U_ x.2) 4 (row G_ (oC U_ G_) x.2))])) (fun w => (sp 25 [(2, .c (.ptr 128 0)), (3, .c (.ptr 192 0))] [(128, .var [.v (.slice none 0 0)]), (192, .var [.os 1408 0 (U_ w)]), (1408, .arr .rw [] (U_ w) 4 (row G_ (oC U_ G_) w))])) ?_ ?_ ?_
 ·show St.le _ _; refine St.le_trans (le_nilV 192 0 1408 4 (row G_ (oC U_ G_) ([] : List TC)) (by decide) (by decide) rfl rfl) ?_; subst hU; exact zb
 ·rintro ⟨v1, v2⟩ z h K hK hY; replace h := oz (oz h); dsimp only at h; cbv; revert h; refine fk ?_ ?_ <;> intro h <;> cbv
  ·revert h; refine cu (fun y15 => (sp 25 [(1, .c (.ptr 64 0)), (2, .c (.ptr 128 0)), (3, .c (.ptr 192 0)), (4, .c (wi v1))] [(64, .var [.bs (U_ a0.fC) 4 (row G_ (eC U_ G_) a0.fC)]), (128, .var [.v (.slice none 0 0)]), (192, .var [.os 1408 0 (U_ y15)]), (1408, .arr .rw [] (U_ y15) 4 (row G_ (oC U_ G_) y15))])) ?_ fun w21 => rz fun h => ?_
   ·intro y15 S hS h; cbv; revert h; refine ra fun c22 h => ?_; revert h; refine rk [] [(64000, 1280), (64002, 1282), (64004, 1284)] (hfq104 _) (fun _ => zf) fun y23 h => ⟨_, rfl, _, _, rfl, fun _ _ _ _ => .refl _, _, _, rfl, fun _ _ _ _ => .refl _, _, _, rfl, fun _ _ _ _ => .refl _, ?_⟩
    cbv; revert h; refine rl fun l25 hl25 h => ?_; have e26 : 1 = U_ l25 := by subst hl25 hU; rfl
    refine ⟨_, (co e26), _, (pC (fun _ _ => AC.junk) 0 [ws y23.fN, .os 1280 0 (U_ y23.fS), .os 1282 0 (U_ y23.fL), .os 1284 0 (U_ y23.fI)]), e26, wO ?_, ?_⟩
    ·refine patch_one (by subst hl25 hU; rfl) ?_; exact zr
    cbv; revert h; refine rq fun c29 => rl fun l27 hl27 h => ?_; have e28 := nl hA hU hl27; refine ⟨c29, _, (co e28), _, (pC (row G_ (oC U_ G_) v2) (U_ v2) [ws y23.fN, .os 1280 0 (U_ y23.fS), .os 1282 0 (U_ y23.fL), .os 1284 0 (U_ y23.fI)]), e28, wO ?_, ?_⟩
    ·subst hU hA; refine patch_joinG (by first | (rw [hl27]; simp [len]; done) | (rw [hl27]; simp [len]; omega) | (subst_vars; simp [len])) ?_; exact zr
    cbv; rw [hl25] at hl27; injection h with h; subst h; subst hS; show St.le _ _; refine St.le_trans (le_foldP 1408 1 1280 rfl rfl rfl (by decide) (by subst hU; exact app_lt hl27) (by decide) rfl (fun _ _ => rC _ _)) ?_; refine St.le_trans (le_foldP 1408 2 1282 rfl rfl rfl (by decide) (by subst hU; exact app_lt hl27) (by decide) rfl (fun _ _ => rC _ _)) ?_
    refine St.le_trans (le_foldP 1408 3 1284 rfl rfl rfl (by decide) (by subst hU; exact app_lt hl27) (by decide) rfl (fun _ _ => rC _ _)) ?_; exact lsp rfl zl ⟨rfl, rfl, rfl, oP (fun _ _ => rC _ _) (by subst hG_ hU hA; exact patch_app hl27 (Nat.le_refl _) zr), tv⟩ rfl
   cbv; exact dm
  exact dx
 intro w31 h s q12; replace h := oz (oz h); cbv; refine ⟨_, q12, ?_⟩; cbv; injection h with h; subst h; exact ⟨_, le_ren 1408 64000 (by decide) rfl, lR _, zo, rfl⟩

def Lq18_x25 (a0 : TL) (a1 : Int) (a2 : Int) (v1 : Int) (v2 : List TC) : (Int × (List TI)) -> Option ((Int × (List TI)) ⊕ (((List TC)))) := fun x25 =>
 letO x25.1 fun v23 =>
 letO x25.2 fun v24 =>
 ((
 some (std.lt v23 (std.ofN (len (gd v2 (std.nadd 0 (std.toN v1))).fI)))
 ) : Option (Bool)).bind fun y37 =>
 letO y37 fun w43 =>
 br w43
 (((
 req (std.inR v23 (len (gd v2 (std.nadd 0 (std.toN v1))).fI)) <|
 some (std.le a1 (gd v24 (std.nadd 0 (std.toN v23))).fc)
 ) : Option (Bool)).bind fun y44 =>
 letO y44 fun w50 =>
 ((
 br w50
 (((
 req (std.inR v23 (len (gd v2 (std.nadd 0 (std.toN v1))).fI)) <|
 req (std.inR v23 (len (gd v2 (std.nadd 0 (std.toN v1))).fI)) <|
 req (len (gd v2 (std.nadd 0 (std.toN v1))).fI = len v24) <|
 letO (List.set v24 (std.nadd 0 (std.toN v23)) (TI.mk (std.add .i64 (gd v24 (std.nadd 0 (std.toN v23))).fc a2) (gd v24 (std.nadd 0 (std.toN v23))).fp (gd v24 (std.nadd 0 (std.toN v23))).fK (gd v24 (std.nadd 0 (std.toN v23))).fR (gd v24 (std.nadd 0 (std.toN v23))).fu (gd v24 (std.nadd 0 (std.toN v23))).fv)) fun l68 =>
 some l68
 ) : Option ((List TI))).bind fun y59 =>
 letO y59 fun w65 =>
 some w65)
 (some v24)
 ) : Option ((List TI))).bind fun y52 =>
 letO y52 fun w58 =>
 some (.inl (std.add .i64 v23 1, w58)))
 (req (len (gd v2 (std.nadd 0 (std.toN v1))).fI = len v24) <|
 req (len a0.fC = len v2) <|
 letO (List.set v2 (std.nadd 0 (std.toN v1)) (TC.mk (gd v2 (std.nadd 0 (std.toN v1))).fN (gd v2 (std.nadd 0 (std.toN v1))).fS (gd v2 (std.nadd 0 (std.toN v1))).fL v24)) fun l72 =>
 some (.inr l72))
def Lq18_x3 (a0 : TL) (a1 : Int) (a2 : Int) : (Int × (List TC)) -> Option ((Int × (List TC)) ⊕ (((List TC)))) := fun x3 =>
 letO x3.1 fun v1 =>
 letO x3.2 fun v2 =>
 br (std.lt v1 (std.ofN (len a0.fC)))
 (((
 req (std.inR v1 (len a0.fC)) <|
 some ()
 ) : Option (Unit)).bind fun y15 =>
 req (std.inR v1 (len a0.fC)) <|
 (whileP (σ := Int × (List TI)) (ρ := ((List TC))) (Lq18_x25 a0 a1 a2 v1 v2) (0, (gd v2 (std.nadd 0 (std.toN v1))).fI)).bind fun y26 =>
 letO y26 fun y26k0 =>
 letO y26k0 fun w75 =>
 some (.inl (std.add .i64 v1 1, w75)))
 (some (.inr v2))
/-- spec.l13Shift -/
def Fq18 (a0 : TL) (a1 : Int) (a2 : Int) : Option (List TC) :=
 (whileP (σ := Int × (List TC)) (ρ := ((List TC))) (Lq18_x3 a0 a1 a2) (0, a0.fC)).bind fun y4 =>
 letO y4 fun y4k0 =>
 letO y4k0 fun w77 =>
 req (len a0.fC = len w77) <|
 some w77
theorem runq18 (a0 : TL) (a1 : Int) (a2 : Int) (r : List TC) (h : Fq18 a0 a1 a2 = some r) : Fun prog 114 [.agg [.os 5 0 (len a0.fC)], .c (wi a1), .c (wi a2)] [(5, .arr .rw [] (len a0.fC) 4 (row gd (oC len gd) a0.fC))] (.tup []) [(5, .arr .rw [] (len r) 4 (row gd (oC len gd) r))] true := by
 refine ow [4, 6, 8, 9, 100034] func114 ntmps114 ?_ (hw := ⟨fun i _ j _ k hk => (noref (rC _ _) hk).elim, tv⟩) (hv := (fun _ => ⟨(by simp [AV.flat, AV.flat1, AC.flat]), ⟨fun i _ j _ => fl_oncCell _ _, tv⟩⟩)); unfold Fq18 at h; unfold Lq18_x3 at h; unfold Lq18_x25 at h
 generalize hU : @len = U_, hG_ : @gd = G_, hA : std = A, hP : prog = P at *; cbv
 revert h; refine ln (.exit 0) (fun x => (sp 46 [(1, .c (wi a1)), (2, .c (wi a2)), (3, .c (.ptr 192 0)), (6, .c (wi x.1))] [(192, .var [.os 5 0 (U_ a0.fC)]), (5, .arr .rw [] (U_ a0.fC) 4 (row G_ (oC U_ G_) x.2))])) (fun w => (sp 46 [] [(5, .arr .rw [] (U_ a0.fC) 4 (row G_ (oC U_ G_) w))])) zb ?_ ?_
 ·rintro ⟨v1, v2⟩ z h K hK hY; replace h := oz (oz h); dsimp only at h; cbv; revert h; refine fk ?_ ?_ <;> intro h <;> cbv
  ·revert h; refine cu (fun y15 => (sp 46 [(1, .c (wi a1)), (2, .c (wi a2)), (3, .c (.ptr 192 0)), (6, .c (wi v1)), (7, .c (.os 1346 0 (U_ (G_ v2 (A.nadd 0 (A.toN v1))).fI)))] [(192, .var [.os 5 0 (U_ a0.fC)]), (1346, .arr .rw [] (U_ (G_ v2 (A.nadd 0 (A.toN v1))).fI) 8 (row G_ (eI) (G_ v2 (A.nadd 0 (A.toN v1))).fI)), (5, .arr .rw [1346] (U_ a0.fC) 4 (pC (row G_ (oC U_ G_) v2) (A.nadd 0 (A.toN v1)) [ws (G_ v2 (A.nadd 0 (A.toN v1))).fN, .ow (U_ (G_ v2 (A.nadd 0 (A.toN v1))).fS) 5 (row G_ (eS) (G_ v2 (A.nadd 0 (A.toN v1))).fS), .ow (U_ (G_ v2 (A.nadd 0 (A.toN v1))).fL) 4 (row G_ (eL_0) (G_ v2 (A.nadd 0 (A.toN v1))).fL), .os 1346 0 (U_ (G_ v2 (A.nadd 0 (A.toN v1))).fI)]))])) ?_ fun y15 h => ?_
   ·intro y15 S hS h; cbv; revert h; refine ra fun c21 h => ?_; refine ai c21 ?_
    refine ⟨_, rfl, _, (pC (row G_ (oC U_ G_) v2) (A.nadd 0 (A.toN v1)) [ws (G_ v2 (A.nadd 0 (A.toN v1))).fN, .ow (U_ (G_ v2 (A.nadd 0 (A.toN v1))).fS) 5 (row G_ (eS) (G_ v2 (A.nadd 0 (A.toN v1))).fS), .ow (U_ (G_ v2 (A.nadd 0 (A.toN v1))).fL) 4 (row G_ (eL_0) (G_ v2 (A.nadd 0 (A.toN v1))).fL), .os 1346 0 (U_ (G_ v2 (A.nadd 0 (A.toN v1))).fI)]), rfl, wO (patch_of zr), ?_⟩
    refine ⟨_, row G_ (eI) (G_ v2 (A.nadd 0 (A.toN v1))).fI, rfl, wO (fun i _ j _ => plain_cp (pl_encInstance _ _)), ?_⟩; cbv; exact dn
   revert h; refine rq fun c22 h => ?_; cbv
   revert h; refine ln (.exit 2) (fun x => (sp 46 [(1, .c (wi a1)), (2, .c (wi a2)), (3, .c (.ptr 192 0)), (6, .c (wi v1)), (7, .c (.os 1346 0 (U_ (G_ v2 (A.nadd 0 (A.toN v1))).fI))), (8, .c (wi x.1))] [(192, .var [.os 5 0 (U_ a0.fC)]), (1346, .arr .rw [] (U_ (G_ v2 (A.nadd 0 (A.toN v1))).fI) 8 (row G_ (eI) x.2)), (5, .arr .rw [1346] (U_ a0.fC) 4 (pC (row G_ (oC U_ G_) v2) (A.nadd 0 (A.toN v1)) [ws (G_ v2 (A.nadd 0 (A.toN v1))).fN, .ow (U_ (G_ v2 (A.nadd 0 (A.toN v1))).fS) 5 (row G_ (eS) (G_ v2 (A.nadd 0 (A.toN v1))).fS), .ow (U_ (G_ v2 (A.nadd 0 (A.toN v1))).fL) 4 (row G_ (eL_0) (G_ v2 (A.nadd 0 (A.toN v1))).fL), .os 1346 0 (U_ (G_ v2 (A.nadd 0 (A.toN v1))).fI)]))])) (fun w => (sp 46 [(1, .c (wi a1)), (2, .c (wi a2)), (3, .c (.ptr 192 0)), (6, .c (wi v1))] [(192, .var [.os 5 0 (U_ a0.fC)]), (5, .arr .rw [] (U_ a0.fC) 4 (row G_ (oC U_ G_) w))])) zb ?_ ?_
   ·rintro ⟨v23, v24⟩ z h K hK hY; replace h := oz (oz h); dsimp only at h; cbv
    revert h; refine cu (fun y37 => (sp 46 [(1, .c (wi a1)), (2, .c (wi a2)), (3, .c (.ptr 192 0)), (6, .c (wi v1)), (7, .c (.os 1346 0 (U_ (G_ v2 (A.nadd 0 (A.toN v1))).fI))), (8, .c (wi v23)), (25, .c (.v (.bool y37)))] [(192, .var [.os 5 0 (U_ a0.fC)]), (1346, .arr .rw [] (U_ (G_ v2 (A.nadd 0 (A.toN v1))).fI) 8 (row G_ (eI) v24)), (5, .arr .rw [1346] (U_ a0.fC) 4 (pC (row G_ (oC U_ G_) v2) (A.nadd 0 (A.toN v1)) [ws (G_ v2 (A.nadd 0 (A.toN v1))).fN, .ow (U_ (G_ v2 (A.nadd 0 (A.toN v1))).fS) 5 (row G_ (eS) (G_ v2 (A.nadd 0 (A.toN v1))).fS), .ow (U_ (G_ v2 (A.nadd 0 (A.toN v1))).fL) 4 (row G_ (eL_0) (G_ v2 (A.nadd 0 (A.toN v1))).fL), .os 1346 0 (U_ (G_ v2 (A.nadd 0 (A.toN v1))).fI)]))])) (fun y37 S hS h => rg) fun w43 => rz fun h => ?_
    cbv; revert h; refine fk ?_ ?_ <;> intro h <;> cbv
    ·revert h; refine cu (fun y44 => (sp 46 [(1, .c (wi a1)), (2, .c (wi a2)), (3, .c (.ptr 192 0)), (6, .c (wi v1)), (7, .c (.os 1346 0 (U_ (G_ v2 (A.nadd 0 (A.toN v1))).fI))), (8, .c (wi v23)), (34, .c (.v (.bool y44)))] [(192, .var [.os 5 0 (U_ a0.fC)]), (1346, .arr .rw [] (U_ (G_ v2 (A.nadd 0 (A.toN v1))).fI) 8 (row G_ (eI) v24)), (5, .arr .rw [1346] (U_ a0.fC) 4 (pC (row G_ (oC U_ G_) v2) (A.nadd 0 (A.toN v1)) [ws (G_ v2 (A.nadd 0 (A.toN v1))).fN, .ow (U_ (G_ v2 (A.nadd 0 (A.toN v1))).fS) 5 (row G_ (eS) (G_ v2 (A.nadd 0 (A.toN v1))).fS), .ow (U_ (G_ v2 (A.nadd 0 (A.toN v1))).fL) 4 (row G_ (eL_0) (G_ v2 (A.nadd 0 (A.toN v1))).fL), .os 1346 0 (U_ (G_ v2 (A.nadd 0 (A.toN v1))).fI)]))])) ?_ fun w50 => rz fun h => ?_
     ·intro y44 S hS h; cbv; revert h; refine ra fun c51 h => ?_; refine ai c51 ?_; exact dn
     cbv
     revert h; refine cu (fun y52 => some (sp 46 [(1, .c (wi a1)), (2, .c (wi a2)), (3, .c (.ptr 192 0)), (6, .c (wi v1)), (7, .c (.os 1346 0 (U_ (G_ v2 (A.nadd 0 (A.toN v1))).fI))), (8, .c (wi v23))] [(192, .var [.os 5 0 (U_ a0.fC)]), (1346, .arr .rw [] (U_ (G_ v2 (A.nadd 0 (A.toN v1))).fI) 8 (row G_ (eI) y52)), (5, .arr .rw [1346] (U_ a0.fC) 4 (pC (row G_ (oC U_ G_) v2) (A.nadd 0 (A.toN v1)) [ws (G_ v2 (A.nadd 0 (A.toN v1))).fN, .ow (U_ (G_ v2 (A.nadd 0 (A.toN v1))).fS) 5 (row G_ (eS) (G_ v2 (A.nadd 0 (A.toN v1))).fS), .ow (U_ (G_ v2 (A.nadd 0 (A.toN v1))).fL) 4 (row G_ (eL_0) (G_ v2 (A.nadd 0 (A.toN v1))).fL), .os 1346 0 (U_ (G_ v2 (A.nadd 0 (A.toN v1))).fI)]))])) ?_ fun w58 => rz fun h => ?_
     ·intro y52 S hS h; cbv; revert h; refine fk ?_ ?_ <;> intro h <;> cbv
      ·revert h; refine cu (fun y59 => (sp 46 [(1, .c (wi a1)), (2, .c (wi a2)), (3, .c (.ptr 192 0)), (6, .c (wi v1)), (7, .c (.os 1346 0 (U_ (G_ v2 (A.nadd 0 (A.toN v1))).fI))), (8, .c (wi v23))] [(192, .var [.os 5 0 (U_ a0.fC)]), (1346, .arr .rw [] (U_ (G_ v2 (A.nadd 0 (A.toN v1))).fI) 8 (row G_ (eI) y59)), (5, .arr .rw [1346] (U_ a0.fC) 4 (pC (row G_ (oC U_ G_) v2) (A.nadd 0 (A.toN v1)) [ws (G_ v2 (A.nadd 0 (A.toN v1))).fN, .ow (U_ (G_ v2 (A.nadd 0 (A.toN v1))).fS) 5 (row G_ (eS) (G_ v2 (A.nadd 0 (A.toN v1))).fS), .ow (U_ (G_ v2 (A.nadd 0 (A.toN v1))).fL) 4 (row G_ (eL_0) (G_ v2 (A.nadd 0 (A.toN v1))).fL), .os 1346 0 (U_ (G_ v2 (A.nadd 0 (A.toN v1))).fI)]))])) ?_ fun w65 => rz fun h => ?_
       ·intro y59 S hS h; cbv; revert h; refine ra fun c66 h => ?_; refine ai c66 ?_; revert h; refine ra fun c67 h => ?_; revert h; refine rq fun c69 => rl fun l68 hl68 h => ?_; refine ai c67 ?_; refine ⟨_, rfl, _, row G_ (eI) l68, rfl, wO (us hA hU hG_ hl68 c67 c69), ?_⟩; cbv; exact dn
       cbv; exact dn
      exact dn
     cbv; exact dm
    revert h; refine rq fun c71 => rq fun c73 => rl fun l72 hl72 h => ?_; injection h with h; refine hY _ h.symm _ ?_; refine St.le_trans (le_foldP 5 3 1346 rfl rfl rfl (by decide) (by subst hA; exact ix_ c22) (by decide) rfl (fun _ _ => rC _ _)) ?_
    exact lsp rfl zl ⟨rfl, oP (fun _ _ => rC _ _) (by subst hG_ hU hA; exact patch_set hl72 (ix_ (by rw [<- c73]; exact c22)) zr), tv⟩ rfl
   intro w75 h s q34; replace h := oz (oz h); cbv; refine ⟨_, q34, ?_⟩; cbv; exact dm
  exact dx
 intro w77 h s q12; replace h := oz (oz h); cbv; refine ⟨_, q12, ?_⟩; cbv; revert h; refine rq fun c78 h => ?_; injection h with h; subst h; refine ⟨(sp 46 [] [(5, .arr .rw [] (U_ w77) 4 (row G_ (oC U_ G_) w77))]), ?_, ?_⟩
 ·rw [c78]; exact zb
 ·exact ⟨lR _, zo, rfl⟩

/-- spec.l13Do -/
def Fq48 (a0 : TL) (a1 : TE) : Option (TL) :=
 br (std.eq a1.fk_ 8)
 ((Fq18 a0 a1.fc 1).bind fun y1 =>
 req (len y1 = len a0.fC) <|
 req (std.upTo (std.ofN (len a0.fC)) (len a0.fC)) <|
 req (std.upTo a1.fc (std.toN (std.ofN (len a0.fC)))) <|
 req (std.upTo a1.fc (len a0.fC)) <|
 letO (List.take (std.nsub (std.toN (std.ofN (len a0.fC))) (std.toN a1.fc)) (List.drop (std.nadd 0 (std.toN a1.fc)) y1)) fun l7 =>
 req (std.room (std.nadd (len ([] : List TC)) (std.nsub (std.toN (std.ofN (len a0.fC))) (std.toN a1.fc))) 88) <|
 req (std.nsub (std.toN (std.ofN (len a0.fC))) (std.toN a1.fc) = len l7) <|
 req ((len a0.fC) <= 5000) <|
 letO (([] : List TC) ++ l7) fun l8 =>
 req (std.upTo a1.fc (len a0.fC)) <|
 req (std.upTo 0 (std.toN a1.fc)) <|
 letO (List.take (std.nsub (std.toN a1.fc) (std.toN 0)) (List.drop (std.nadd 0 (std.toN 0)) y1)) fun l16 =>
 req (std.room (std.nadd (len ([] : List TC)) (std.nsub (std.toN a1.fc) (std.toN 0))) 88) <|
 req (std.nsub (std.toN a1.fc) (std.toN 0) = len l16) <|
 req ((std.nadd 0 (std.toN 0)) + (std.nsub (std.toN a1.fc) (std.toN 0)) <= (std.nadd 0 (std.toN a1.fc)) \/ (std.nadd 0 (std.toN a1.fc)) + (std.nsub (std.toN (std.ofN (len a0.fC))) (std.toN a1.fc)) <= (std.nadd 0 (std.toN 0))) <|
 req ((len a0.fC) <= 5000) <|
 letO (([] : List TC) ++ l16) fun l17 =>
 letO ([(TC.mk a1.fN ([] : List TS) ([] : List TB) ([] : List TI))] : List TC) fun l23 =>
 req (std.room (std.nadd (len l17) (len l23)) 88) <|
 letO (l17 ++ l23) fun l25 =>
 req (std.room (std.nadd (len l25) (len l8)) 88) <|
 letO (l25 ++ l8) fun l28 =>
 some (TL.mk l28))
 (br (std.eq a1.fk_ 9)
 (req (std.upTo a1.fc (len a0.fC)) <|
 req (std.upTo 0 (std.toN a1.fc)) <|
 letO (List.take (std.nsub (std.toN a1.fc) (std.toN 0)) (List.drop (std.nadd 0 (std.toN 0)) a0.fC)) fun l35 =>
 req (std.room (std.nadd (len ([] : List TC)) (std.nsub (std.toN a1.fc) (std.toN 0))) 88) <|
 req (std.nsub (std.toN a1.fc) (std.toN 0) = len l35) <|
 req ((len a0.fC) <= 5000) <|
 letO (([] : List TC) ++ l35) fun l36 =>
 req (std.upTo (std.ofN (len a0.fC)) (len a0.fC)) <|
 req (std.upTo (std.add .i64 a1.fc 1) (std.toN (std.ofN (len a0.fC)))) <|
 req (std.upTo (std.add .i64 a1.fc 1) (len a0.fC)) <|
 letO (List.take (std.nsub (std.toN (std.ofN (len a0.fC))) (std.toN (std.add .i64 a1.fc 1))) (List.drop (std.nadd 0 (std.toN (std.add .i64 a1.fc 1))) a0.fC)) fun l44 =>
 req (std.room (std.nadd (len l36) (std.nsub (std.toN (std.ofN (len a0.fC))) (std.toN (std.add .i64 a1.fc 1)))) 88) <|
 req (std.nsub (std.toN (std.ofN (len a0.fC))) (std.toN (std.add .i64 a1.fc 1)) = len l44) <|
 req ((std.nadd 0 (std.toN (std.add .i64 a1.fc 1))) + (std.nsub (std.toN (std.ofN (len a0.fC))) (std.toN (std.add .i64 a1.fc 1))) <= (std.nadd 0 (std.toN 0)) \/ (std.nadd 0 (std.toN 0)) + (std.nsub (std.toN a1.fc) (std.toN 0)) <= (std.nadd 0 (std.toN (std.add .i64 a1.fc 1)))) <|
 req ((len a0.fC) <= 5000) <|
 letO (l36 ++ l44) fun l45 =>
 (Fq18 (TL.mk l45) a1.fc (-1)).bind fun y51 =>
 req (len y51 = len l45) <|
 req (len l45 = len y51) <|
 some (TL.mk y51))
 (req (std.inR a1.fc (len a0.fC)) <|
 ((
 some a1.fk_
 ) : Option (Int)).bind fun y56 =>
 letO y56 fun w62 =>
 req (std.inR a1.fc (len a0.fC)) <|
 ((
 br (std.eq w62 1)
 (((
 letO ([] : List TS) fun l79 =>
 req (std.upTo (std.ofN (len (gd a0.fC (std.nadd 0 (std.toN a1.fc))).fS)) (len (gd a0.fC (std.nadd 0 (std.toN a1.fc))).fS)) <|
 req (std.upTo a1.fx (std.toN (std.ofN (len (gd a0.fC (std.nadd 0 (std.toN a1.fc))).fS)))) <|
 req (std.upTo a1.fx (len (gd a0.fC (std.nadd 0 (std.toN a1.fc))).fS)) <|
 letO (List.take (std.nsub (std.toN (std.ofN (len (gd a0.fC (std.nadd 0 (std.toN a1.fc))).fS))) (std.toN a1.fx)) (List.drop (std.nadd 0 (std.toN a1.fx)) (gd a0.fC (std.nadd 0 (std.toN a1.fc))).fS)) fun l84 =>
 req (std.room (std.nadd (len l79) (std.nsub (std.toN (std.ofN (len (gd a0.fC (std.nadd 0 (std.toN a1.fc))).fS))) (std.toN a1.fx))) 40) <|
 req (std.nsub (std.toN (std.ofN (len (gd a0.fC (std.nadd 0 (std.toN a1.fc))).fS))) (std.toN a1.fx) = len l84) <|
 letO (l79 ++ l84) fun l85 =>
 some (a0.fC, l85)
 ) : Option ((List TC) × (List TS))).bind fun y71 =>
 letO y71.1 fun w77 =>
 letO y71.2 fun w78 =>
 ((
 letO ([] : List TS) fun l96 =>
 req (std.upTo a1.fx (len (gd w77 (std.nadd 0 (std.toN a1.fc))).fS)) <|
 req (std.upTo 0 (std.toN a1.fx)) <|
 letO (List.take (std.nsub (std.toN a1.fx) (std.toN 0)) (List.drop (std.nadd 0 (std.toN 0)) (gd w77 (std.nadd 0 (std.toN a1.fc))).fS)) fun l100 =>
 req (std.room (std.nadd (len l96) (std.nsub (std.toN a1.fx) (std.toN 0))) 40) <|
 req (std.nsub (std.toN a1.fx) (std.toN 0) = len l100) <|
 letO (l96 ++ l100) fun l101 =>
 letO ([a1.fs_] : List TS) fun l105 =>
 req (std.room (std.nadd (len l101) (len l105)) 40) <|
 letO (l101 ++ l105) fun l107 =>
 req (std.room (std.nadd (len l107) (len w78)) 40) <|
 letO (l107 ++ w78) fun l110 =>
 req (len a0.fC = len w77) <|
 letO (List.set w77 (std.nadd 0 (std.toN a1.fc)) (TC.mk (gd w77 (std.nadd 0 (std.toN a1.fc))).fN l110 (gd w77 (std.nadd 0 (std.toN a1.fc))).fL (gd w77 (std.nadd 0 (std.toN a1.fc))).fI)) fun l113 =>
 some l113
 ) : Option ((List TC))).bind fun y89 =>
 letO y89 fun w95 =>
 some w95)
 (((
 br (std.eq w62 2)
 (((
 letO ([] : List TS) fun l129 =>
 req (std.upTo a1.fx (len (gd a0.fC (std.nadd 0 (std.toN a1.fc))).fS)) <|
 req (std.upTo 0 (std.toN a1.fx)) <|
 letO (List.take (std.nsub (std.toN a1.fx) (std.toN 0)) (List.drop (std.nadd 0 (std.toN 0)) (gd a0.fC (std.nadd 0 (std.toN a1.fc))).fS)) fun l133 =>
 req (std.room (std.nadd (len l129) (std.nsub (std.toN a1.fx) (std.toN 0))) 40) <|
 req (std.nsub (std.toN a1.fx) (std.toN 0) = len l133) <|
 letO (l129 ++ l133) fun l134 =>
 req (std.upTo (std.ofN (len (gd a0.fC (std.nadd 0 (std.toN a1.fc))).fS)) (len (gd a0.fC (std.nadd 0 (std.toN a1.fc))).fS)) <|
 req (std.upTo (std.add .i64 a1.fx 1) (std.toN (std.ofN (len (gd a0.fC (std.nadd 0 (std.toN a1.fc))).fS)))) <|
 req (std.upTo (std.add .i64 a1.fx 1) (len (gd a0.fC (std.nadd 0 (std.toN a1.fc))).fS)) <|
 letO (List.take (std.nsub (std.toN (std.ofN (len (gd a0.fC (std.nadd 0 (std.toN a1.fc))).fS))) (std.toN (std.add .i64 a1.fx 1))) (List.drop (std.nadd 0 (std.toN (std.add .i64 a1.fx 1))) (gd a0.fC (std.nadd 0 (std.toN a1.fc))).fS)) fun l141 =>
 req (std.room (std.nadd (len l134) (std.nsub (std.toN (std.ofN (len (gd a0.fC (std.nadd 0 (std.toN a1.fc))).fS))) (std.toN (std.add .i64 a1.fx 1)))) 40) <|
 req (std.nsub (std.toN (std.ofN (len (gd a0.fC (std.nadd 0 (std.toN a1.fc))).fS))) (std.toN (std.add .i64 a1.fx 1)) = len l141) <|
 letO (l134 ++ l141) fun l142 =>
 letO (List.set a0.fC (std.nadd 0 (std.toN a1.fc)) (TC.mk (gd a0.fC (std.nadd 0 (std.toN a1.fc))).fN l142 (gd a0.fC (std.nadd 0 (std.toN a1.fc))).fL (gd a0.fC (std.nadd 0 (std.toN a1.fc))).fI)) fun l146 =>
 some l146
 ) : Option ((List TC))).bind fun y122 =>
 letO y122 fun w128 =>
 some w128)
 (((
 br (std.eq w62 3)
 (((
 letO ([] : List TB) fun l162 =>
 req (std.upTo (std.ofN (len (gd a0.fC (std.nadd 0 (std.toN a1.fc))).fL)) (len (gd a0.fC (std.nadd 0 (std.toN a1.fc))).fL)) <|
 req (std.upTo a1.fx (std.toN (std.ofN (len (gd a0.fC (std.nadd 0 (std.toN a1.fc))).fL)))) <|
 req (std.upTo a1.fx (len (gd a0.fC (std.nadd 0 (std.toN a1.fc))).fL)) <|
 letO (List.take (std.nsub (std.toN (std.ofN (len (gd a0.fC (std.nadd 0 (std.toN a1.fc))).fL))) (std.toN a1.fx)) (List.drop (std.nadd 0 (std.toN a1.fx)) (gd a0.fC (std.nadd 0 (std.toN a1.fc))).fL)) fun l167 =>
 req (std.room (std.nadd (len l162) (std.nsub (std.toN (std.ofN (len (gd a0.fC (std.nadd 0 (std.toN a1.fc))).fL))) (std.toN a1.fx))) 40) <|
 req (std.nsub (std.toN (std.ofN (len (gd a0.fC (std.nadd 0 (std.toN a1.fc))).fL))) (std.toN a1.fx) = len l167) <|
 letO (l162 ++ l167) fun l168 =>
 some (a0.fC, l168)
 ) : Option ((List TC) × (List TB))).bind fun y154 =>
 letO y154.1 fun w160 =>
 letO y154.2 fun w161 =>
 ((
 letO ([] : List TB) fun l179 =>
 req (std.upTo a1.fx (len (gd w160 (std.nadd 0 (std.toN a1.fc))).fL)) <|
 req (std.upTo 0 (std.toN a1.fx)) <|
 letO (List.take (std.nsub (std.toN a1.fx) (std.toN 0)) (List.drop (std.nadd 0 (std.toN 0)) (gd w160 (std.nadd 0 (std.toN a1.fc))).fL)) fun l183 =>
 req (std.room (std.nadd (len l179) (std.nsub (std.toN a1.fx) (std.toN 0))) 40) <|
 req (std.nsub (std.toN a1.fx) (std.toN 0) = len l183) <|
 letO (l179 ++ l183) fun l184 =>
 letO ([a1.fl_] : List TB) fun l188 =>
 req (std.room (std.nadd (len l184) (len l188)) 40) <|
 letO (l184 ++ l188) fun l190 =>
 req (std.room (std.nadd (len l190) (len w161)) 40) <|
 letO (l190 ++ w161) fun l193 =>
 req (len a0.fC = len w160) <|
 letO (List.set w160 (std.nadd 0 (std.toN a1.fc)) (TC.mk (gd w160 (std.nadd 0 (std.toN a1.fc))).fN (gd w160 (std.nadd 0 (std.toN a1.fc))).fS l193 (gd w160 (std.nadd 0 (std.toN a1.fc))).fI)) fun l196 =>
 some l196
 ) : Option ((List TC))).bind fun y172 =>
 letO y172 fun w178 =>
 some w178)
 (((
 br (std.eq w62 4)
 (((
 letO ([] : List TB) fun l212 =>
 req (std.upTo a1.fx (len (gd a0.fC (std.nadd 0 (std.toN a1.fc))).fL)) <|
 req (std.upTo 0 (std.toN a1.fx)) <|
 letO (List.take (std.nsub (std.toN a1.fx) (std.toN 0)) (List.drop (std.nadd 0 (std.toN 0)) (gd a0.fC (std.nadd 0 (std.toN a1.fc))).fL)) fun l216 =>
 req (std.room (std.nadd (len l212) (std.nsub (std.toN a1.fx) (std.toN 0))) 40) <|
 req (std.nsub (std.toN a1.fx) (std.toN 0) = len l216) <|
 letO (l212 ++ l216) fun l217 =>
 req (std.upTo (std.ofN (len (gd a0.fC (std.nadd 0 (std.toN a1.fc))).fL)) (len (gd a0.fC (std.nadd 0 (std.toN a1.fc))).fL)) <|
 req (std.upTo (std.add .i64 a1.fx 1) (std.toN (std.ofN (len (gd a0.fC (std.nadd 0 (std.toN a1.fc))).fL)))) <|
 req (std.upTo (std.add .i64 a1.fx 1) (len (gd a0.fC (std.nadd 0 (std.toN a1.fc))).fL)) <|
 letO (List.take (std.nsub (std.toN (std.ofN (len (gd a0.fC (std.nadd 0 (std.toN a1.fc))).fL))) (std.toN (std.add .i64 a1.fx 1))) (List.drop (std.nadd 0 (std.toN (std.add .i64 a1.fx 1))) (gd a0.fC (std.nadd 0 (std.toN a1.fc))).fL)) fun l224 =>
 req (std.room (std.nadd (len l217) (std.nsub (std.toN (std.ofN (len (gd a0.fC (std.nadd 0 (std.toN a1.fc))).fL))) (std.toN (std.add .i64 a1.fx 1)))) 40) <|
 req (std.nsub (std.toN (std.ofN (len (gd a0.fC (std.nadd 0 (std.toN a1.fc))).fL))) (std.toN (std.add .i64 a1.fx 1)) = len l224) <|
 letO (l217 ++ l224) fun l225 =>
 letO (List.set a0.fC (std.nadd 0 (std.toN a1.fc)) (TC.mk (gd a0.fC (std.nadd 0 (std.toN a1.fc))).fN (gd a0.fC (std.nadd 0 (std.toN a1.fc))).fS l225 (gd a0.fC (std.nadd 0 (std.toN a1.fc))).fI)) fun l229 =>
 some l229
 ) : Option ((List TC))).bind fun y205 =>
 letO y205 fun w211 =>
 some w211)
 (((
 br (std.eq w62 5)
 (((
 letO ([] : List TI) fun l245 =>
 req (std.upTo (std.ofN (len (gd a0.fC (std.nadd 0 (std.toN a1.fc))).fI)) (len (gd a0.fC (std.nadd 0 (std.toN a1.fc))).fI)) <|
 req (std.upTo a1.fx (std.toN (std.ofN (len (gd a0.fC (std.nadd 0 (std.toN a1.fc))).fI)))) <|
 req (std.upTo a1.fx (len (gd a0.fC (std.nadd 0 (std.toN a1.fc))).fI)) <|
 letO (List.take (std.nsub (std.toN (std.ofN (len (gd a0.fC (std.nadd 0 (std.toN a1.fc))).fI))) (std.toN a1.fx)) (List.drop (std.nadd 0 (std.toN a1.fx)) (gd a0.fC (std.nadd 0 (std.toN a1.fc))).fI)) fun l250 =>
 req (std.room (std.nadd (len l245) (std.nsub (std.toN (std.ofN (len (gd a0.fC (std.nadd 0 (std.toN a1.fc))).fI))) (std.toN a1.fx))) 64) <|
 req (std.nsub (std.toN (std.ofN (len (gd a0.fC (std.nadd 0 (std.toN a1.fc))).fI))) (std.toN a1.fx) = len l250) <|
 letO (l245 ++ l250) fun l251 =>
 some (a0.fC, l251)
 ) : Option ((List TC) × (List TI))).bind fun y237 =>
 letO y237.1 fun w243 =>
 letO y237.2 fun w244 =>
 ((
 letO ([] : List TI) fun l262 =>
 req (std.upTo a1.fx (len (gd w243 (std.nadd 0 (std.toN a1.fc))).fI)) <|
 req (std.upTo 0 (std.toN a1.fx)) <|
 letO (List.take (std.nsub (std.toN a1.fx) (std.toN 0)) (List.drop (std.nadd 0 (std.toN 0)) (gd w243 (std.nadd 0 (std.toN a1.fc))).fI)) fun l266 =>
 req (std.room (std.nadd (len l262) (std.nsub (std.toN a1.fx) (std.toN 0))) 64) <|
 req (std.nsub (std.toN a1.fx) (std.toN 0) = len l266) <|
 letO (l262 ++ l266) fun l267 =>
 letO ([a1.fi_] : List TI) fun l271 =>
 req (std.room (std.nadd (len l267) (len l271)) 64) <|
 letO (l267 ++ l271) fun l273 =>
 req (std.room (std.nadd (len l273) (len w244)) 64) <|
 letO (l273 ++ w244) fun l276 =>
 req (len a0.fC = len w243) <|
 letO (List.set w243 (std.nadd 0 (std.toN a1.fc)) (TC.mk (gd w243 (std.nadd 0 (std.toN a1.fc))).fN (gd w243 (std.nadd 0 (std.toN a1.fc))).fS (gd w243 (std.nadd 0 (std.toN a1.fc))).fL l276)) fun l279 =>
 some l279
 ) : Option ((List TC))).bind fun y255 =>
 letO y255 fun w261 =>
 some w261)
 (((
 br (std.eq w62 6)
 (((
 letO ([] : List TI) fun l295 =>
 req (std.upTo a1.fx (len (gd a0.fC (std.nadd 0 (std.toN a1.fc))).fI)) <|
 req (std.upTo 0 (std.toN a1.fx)) <|
 letO (List.take (std.nsub (std.toN a1.fx) (std.toN 0)) (List.drop (std.nadd 0 (std.toN 0)) (gd a0.fC (std.nadd 0 (std.toN a1.fc))).fI)) fun l299 =>
 req (std.room (std.nadd (len l295) (std.nsub (std.toN a1.fx) (std.toN 0))) 64) <|
 req (std.nsub (std.toN a1.fx) (std.toN 0) = len l299) <|
 letO (l295 ++ l299) fun l300 =>
 req (std.upTo (std.ofN (len (gd a0.fC (std.nadd 0 (std.toN a1.fc))).fI)) (len (gd a0.fC (std.nadd 0 (std.toN a1.fc))).fI)) <|
 req (std.upTo (std.add .i64 a1.fx 1) (std.toN (std.ofN (len (gd a0.fC (std.nadd 0 (std.toN a1.fc))).fI)))) <|
 req (std.upTo (std.add .i64 a1.fx 1) (len (gd a0.fC (std.nadd 0 (std.toN a1.fc))).fI)) <|
 letO (List.take (std.nsub (std.toN (std.ofN (len (gd a0.fC (std.nadd 0 (std.toN a1.fc))).fI))) (std.toN (std.add .i64 a1.fx 1))) (List.drop (std.nadd 0 (std.toN (std.add .i64 a1.fx 1))) (gd a0.fC (std.nadd 0 (std.toN a1.fc))).fI)) fun l307 =>
 req (std.room (std.nadd (len l300) (std.nsub (std.toN (std.ofN (len (gd a0.fC (std.nadd 0 (std.toN a1.fc))).fI))) (std.toN (std.add .i64 a1.fx 1)))) 64) <|
 req (std.nsub (std.toN (std.ofN (len (gd a0.fC (std.nadd 0 (std.toN a1.fc))).fI))) (std.toN (std.add .i64 a1.fx 1)) = len l307) <|
 letO (l300 ++ l307) fun l308 =>
 letO (List.set a0.fC (std.nadd 0 (std.toN a1.fc)) (TC.mk (gd a0.fC (std.nadd 0 (std.toN a1.fc))).fN (gd a0.fC (std.nadd 0 (std.toN a1.fc))).fS (gd a0.fC (std.nadd 0 (std.toN a1.fc))).fL l308)) fun l312 =>
 some l312
 ) : Option ((List TC))).bind fun y288 =>
 letO y288 fun w294 =>
 some w294)
 (((
 br (std.eq w62 7)
 (((
 letO (List.set a0.fC (std.nadd 0 (std.toN a1.fc)) (TC.mk a1.fN (gd a0.fC (std.nadd 0 (std.toN a1.fc))).fS (gd a0.fC (std.nadd 0 (std.toN a1.fc))).fL (gd a0.fC (std.nadd 0 (std.toN a1.fc))).fI)) fun l327 =>
 some l327
 ) : Option ((List TC))).bind fun y320 =>
 letO y320 fun w326 =>
 some w326)
 (some a0.fC)
 ) : Option ((List TC))).bind fun y313 =>
 letO y313 fun w319 =>
 some w319)
 ) : Option ((List TC))).bind fun y281 =>
 letO y281 fun w287 =>
 some w287)
 ) : Option ((List TC))).bind fun y230 =>
 letO y230 fun w236 =>
 some w236)
 ) : Option ((List TC))).bind fun y198 =>
 letO y198 fun w204 =>
 some w204)
 ) : Option ((List TC))).bind fun y147 =>
 letO y147 fun w153 =>
 some w153)
 ) : Option ((List TC))).bind fun y115 =>
 letO y115 fun w121 =>
 some w121)
 ) : Option ((List TC))).bind fun y64 =>
 letO y64 fun w70 =>
 req (len a0.fC = len w70) <|
 some (TL.mk w70)))
theorem runq48 (a0 : TL) (a1 : TE) (r : TL) (h : Fq48 a0 a1 = some r) : Fun prog 54 [.agg [.os 5 0 (len a0.fC)], .agg (cE a1)] [(5, .arr .rw [] (len a0.fC) 4 (row gd (oC len gd) a0.fC))] (.agg [.os 64000 0 (len r.fC)]) [(64000, .arr .rw [] (len r.fC) 4 (row gd (oC len gd) r.fC))] true := by
 refine ow [13, 15, 16, 18, 20, 21, 23, 25, 26, 28, 30, 100073, 100100, 100121, 100148, 100169, 100196, 100217] func54 ntmps54 ?_ (hw := ⟨fun i _ j _ k hk => (noref (rC _ _) hk).elim, tv⟩) (hv := (fun _ => ⟨(by simp [AV.flat, AV.flat1, AC.flat]), ⟨fun i _ j _ => fl_oncCell _ _, tv⟩⟩)); unfold Fq48 at h; have hfq18 := @runq18
 generalize hU : @len = U_, hG_ : @gd = G_, hA : std = A, hP : prog = P at *; cbv; revert h; refine fk ?_ ?_ <;> intro h <;> cbv
 ·revert h; refine rb fun y1 hy2 => rq fun c31 h => ?_; refine rc [(5, 5)] [(5, 5)] (hfq18 _ _ _ _ hy2) yf ⟨_, rfl, U_ a0.fC, _, c31, fun _ _ _ _ => .refl _, ?_⟩; cbv; have e3 : 0 = U_ ([] : List TC) := by subst hU; rfl
  refine ⟨_, (co e3), _, row G_ (oC U_ G_) ([] : List TC), e3, wO ?_, ?_⟩
  ·intro i hi j hj; rw [<- e3] at hi; subst hG_; omega
  cbv; revert h; refine rq fun c4 => rq fun c5 => rq fun c6 h => ?_; refine And.intro (by first | exact ⟨c4, c5, (fun _ => c6), tv⟩ | exact ⟨c4, c5, (fun _ => c6)⟩ | exact ⟨c4, c5, tv⟩ | exact ⟨c4, c5⟩) ?_; revert h; refine rl fun l7 hl7 => rq fun c10 => rq fun c11 => rq fun c12 => rl fun l8 hl8 h => ?_
  have e9 : A.nadd (U_ ([] : List TC)) (A.nsub (A.toN (A.ofN (U_ a0.fC))) (A.toN a1.fc)) = U_ l8 := by rw [c11]; subst hl8 hU hA; simp [std, len]
  refine ⟨c10, _, (co e9), _, row G_ (oC U_ G_) l8, e9, wO ?_, ?_⟩
  ·subst hG_ hU hA; exact app_nil_mvP hl7 c11 hl8 (Nat.le_refl _) (fun i h1 h2 j => rfl)
  refine ⟨_, (partC (A.nadd 0 (A.toN a1.fc)) (A.nsub (A.toN (A.ofN (U_ a0.fC))) (A.toN a1.fc)) (row G_ (oC U_ G_) y1)), rfl, wO (partC_of c12), ?_⟩; cbv; have e13 : 0 = U_ ([] : List TC) := by subst hU; rfl
  refine ⟨_, (co e13), _, row G_ (oC U_ G_) ([] : List TC), e13, wO ?_, ?_⟩
  ·intro i hi j hj; rw [<- e13] at hi; subst hG_; omega
  cbv; revert h; refine rq fun c14 => rq fun c15 h => ?_; refine And.intro (by first | exact ⟨c14, c15, (fun h0 => by cases h0), tv⟩ | exact ⟨c14, c15, (fun h0 => by cases h0)⟩ | exact ⟨c14, c15, tv⟩ | exact ⟨c14, c15⟩) ?_; revert h; refine rl fun l16 hl16 => rq fun c19 => rq fun c20 => rq fun c21 => rq fun c22 => rl fun l17 hl17 h => ?_
  have e18 : A.nadd (U_ ([] : List TC)) (A.nsub (A.toN a1.fc) (A.toN 0)) = U_ l17 := by rw [c20]; subst hl17 hU hA; simp [std, len]
  refine ⟨c19, _, (co e18), _, row G_ (oC U_ G_) l17, e18, wO ?_, ?_⟩
  ·subst hG_ hU hA; exact app_nil_mvP hl16 c20 hl17 (Nat.le_refl _) (fun i h1 h2 j => (partC_out (out_of c21 h1 h2)).trans (rfl))
  refine ⟨_, (partC (A.nadd 0 (A.toN 0)) (A.nsub (A.toN a1.fc) (A.toN 0)) (partC (A.nadd 0 (A.toN a1.fc)) (A.nsub (A.toN (A.ofN (U_ a0.fC))) (A.toN a1.fc)) (row G_ (oC U_ G_) y1))), rfl, wO (partC_of c22), ?_⟩; cbv; revert h; refine rl fun l23 hl23 h => ?_; have e24 : 1 = U_ l23 := by subst hl23 hU; rfl
  refine ⟨_, (co e24), _, row G_ (oC U_ G_) l23, e24, ?_, ?_⟩
  ·intro i hi j hj; rw [<- e24] at hi; subst hl23; subst hG_ hU; obtain rfl : i = 0 := (by omega) <;> obtain rfl | rfl | rfl | rfl : j = 0 \/ j = 1 \/ j = 2 \/ j = 3 := (by omega)
   all_goals first | rfl | exact AC.wk.refl _ | exact AC.wk.ow | exact AC.wk.bs
  cbv; revert h; refine rq fun c27 => rl fun l25 hl25 h => ?_; have e26 := nl hA hU hl25; refine ⟨c27, _, (co e26), _, row G_ (oC U_ G_) l25, e26, wO ?_, ?_⟩
  ·subst hG_ hU hA; exact app_mv (off := 0) hl25
  refine ⟨_, _, rfl, fun _ _ _ _ => .refl _, ?_⟩; cbv; revert h; refine rq fun c30 => rl fun l28 hl28 h => ?_; have e29 := nl hA hU hl28; refine ⟨c30, _, (co e29), _, row G_ (oC U_ G_) l28, e29, wO ?_, ?_⟩
  ·subst hG_ hU hA; exact app_mv (off := 0) hl28
  refine ⟨_, _, rfl, fun _ _ _ _ => .refl _, ?_⟩; cbv; injection h with h; subst h; exact ⟨_, le_ren 1792 64000 (by decide) rfl, lR _, zo, rfl⟩
 revert h; refine fk ?_ ?_ <;> intro h <;> cbv
 ·have e32 : 0 = U_ ([] : List TC) := by subst hU; rfl
  refine ⟨_, (co e32), _, row G_ (oC U_ G_) ([] : List TC), e32, wO ?_, ?_⟩
  ·intro i hi j hj; rw [<- e32] at hi; subst hG_; omega
  cbv; revert h; refine rq fun c33 => rq fun c34 h => ?_; refine And.intro (by first | exact ⟨c33, c34, (fun h0 => by cases h0), tv⟩ | exact ⟨c33, c34, (fun h0 => by cases h0)⟩ | exact ⟨c33, c34, tv⟩ | exact ⟨c33, c34⟩) ?_; revert h; refine rl fun l35 hl35 => rq fun c38 => rq fun c39 => rq fun c40 => rl fun l36 hl36 h => ?_
  have e37 : A.nadd (U_ ([] : List TC)) (A.nsub (A.toN a1.fc) (A.toN 0)) = U_ l36 := by rw [c39]; subst hl36 hU hA; simp [std, len]
  refine ⟨c38, _, (co e37), _, row G_ (oC U_ G_) l36, e37, wO ?_, ?_⟩
  ·subst hG_ hU hA; exact app_nil_mvP hl35 c39 hl36 (Nat.le_refl _) (fun i h1 h2 j => rfl)
  refine ⟨_, (partC (A.nadd 0 (A.toN 0)) (A.nsub (A.toN a1.fc) (A.toN 0)) (row G_ (oC U_ G_) a0.fC)), rfl, wO (partC_of c40), ?_⟩; cbv; revert h; refine rq fun c41 => rq fun c42 => rq fun c43 h => ?_; refine And.intro (by first | exact ⟨c41, c42, (fun _ => c43), tv⟩ | exact ⟨c41, c42, (fun _ => c43)⟩ | exact ⟨c41, c42, tv⟩ | exact ⟨c41, c42⟩) ?_
  revert h; refine rl fun l44 hl44 => rq fun c47 => rq fun c48 => rq fun c49 => rq fun c50 => rl fun l45 hl45 h => ?_; have e46 : A.nadd (U_ l36) (A.nsub (A.toN (A.ofN (U_ a0.fC))) (A.toN (A.add .i64 a1.fc 1))) = U_ l45 := by rw [c48]; subst hl45 hU hA; simp [std, len]
  refine ⟨c47, _, (co e46), _, row G_ (oC U_ G_) l45, e46, wO ?_, ?_⟩
  ·subst hG_ hU hA; exact app_mvP hl44 c48 hl45 (Nat.le_refl _) (fun i h1 h2 j => (partC_out (out_of c49 h1 h2)).trans (rfl))
  refine ⟨_, (partC (A.nadd 0 (A.toN (A.add .i64 a1.fc 1))) (A.nsub (A.toN (A.ofN (U_ a0.fC))) (A.toN (A.add .i64 a1.fc 1))) (partC (A.nadd 0 (A.toN 0)) (A.nsub (A.toN a1.fc) (A.toN 0)) (row G_ (oC U_ G_) a0.fC))), rfl, wO (partC_of c50), ?_⟩; cbv; revert h; refine rb fun y51 hy52 => rq fun c54 h => ?_
  refine rc [(5, 2944)] [(5, 2944)] (hfq18 _ _ _ _ hy52) yf ⟨_, rfl, U_ l45, _, c54, fun _ _ _ _ => .refl _, ?_⟩; cbv; revert h; refine rq fun c53 h => ?_; injection h with h; subst h; refine ⟨(sp 225 [(4, .c (.ptr 256 0))] [(256, .var [.os 64000 0 (U_ y51)]), (64000, .arr .rw [] (U_ y51) 4 (row G_ (oC U_ G_) y51))]), ?_, ?_⟩
  ·refine St.le_trans (le_ren 2944 64000 (by decide) rfl) ?_; rw [c53]; exact zb
  ·exact ⟨lR _, zo, rfl⟩
 revert h; refine ra fun c55 h => ?_
 revert h; refine cu (fun y56 => (sp 225 [(2, .c (.ptr 128 0)), (3, .c (.ptr 192 0)), (4, .c (.ptr 256 0)), (5, .c (wi a1.fx)), (7, .c (.ep 5 (A.nadd 0 (A.toN a1.fc)) 0)), (72, .c (wi y56))] [(128, .var [.os 5 0 (U_ a0.fC)]), (192, .var (cE a1)), (256, .var [.v (.slice none 0 0)]), (5, .arr .rw [60004, 60006, 60008] (U_ a0.fC) 4 (pC (row G_ (oC U_ G_) a0.fC) (A.nadd 0 (A.toN a1.fc)) [ws (G_ a0.fC (A.nadd 0 (A.toN a1.fc))).fN, .os 60004 0 (U_ (G_ a0.fC (A.nadd 0 (A.toN a1.fc))).fS), .os 60006 0 (U_ (G_ a0.fC (A.nadd 0 (A.toN a1.fc))).fL), .os 60008 0 (U_ (G_ a0.fC (A.nadd 0 (A.toN a1.fc))).fI)])), (60004, .arr .rw [] (U_ (G_ a0.fC (A.nadd 0 (A.toN a1.fc))).fS) 5 (row G_ (eS) (G_ a0.fC (A.nadd 0 (A.toN a1.fc))).fS)), (60006, .arr .rw [] (U_ (G_ a0.fC (A.nadd 0 (A.toN a1.fc))).fL) 4 (row G_ (eL_0) (G_ a0.fC (A.nadd 0 (A.toN a1.fc))).fL)), (60008, .arr .rw [] (U_ (G_ a0.fC (A.nadd 0 (A.toN a1.fc))).fI) 8 (row G_ (eI) (G_ a0.fC (A.nadd 0 (A.toN a1.fc))).fI))])) ?_ fun w62 => rz fun h => ?_
 ·intro y56 S hS h; cbv; injection h with h; subst h; subst hS; show St.le _ _
  refine St.le_trans (le_expose 5 (A.nadd 0 (A.toN a1.fc)) 60000 [ws (G_ a0.fC (A.nadd 0 (A.toN a1.fc))).fN, .ow (U_ (G_ a0.fC (A.nadd 0 (A.toN a1.fc))).fS) 5 (row G_ (eS) (G_ a0.fC (A.nadd 0 (A.toN a1.fc))).fS), .ow (U_ (G_ a0.fC (A.nadd 0 (A.toN a1.fc))).fL) 4 (row G_ (eL_0) (G_ a0.fC (A.nadd 0 (A.toN a1.fc))).fL), .ow (U_ (G_ a0.fC (A.nadd 0 (A.toN a1.fc))).fI) 8 (row G_ (eI) (G_ a0.fC (A.nadd 0 (A.toN a1.fc))).fI)] rfl (by subst hA; exact ix_ c55) rfl rfl rfl zr rfl) ?_
  exact lsp rfl zl ⟨rfl, rfl, rfl, oW (patch_of zr), oW (fun i _ j _ => plain_cp (pl_encShape _ _)), oW (fun i _ j _ => plain_cp (pl_encLabel _ _)), oW (fun i _ j _ => plain_cp (pl_encInstance _ _)), tv⟩ rfl
 revert h; refine rq fun c63 h => ?_; cbv; revert h; refine cu (fun y64 => some (sp 225 [(2, .c (.ptr 128 0)), (4, .c (.ptr 256 0))] [(128, .var [.os 5 0 (U_ a0.fC)]), (256, .var [.v (.slice none 0 0)]), (5, .arr .rw [] (U_ a0.fC) 4 (row G_ (oC U_ G_) y64))])) ?_ fun w70 => rz fun h => ?_
 ·intro y64 S hS h; cbv; revert h; refine fk ?_ ?_ <;> intro h <;> cbv
  ·revert h; refine cu (fun y71 => (sp 225 [(2, .c (.ptr 128 0)), (3, .c (.ptr 192 0)), (4, .c (.ptr 256 0)), (5, .c (wi a1.fx)), (7, .c (.ep 5 (A.nadd 0 (A.toN a1.fc)) 0)), (8, .c (.os 4800 0 (U_ y71.2)))] [(128, .var [.os 5 0 (U_ a0.fC)]), (192, .var (cE a1)), (256, .var [.v (.slice none 0 0)]), (5, .arr .rw [] (U_ a0.fC) 4 (row G_ (oC U_ G_) y71.1)), (4800, .arr .rw [] (U_ y71.2) 5 (row G_ (eS) y71.2))])) ?_ ?_
   ·intro y71 S hS h; cbv; revert h; refine rl fun l79 hl79 h => ?_; have e80 : 0 = U_ l79 := by subst hl79 hU; rfl
    refine ⟨_, (co e80), _, row G_ (eS) l79, e80, wO ?_, ?_⟩
    ·intro i hi j hj; rw [<- e80] at hi; subst hl79; subst hG_; omega
    cbv; refine ai c55 ?_; revert h; refine rq fun c81 => rq fun c82 => rq fun c83 h => ?_; refine And.intro (by first | exact ⟨c81, c82, (fun _ => c83), tv⟩ | exact ⟨c81, c82, (fun _ => c83)⟩ | exact ⟨c81, c82, tv⟩ | exact ⟨c81, c82⟩) ?_; revert h; refine rl fun l84 hl84 => rq fun c87 => rq fun c88 => rl fun l85 hl85 h => ?_
    have e86 : A.nadd (U_ l79) (A.nsub (A.toN (A.ofN (U_ (G_ a0.fC (A.nadd 0 (A.toN a1.fc))).fS))) (A.toN a1.fx)) = U_ l85 := by rw [c88]; subst hl85 hU hA; simp [std, len]
    refine ⟨c87, _, (co e86), _, row G_ (eS) l85, e86, wO ?_, ?_⟩
    ·subst hG_ hU hA; exact app_osP (pl_encShape) hl84 c88 hl85 (Nat.le_refl _)
    cbv; injection h with h; subst h; subst hS; show St.le _ _; refine St.le_trans (le_foldP 5 1 60004 rfl rfl rfl (by decide) (by subst hA; exact ix_ c63) (by decide) rfl (fun _ _ => rC _ _)) ?_; refine St.le_trans (le_foldP 5 2 60006 rfl rfl rfl (by decide) (by subst hA; exact ix_ c63) (by decide) rfl (fun _ _ => rC _ _)) ?_
    refine St.le_trans (le_foldP 5 3 60008 rfl rfl rfl (by decide) (by subst hA; exact ix_ c63) (by decide) rfl (fun _ _ => rC _ _)) ?_; exact lsp rfl zl ⟨rfl, rfl, rfl, oP (fun _ _ => rC _ _) (by subst hG_ hU hA; exact patch_same zr), oS, tv⟩ rfl
   rintro ⟨w77, w78⟩ h; replace h := oz (oz h); dsimp only at h; cbv; revert h; refine cu (fun y89 => (sp 225 [(2, .c (.ptr 128 0)), (4, .c (.ptr 256 0))] [(128, .var [.os 5 0 (U_ a0.fC)]), (256, .var [.v (.slice none 0 0)]), (5, .arr .rw [] (U_ a0.fC) 4 (row G_ (oC U_ G_) y89))])) ?_ fun w95 => rz fun h => ?_
   ·intro y89 S hS h; cbv; revert h; refine rl fun l96 hl96 h => ?_; have e97 : 0 = U_ l96 := by subst hl96 hU; rfl
    refine ⟨_, (co e97), _, row G_ (eS) l96, e97, wO ?_, ?_⟩
    ·intro i hi j hj; rw [<- e97] at hi; subst hl96; subst hG_; omega
    cbv; refine ai c55 ?_
    refine ⟨_, rfl, _, (pC (row G_ (oC U_ G_) w77) (A.nadd 0 (A.toN a1.fc)) [ws (G_ w77 (A.nadd 0 (A.toN a1.fc))).fN, .os 5634 0 (U_ (G_ w77 (A.nadd 0 (A.toN a1.fc))).fS), .ow (U_ (G_ w77 (A.nadd 0 (A.toN a1.fc))).fL) 4 (row G_ (eL_0) (G_ w77 (A.nadd 0 (A.toN a1.fc))).fL), .ow (U_ (G_ w77 (A.nadd 0 (A.toN a1.fc))).fI) 8 (row G_ (eI) (G_ w77 (A.nadd 0 (A.toN a1.fc))).fI)]), rfl, wO (patch_of zr), ?_⟩
    refine ⟨_, row G_ (eS) (G_ w77 (A.nadd 0 (A.toN a1.fc))).fS, rfl, wO (fun i _ j _ => plain_cp (pl_encShape _ _)), ?_⟩; cbv; revert h; refine rq fun c98 => rq fun c99 h => ?_; refine And.intro (by first | exact ⟨c98, c99, (fun h0 => by cases h0), tv⟩ | exact ⟨c98, c99, (fun h0 => by cases h0)⟩ | exact ⟨c98, c99, tv⟩ | exact ⟨c98, c99⟩) ?_
    revert h; refine rl fun l100 hl100 => rq fun c103 => rq fun c104 => rl fun l101 hl101 h => ?_; have e102 : A.nadd (U_ l96) (A.nsub (A.toN a1.fx) (A.toN 0)) = U_ l101 := by rw [c104]; subst hl101 hU hA; simp [std, len]
    refine ⟨c103, _, (co e102), _, row G_ (eS) l101, e102, wO ?_, ?_⟩
    ·subst hG_ hU hA; exact app_osP (pl_encShape) hl100 c104 hl101 (Nat.le_refl _)
    cbv; revert h; refine rl fun l105 hl105 h => ?_; have e106 : 1 = U_ l105 := by subst hl105 hU; rfl
    refine ⟨_, (co e106), _, row G_ (eS) l105, e106, wO ?_, ?_⟩
    ·intro i hi j hj; rw [<- e106] at hi; subst hl105; subst hG_; obtain rfl : i = 0 := (by omega) <;> obtain rfl | rfl | rfl | rfl | rfl : j = 0 \/ j = 1 \/ j = 2 \/ j = 3 \/ j = 4 := (by omega)
     all_goals rfl
    cbv; revert h; refine rq fun c109 => rl fun l107 hl107 h => ?_; have e108 := nl hA hU hl107; refine ⟨c109, _, (co e108), _, row G_ (eS) l107, e108, wO ?_, ?_⟩
    ·subst hG_ hU hA; exact app_os (off := 0) (pl_encShape) hl107 (Nat.le_refl _)
    cbv; revert h; refine rq fun c112 => rl fun l110 hl110 h => ?_; have e111 := nl hA hU hl110; refine ⟨c112, _, (co e111), _, row G_ (eS) l110, e111, wO ?_, ?_⟩
    ·subst hG_ hU hA; exact app_os (off := 0) (pl_encShape) hl110 (Nat.le_refl _)
    cbv; refine ai c55 ?_
    refine ⟨_, rfl, _, (pC (row G_ (oC U_ G_) w77) (A.nadd 0 (A.toN a1.fc)) [ws (G_ w77 (A.nadd 0 (A.toN a1.fc))).fN, .os 5376 0 (U_ l110), .ow (U_ (G_ w77 (A.nadd 0 (A.toN a1.fc))).fL) 4 (row G_ (eL_0) (G_ w77 (A.nadd 0 (A.toN a1.fc))).fL), .ow (U_ (G_ w77 (A.nadd 0 (A.toN a1.fc))).fI) 8 (row G_ (eI) (G_ w77 (A.nadd 0 (A.toN a1.fc))).fI)]), rfl, wO ?_, ?_⟩
    ·first | refine patch_of2 ?_ | refine patch_of2K (fun _ _ => rC _ _) ?_
     exact zr
    cbv; revert h; refine rq fun c114 => rl fun l113 hl113 h => ?_; injection h with h; subst h; subst hS; show St.le _ _; refine St.le_trans (le_foldP 5 1 5376 rfl rfl rfl (by decide) (by subst hA; exact ix_ c55) (by decide) rfl (fun _ _ => rC _ _)) ?_
    exact lsp rfl zl ⟨rfl, rfl, oP (fun _ _ => rC _ _) (by subst hG_ hU hA; exact patch_set hl113 (ix_ (by rw [<- c114]; exact c55)) zr), tv⟩ rfl
   cbv; exact dn
  revert h; refine cu (fun y115 => some (sp 225 [(2, .c (.ptr 128 0)), (4, .c (.ptr 256 0))] [(128, .var [.os 5 0 (U_ a0.fC)]), (256, .var [.v (.slice none 0 0)]), (5, .arr .rw [] (U_ a0.fC) 4 (row G_ (oC U_ G_) y115))])) ?_ fun w121 => rz fun h => ?_
  ·intro y115 S hS h; cbv; revert h; refine fk ?_ ?_ <;> intro h <;> cbv
   ·revert h; refine cu (fun y122 => (sp 225 [(2, .c (.ptr 128 0)), (4, .c (.ptr 256 0))] [(128, .var [.os 5 0 (U_ a0.fC)]), (256, .var [.v (.slice none 0 0)]), (5, .arr .rw [] (U_ a0.fC) 4 (row G_ (oC U_ G_) y122))])) ?_ fun w128 => rz fun h => ?_
    ·intro y122 S hS h; cbv; revert h; refine rl fun l129 hl129 h => ?_; have e130 : 0 = U_ l129 := by subst hl129 hU; rfl
     refine ⟨_, (co e130), _, row G_ (eS) l129, e130, wO ?_, ?_⟩
     ·intro i hi j hj; rw [<- e130] at hi; subst hl129; subst hG_; omega
     cbv; refine ai c55 ?_; revert h; refine rq fun c131 => rq fun c132 h => ?_; refine And.intro (by first | exact ⟨c131, c132, (fun h0 => by cases h0), tv⟩ | exact ⟨c131, c132, (fun h0 => by cases h0)⟩ | exact ⟨c131, c132, tv⟩ | exact ⟨c131, c132⟩) ?_; revert h; refine rl fun l133 hl133 => rq fun c136 => rq fun c137 => rl fun l134 hl134 h => ?_
     have e135 : A.nadd (U_ l129) (A.nsub (A.toN a1.fx) (A.toN 0)) = U_ l134 := by rw [c137]; subst hl134 hU hA; simp [std, len]
     refine ⟨c136, _, (co e135), _, row G_ (eS) l134, e135, wO ?_, ?_⟩
     ·subst hG_ hU hA; exact app_osP (pl_encShape) hl133 c137 hl134 (Nat.le_refl _)
     cbv; refine ai c55 ?_; revert h; refine rq fun c138 => rq fun c139 => rq fun c140 h => ?_; refine And.intro (by first | exact ⟨c138, c139, (fun _ => c140), tv⟩ | exact ⟨c138, c139, (fun _ => c140)⟩ | exact ⟨c138, c139, tv⟩ | exact ⟨c138, c139⟩) ?_; revert h; refine rl fun l141 hl141 => rq fun c144 => rq fun c145 => rl fun l142 hl142 h => ?_
     have e143 : A.nadd (U_ l134) (A.nsub (A.toN (A.ofN (U_ (G_ a0.fC (A.nadd 0 (A.toN a1.fc))).fS))) (A.toN (A.add .i64 a1.fx 1))) = U_ l142 := by rw [c145]; subst hl142 hU hA; simp [std, len]
     refine ⟨c144, _, (co e143), _, row G_ (eS) l142, e143, wO ?_, ?_⟩
     ·subst hG_ hU hA; exact app_osP (pl_encShape) hl141 c145 hl142 (Nat.le_refl _)
     cbv; refine ai c55 ?_; refine ⟨_, rfl, _, (pC (row G_ (oC U_ G_) a0.fC) (A.nadd 0 (A.toN a1.fc)) [ws (G_ a0.fC (A.nadd 0 (A.toN a1.fc))).fN, .os 6592 0 (U_ l142), .os 60006 0 (U_ (G_ a0.fC (A.nadd 0 (A.toN a1.fc))).fL), .os 60008 0 (U_ (G_ a0.fC (A.nadd 0 (A.toN a1.fc))).fI)]), rfl, wO ?_, ?_⟩
     ·first | refine patch_of2 ?_ | refine patch_of2K (fun _ _ => rC _ _) ?_
      exact zr
     cbv; revert h; refine rl fun l146 hl146 h => ?_; injection h with h; subst h; subst hS; show St.le _ _; refine St.le_trans (le_foldP 5 1 6592 rfl rfl rfl (by decide) (by subst hA; exact ix_ c55) (by decide) rfl (fun _ _ => rC _ _)) ?_; refine St.le_trans (le_foldP 5 2 60006 rfl rfl rfl (by decide) (by subst hA; exact ix_ c55) (by decide) rfl (fun _ _ => rC _ _)) ?_
     refine St.le_trans (le_foldP 5 3 60008 rfl rfl rfl (by decide) (by subst hA; exact ix_ c55) (by decide) rfl (fun _ _ => rC _ _)) ?_; exact lsp rfl zl ⟨rfl, rfl, oP (fun _ _ => rC _ _) (by subst hG_ hU hA; exact patch_set hl146 (ix_ c55) zr), tv⟩ rfl
    cbv; exact dn
   revert h; refine cu (fun y147 => some (sp 225 [(2, .c (.ptr 128 0)), (4, .c (.ptr 256 0))] [(128, .var [.os 5 0 (U_ a0.fC)]), (256, .var [.v (.slice none 0 0)]), (5, .arr .rw [] (U_ a0.fC) 4 (row G_ (oC U_ G_) y147))])) ?_ fun w153 => rz fun h => ?_
   ·intro y147 S hS h; cbv; revert h; refine fk ?_ ?_ <;> intro h <;> cbv
    ·revert h; refine cu (fun y154 => (sp 225 [(2, .c (.ptr 128 0)), (3, .c (.ptr 192 0)), (4, .c (.ptr 256 0)), (5, .c (wi a1.fx)), (7, .c (.ep 5 (A.nadd 0 (A.toN a1.fc)) 0)), (9, .c (.os 7872 0 (U_ y154.2)))] [(128, .var [.os 5 0 (U_ a0.fC)]), (192, .var (cE a1)), (256, .var [.v (.slice none 0 0)]), (5, .arr .rw [] (U_ a0.fC) 4 (row G_ (oC U_ G_) y154.1)), (7872, .arr .rw [] (U_ y154.2) 4 (row G_ (eL_0) y154.2))])) ?_ ?_
     ·intro y154 S hS h; cbv; revert h; refine rl fun l162 hl162 h => ?_; have e163 : 0 = U_ l162 := by subst hl162 hU; rfl
      refine ⟨_, (co e163), _, row G_ (eL_0) l162, e163, wO ?_, ?_⟩
      ·intro i hi j hj; rw [<- e163] at hi; subst hl162; subst hG_; omega
      cbv; refine ai c55 ?_; revert h; refine rq fun c164 => rq fun c165 => rq fun c166 h => ?_; refine And.intro (by first | exact ⟨c164, c165, (fun _ => c166), tv⟩ | exact ⟨c164, c165, (fun _ => c166)⟩ | exact ⟨c164, c165, tv⟩ | exact ⟨c164, c165⟩) ?_; revert h; refine rl fun l167 hl167 => rq fun c170 => rq fun c171 => rl fun l168 hl168 h => ?_
      have e169 : A.nadd (U_ l162) (A.nsub (A.toN (A.ofN (U_ (G_ a0.fC (A.nadd 0 (A.toN a1.fc))).fL))) (A.toN a1.fx)) = U_ l168 := by rw [c171]; subst hl168 hU hA; simp [std, len]
      refine ⟨c170, _, (co e169), _, row G_ (eL_0) l168, e169, wO ?_, ?_⟩
      ·subst hG_ hU hA; exact app_osP (pl_encLabel) hl167 c171 hl168 (Nat.le_refl _)
      cbv; injection h with h; subst h; subst hS; show St.le _ _; refine St.le_trans (le_foldP 5 1 60004 rfl rfl rfl (by decide) (by subst hA; exact ix_ c63) (by decide) rfl (fun _ _ => rC _ _)) ?_; refine St.le_trans (le_foldP 5 2 60006 rfl rfl rfl (by decide) (by subst hA; exact ix_ c63) (by decide) rfl (fun _ _ => rC _ _)) ?_
      refine St.le_trans (le_foldP 5 3 60008 rfl rfl rfl (by decide) (by subst hA; exact ix_ c63) (by decide) rfl (fun _ _ => rC _ _)) ?_; exact lsp rfl zl ⟨rfl, rfl, rfl, oP (fun _ _ => rC _ _) (by subst hG_ hU hA; exact patch_same zr), oS, tv⟩ rfl
     rintro ⟨w160, w161⟩ h; replace h := oz (oz h); dsimp only at h; cbv; revert h; refine cu (fun y172 => (sp 225 [(2, .c (.ptr 128 0)), (4, .c (.ptr 256 0))] [(128, .var [.os 5 0 (U_ a0.fC)]), (256, .var [.v (.slice none 0 0)]), (5, .arr .rw [] (U_ a0.fC) 4 (row G_ (oC U_ G_) y172))])) ?_ fun w178 => rz fun h => ?_
     ·intro y172 S hS h; cbv; revert h; refine rl fun l179 hl179 h => ?_; have e180 : 0 = U_ l179 := by subst hl179 hU; rfl
      refine ⟨_, (co e180), _, row G_ (eL_0) l179, e180, wO ?_, ?_⟩
      ·intro i hi j hj; rw [<- e180] at hi; subst hl179; subst hG_; omega
      cbv; refine ai c55 ?_
      refine ⟨_, rfl, _, (pC (row G_ (oC U_ G_) w160) (A.nadd 0 (A.toN a1.fc)) [ws (G_ w160 (A.nadd 0 (A.toN a1.fc))).fN, .ow (U_ (G_ w160 (A.nadd 0 (A.toN a1.fc))).fS) 5 (row G_ (eS) (G_ w160 (A.nadd 0 (A.toN a1.fc))).fS), .os 8706 0 (U_ (G_ w160 (A.nadd 0 (A.toN a1.fc))).fL), .ow (U_ (G_ w160 (A.nadd 0 (A.toN a1.fc))).fI) 8 (row G_ (eI) (G_ w160 (A.nadd 0 (A.toN a1.fc))).fI)]), rfl, wO (patch_of zr), ?_⟩
      refine ⟨_, row G_ (eL_0) (G_ w160 (A.nadd 0 (A.toN a1.fc))).fL, rfl, wO (fun i _ j _ => plain_cp (pl_encLabel _ _)), ?_⟩; cbv; revert h; refine rq fun c181 => rq fun c182 h => ?_; refine And.intro (by first | exact ⟨c181, c182, (fun h0 => by cases h0), tv⟩ | exact ⟨c181, c182, (fun h0 => by cases h0)⟩ | exact ⟨c181, c182, tv⟩ | exact ⟨c181, c182⟩) ?_
      revert h; refine rl fun l183 hl183 => rq fun c186 => rq fun c187 => rl fun l184 hl184 h => ?_; have e185 : A.nadd (U_ l179) (A.nsub (A.toN a1.fx) (A.toN 0)) = U_ l184 := by rw [c187]; subst hl184 hU hA; simp [std, len]
      refine ⟨c186, _, (co e185), _, row G_ (eL_0) l184, e185, wO ?_, ?_⟩
      ·subst hG_ hU hA; exact app_osP (pl_encLabel) hl183 c187 hl184 (Nat.le_refl _)
      cbv; revert h; refine rl fun l188 hl188 h => ?_; have e189 : 1 = U_ l188 := by subst hl188 hU; rfl
      refine ⟨_, (co e189), _, row G_ (eL_0) l188, e189, wO ?_, ?_⟩
      ·intro i hi j hj; rw [<- e189] at hi; subst hl188; subst hG_; obtain rfl : i = 0 := (by omega) <;> obtain rfl | rfl | rfl | rfl : j = 0 \/ j = 1 \/ j = 2 \/ j = 3 := (by omega)
       all_goals rfl
      cbv; revert h; refine rq fun c192 => rl fun l190 hl190 h => ?_; have e191 := nl hA hU hl190; refine ⟨c192, _, (co e191), _, row G_ (eL_0) l190, e191, wO ?_, ?_⟩
      ·subst hG_ hU hA; exact app_os (off := 0) (pl_encLabel) hl190 (Nat.le_refl _)
      cbv; revert h; refine rq fun c195 => rl fun l193 hl193 h => ?_; have e194 := nl hA hU hl193; refine ⟨c195, _, (co e194), _, row G_ (eL_0) l193, e194, wO ?_, ?_⟩
      ·subst hG_ hU hA; exact app_os (off := 0) (pl_encLabel) hl193 (Nat.le_refl _)
      cbv; refine ai c55 ?_
      refine ⟨_, rfl, _, (pC (row G_ (oC U_ G_) w160) (A.nadd 0 (A.toN a1.fc)) [ws (G_ w160 (A.nadd 0 (A.toN a1.fc))).fN, .ow (U_ (G_ w160 (A.nadd 0 (A.toN a1.fc))).fS) 5 (row G_ (eS) (G_ w160 (A.nadd 0 (A.toN a1.fc))).fS), .os 8448 0 (U_ l193), .ow (U_ (G_ w160 (A.nadd 0 (A.toN a1.fc))).fI) 8 (row G_ (eI) (G_ w160 (A.nadd 0 (A.toN a1.fc))).fI)]), rfl, wO ?_, ?_⟩
      ·first | refine patch_of2 ?_ | refine patch_of2K (fun _ _ => rC _ _) ?_
       exact zr
      cbv; revert h; refine rq fun c197 => rl fun l196 hl196 h => ?_; injection h with h; subst h; subst hS; show St.le _ _; refine St.le_trans (le_foldP 5 2 8448 rfl rfl rfl (by decide) (by subst hA; exact ix_ c55) (by decide) rfl (fun _ _ => rC _ _)) ?_
      exact lsp rfl zl ⟨rfl, rfl, oP (fun _ _ => rC _ _) (by subst hG_ hU hA; exact patch_set hl196 (ix_ (by rw [<- c197]; exact c55)) zr), tv⟩ rfl
     cbv; exact dn
    revert h; refine cu (fun y198 => some (sp 225 [(2, .c (.ptr 128 0)), (4, .c (.ptr 256 0))] [(128, .var [.os 5 0 (U_ a0.fC)]), (256, .var [.v (.slice none 0 0)]), (5, .arr .rw [] (U_ a0.fC) 4 (row G_ (oC U_ G_) y198))])) ?_ fun w204 => rz fun h => ?_
    ·intro y198 S hS h; cbv; revert h; refine fk ?_ ?_ <;> intro h <;> cbv
     ·revert h; refine cu (fun y205 => (sp 225 [(2, .c (.ptr 128 0)), (4, .c (.ptr 256 0))] [(128, .var [.os 5 0 (U_ a0.fC)]), (256, .var [.v (.slice none 0 0)]), (5, .arr .rw [] (U_ a0.fC) 4 (row G_ (oC U_ G_) y205))])) ?_ fun w211 => rz fun h => ?_
      ·intro y205 S hS h; cbv; revert h; refine rl fun l212 hl212 h => ?_; have e213 : 0 = U_ l212 := by subst hl212 hU; rfl
       refine ⟨_, (co e213), _, row G_ (eL_0) l212, e213, wO ?_, ?_⟩
       ·intro i hi j hj; rw [<- e213] at hi; subst hl212; subst hG_; omega
       cbv; refine ai c55 ?_; revert h; refine rq fun c214 => rq fun c215 h => ?_; refine And.intro (by first | exact ⟨c214, c215, (fun h0 => by cases h0), tv⟩ | exact ⟨c214, c215, (fun h0 => by cases h0)⟩ | exact ⟨c214, c215, tv⟩ | exact ⟨c214, c215⟩) ?_; revert h; refine rl fun l216 hl216 => rq fun c219 => rq fun c220 => rl fun l217 hl217 h => ?_
       have e218 : A.nadd (U_ l212) (A.nsub (A.toN a1.fx) (A.toN 0)) = U_ l217 := by rw [c220]; subst hl217 hU hA; simp [std, len]
       refine ⟨c219, _, (co e218), _, row G_ (eL_0) l217, e218, wO ?_, ?_⟩
       ·subst hG_ hU hA; exact app_osP (pl_encLabel) hl216 c220 hl217 (Nat.le_refl _)
       cbv; refine ai c55 ?_; revert h; refine rq fun c221 => rq fun c222 => rq fun c223 h => ?_; refine And.intro (by first | exact ⟨c221, c222, (fun _ => c223), tv⟩ | exact ⟨c221, c222, (fun _ => c223)⟩ | exact ⟨c221, c222, tv⟩ | exact ⟨c221, c222⟩) ?_; revert h; refine rl fun l224 hl224 => rq fun c227 => rq fun c228 => rl fun l225 hl225 h => ?_
       have e226 : A.nadd (U_ l217) (A.nsub (A.toN (A.ofN (U_ (G_ a0.fC (A.nadd 0 (A.toN a1.fc))).fL))) (A.toN (A.add .i64 a1.fx 1))) = U_ l225 := by rw [c228]; subst hl225 hU hA; simp [std, len]
       refine ⟨c227, _, (co e226), _, row G_ (eL_0) l225, e226, wO ?_, ?_⟩
       ·subst hG_ hU hA; exact app_osP (pl_encLabel) hl224 c228 hl225 (Nat.le_refl _)
       cbv; refine ai c55 ?_; refine ⟨_, rfl, _, (pC (row G_ (oC U_ G_) a0.fC) (A.nadd 0 (A.toN a1.fc)) [ws (G_ a0.fC (A.nadd 0 (A.toN a1.fc))).fN, .os 60004 0 (U_ (G_ a0.fC (A.nadd 0 (A.toN a1.fc))).fS), .os 9664 0 (U_ l225), .os 60008 0 (U_ (G_ a0.fC (A.nadd 0 (A.toN a1.fc))).fI)]), rfl, wO ?_, ?_⟩
       ·first | refine patch_of2 ?_ | refine patch_of2K (fun _ _ => rC _ _) ?_
        exact zr
       cbv; revert h; refine rl fun l229 hl229 h => ?_; injection h with h; subst h; subst hS; show St.le _ _; refine St.le_trans (le_foldP 5 1 60004 rfl rfl rfl (by decide) (by subst hA; exact ix_ c55) (by decide) rfl (fun _ _ => rC _ _)) ?_; refine St.le_trans (le_foldP 5 2 9664 rfl rfl rfl (by decide) (by subst hA; exact ix_ c55) (by decide) rfl (fun _ _ => rC _ _)) ?_
       refine St.le_trans (le_foldP 5 3 60008 rfl rfl rfl (by decide) (by subst hA; exact ix_ c55) (by decide) rfl (fun _ _ => rC _ _)) ?_; exact lsp rfl zl ⟨rfl, rfl, oP (fun _ _ => rC _ _) (by subst hG_ hU hA; exact patch_set hl229 (ix_ c55) zr), tv⟩ rfl
      cbv; exact dn
     revert h; refine cu (fun y230 => some (sp 225 [(2, .c (.ptr 128 0)), (4, .c (.ptr 256 0))] [(128, .var [.os 5 0 (U_ a0.fC)]), (256, .var [.v (.slice none 0 0)]), (5, .arr .rw [] (U_ a0.fC) 4 (row G_ (oC U_ G_) y230))])) ?_ fun w236 => rz fun h => ?_
     ·intro y230 S hS h; cbv; revert h; refine fk ?_ ?_ <;> intro h <;> cbv
      ·revert h; refine cu (fun y237 => (sp 225 [(2, .c (.ptr 128 0)), (3, .c (.ptr 192 0)), (4, .c (.ptr 256 0)), (5, .c (wi a1.fx)), (7, .c (.ep 5 (A.nadd 0 (A.toN a1.fc)) 0)), (10, .c (.os 10944 0 (U_ y237.2)))] [(128, .var [.os 5 0 (U_ a0.fC)]), (192, .var (cE a1)), (256, .var [.v (.slice none 0 0)]), (5, .arr .rw [] (U_ a0.fC) 4 (row G_ (oC U_ G_) y237.1)), (10944, .arr .rw [] (U_ y237.2) 8 (row G_ (eI) y237.2))])) ?_ ?_
       ·intro y237 S hS h; cbv; revert h; refine rl fun l245 hl245 h => ?_; have e246 : 0 = U_ l245 := by subst hl245 hU; rfl
        refine ⟨_, (co e246), _, row G_ (eI) l245, e246, wO ?_, ?_⟩
        ·intro i hi j hj; rw [<- e246] at hi; subst hl245; subst hG_; omega
        cbv; refine ai c55 ?_; revert h; refine rq fun c247 => rq fun c248 => rq fun c249 h => ?_; refine And.intro (by first | exact ⟨c247, c248, (fun _ => c249), tv⟩ | exact ⟨c247, c248, (fun _ => c249)⟩ | exact ⟨c247, c248, tv⟩ | exact ⟨c247, c248⟩) ?_; revert h; refine rl fun l250 hl250 => rq fun c253 => rq fun c254 => rl fun l251 hl251 h => ?_
        have e252 : A.nadd (U_ l245) (A.nsub (A.toN (A.ofN (U_ (G_ a0.fC (A.nadd 0 (A.toN a1.fc))).fI))) (A.toN a1.fx)) = U_ l251 := by rw [c254]; subst hl251 hU hA; simp [std, len]
        refine ⟨c253, _, (co e252), _, row G_ (eI) l251, e252, wO ?_, ?_⟩
        ·subst hG_ hU hA; exact app_osP (pl_encInstance) hl250 c254 hl251 (Nat.le_refl _)
        cbv; injection h with h; subst h; subst hS; show St.le _ _; refine St.le_trans (le_foldP 5 1 60004 rfl rfl rfl (by decide) (by subst hA; exact ix_ c63) (by decide) rfl (fun _ _ => rC _ _)) ?_; refine St.le_trans (le_foldP 5 2 60006 rfl rfl rfl (by decide) (by subst hA; exact ix_ c63) (by decide) rfl (fun _ _ => rC _ _)) ?_
        refine St.le_trans (le_foldP 5 3 60008 rfl rfl rfl (by decide) (by subst hA; exact ix_ c63) (by decide) rfl (fun _ _ => rC _ _)) ?_; exact lsp rfl zl ⟨rfl, rfl, rfl, oP (fun _ _ => rC _ _) (by subst hG_ hU hA; exact patch_same zr), oS, tv⟩ rfl
       rintro ⟨w243, w244⟩ h; replace h := oz (oz h); dsimp only at h; cbv; revert h; refine cu (fun y255 => (sp 225 [(2, .c (.ptr 128 0)), (4, .c (.ptr 256 0))] [(128, .var [.os 5 0 (U_ a0.fC)]), (256, .var [.v (.slice none 0 0)]), (5, .arr .rw [] (U_ a0.fC) 4 (row G_ (oC U_ G_) y255))])) ?_ fun w261 => rz fun h => ?_
       ·intro y255 S hS h; cbv; revert h; refine rl fun l262 hl262 h => ?_; have e263 : 0 = U_ l262 := by subst hl262 hU; rfl
        refine ⟨_, (co e263), _, row G_ (eI) l262, e263, wO ?_, ?_⟩
        ·intro i hi j hj; rw [<- e263] at hi; subst hl262; subst hG_; omega
        cbv; refine ai c55 ?_
        refine ⟨_, rfl, _, (pC (row G_ (oC U_ G_) w243) (A.nadd 0 (A.toN a1.fc)) [ws (G_ w243 (A.nadd 0 (A.toN a1.fc))).fN, .ow (U_ (G_ w243 (A.nadd 0 (A.toN a1.fc))).fS) 5 (row G_ (eS) (G_ w243 (A.nadd 0 (A.toN a1.fc))).fS), .ow (U_ (G_ w243 (A.nadd 0 (A.toN a1.fc))).fL) 4 (row G_ (eL_0) (G_ w243 (A.nadd 0 (A.toN a1.fc))).fL), .os 11778 0 (U_ (G_ w243 (A.nadd 0 (A.toN a1.fc))).fI)]), rfl, wO (patch_of zr), ?_⟩
        refine ⟨_, row G_ (eI) (G_ w243 (A.nadd 0 (A.toN a1.fc))).fI, rfl, wO (fun i _ j _ => plain_cp (pl_encInstance _ _)), ?_⟩; cbv; revert h; refine rq fun c264 => rq fun c265 h => ?_; refine And.intro (by first | exact ⟨c264, c265, (fun h0 => by cases h0), tv⟩ | exact ⟨c264, c265, (fun h0 => by cases h0)⟩ | exact ⟨c264, c265, tv⟩ | exact ⟨c264, c265⟩) ?_
        revert h; refine rl fun l266 hl266 => rq fun c269 => rq fun c270 => rl fun l267 hl267 h => ?_; have e268 : A.nadd (U_ l262) (A.nsub (A.toN a1.fx) (A.toN 0)) = U_ l267 := by rw [c270]; subst hl267 hU hA; simp [std, len]
        refine ⟨c269, _, (co e268), _, row G_ (eI) l267, e268, wO ?_, ?_⟩
        ·subst hG_ hU hA; exact app_osP (pl_encInstance) hl266 c270 hl267 (Nat.le_refl _)
        cbv; revert h; refine rl fun l271 hl271 h => ?_; have e272 : 1 = U_ l271 := by subst hl271 hU; rfl
        refine ⟨_, (co e272), _, row G_ (eI) l271, e272, wO ?_, ?_⟩
        ·intro i hi j hj; rw [<- e272] at hi; subst hl271; subst hG_; obtain rfl : i = 0 := (by omega) <;> obtain rfl | rfl | rfl | rfl | rfl | rfl | rfl | rfl : j = 0 \/ j = 1 \/ j = 2 \/ j = 3 \/ j = 4 \/ j = 5 \/ j = 6 \/ j = 7 := (by omega)
         all_goals rfl
        cbv; revert h; refine rq fun c275 => rl fun l273 hl273 h => ?_; have e274 := nl hA hU hl273; refine ⟨c275, _, (co e274), _, row G_ (eI) l273, e274, wO ?_, ?_⟩
        ·subst hG_ hU hA; exact app_os (off := 0) (pl_encInstance) hl273 (Nat.le_refl _)
        cbv; revert h; refine rq fun c278 => rl fun l276 hl276 h => ?_; have e277 := nl hA hU hl276; refine ⟨c278, _, (co e277), _, row G_ (eI) l276, e277, wO ?_, ?_⟩
        ·subst hG_ hU hA; exact app_os (off := 0) (pl_encInstance) hl276 (Nat.le_refl _)
        cbv; refine ai c55 ?_
        refine ⟨_, rfl, _, (pC (row G_ (oC U_ G_) w243) (A.nadd 0 (A.toN a1.fc)) [ws (G_ w243 (A.nadd 0 (A.toN a1.fc))).fN, .ow (U_ (G_ w243 (A.nadd 0 (A.toN a1.fc))).fS) 5 (row G_ (eS) (G_ w243 (A.nadd 0 (A.toN a1.fc))).fS), .ow (U_ (G_ w243 (A.nadd 0 (A.toN a1.fc))).fL) 4 (row G_ (eL_0) (G_ w243 (A.nadd 0 (A.toN a1.fc))).fL), .os 11520 0 (U_ l276)]), rfl, wO ?_, ?_⟩
        ·first | refine patch_of2 ?_ | refine patch_of2K (fun _ _ => rC _ _) ?_
         exact zr
        cbv; revert h; refine rq fun c280 => rl fun l279 hl279 h => ?_; injection h with h; subst h; subst hS; show St.le _ _; refine St.le_trans (le_foldP 5 3 11520 rfl rfl rfl (by decide) (by subst hA; exact ix_ c55) (by decide) rfl (fun _ _ => rC _ _)) ?_
        exact lsp rfl zl ⟨rfl, rfl, oP (fun _ _ => rC _ _) (by subst hG_ hU hA; exact patch_set hl279 (ix_ (by rw [<- c280]; exact c55)) zr), tv⟩ rfl
       cbv; exact dn
      revert h; refine cu (fun y281 => some (sp 225 [(2, .c (.ptr 128 0)), (4, .c (.ptr 256 0))] [(128, .var [.os 5 0 (U_ a0.fC)]), (256, .var [.v (.slice none 0 0)]), (5, .arr .rw [] (U_ a0.fC) 4 (row G_ (oC U_ G_) y281))])) ?_ fun w287 => rz fun h => ?_
      ·intro y281 S hS h; cbv; revert h; refine fk ?_ ?_ <;> intro h <;> cbv
       ·revert h; refine cu (fun y288 => (sp 225 [(2, .c (.ptr 128 0)), (4, .c (.ptr 256 0))] [(128, .var [.os 5 0 (U_ a0.fC)]), (256, .var [.v (.slice none 0 0)]), (5, .arr .rw [] (U_ a0.fC) 4 (row G_ (oC U_ G_) y288))])) ?_ fun w294 => rz fun h => ?_
        ·intro y288 S hS h; cbv; revert h; refine rl fun l295 hl295 h => ?_; have e296 : 0 = U_ l295 := by subst hl295 hU; rfl
         refine ⟨_, (co e296), _, row G_ (eI) l295, e296, wO ?_, ?_⟩
         ·intro i hi j hj; rw [<- e296] at hi; subst hl295; subst hG_; omega
         cbv; refine ai c55 ?_; revert h; refine rq fun c297 => rq fun c298 h => ?_; refine And.intro (by first | exact ⟨c297, c298, (fun h0 => by cases h0), tv⟩ | exact ⟨c297, c298, (fun h0 => by cases h0)⟩ | exact ⟨c297, c298, tv⟩ | exact ⟨c297, c298⟩) ?_; revert h; refine rl fun l299 hl299 => rq fun c302 => rq fun c303 => rl fun l300 hl300 h => ?_
         have e301 : A.nadd (U_ l295) (A.nsub (A.toN a1.fx) (A.toN 0)) = U_ l300 := by rw [c303]; subst hl300 hU hA; simp [std, len]
         refine ⟨c302, _, (co e301), _, row G_ (eI) l300, e301, wO ?_, ?_⟩
         ·subst hG_ hU hA; exact app_osP (pl_encInstance) hl299 c303 hl300 (Nat.le_refl _)
         cbv; refine ai c55 ?_; revert h; refine rq fun c304 => rq fun c305 => rq fun c306 h => ?_; refine And.intro (by first | exact ⟨c304, c305, (fun _ => c306), tv⟩ | exact ⟨c304, c305, (fun _ => c306)⟩ | exact ⟨c304, c305, tv⟩ | exact ⟨c304, c305⟩) ?_; revert h; refine rl fun l307 hl307 => rq fun c310 => rq fun c311 => rl fun l308 hl308 h => ?_
         have e309 : A.nadd (U_ l300) (A.nsub (A.toN (A.ofN (U_ (G_ a0.fC (A.nadd 0 (A.toN a1.fc))).fI))) (A.toN (A.add .i64 a1.fx 1))) = U_ l308 := by rw [c311]; subst hl308 hU hA; simp [std, len]
         refine ⟨c310, _, (co e309), _, row G_ (eI) l308, e309, wO ?_, ?_⟩
         ·subst hG_ hU hA; exact app_osP (pl_encInstance) hl307 c311 hl308 (Nat.le_refl _)
         cbv; refine ai c55 ?_; refine ⟨_, rfl, _, (pC (row G_ (oC U_ G_) a0.fC) (A.nadd 0 (A.toN a1.fc)) [ws (G_ a0.fC (A.nadd 0 (A.toN a1.fc))).fN, .os 60004 0 (U_ (G_ a0.fC (A.nadd 0 (A.toN a1.fc))).fS), .os 60006 0 (U_ (G_ a0.fC (A.nadd 0 (A.toN a1.fc))).fL), .os 12736 0 (U_ l308)]), rfl, wO ?_, ?_⟩
         ·first | refine patch_of2 ?_ | refine patch_of2K (fun _ _ => rC _ _) ?_
          exact zr
         cbv; revert h; refine rl fun l312 hl312 h => ?_; injection h with h; subst h; subst hS; show St.le _ _; refine St.le_trans (le_foldP 5 1 60004 rfl rfl rfl (by decide) (by subst hA; exact ix_ c55) (by decide) rfl (fun _ _ => rC _ _)) ?_; refine St.le_trans (le_foldP 5 2 60006 rfl rfl rfl (by decide) (by subst hA; exact ix_ c55) (by decide) rfl (fun _ _ => rC _ _)) ?_
         refine St.le_trans (le_foldP 5 3 12736 rfl rfl rfl (by decide) (by subst hA; exact ix_ c55) (by decide) rfl (fun _ _ => rC _ _)) ?_; exact lsp rfl zl ⟨rfl, rfl, oP (fun _ _ => rC _ _) (by subst hG_ hU hA; exact patch_set hl312 (ix_ c55) zr), tv⟩ rfl
        cbv; exact dn
       revert h; refine cu (fun y313 => some (sp 225 [(2, .c (.ptr 128 0)), (4, .c (.ptr 256 0))] [(128, .var [.os 5 0 (U_ a0.fC)]), (256, .var [.v (.slice none 0 0)]), (5, .arr .rw [] (U_ a0.fC) 4 (row G_ (oC U_ G_) y313))])) ?_ fun w319 => rz fun h => ?_
       ·intro y313 S hS h; cbv; revert h; refine fk ?_ ?_ <;> intro h <;> cbv
        ·revert h; refine cu (fun y320 => (sp 225 [(2, .c (.ptr 128 0)), (4, .c (.ptr 256 0))] [(128, .var [.os 5 0 (U_ a0.fC)]), (256, .var [.v (.slice none 0 0)]), (5, .arr .rw [] (U_ a0.fC) 4 (row G_ (oC U_ G_) y320))])) ?_ fun w326 => rz fun h => ?_
         ·intro y320 S hS h; cbv; refine ai c55 ?_; refine ⟨_, rfl, _, (pC (row G_ (oC U_ G_) a0.fC) (A.nadd 0 (A.toN a1.fc)) [ws a1.fN, .os 60004 0 (U_ (G_ a0.fC (A.nadd 0 (A.toN a1.fc))).fS), .os 60006 0 (U_ (G_ a0.fC (A.nadd 0 (A.toN a1.fc))).fL), .os 60008 0 (U_ (G_ a0.fC (A.nadd 0 (A.toN a1.fc))).fI)]), rfl, wO ?_, ?_⟩
          ·first | refine patch_of2 ?_ | refine patch_of2K (fun _ _ => rC _ _) ?_
           exact zr
          cbv; revert h; refine rl fun l327 hl327 h => ?_; injection h with h; subst h; subst hS; show St.le _ _; refine St.le_trans (le_foldP 5 1 60004 rfl rfl rfl (by decide) (by subst hA; exact ix_ c55) (by decide) rfl (fun _ _ => rC _ _)) ?_; refine St.le_trans (le_foldP 5 2 60006 rfl rfl rfl (by decide) (by subst hA; exact ix_ c55) (by decide) rfl (fun _ _ => rC _ _)) ?_
          refine St.le_trans (le_foldP 5 3 60008 rfl rfl rfl (by decide) (by subst hA; exact ix_ c55) (by decide) rfl (fun _ _ => rC _ _)) ?_; exact lsp rfl zl ⟨rfl, rfl, oP (fun _ _ => rC _ _) (by subst hG_ hU hA; exact patch_set hl327 (ix_ c55) zr), tv⟩ rfl
         cbv; exact dn
        injection h with h; subst h; subst hS; show St.le _ _; refine St.le_trans (le_foldP 5 1 60004 rfl rfl rfl (by decide) (by subst hA; exact ix_ c63) (by decide) rfl (fun _ _ => rC _ _)) ?_; refine St.le_trans (le_foldP 5 2 60006 rfl rfl rfl (by decide) (by subst hA; exact ix_ c63) (by decide) rfl (fun _ _ => rC _ _)) ?_
        refine St.le_trans (le_foldP 5 3 60008 rfl rfl rfl (by decide) (by subst hA; exact ix_ c63) (by decide) rfl (fun _ _ => rC _ _)) ?_; exact lsp rfl zl ⟨rfl, rfl, oP (fun _ _ => rC _ _) (by subst hG_ hU hA; exact patch_same zr), tv⟩ rfl
       cbv; exact dn
      cbv; exact dn
     cbv; exact dn
    cbv; exact dn
   cbv; exact dn
  cbv; exact dn
 cbv; revert h; refine rq fun c335 h => ?_; injection h with h; subst h; refine ⟨(sp 225 [(4, .c (.ptr 256 0))] [(256, .var [.os 64000 0 (U_ w70)]), (64000, .arr .rw [] (U_ w70) 4 (row G_ (oC U_ G_) w70))]), ?_, ?_⟩
 ·refine St.le_trans (le_ren 5 64000 (by decide) rfl) ?_; rw [c335]; exact zb
 ·exact ⟨lR _, zo, rfl⟩

def Lq32_x50 (v10 : List TC) : (Int × (List Int) × Int × Int × Int × Int × Int × ByteArray × Int × Int × Int × Int × Int × Int × Int × Int × ByteArray × Int × Int × Int × Int × Int × Int × Int × Int) -> Option ((Int × (List Int) × Int × Int × Int × Int × Int × ByteArray × Int × Int × Int × Int × Int × Int × Int × Int × ByteArray × Int × Int × Int × Int × Int × Int × Int × Int) ⊕ (((List Int) × Int × Int × Int × Int × Int × ByteArray × Int × Int × Int × Int × Int × Int × Int × Int × ByteArray × Int × Int × Int × Int × Int × Int × Int × Int))) := fun x50 =>
 letO x50.1 fun v25 =>
 letO x50.2.1 fun v26 =>
 letO x50.2.2.1 fun v27 =>
 letO x50.2.2.2.1 fun v28 =>
 letO x50.2.2.2.2.1 fun v29 =>
 letO x50.2.2.2.2.2.1 fun v30 =>
 letO x50.2.2.2.2.2.2.1 fun v31 =>
 letO x50.2.2.2.2.2.2.2.1 fun v32 =>
 letO x50.2.2.2.2.2.2.2.2.1 fun v33 =>
 letO x50.2.2.2.2.2.2.2.2.2.1 fun v34 =>
 letO x50.2.2.2.2.2.2.2.2.2.2.1 fun v35 =>
 letO x50.2.2.2.2.2.2.2.2.2.2.2.1 fun v36 =>
 letO x50.2.2.2.2.2.2.2.2.2.2.2.2.1 fun v37 =>
 letO x50.2.2.2.2.2.2.2.2.2.2.2.2.2.1 fun v38 =>
 letO x50.2.2.2.2.2.2.2.2.2.2.2.2.2.2.1 fun v39 =>
 letO x50.2.2.2.2.2.2.2.2.2.2.2.2.2.2.2.1 fun v40 =>
 letO x50.2.2.2.2.2.2.2.2.2.2.2.2.2.2.2.2.1 fun v41 =>
 letO x50.2.2.2.2.2.2.2.2.2.2.2.2.2.2.2.2.2.1 fun v42 =>
 letO x50.2.2.2.2.2.2.2.2.2.2.2.2.2.2.2.2.2.2.1 fun v43 =>
 letO x50.2.2.2.2.2.2.2.2.2.2.2.2.2.2.2.2.2.2.2.1 fun v44 =>
 letO x50.2.2.2.2.2.2.2.2.2.2.2.2.2.2.2.2.2.2.2.2.1 fun v45 =>
 letO x50.2.2.2.2.2.2.2.2.2.2.2.2.2.2.2.2.2.2.2.2.2.1 fun v46 =>
 letO x50.2.2.2.2.2.2.2.2.2.2.2.2.2.2.2.2.2.2.2.2.2.2.1 fun v47 =>
 letO x50.2.2.2.2.2.2.2.2.2.2.2.2.2.2.2.2.2.2.2.2.2.2.2.1 fun v48 =>
 letO x50.2.2.2.2.2.2.2.2.2.2.2.2.2.2.2.2.2.2.2.2.2.2.2.2 fun v49 =>
 ((
 br (std.lt v25 3)
 ((Fq37 (TL.mk v10) (TE.mk v29 v30 v31 v32 (TS.mk v33 (TRect.mk v34 v35 v36 v37)) (TB.mk v38 (TPoint.mk v39 v40) v41) (TI.mk v42 (TM.mk v43 v44 v45) v46 v47 v48 v49))).bind fun y69 =>
 some (std.not (std.eq y69 0)))
 (some false)
 ) : Option (Bool)).bind fun y62 =>
 letO y62 fun w68 =>
 br w68
 ((Fq76 (Tl01Source.mk v26 v27 v28) (TL.mk v10)).bind fun y72 =>
 some (.inl (std.add .i64 v25 1, y72.2.gcode, y72.2.gat, y72.2.gseed, y72.1.fk_, y72.1.fc, y72.1.fx, y72.1.fN, y72.1.fs_.fy, y72.1.fs_.fb.fX0, y72.1.fs_.fb.fY0, y72.1.fs_.fb.fX1, y72.1.fs_.fb.fY1, y72.1.fl_.fy, y72.1.fl_.fa.fX, y72.1.fl_.fa.fY, y72.1.fl_.fN, y72.1.fi_.fc, y72.1.fi_.fp.fo, y72.1.fi_.fp.fX, y72.1.fi_.fp.fY, y72.1.fi_.fK, y72.1.fi_.fR, y72.1.fi_.fu, y72.1.fi_.fv)))
 (some (.inr (v26, v27, v28, v29, v30, v31, v32, v33, v34, v35, v36, v37, v38, v39, v40, v41, v42, v43, v44, v45, v46, v47, v48, v49)))
def Lq32_x11  : (Int × (List Int) × Int × Int × (List TE) × (List TC)) -> Option ((Int × (List Int) × Int × Int × (List TE) × (List TC)) ⊕ (((List TE) × (List Int) × Int × Int))) := fun x11 =>
 letO x11.1 fun v5 =>
 letO x11.2.1 fun v6 =>
 letO x11.2.2.1 fun v7 =>
 letO x11.2.2.2.1 fun v8 =>
 letO x11.2.2.2.2.1 fun v9 =>
 letO x11.2.2.2.2.2 fun v10 =>
 br (std.lt 0 v5)
 ((Fq76 (Tl01Source.mk v6 v7 v8) (TL.mk v10)).bind fun y23 =>
 (whileP (σ := Int × (List Int) × Int × Int × Int × Int × Int × ByteArray × Int × Int × Int × Int × Int × Int × Int × Int × ByteArray × Int × Int × Int × Int × Int × Int × Int × Int) (ρ := ((List Int) × Int × Int × Int × Int × Int × ByteArray × Int × Int × Int × Int × Int × Int × Int × Int × ByteArray × Int × Int × Int × Int × Int × Int × Int × Int)) (Lq32_x50 v10) (0, y23.2.gcode, y23.2.gat, y23.2.gseed, y23.1.fk_, y23.1.fc, y23.1.fx, y23.1.fN, y23.1.fs_.fy, y23.1.fs_.fb.fX0, y23.1.fs_.fb.fY0, y23.1.fs_.fb.fX1, y23.1.fs_.fb.fY1, y23.1.fl_.fy, y23.1.fl_.fa.fX, y23.1.fl_.fa.fY, y23.1.fl_.fN, y23.1.fi_.fc, y23.1.fi_.fp.fo, y23.1.fi_.fp.fX, y23.1.fi_.fp.fY, y23.1.fi_.fK, y23.1.fi_.fR, y23.1.fi_.fu, y23.1.fi_.fv)).bind fun y51 =>
 letO y51 fun y51k0 =>
 letO y51k0.1 fun w75 =>
 letO y51k0.2.1 fun w76 =>
 letO y51k0.2.2.1 fun w77 =>
 letO y51k0.2.2.2.1 fun w78 =>
 letO y51k0.2.2.2.2.1 fun w79 =>
 letO y51k0.2.2.2.2.2.1 fun w80 =>
 letO y51k0.2.2.2.2.2.2.1 fun w81 =>
 letO y51k0.2.2.2.2.2.2.2.1 fun w82 =>
 letO y51k0.2.2.2.2.2.2.2.2.1 fun w83 =>
 letO y51k0.2.2.2.2.2.2.2.2.2.1 fun w84 =>
 letO y51k0.2.2.2.2.2.2.2.2.2.2.1 fun w85 =>
 letO y51k0.2.2.2.2.2.2.2.2.2.2.2.1 fun w86 =>
 letO y51k0.2.2.2.2.2.2.2.2.2.2.2.2.1 fun w87 =>
 letO y51k0.2.2.2.2.2.2.2.2.2.2.2.2.2.1 fun w88 =>
 letO y51k0.2.2.2.2.2.2.2.2.2.2.2.2.2.2.1 fun w89 =>
 letO y51k0.2.2.2.2.2.2.2.2.2.2.2.2.2.2.2.1 fun w90 =>
 letO y51k0.2.2.2.2.2.2.2.2.2.2.2.2.2.2.2.2.1 fun w91 =>
 letO y51k0.2.2.2.2.2.2.2.2.2.2.2.2.2.2.2.2.2.1 fun w92 =>
 letO y51k0.2.2.2.2.2.2.2.2.2.2.2.2.2.2.2.2.2.2.1 fun w93 =>
 letO y51k0.2.2.2.2.2.2.2.2.2.2.2.2.2.2.2.2.2.2.2.1 fun w94 =>
 letO y51k0.2.2.2.2.2.2.2.2.2.2.2.2.2.2.2.2.2.2.2.2.1 fun w95 =>
 letO y51k0.2.2.2.2.2.2.2.2.2.2.2.2.2.2.2.2.2.2.2.2.2.1 fun w96 =>
 letO y51k0.2.2.2.2.2.2.2.2.2.2.2.2.2.2.2.2.2.2.2.2.2.2.1 fun w97 =>
 letO y51k0.2.2.2.2.2.2.2.2.2.2.2.2.2.2.2.2.2.2.2.2.2.2.2 fun w98 =>
 letO ([(TE.mk w78 w79 w80 w81 (TS.mk w82 (TRect.mk w83 w84 w85 w86)) (TB.mk w87 (TPoint.mk w88 w89) w90) (TI.mk w91 (TM.mk w92 w93 w94) w95 w96 w97 w98))] : List TE) fun l99 =>
 req (std.room (std.nadd (len v9) (len l99)) 184) <|
 letO (v9 ++ l99) fun l101 =>
 (Fq37 (TL.mk v10) (TE.mk w78 w79 w80 w81 (TS.mk w82 (TRect.mk w83 w84 w85 w86)) (TB.mk w87 (TPoint.mk w88 w89) w90) (TI.mk w91 (TM.mk w92 w93 w94) w95 w96 w97 w98))).bind fun y104 =>
 ((
 br (std.eq y104 0)
 ((Fq7 (TL.mk v10)).bind fun y113 =>
 (Fq48 y113 (TE.mk w78 w79 w80 w81 (TS.mk w82 (TRect.mk w83 w84 w85 w86)) (TB.mk w87 (TPoint.mk w88 w89) w90) (TI.mk w91 (TM.mk w92 w93 w94) w95 w96 w97 w98))).bind fun y115 =>
 some y115.fC)
 (some v10)
 ) : Option ((List TC))).bind fun y106 =>
 letO y106 fun w112 =>
 some (.inl (std.sub .i64 v5 1, w75, w76, w77, l101, w112)))
 (some (.inr (v9, v6, v7, v8)))
/-- spec.l13DrawEdits -/
def Fq32 (a0 : Tl01Source) (a1 : TL) : Option ((List TE) × Tl01Source) :=
 letO ([] : List TE) fun l1 =>
 (Fq0 (Tl01Source.mk a0.gcode a0.gat a0.gseed) 4).bind fun y3 =>
 (whileP (σ := Int × (List Int) × Int × Int × (List TE) × (List TC)) (ρ := ((List TE) × (List Int) × Int × Int)) Lq32_x11 (std.add .i64 1 y3.1, y3.2.gcode, y3.2.gat, y3.2.gseed, l1, a1.fC)).bind fun y12 =>
 letO y12 fun y12k0 =>
 letO y12k0.1 fun w119 =>
 letO y12k0.2.1 fun w120 =>
 letO y12k0.2.2.1 fun w121 =>
 letO y12k0.2.2.2 fun w122 =>
 some (w119, (Tl01Source.mk w120 w121 w122))
theorem runq32 (a0 : Tl01Source) (a1 : TL) (r : (List TE) × Tl01Source) (h : Fq32 a0 a1 = some r) : Fun prog 27 [.c (.ptr 5 0), .agg [.bs (len a1.fC) 4 (row gd (eC len gd) a1.fC)]] [(5, .var [.bs (len a0.gcode) 1 (row gd (encI .u8) a0.gcode), wi a0.gat, wi a0.gseed])] (.c (.os 64000 0 (len r.1))) [(64000, .arr .rw [] (len r.1) 21 (row gd (eE) r.1)), (5, .var [.bs (len r.2.gcode) 1 (row gd (encI .u8) r.2.gcode), wi r.2.gat, wi r.2.gseed])] false := by
 refine ow [8, 100042] func27 ntmps27 ?_ (hv := (fun h => by cases h)); unfold Fq32 at h; unfold Lq32_x11 at h; unfold Lq32_x50 at h; have hfq0 := @runq0; have hfq7 := @runq7; have hfq37 := @runq37; have hfq48 := @runq48
 have hfq76 := @runq76; generalize hU : @len = U_, hG_ : @gd = G_, hA : std = A, hP : prog = P at *; cbv; revert h; refine rl fun l1 hl1 h => ?_; have e2 : 0 = U_ l1 := by subst hl1 hU; rfl
 refine ⟨_, (co e2), _, row G_ (eE) l1, e2, wO ?_, ?_⟩
 ·intro i hi j hj; rw [<- e2] at hi; subst hl1; subst hG_; omega
 cbv; revert h; refine rk [(5, 5)] [(5, 5)] (hfq0 _ _) (fun _ => yf) fun y3 h => ?_; cbv
 revert h; refine ln (.exit 0) (fun x => (sp 48 [(0, .c (.ptr 5 0)), (5, .c (.os 640 0 (U_ x.2.2.2.2.1))), (6, .c (.ptr 384 0)), (7, .c (wi x.1))] [(5, .var [.bs (U_ x.2.1) 1 (row G_ (encI .u8) x.2.1), wi x.2.2.1, wi x.2.2.2.1]), (640, .arr .rw [] (U_ x.2.2.2.2.1) 21 (row G_ (eE) x.2.2.2.2.1)), (384, .var [.bs (U_ x.2.2.2.2.2) 4 (row G_ (eC U_ G_) x.2.2.2.2.2)])])) (fun w => (sp 48 [(5, .c (.os 640 0 (U_ w.1)))] [(640, .arr .rw [] (U_ w.1) 21 (row G_ (eE) w.1)), (5, .var [.bs (U_ w.2.1) 1 (row G_ (encI .u8) w.2.1), wi w.2.2.1, wi w.2.2.2])])) zb ?_ ?_
 ·rintro ⟨v5, v6, v7, v8, v9, v10⟩ z h K hK hY; replace h := oz (oz (oz (oz (oz (oz h))))); dsimp only at h; cbv; revert h; refine fk ?_ ?_ <;> intro h <;> cbv
  ·revert h; refine rk [(5, 5)] [(5, 5)] (hfq76 _ _) (fun _ => yf) fun y23 h => ?_; cbv
   revert h; refine ln (.exit 2) (fun x => (sp 48 [(0, .c (.ptr 5 0)), (5, .c (.os 640 0 (U_ v9))), (6, .c (.ptr 384 0)), (7, .c (wi v5)), (8, .c (.ptr 512 0)), (9, .c (wi x.1))] [(5, .var [.bs (U_ x.2.1) 1 (row G_ (encI .u8) x.2.1), wi x.2.2.1, wi x.2.2.2.1]), (640, .arr .rw [] (U_ v9) 21 (row G_ (eE) v9)), (384, .var [.bs (U_ v10) 4 (row G_ (eC U_ G_) v10)]), (512, .var [wi x.2.2.2.2.1, wi x.2.2.2.2.2.1, wi x.2.2.2.2.2.2.1, ws x.2.2.2.2.2.2.2.1, wi x.2.2.2.2.2.2.2.2.1, wi x.2.2.2.2.2.2.2.2.2.1, wi x.2.2.2.2.2.2.2.2.2.2.1, wi x.2.2.2.2.2.2.2.2.2.2.2.1, wi x.2.2.2.2.2.2.2.2.2.2.2.2.1, wi x.2.2.2.2.2.2.2.2.2.2.2.2.2.1, wi x.2.2.2.2.2.2.2.2.2.2.2.2.2.2.1, wi x.2.2.2.2.2.2.2.2.2.2.2.2.2.2.2.1, ws x.2.2.2.2.2.2.2.2.2.2.2.2.2.2.2.2.1, wi x.2.2.2.2.2.2.2.2.2.2.2.2.2.2.2.2.2.1, wi x.2.2.2.2.2.2.2.2.2.2.2.2.2.2.2.2.2.2.1, wi x.2.2.2.2.2.2.2.2.2.2.2.2.2.2.2.2.2.2.2.1, wi x.2.2.2.2.2.2.2.2.2.2.2.2.2.2.2.2.2.2.2.2.1, wi x.2.2.2.2.2.2.2.2.2.2.2.2.2.2.2.2.2.2.2.2.2.1, wi x.2.2.2.2.2.2.2.2.2.2.2.2.2.2.2.2.2.2.2.2.2.2.1, wi x.2.2.2.2.2.2.2.2.2.2.2.2.2.2.2.2.2.2.2.2.2.2.2.1, wi x.2.2.2.2.2.2.2.2.2.2.2.2.2.2.2.2.2.2.2.2.2.2.2.2])])) (fun w => (sp 48 [(0, .c (.ptr 5 0)), (5, .c (.os 640 0 (U_ v9))), (6, .c (.ptr 384 0)), (7, .c (wi v5)), (8, .c (.ptr 512 0))] [(5, .var [.bs (U_ w.1) 1 (row G_ (encI .u8) w.1), wi w.2.1, wi w.2.2.1]), (640, .arr .rw [] (U_ v9) 21 (row G_ (eE) v9)), (384, .var [.bs (U_ v10) 4 (row G_ (eC U_ G_) v10)]), (512, .var [wi w.2.2.2.1, wi w.2.2.2.2.1, wi w.2.2.2.2.2.1, ws w.2.2.2.2.2.2.1, wi w.2.2.2.2.2.2.2.1, wi w.2.2.2.2.2.2.2.2.1, wi w.2.2.2.2.2.2.2.2.2.1, wi w.2.2.2.2.2.2.2.2.2.2.1, wi w.2.2.2.2.2.2.2.2.2.2.2.1, wi w.2.2.2.2.2.2.2.2.2.2.2.2.1, wi w.2.2.2.2.2.2.2.2.2.2.2.2.2.1, wi w.2.2.2.2.2.2.2.2.2.2.2.2.2.2.1, ws w.2.2.2.2.2.2.2.2.2.2.2.2.2.2.2.1, wi w.2.2.2.2.2.2.2.2.2.2.2.2.2.2.2.2.1, wi w.2.2.2.2.2.2.2.2.2.2.2.2.2.2.2.2.2.1, wi w.2.2.2.2.2.2.2.2.2.2.2.2.2.2.2.2.2.2.1, wi w.2.2.2.2.2.2.2.2.2.2.2.2.2.2.2.2.2.2.2.1, wi w.2.2.2.2.2.2.2.2.2.2.2.2.2.2.2.2.2.2.2.2.1, wi w.2.2.2.2.2.2.2.2.2.2.2.2.2.2.2.2.2.2.2.2.2.1, wi w.2.2.2.2.2.2.2.2.2.2.2.2.2.2.2.2.2.2.2.2.2.2.1, wi w.2.2.2.2.2.2.2.2.2.2.2.2.2.2.2.2.2.2.2.2.2.2.2])])) zb ?_ ?_
   ·rintro ⟨v25, v26, v27, v28, v29, v30, v31, v32, v33, v34, v35, v36, v37, v38, v39, v40, v41, v42, v43, v44, v45, v46, v47, v48, v49⟩ z h K hK hY; replace h := oz (oz (oz (oz (oz (oz (oz (oz (oz (oz (oz (oz (oz (oz (oz (oz (oz (oz (oz (oz (oz (oz (oz (oz (oz h)))))))))))))))))))))))); dsimp only at h; cbv
    revert h; refine cu (fun y62 => (sp 48 [(0, .c (.ptr 5 0)), (5, .c (.os 640 0 (U_ v9))), (6, .c (.ptr 384 0)), (7, .c (wi v5)), (8, .c (.ptr 512 0)), (9, .c (wi v25)), (29, .c (.v (.bool y62)))] [(5, .var [.bs (U_ v26) 1 (row G_ (encI .u8) v26), wi v27, wi v28]), (640, .arr .rw [] (U_ v9) 21 (row G_ (eE) v9)), (384, .var [.bs (U_ v10) 4 (row G_ (eC U_ G_) v10)]), (512, .var [wi v29, wi v30, wi v31, ws v32, wi v33, wi v34, wi v35, wi v36, wi v37, wi v38, wi v39, wi v40, ws v41, wi v42, wi v43, wi v44, wi v45, wi v46, wi v47, wi v48, wi v49])])) ?_ fun w68 => rz fun h => ?_
    ·intro y62 S hS h; cbv; revert h; refine fk ?_ ?_ <;> intro h <;> cbv
     ·revert h; refine rk0 (hfq37 _ _) fun y69 h => ?_; cbv; exact dn
     exact dn
    cbv; revert h; refine fk ?_ ?_ <;> intro h <;> cbv
    ·revert h; refine rk [(5, 5)] [(5, 5)] (hfq76 _ _) (fun _ => yf) fun y72 h => ?_; cbv; exact dm
    exact dx
   rintro ⟨w75, w76, w77, w78, w79, w80, w81, w82, w83, w84, w85, w86, w87, w88, w89, w90, w91, w92, w93, w94, w95, w96, w97, w98⟩ h s q59; replace h := oz (oz (oz (oz (oz (oz (oz (oz (oz (oz (oz (oz (oz (oz (oz (oz (oz (oz (oz (oz (oz (oz (oz (oz (oz h)))))))))))))))))))))))); dsimp only at h; cbv; refine ⟨_, q59, ?_⟩; cbv; revert h; refine rl fun l99 hl99 h => ?_
   have e100 : 1 = U_ l99 := by subst hl99 hU; rfl
   refine ⟨_, (co e100), _, row G_ (eE) l99, e100, wO ?_, ?_⟩
   ·intro i hi j hj; rw [<- e100] at hi; subst hl99; subst hG_
    obtain rfl : i = 0 := (by omega) <;> obtain rfl | rfl | rfl | rfl | rfl | rfl | rfl | rfl | rfl | rfl | rfl | rfl | rfl | rfl | rfl | rfl | rfl | rfl | rfl | rfl | rfl : j = 0 \/ j = 1 \/ j = 2 \/ j = 3 \/ j = 4 \/ j = 5 \/ j = 6 \/ j = 7 \/ j = 8 \/ j = 9 \/ j = 10 \/ j = 11 \/ j = 12 \/ j = 13 \/ j = 14 \/ j = 15 \/ j = 16 \/ j = 17 \/ j = 18 \/ j = 19 \/ j = 20 := (by omega)
    all_goals rfl
   cbv; revert h; refine rq fun c103 => rl fun l101 hl101 h => ?_; have e102 := nl hA hU hl101; refine ⟨c103, _, (co e102), _, row G_ (eE) l101, e102, wO ?_, ?_⟩
   ·subst hG_ hU hA; exact app_os (off := 0) (pl_encEdit) hl101 (Nat.le_refl _)
   cbv; revert h; refine rk0 (hfq37 _ _) fun y104 h => ?_; cbv
   revert h; refine cu (fun y106 => some (sp 48 [(0, .c (.ptr 5 0)), (5, .c (.os 640 0 (U_ l101))), (6, .c (.ptr 384 0)), (7, .c (wi v5))] [(5, .var [.bs (U_ w75) 1 (row G_ (encI .u8) w75), wi w76, wi w77]), (640, .arr .rw [] (U_ l101) 21 (row G_ (eE) l101)), (384, .var [.bs (U_ y106) 4 (row G_ (eC U_ G_) y106)])])) ?_ fun w112 => rz fun h => ?_
   ·intro y106 S hS h; cbv; revert h; refine fk ?_ ?_ <;> intro h <;> cbv
    ·revert h; refine rk [] [(64000, 2816)] (hfq7 _) (fun _ => zf) fun y113 h => ⟨_, rfl, _, _, rfl, fun _ _ _ _ => .refl _, ?_⟩
     cbv; revert h; refine rk [(5, 2816)] [(64000, 2944)] (hfq48 _ _) (fun _ => zf) fun y115 h => ⟨_, rfl, _, _, rfl, fun _ _ _ _ => .refl _, ?_⟩
     cbv; injection h with h; subst h; subst hS; show St.le _ _; refine St.le_trans (le_fz 2944 (row G_ (eC U_ G_) y115.fC) rfl (fun _ _ => ln_oncCell _ _)) ?_; exact zb
    exact dn
   cbv; exact dm
  exact dx
 rintro ⟨w119, w120, w121, w122⟩ h s q20; replace h := oz (oz (oz (oz (oz h)))); dsimp only at h; cbv; refine ⟨_, q20, ?_⟩; cbv; injection h with h; subst h; exact ⟨_, le_ren 640 64000 (by decide) rfl, lR _, zo, rfl⟩
set_option maxHeartbeats 40000000
/-- spec.DrawApplyEdits -/
def Fq78 (a0 : List Int) : Option (TL × (List TE)) :=
 (Fq53 a0).bind fun y1 =>
 ((
 (Fq10 y1).bind fun y14 =>
 some (([] : List TC), y14.2.gcode, y14.2.gat, y14.2.gseed, y14.1.fC)
 ) : Option ((List TC) × (List Int) × Int × Int × (List TC))).bind fun y3 =>
 letO y3.1 fun w9 =>
 letO y3.2.1 fun w10 =>
 letO y3.2.2.1 fun w11 =>
 letO y3.2.2.2.1 fun w12 =>
 letO y3.2.2.2.2 fun w13 =>
 (Fq32 (Tl01Source.mk w10 w11 w12) (TL.mk w13)).bind fun y16 =>
 (Fq0 y16.2 20).bind fun y18 =>
 ((
 br (std.eq y18.1 0)
 (((
 req (std.room (std.nadd (len y16.1) (len y16.1)) 184) <|
 letO (y16.1 ++ y16.1) fun l35 =>
 req (std.room (std.nadd (len l35) (len y16.1)) 184) <|
 letO (l35 ++ y16.1) fun l37 =>
 some l37
 ) : Option ((List TE))).bind fun y27 =>
 letO y27 fun w33 =>
 some w33)
 (some y16.1)
 ) : Option ((List TE))).bind fun y20 =>
 letO y20 fun w26 =>
 some ((TL.mk w13), w26)
theorem runq78 (a0 : List Int) (r : TL × (List TE)) (h : Fq78 a0 = some r) : Fun prog 8 [.c (.bs (len a0) 1 (row gd (encI .u8) a0))] [] (.tup [.agg [.bs (len r.1.fC) 4 (row gd (eC len gd) r.1.fC)], .c (.os 64000 0 (len r.2))]) [(64000, .arr .rw [] (len r.2) 21 (row gd (eE) r.2))] false := by
 refine ow [2, 100016, 200005] func8 ntmps8 ?_ (hv := (fun h => by cases h)); unfold Fq78 at h; have hfq53 := @runq53; have hfq0 := @runq0; have hfq10 := @runq10; have hfq32 := @runq32
 generalize hU : @len = U_, hG_ : @gd = G_, hA : std = A, hP : prog = P at *; cbv; revert h; refine rk [] [(64000, 512)] (hfq53 _) (fun _ => zf) fun y1 h => ?_; cbv
 revert h; refine cu (fun y3 => (sp 24 [(2, .c (.ptr 128 0)), (4, .c (.ptr 512 0)), (5, .c (.ptr 320 0))] [(128, .var [.bs (U_ y3.1) 4 (row G_ (eC U_ G_) y3.1)]), (512, .var [.bs (U_ y3.2.1) 1 (row G_ (encI .u8) y3.2.1), wi y3.2.2.1, wi y3.2.2.2.1]), (320, .var [.bs (U_ y3.2.2.2.2) 4 (row G_ (eC U_ G_) y3.2.2.2.2)])])) ?_ ?_
 ·intro y3 S hS h; cbv; revert h; refine rk [(5, 512)] [(64000, 640), (5, 512)] (hfq10 _) (fun _ => ⟨zs1, ⟨rfl, tv⟩, rfl, rfl, rfl, rfl, ⟨evn 64000 rfl, fun _ => rfl, tv⟩, rfl⟩) fun y14 h => ⟨_, rfl, _, _, rfl, fun _ _ _ _ => .refl _, ?_⟩
  cbv; injection h with h; subst h; subst hS; show St.le _ _; refine St.le_trans (le_nilVb 128 0 4 (row G_ (eC U_ G_) ([] : List TC)) rfl rfl) ?_; refine St.le_trans (le_fz 640 (row G_ (eC U_ G_) y14.1.fC) rfl (fun _ _ => ln_oncCell _ _)) ?_; subst hU; exact zb
 rintro ⟨w9, w10, w11, w12, w13⟩ h; replace h := oz (oz (oz (oz (oz h)))); dsimp only at h; cbv
 revert h; refine rk [(5, 512)] [(64000, 832), (5, 512)] (hfq32 _ _) (fun _ => ⟨zs2, ⟨rfl, tv⟩, rfl, rfl, rfl, rfl, ⟨evn 64000 rfl, fun _ => rfl, tv⟩, rfl⟩) fun y16 h => ⟨_, rfl, _, _, rfl, fun _ _ _ _ => .refl _, ?_⟩
 cbv; revert h; refine rk [(5, 512)] [(5, 512)] (hfq0 _ _) (fun _ => yf) fun y18 h => ?_; cbv
 revert h; refine cu (fun y20 => some (sp 24 [(2, .c (.ptr 128 0)), (5, .c (.ptr 320 0)), (6, .c (.os 832 0 (U_ y20)))] [(128, .var [.bs (U_ w9) 4 (row G_ (eC U_ G_) w9)]), (320, .var [.bs (U_ w13) 4 (row G_ (eC U_ G_) w13)]), (832, .arr .rw [] (U_ y20) 21 (row G_ (eE) y20))])) ?_ fun w26 => rz fun h => ?_
 ·intro y20 S hS h; cbv; revert h; refine fk ?_ ?_ <;> intro h <;> cbv
  ·revert h; refine cu (fun y27 => (sp 24 [(2, .c (.ptr 128 0)), (5, .c (.ptr 320 0)), (6, .c (.os 832 0 (U_ y27)))] [(128, .var [.bs (U_ w9) 4 (row G_ (eC U_ G_) w9)]), (320, .var [.bs (U_ w13) 4 (row G_ (eC U_ G_) w13)]), (832, .arr .rw [] (U_ y27) 21 (row G_ (eE) y27))])) ?_ fun w33 => rz fun h => ?_
   ·intro y27 S hS h; cbv; revert h; refine rq fun c34 => rl fun l35 hl35 h => ?_; refine keep_sem tok hA 6 17 18 19 832 rfl ⟨rfl, rfl, rfl⟩ ⟨rfl, rfl, rfl⟩ ⟨rfl, rfl, rfl⟩ ⟨rfl, rfl, rfl, rfl⟩ ⟨rfl, rfl, rfl⟩ rfl rfl rfl rfl (fun _ _ => pl_encEdit _ _) c34 (join_self (sz := 21) hA hU hG_ (pl_encEdit) hl35).1 (join_self (sz := 21) hA hU hG_ (pl_encEdit) hl35).2 ?_ ?_
    ·have hk36 := keep_tail hU hl35; cbv; revert h; refine rq fun c39 => rl fun l37 hl37 h => ?_; have e38 := nl hA hU hl37; refine ⟨c39, _, (co e38), _, row G_ (eE) l37, e38, wO ?_, ?_⟩
     ·subst hG_ hU hA; exact app_osP (pl_encEdit) hk36 rfl hl37 (Nat.le_refl _)
     cbv; exact dn
    ·cbv; revert h; refine rq fun c39 => rl fun l37 hl37 h => ?_; have e38 := nl hA hU hl37; refine ⟨c39, _, (co e38), _, row G_ (eE) l37, e38, wO ?_, ?_⟩
     ·subst hG_ hU hA; exact app_os (off := 0) (pl_encEdit) hl37 (Nat.le_refl _)
     cbv; injection h with h; subst h; subst hS; show St.le _ _; refine St.le_trans (le_swap 1216 832 (by decide) (by decide)) ?_; exact zb
   cbv; exact dn
  exact dn
 cbv; injection h with h; subst h; exact ⟨_, le_ren 832 64000 (by decide) rfl, lR _, zo, rfl⟩

def Lq17_x2 (a0 : ByteArray) : (Int) -> Option ((Int) ⊕ ((Unit) ⊕ (Unit))) := fun x2 =>
 letO x2 fun v1 =>
 br (std.lt v1 (std.ofN (std.slen a0)))
 (((
 req (std.inR v1 (std.slen a0)) <|
 br (std.lt (std.sat a0 (std.toN v1)) 97)
 (req (std.inR v1 (std.slen a0)) <|
 br (std.lt (std.sat a0 (std.toN v1)) 48)
 (some true)
 (req (std.inR v1 (std.slen a0)) <|
 some (std.lt 57 (std.sat a0 (std.toN v1)))))
 (req (std.inR v1 (std.slen a0)) <|
 br (std.lt 122 (std.sat a0 (std.toN v1)))
 (req (std.inR v1 (std.slen a0)) <|
 br (std.lt (std.sat a0 (std.toN v1)) 48)
 (some true)
 (req (std.inR v1 (std.slen a0)) <|
 some (std.lt 57 (std.sat a0 (std.toN v1)))))
 (some false))
 ) : Option (Bool)).bind fun y14 =>
 letO y14 fun w20 =>
 br w20
 (some (.inr (.inl ())))
 (some (.inl (std.add .i64 v1 1))))
 (some (.inr (.inr ())))
/-- impl.IsName -/
def Fq17 (a0 : ByteArray) : Option (Bool) :=
  (whileP (σ := Int) (ρ := (Unit) ⊕ (Unit)) (Lq17_x2 a0) 0).bind fun y3 =>
  (match y3 with
 | .inl y3k0 => (
  some false)
 | .inr y3m0 =>
  ((
  br (std.le 1 (std.ofN (std.slen a0)))
  (some (std.le (std.ofN (std.slen a0)) 8))
  (some false)
  ) : Option (Bool)).bind fun y33 =>
  letO y33 fun w39 =>
  some w39)
theorem runq17 (a0 : ByteArray) (r : Bool) (h : Fq17 a0 = some r) : Fun prog 86 [.c (ws a0)] [] (.c (.v (.bool r))) [] true := by
 refine ow [4, 6] func86 ntmps86 ?_; unfold Fq17 at h; unfold Lq17_x2 at h; generalize hU : @len = U_, hG_ : @gd = G_, hA : std = A, hP : prog = P at *; cbv
 revert h; refine lc (fun x => (sp 40 [(0, .c (ws a0)), (3, .c (wi x))] [])) (fun y e s => (match y with | .inl w => e = .ret /\ s.le (sp 40 [(2, .c (.v (.bool false)))] []) | .inr w0 => (fun (w : Unit) => e = .exit 0 /\ s.le (sp 40 [(0, .c (ws a0))] [])) w0)) zb ?_ ?_
 ·intro v1 z h K hK hY; replace h := oz h; cbv; revert h; refine fk ?_ ?_ <;> intro h <;> cbv
  ·revert h; refine cu (fun y14 => (sp 40 [(0, .c (ws a0)), (3, .c (wi v1)), (31, .c (.v (.bool y14)))] [])) (fun y14 S hS h => rg) fun w20 => rz fun h => ?_; cbv; revert h; refine fk ?_ ?_ <;> intro h <;> cbv
   ·exact dy
   exact dm
  exact dy
 intro y3 h e12 s13 q11 hne; rcases y3 with y3k0 | y3m0
 ·replace h := h; obtain ⟨rfl, q11⟩ := q11; cbv; injection h with h; subst h; exact ⟨_, q11, lR _, zo, rfl⟩
 ·obtain ⟨rfl, q11⟩ := q11; cbv; refine ⟨_, q11, ?_⟩; cbv; revert h; refine cu (fun y33 => (sp 40 [(2, .c (.v (.bool y33)))] [])) (fun y33 S hS h => rg) fun w39 => rz fun h => ?_; cbv; exact df

/-- impl.within -/
def Fq3 (a0 : Int) (a1 : Int) (a2 : Int) : Option (Bool) :=
 ((
 br (std.le a1 a0)
 (some (std.le a0 a2))
 (some false)
 ) : Option (Bool)).bind fun y1 =>
 letO y1 fun w7 =>
 some w7
theorem runq3 (a0 : Int) (a1 : Int) (a2 : Int) (r : Bool) (h : Fq3 a0 a1 a2 = some r) : Fun prog 100 [.c (wi a0), .c (wi a1), .c (wi a2)] [] (.c (.v (.bool r))) [] true := by
 refine ow [1] func100 ntmps100 ?_; unfold Fq3 at h; generalize hU : @len = U_, hG_ : @gd = G_, hA : std = A, hP : prog = P at *; cbv; revert h; refine cu (fun y1 => (sp 15 [(6, .c (.v (.bool y1)))] [])) (fun y1 S hS h => rg) fun w7 => rz fun h => ?_; cbv; exact df

/-- impl.IsValidRect -/
def Fq107 (a0 : TRect) : Option (Bool) :=
 ((
 br (std.le (-40) a0.fX0)
 (br (std.lt a0.fX0 a0.fX1)
 (br (std.le a0.fX1 40)
 (br (std.le (-40) a0.fY0)
 (br (std.lt a0.fY0 a0.fY1)
 (some (std.le a0.fY1 40))
 (some false))
 (some false))
 (some false))
 (some false))
 (some false)
 ) : Option (Bool)).bind fun y1 =>
 letO y1 fun w7 =>
 some w7
theorem runq107 (a0 : TRect) (r : Bool) (h : Fq107 a0 = some r) : Fun prog 144 [.agg [wi a0.fX0, wi a0.fY0, wi a0.fX1, wi a0.fY1]] [] (.c (.v (.bool r))) [] true := by
 refine ow [1] func144 ntmps144 ?_; unfold Fq107 at h; generalize hU : @len = U_, hG_ : @gd = G_, hA : std = A, hP : prog = P at *; cbv; revert h; refine cu (fun y1 => (sp 35 [(2, .c (.v (.bool y1)))] [])) (fun y1 S hS h => rg) fun w7 => rz fun h => ?_; cbv; exact df

/-- impl.validShape -/
def Fq58 (a0 : TS) : Option (Bool) :=
 ((
 (Fq3 a0.fy 0 7).bind fun y8 =>
 br y8
 ((Fq107 a0.fb).bind fun y10 =>
 some y10)
 (some false)
 ) : Option (Bool)).bind fun y1 =>
 letO y1 fun w7 =>
 some w7
theorem runq58 (a0 : TS) (r : Bool) (h : Fq58 a0 = some r) : Fun prog 89 [.agg [wi a0.fy, wi a0.fb.fX0, wi a0.fb.fY0, wi a0.fb.fX1, wi a0.fb.fY1]] [] (.c (.v (.bool r))) [] true := by
 refine ow [1] func89 ntmps89 ?_; unfold Fq58 at h; have hfq107 := @runq107; have hfq3 := @runq3; generalize hU : @len = U_, hG_ : @gd = G_, hA : std = A, hP : prog = P at *; cbv; revert h; refine cu (fun y1 => (sp 11 [(2, .c (.v (.bool y1)))] [])) ?_ fun w7 => rz fun h => ?_
 ·intro y1 S hS h; cbv; revert h; refine rk0 (hfq3 _ _ _) fun y8 h => ?_; cbv; revert h; refine fk ?_ ?_ <;> intro h <;> cbv
  ·revert h; refine rk0 (hfq107 _) fun y10 h => ?_; cbv; exact dn
  exact dn
 cbv; exact df

/-- impl.validCell$1 -/
def Fq118 (a0 : TS) : Option (Bool) :=
 (Fq58 (TS.mk a0.fy a0.fb)).bind fun y1 =>
 some (!(y1))
theorem runq118 (a0 : TS) (r : Bool) (h : Fq118 a0 = some r) : Fun prog 88 [.agg [wi a0.fy, wi a0.fb.fX0, wi a0.fb.fY0, wi a0.fb.fX1, wi a0.fb.fY1]] [] (.c (.v (.bool r))) [] true := by
 refine ow [] func88 ntmps88 ?_; unfold Fq118 at h; have hfq58 := @runq58; generalize hU : @len = U_, hG_ : @gd = G_, hA : std = A, hP : prog = P at *; cbv; revert h; refine rk0 (hfq58 _) fun y1 h => ?_; cbv; exact df
set_option maxHeartbeats 40000000
def Lq67_x2 (a0 : List TS) : (Int) -> Option ((Int) ⊕ ((Int) ⊕ (Unit))) := fun x2 =>
 letO x2 fun v1 =>
 br (std.lt v1 (std.ofN (len a0)))
 (req (std.inR v1 (len a0)) <|
 (Fq118 (gd a0 (std.toN v1))).bind fun y15 =>
 br y15
 (some (.inr (.inl v1)))
 (some (.inl (std.add .i64 v1 1))))
 (some (.inr (.inr ())))
/-- impl.Shape] -/
def Fq67 (a0 : List TS) : Option (Int) :=
  (whileP (σ := Int) (ρ := (Int) ⊕ (Unit)) (Lq67_x2 a0) 0).bind fun y3 =>
  (match y3 with
 | .inl y3k0 => (
  letO y3k0 fun w19 =>
  some w19)
 | .inr y3m0 =>
  some (-1))
theorem runq67 (a0 : List TS) (r : Int) (h : Fq67 a0 = some r) : Fun prog 143 [.c (.bs (len a0) 5 (row gd (eS) a0)), .c (.fn 88 0 fun _ => .junk)] [] (.c (wi r)) [] true := by
 refine ow [] func143 ntmps143 ?_; unfold Fq67 at h; unfold Lq67_x2 at h; have hfq118 := @runq118; generalize hU : @len = U_, hG_ : @gd = G_, hA : std = A, hP : prog = P at *; cbv
 revert h; refine lc (fun x => (sp 19 [(0, .c (.bs (U_ a0) 5 (row G_ (eS) a0))), (1, .c (.fn 88 0 fun _ => .junk)), (7, .c (wi (A.ofN (U_ a0)))), (8, .c (wi x))] [])) (fun y e s => (match y with | .inl w => e = .ret /\ s.le (sp 19 [(4, .c (wi w))] []) | .inr w0 => (fun (w : Unit) => e = .exit 0 /\ s.le (sp 19 [] [])) w0)) zb ?_ ?_
 ·intro v1 z h K hK hY; replace h := oz h; cbv; revert h; refine fk ?_ ?_ <;> intro h <;> cbv
  ·revert h; refine ra fun c14 h => ?_; revert h; refine rk0 (hfq118 _) fun y15 h => ?_; cbv; revert h; refine fk ?_ ?_ <;> intro h <;> cbv
   ·exact dy
   exact dm
  exact dy
 intro y3 h e12 s13 q11 hne; rcases y3 with y3k0 | y3m0
 ·replace h := h; obtain ⟨rfl, q11⟩ := q11; revert h; refine rz fun h => ?_; cbv; injection h with h; subst h; exact ⟨_, q11, lR _, zo, rfl⟩
 ·obtain ⟨rfl, q11⟩ := q11; cbv; refine ⟨_, q11, ?_⟩; cbv; exact df

/-- impl.Shape] -/
def Fq101 (a0 : List TS) : Option (Bool) :=
 (Fq67 a0).bind fun y1 =>
 some (std.le 0 y1)
theorem runq101 (a0 : List TS) (r : Bool) (h : Fq101 a0 = some r) : Fun prog 87 [.c (.bs (len a0) 5 (row gd (eS) a0)), .c (.fn 88 0 fun _ => .junk)] [] (.c (.v (.bool r))) [] true := by
 refine ow [] func87 ntmps87 ?_; unfold Fq101 at h; have hfq67 := @runq67; generalize hU : @len = U_, hG_ : @gd = G_, hA : std = A, hP : prog = P at *; cbv
 revert h; refine rk0 (hfq67 _) fun y1 h => ?_; cbv; exact df

/-- impl.isUnitCell -/
def Fq100 (a0 : TPoint) : Option (Bool) :=
 ((
 (Fq3 a0.fX (-40) 39).bind fun y8 =>
 br y8
 ((Fq3 a0.fY (-40) 39).bind fun y10 =>
 some y10)
 (some false)
 ) : Option (Bool)).bind fun y1 =>
 letO y1 fun w7 =>
 some w7
theorem runq100 (a0 : TPoint) (r : Bool) (h : Fq100 a0 = some r) : Fun prog 146 [.agg [wi a0.fX, wi a0.fY]] [] (.c (.v (.bool r))) [] true := by
 refine ow [1] func146 ntmps146 ?_; unfold Fq100 at h; have hfq3 := @runq3; generalize hU : @len = U_, hG_ : @gd = G_, hA : std = A, hP : prog = P at *; cbv; revert h; refine cu (fun y1 => (sp 11 [(2, .c (.v (.bool y1)))] [])) ?_ fun w7 => rz fun h => ?_
 ·intro y1 S hS h; cbv; revert h; refine rk0 (hfq3 _ _ _) fun y8 h => ?_; cbv; revert h; refine fk ?_ ?_ <;> intro h <;> cbv
  ·revert h; refine rk0 (hfq3 _ _ _) fun y10 h => ?_; cbv; exact dn
  exact dn
 cbv; exact df

/-- impl.validLabel -/
def Fq66 (a0 : TB) : Option (Bool) :=
 ((
 (Fq3 a0.fy 0 7).bind fun y8 =>
 br y8
 ((Fq100 a0.fa).bind fun y10 =>
 br y10
 ((Fq17 a0.fN).bind fun y12 =>
 some y12)
 (some false))
 (some false)
 ) : Option (Bool)).bind fun y1 =>
 letO y1 fun w7 =>
 some w7
theorem runq66 (a0 : TB) (r : Bool) (h : Fq66 a0 = some r) : Fun prog 92 [.agg [wi a0.fy, wi a0.fa.fX, wi a0.fa.fY, ws a0.fN]] [] (.c (.v (.bool r))) [] true := by
 refine ow [1] func92 ntmps92 ?_; unfold Fq66 at h; have hfq17 := @runq17; have hfq100 := @runq100; have hfq3 := @runq3; generalize hU : @len = U_, hG_ : @gd = G_, hA : std = A, hP : prog = P at *; cbv; revert h; refine cu (fun y1 => (sp 16 [(2, .c (.v (.bool y1)))] [])) ?_ fun w7 => rz fun h => ?_
 ·intro y1 S hS h; cbv; revert h; refine rk0 (hfq3 _ _ _) fun y8 h => ?_; cbv; revert h; refine fk ?_ ?_ <;> intro h <;> cbv
  ·revert h; refine rk0 (hfq100 _) fun y10 h => ?_; cbv; revert h; refine fk ?_ ?_ <;> intro h <;> cbv
   ·revert h; refine rk0 (hfq17 _) fun y12 h => ?_; cbv; exact dn
   exact dn
  exact dn
 cbv; exact df

/-- impl.validCell$2 -/
def Fq124 (a0 : TB) : Option (Bool) :=
 (Fq66 (TB.mk a0.fy a0.fa a0.fN)).bind fun y1 =>
 some (!(y1))
theorem runq124 (a0 : TB) (r : Bool) (h : Fq124 a0 = some r) : Fun prog 91 [.agg [wi a0.fy, wi a0.fa.fX, wi a0.fa.fY, ws a0.fN]] [] (.c (.v (.bool r))) [] true := by
 refine ow [] func91 ntmps91 ?_; unfold Fq124 at h; have hfq66 := @runq66; generalize hU : @len = U_, hG_ : @gd = G_, hA : std = A, hP : prog = P at *; cbv; revert h; refine rk0 (hfq66 _) fun y1 h => ?_; cbv; exact df

def Lq59_x2 (a0 : List TB) : (Int) -> Option ((Int) ⊕ ((Int) ⊕ (Unit))) := fun x2 =>
 letO x2 fun v1 =>
 br (std.lt v1 (std.ofN (len a0)))
 (req (std.inR v1 (len a0)) <|
 (Fq124 (gd a0 (std.toN v1))).bind fun y15 =>
 br y15
 (some (.inr (.inl v1)))
 (some (.inl (std.add .i64 v1 1))))
 (some (.inr (.inr ())))
/-- impl.Label] -/
def Fq59 (a0 : List TB) : Option (Int) :=
  (whileP (σ := Int) (ρ := (Int) ⊕ (Unit)) (Lq59_x2 a0) 0).bind fun y3 =>
  (match y3 with
 | .inl y3k0 => (
  letO y3k0 fun w19 =>
  some w19)
 | .inr y3m0 =>
  some (-1))
theorem runq59 (a0 : List TB) (r : Int) (h : Fq59 a0 = some r) : Fun prog 145 [.c (.bs (len a0) 4 (row gd (eL_0) a0)), .c (.fn 91 0 fun _ => .junk)] [] (.c (wi r)) [] true := by
 refine ow [] func145 ntmps145 ?_; unfold Fq59 at h; unfold Lq59_x2 at h; have hfq124 := @runq124; generalize hU : @len = U_, hG_ : @gd = G_, hA : std = A, hP : prog = P at *; cbv
 revert h; refine lc (fun x => (sp 19 [(0, .c (.bs (U_ a0) 4 (row G_ (eL_0) a0))), (1, .c (.fn 91 0 fun _ => .junk)), (7, .c (wi (A.ofN (U_ a0)))), (8, .c (wi x))] [])) (fun y e s => (match y with | .inl w => e = .ret /\ s.le (sp 19 [(4, .c (wi w))] []) | .inr w0 => (fun (w : Unit) => e = .exit 0 /\ s.le (sp 19 [] [])) w0)) zb ?_ ?_
 ·intro v1 z h K hK hY; replace h := oz h; cbv; revert h; refine fk ?_ ?_ <;> intro h <;> cbv
  ·revert h; refine ra fun c14 h => ?_; revert h; refine rk0 (hfq124 _) fun y15 h => ?_; cbv; revert h; refine fk ?_ ?_ <;> intro h <;> cbv
   ·exact dy
   exact dm
  exact dy
 intro y3 h e12 s13 q11 hne; rcases y3 with y3k0 | y3m0
 ·replace h := h; obtain ⟨rfl, q11⟩ := q11; revert h; refine rz fun h => ?_; cbv; injection h with h; subst h; exact ⟨_, q11, lR _, zo, rfl⟩
 ·obtain ⟨rfl, q11⟩ := q11; cbv; refine ⟨_, q11, ?_⟩; cbv; exact df
end
end Go.Proofs.YtfoefnkbiofejaaGreat.AM
