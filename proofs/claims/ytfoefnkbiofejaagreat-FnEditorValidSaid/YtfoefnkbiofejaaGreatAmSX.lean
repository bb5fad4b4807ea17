/-
  What the functions that the law reaches compute, and that they do. No condition.
-/
import Derived.Test.YtfoefnkbiofejaaGreatAmSW
namespace Go.Proofs.YtfoefnkbiofejaaGreat.AM
noncomputable section
open Go Go.Proofs Go.RowKit Go.Proofs.Tryz
set_option linter.unusedVariables false
set_option linter.unusedSimpArgs false
set_option maxRecDepth 100000

set_option maxHeartbeats 40000000
/-- impl.validCell$1 -/
def Fq112 (a0 : TS) : Option (Bool) :=
 (Fq59 (TS.mk a0.fy a0.fb)).bind fun y1 =>
 some (!(y1))
theorem runq112 (a0 : TS) (r : Bool) (h : Fq112 a0 = some r) : Fun prog 88 [.agg [wi a0.fy, wi a0.fb.fX0, wi a0.fb.fY0, wi a0.fb.fX1, wi a0.fb.fY1]] [] (.c (.v (.bool r))) [] true := by
 refine ow [] func88 ntmps88 ?_; unfold Fq112 at h; have hfq59 := @runq59; generalize hU : @len = U_, hG_ : @gd = G_, hA : std = A, hP : prog = P at *; cbv; revert h; refine rk0 (hfq59 _) fun y1 h => ?_; cbv; exact df

def Lq57_x2 (a0 : List TS) : (Int) -> Option ((Int) ⊕ ((Int) ⊕ (Unit))) := fun x2 =>
 letO x2 fun v1 =>
 br (std.lt v1 (std.ofN (len a0)))
 (req (std.inR v1 (len a0)) <|
 (Fq112 (gd a0 (std.toN v1))).bind fun y15 =>
 br y15
 (some (.inr (.inl v1)))
 (some (.inl (std.add .i64 v1 1))))
 (some (.inr (.inr ())))
/-- impl.Shape] -/
def Fq57 (a0 : List TS) : Option (Int) :=
  (whileP (σ := Int) (ρ := (Int) ⊕ (Unit)) (Lq57_x2 a0) 0).bind fun y3 =>
  (match y3 with
 | .inl y3k0 => (
  letO y3k0 fun w19 =>
  some w19)
 | .inr y3m0 =>
  some (-1))
theorem runq57 (a0 : List TS) (r : Int) (h : Fq57 a0 = some r) : Fun prog 143 [.c (.bs (len a0) 5 (row gd (eS) a0)), .c (.fn 88 0 fun _ => .junk)] [] (.c (wi r)) [] true := by
 refine ow [] func143 ntmps143 ?_; unfold Fq57 at h; unfold Lq57_x2 at h; have hfq112 := @runq112; generalize hU : @len = U_, hG_ : @gd = G_, hA : std = A, hP : prog = P at *; cbv
 revert h; refine lc (fun x => (sp 19 [(0, .c (.bs (U_ a0) 5 (row G_ (eS) a0))), (1, .c (.fn 88 0 fun _ => .junk)), (7, .c (wi (A.ofN (U_ a0)))), (8, .c (wi x))] [])) (fun y e s => (match y with | .inl w => e = .ret /\ s.le (sp 19 [(4, .c (wi w))] []) | .inr w0 => (fun (w : Unit) => e = .exit 0 /\ s.le (sp 19 [] [])) w0)) zb ?_ ?_
 ·intro v1 z h K hK hY; replace h := oz h; cbv; revert h; refine fk ?_ ?_ <;> intro h <;> cbv
  ·revert h; refine ra fun c14 h => ?_; revert h; refine rk0 (hfq112 _) fun y15 h => ?_; cbv; revert h; refine fk ?_ ?_ <;> intro h <;> cbv
   ·exact dy
   exact dm
  exact dy
 intro y3 h e12 s13 q11 hne; rcases y3 with y3k0 | y3m0
 ·replace h := h; obtain ⟨rfl, q11⟩ := q11; revert h; refine rz fun h => ?_; cbv; injection h with h; subst h; exact ⟨_, q11, lR _, zo, rfl⟩
 ·obtain ⟨rfl, q11⟩ := q11; cbv; refine ⟨_, q11, ?_⟩; cbv; exact df

/-- impl.Shape] -/
def Fq102 (a0 : List TS) : Option (Bool) :=
 (Fq57 a0).bind fun y1 =>
 some (std.le 0 y1)
theorem runq102 (a0 : List TS) (r : Bool) (h : Fq102 a0 = some r) : Fun prog 87 [.c (.bs (len a0) 5 (row gd (eS) a0)), .c (.fn 88 0 fun _ => .junk)] [] (.c (.v (.bool r))) [] true := by
 refine ow [] func87 ntmps87 ?_; unfold Fq102 at h; have hfq57 := @runq57; generalize hU : @len = U_, hG_ : @gd = G_, hA : std = A, hP : prog = P at *; cbv
 revert h; refine rk0 (hfq57 _) fun y1 h => ?_; cbv; exact df

/-- impl.isUnitCell -/
def Fq90 (a0 : TPoint) : Option (Bool) :=
 ((
 (Fq2 a0.fX (-40) 39).bind fun y8 =>
 br y8
 ((Fq2 a0.fY (-40) 39).bind fun y10 =>
 some y10)
 (some false)
 ) : Option (Bool)).bind fun y1 =>
 letO y1 fun w7 =>
 some w7
theorem runq90 (a0 : TPoint) (r : Bool) (h : Fq90 a0 = some r) : Fun prog 146 [.agg [wi a0.fX, wi a0.fY]] [] (.c (.v (.bool r))) [] true := by
 refine ow [1] func146 ntmps146 ?_; unfold Fq90 at h; have hfq2 := @runq2; generalize hU : @len = U_, hG_ : @gd = G_, hA : std = A, hP : prog = P at *; cbv; revert h; refine cu (fun y1 => (sp 11 [(2, .c (.v (.bool y1)))] [])) ?_ fun w7 => rz fun h => ?_
 ·intro y1 S hS h; cbv; revert h; refine rk0 (hfq2 _ _ _) fun y8 h => ?_; cbv; revert h; refine fk ?_ ?_ <;> intro h <;> cbv
  ·revert h; refine rk0 (hfq2 _ _ _) fun y10 h => ?_; cbv; exact dn
  exact dn
 cbv; exact df

/-- impl.validLabel -/
def Fq52 (a0 : TB) : Option (Bool) :=
 ((
 (Fq2 a0.fy 0 7).bind fun y8 =>
 br y8
 ((Fq90 a0.fa).bind fun y10 =>
 br y10
 ((Fq16 a0.fN).bind fun y12 =>
 some y12)
 (some false))
 (some false)
 ) : Option (Bool)).bind fun y1 =>
 letO y1 fun w7 =>
 some w7
theorem runq52 (a0 : TB) (r : Bool) (h : Fq52 a0 = some r) : Fun prog 92 [.agg [wi a0.fy, wi a0.fa.fX, wi a0.fa.fY, ws a0.fN]] [] (.c (.v (.bool r))) [] true := by
 refine ow [1] func92 ntmps92 ?_; unfold Fq52 at h; have hfq16 := @runq16; have hfq90 := @runq90; have hfq2 := @runq2; generalize hU : @len = U_, hG_ : @gd = G_, hA : std = A, hP : prog = P at *; cbv; revert h; refine cu (fun y1 => (sp 16 [(2, .c (.v (.bool y1)))] [])) ?_ fun w7 => rz fun h => ?_
 ·intro y1 S hS h; cbv; revert h; refine rk0 (hfq2 _ _ _) fun y8 h => ?_; cbv; revert h; refine fk ?_ ?_ <;> intro h <;> cbv
  ·revert h; refine rk0 (hfq90 _) fun y10 h => ?_; cbv; revert h; refine fk ?_ ?_ <;> intro h <;> cbv
   ·revert h; refine rk0 (hfq16 _) fun y12 h => ?_; cbv; exact dn
   exact dn
  exact dn
 cbv; exact df

/-- impl.validCell$2 -/
def Fq115 (a0 : TB) : Option (Bool) :=
 (Fq52 (TB.mk a0.fy a0.fa a0.fN)).bind fun y1 =>
 some (!(y1))
theorem runq115 (a0 : TB) (r : Bool) (h : Fq115 a0 = some r) : Fun prog 91 [.agg [wi a0.fy, wi a0.fa.fX, wi a0.fa.fY, ws a0.fN]] [] (.c (.v (.bool r))) [] true := by
 refine ow [] func91 ntmps91 ?_; unfold Fq115 at h; have hfq52 := @runq52; generalize hU : @len = U_, hG_ : @gd = G_, hA : std = A, hP : prog = P at *; cbv; revert h; refine rk0 (hfq52 _) fun y1 h => ?_; cbv; exact df
set_option maxHeartbeats 40000000
def Lq45_x2 (a0 : List TB) : (Int) -> Option ((Int) ⊕ ((Int) ⊕ (Unit))) := fun x2 =>
 letO x2 fun v1 =>
 br (std.lt v1 (std.ofN (len a0)))
 (req (std.inR v1 (len a0)) <|
 (Fq115 (gd a0 (std.toN v1))).bind fun y15 =>
 br y15
 (some (.inr (.inl v1)))
 (some (.inl (std.add .i64 v1 1))))
 (some (.inr (.inr ())))
/-- impl.Label] -/
def Fq45 (a0 : List TB) : Option (Int) :=
  (whileP (σ := Int) (ρ := (Int) ⊕ (Unit)) (Lq45_x2 a0) 0).bind fun y3 =>
  (match y3 with
 | .inl y3k0 => (
  letO y3k0 fun w19 =>
  some w19)
 | .inr y3m0 =>
  some (-1))
theorem runq45 (a0 : List TB) (r : Int) (h : Fq45 a0 = some r) : Fun prog 145 [.c (.bs (len a0) 4 (row gd (eL) a0)), .c (.fn 91 0 fun _ => .junk)] [] (.c (wi r)) [] true := by
 refine ow [] func145 ntmps145 ?_; unfold Fq45 at h; unfold Lq45_x2 at h; have hfq115 := @runq115; generalize hU : @len = U_, hG_ : @gd = G_, hA : std = A, hP : prog = P at *; cbv
 revert h; refine lc (fun x => (sp 19 [(0, .c (.bs (U_ a0) 4 (row G_ (eL) a0))), (1, .c (.fn 91 0 fun _ => .junk)), (7, .c (wi (A.ofN (U_ a0)))), (8, .c (wi x))] [])) (fun y e s => (match y with | .inl w => e = .ret /\ s.le (sp 19 [(4, .c (wi w))] []) | .inr w0 => (fun (w : Unit) => e = .exit 0 /\ s.le (sp 19 [] [])) w0)) zb ?_ ?_
 ·intro v1 z h K hK hY; replace h := oz h; cbv; revert h; refine fk ?_ ?_ <;> intro h <;> cbv
  ·revert h; refine ra fun c14 h => ?_; revert h; refine rk0 (hfq115 _) fun y15 h => ?_; cbv; revert h; refine fk ?_ ?_ <;> intro h <;> cbv
   ·exact dy
   exact dm
  exact dy
 intro y3 h e12 s13 q11 hne; rcases y3 with y3k0 | y3m0
 ·replace h := h; obtain ⟨rfl, q11⟩ := q11; revert h; refine rz fun h => ?_; cbv; injection h with h; subst h; exact ⟨_, q11, lR _, zo, rfl⟩
 ·obtain ⟨rfl, q11⟩ := q11; cbv; refine ⟨_, q11, ?_⟩; cbv; exact df

/-- impl.Label] -/
def Fq83 (a0 : List TB) : Option (Bool) :=
 (Fq45 a0).bind fun y1 =>
 some (std.le 0 y1)
theorem runq83 (a0 : List TB) (r : Bool) (h : Fq83 a0 = some r) : Fun prog 90 [.c (.bs (len a0) 4 (row gd (eL) a0)), .c (.fn 91 0 fun _ => .junk)] [] (.c (.v (.bool r))) [] true := by
 refine ow [] func90 ntmps90 ?_; unfold Fq83 at h; have hfq45 := @runq45; generalize hU : @len = U_, hG_ : @gd = G_, hA : std = A, hP : prog = P at *; cbv
 revert h; refine rk0 (hfq45 _) fun y1 h => ?_; cbv; exact df

/-- impl.IsValidTransform -/
def Fq88 (a0 : TM) : Option (Bool) :=
 ((
 (Fq2 a0.fo 0 7).bind fun y8 =>
 br y8
 ((Fq2 a0.fX (-80) 80).bind fun y10 =>
 br y10
 ((Fq2 a0.fY (-80) 80).bind fun y12 =>
 some y12)
 (some false))
 (some false)
 ) : Option (Bool)).bind fun y1 =>
 letO y1 fun w7 =>
 some w7
theorem runq88 (a0 : TM) (r : Bool) (h : Fq88 a0 = some r) : Fun prog 148 [.agg [wi a0.fo, wi a0.fX, wi a0.fY]] [] (.c (.v (.bool r))) [] true := by
 refine ow [1] func148 ntmps148 ?_; unfold Fq88 at h; have hfq2 := @runq2; generalize hU : @len = U_, hG_ : @gd = G_, hA : std = A, hP : prog = P at *; cbv; revert h; refine cu (fun y1 => (sp 16 [(2, .c (.v (.bool y1)))] [])) ?_ fun w7 => rz fun h => ?_
 ·intro y1 S hS h; cbv; revert h; refine rk0 (hfq2 _ _ _) fun y8 h => ?_; cbv; revert h; refine fk ?_ ?_ <;> intro h <;> cbv
  ·revert h; refine rk0 (hfq2 _ _ _) fun y10 h => ?_; cbv; revert h; refine fk ?_ ?_ <;> intro h <;> cbv
   ·revert h; refine rk0 (hfq2 _ _ _) fun y12 h => ?_; cbv; exact dn
   exact dn
  exact dn
 cbv; exact df

/-- impl.validInstance -/
def Fq43 (a0 : TI) (a1 : Int) : Option (Bool) :=
 ((
 (Fq2 a0.fc 0 (std.sub .i64 a1 1)).bind fun y8 =>
 br y8
 ((Fq88 a0.fp).bind fun y10 =>
 br y10
 ((Fq2 a0.fK 1 4).bind fun y12 =>
 br y12
 ((Fq2 a0.fR 1 4).bind fun y14 =>
 br y14
 ((Fq2 a0.fu (-80) 80).bind fun y16 =>
 br y16
 ((Fq2 a0.fv (-80) 80).bind fun y18 =>
 br y18
 (br (std.eq a0.fu 0)
 (br (std.eq a0.fv 0)
 (some true)
 (some (std.lt 1 a0.fR)))
 (br (std.lt 1 a0.fK)
 (br (std.eq a0.fv 0)
 (some true)
 (some (std.lt 1 a0.fR)))
 (some false)))
 (some false))
 (some false))
 (some false))
 (some false))
 (some false))
 (some false)
 ) : Option (Bool)).bind fun y1 =>
 letO y1 fun w7 =>
 some w7
theorem runq43 (a0 : TI) (a1 : Int) (r : Bool) (h : Fq43 a0 a1 = some r) : Fun prog 95 [.agg [wi a0.fc, wi a0.fp.fo, wi a0.fp.fX, wi a0.fp.fY, wi a0.fK, wi a0.fR, wi a0.fu, wi a0.fv], .c (wi a1)] [] (.c (.v (.bool r))) [] true := by
 refine ow [1] func95 ntmps95 ?_; unfold Fq43 at h; have hfq88 := @runq88; have hfq2 := @runq2; generalize hU : @len = U_, hG_ : @gd = G_, hA : std = A, hP : prog = P at *; cbv; revert h; refine cu (fun y1 => (sp 55 [(4, .c (.v (.bool y1)))] [])) ?_ fun w7 => rz fun h => ?_
 ·intro y1 S hS h; cbv; revert h; refine rk0 (hfq2 _ _ _) fun y8 h => ?_; cbv; revert h; refine fk ?_ ?_ <;> intro h <;> cbv
  ·revert h; refine rk0 (hfq88 _) fun y10 h => ?_; cbv; revert h; refine fk ?_ ?_ <;> intro h <;> cbv
   ·revert h; refine rk0 (hfq2 _ _ _) fun y12 h => ?_; cbv; revert h; refine fk ?_ ?_ <;> intro h <;> cbv
    ·revert h; refine rk0 (hfq2 _ _ _) fun y14 h => ?_; cbv; revert h; refine fk ?_ ?_ <;> intro h <;> cbv
     ·revert h; refine rk0 (hfq2 _ _ _) fun y16 h => ?_; cbv; revert h; refine fk ?_ ?_ <;> intro h <;> cbv
      ·revert h; refine rk0 (hfq2 _ _ _) fun y18 h => ?_; cbv; revert h; refine fk ?_ ?_ <;> intro h <;> cbv
       ·revert h; refine fk ?_ ?_ <;> intro h <;> cbv
        ·revert h; refine fk ?_ ?_ <;> intro h <;> cbv
         ·exact dn
         exact dn
        revert h; refine fk ?_ ?_ <;> intro h <;> cbv
        ·revert h; refine fk ?_ ?_ <;> intro h <;> cbv
         ·exact dn
         exact dn
        exact dn
       exact dn
      exact dn
     exact dn
    exact dn
   exact dn
  exact dn
 cbv; exact df

/-- impl.validCell$3 -/
def Fq114 (a0 : TI) (a1 : Int) : Option (Bool) :=
 (Fq43 (TI.mk a0.fc a0.fp a0.fK a0.fR a0.fu a0.fv) a1).bind fun y1 =>
 some (!(y1))
theorem runq114 (a0 : TI) (a1 : Int) (r : Bool) (h : Fq114 a0 a1 = some r) : Fun prog 94 [.agg [wi a0.fc, wi a0.fp.fo, wi a0.fp.fX, wi a0.fp.fY, wi a0.fK, wi a0.fR, wi a0.fu, wi a0.fv], .c (.bp 1 (encI .i64 a1))] [] (.c (.v (.bool r))) [] true := by
 refine ow [] func94 ntmps94 ?_; unfold Fq114 at h; have hfq43 := @runq43; generalize hU : @len = U_, hG_ : @gd = G_, hA : std = A, hP : prog = P at *; cbv; revert h; refine rk0 (hfq43 _ _) fun y1 h => ?_; cbv; exact df

def Lq46_x2 (a0 : List TI) (a1_0 : Int) : (Int) -> Option ((Int) ⊕ ((Int) ⊕ (Unit))) := fun x2 =>
 letO x2 fun v1 =>
 br (std.lt v1 (std.ofN (len a0)))
 (req (std.inR v1 (len a0)) <|
 (Fq114 (gd a0 (std.toN v1)) a1_0).bind fun y15 =>
 br y15
 (some (.inr (.inl v1)))
 (some (.inl (std.add .i64 v1 1))))
 (some (.inr (.inr ())))
/-- impl.Instance] -/
def Fq46 (a0 : List TI) (a1_0 : Int) : Option (Int) :=
  (whileP (σ := Int) (ρ := (Int) ⊕ (Unit)) (Lq46_x2 a0 a1_0) 0).bind fun y3 =>
  (match y3 with
 | .inl y3k0 => (
  letO y3k0 fun w19 =>
  some w19)
 | .inr y3m0 =>
  some (-1))
theorem runq46 (a0 : List TI) (a1_0 : Int) (r : Int) (h : Fq46 a0 a1_0 = some r) : Fun prog 147 [.c (.bs (len a0) 8 (row gd (eI) a0)), .c (.fn 94 1 fun j => ([.bp 1 (encI .i64 a1_0)] : List AC).getD j .junk)] [] (.c (wi r)) [] true := by
 refine ow [] func147 ntmps147 ?_; unfold Fq46 at h; unfold Lq46_x2 at h; have hfq114 := @runq114; generalize hU : @len = U_, hG_ : @gd = G_, hA : std = A, hP : prog = P at *; cbv
 revert h; refine lc (fun x => (sp 19 [(0, .c (.bs (U_ a0) 8 (row G_ (eI) a0))), (1, .c (.fn 94 1 fun j => ([.bp 1 (encI .i64 a1_0)] : List AC).getD j .junk)), (7, .c (wi (A.ofN (U_ a0)))), (8, .c (wi x))] [])) (fun y e s => (match y with | .inl w => e = .ret /\ s.le (sp 19 [(4, .c (wi w))] []) | .inr w0 => (fun (w : Unit) => e = .exit 0 /\ s.le (sp 19 [] [])) w0)) zb ?_ ?_
 ·intro v1 z h K hK hY; replace h := oz h; cbv; revert h; refine fk ?_ ?_ <;> intro h <;> cbv
  ·revert h; refine ra fun c14 h => ?_; revert h; refine rk [] [] (hfq114 _ _) (fun _ => zg (lc_ (lR _) (lc_ (le_bp (show 1 <= 1 from by decide) (by intro j hj; match j, hj with | 0, _ => exact rle_refl _ | (j_ + 1), h_ => omega)) (ln_)))) fun y15 h => ?_; cbv; revert h; refine fk ?_ ?_ <;> intro h <;> cbv
   ·exact dy
   exact dm
  exact dy
 intro y3 h e12 s13 q11 hne; rcases y3 with y3k0 | y3m0
 ·replace h := h; obtain ⟨rfl, q11⟩ := q11; revert h; refine rz fun h => ?_; cbv; injection h with h; subst h; exact ⟨_, q11, lR _, zo, rfl⟩
 ·obtain ⟨rfl, q11⟩ := q11; cbv; refine ⟨_, q11, ?_⟩; cbv; exact df
set_option maxHeartbeats 40000000
/-- impl.Instance] -/
def Fq95 (a0 : List TI) (a1_0 : Int) : Option (Bool) :=
 (Fq46 a0 a1_0).bind fun y1 =>
 some (std.le 0 y1)
theorem runq95 (a0 : List TI) (a1_0 : Int) (r : Bool) (h : Fq95 a0 a1_0 = some r) : Fun prog 93 [.c (.bs (len a0) 8 (row gd (eI) a0)), .c (.fn 94 1 fun j => ([.bp 1 (encI .i64 a1_0)] : List AC).getD j .junk)] [] (.c (.v (.bool r))) [] true := by
 refine ow [] func93 ntmps93 ?_; unfold Fq95 at h; have hfq46 := @runq46; generalize hU : @len = U_, hG_ : @gd = G_, hA : std = A, hP : prog = P at *; cbv
 revert h; refine rk [] [] (hfq46 _ _) (fun _ => zg (lc_ (lR _) (lc_ (le_fn (by intro j hj; match j, hj with | 0, _ => exact le_bp (show 1 <= 1 from by decide) (by intro j hj; match j, hj with | 0, _ => exact rle_refl _ | (j_ + 1), h_ => omega) | (j_ + 1), h_ => omega)) (ln_)))) fun y1 h => ?_
 cbv; exact df

/-- impl.validCell -/
def Fq3 (a0 : TC) (a1 : Int) : Option (Bool) :=
 ((
 (Fq16 a0.fN).bind fun y8 =>
 br (!(y8))
 (some true)
 (br (std.lt 24 (std.ofN (len a0.fS)))
 (some true)
 (br (std.lt 8 (std.ofN (len a0.fL)))
 (some true)
 (some (std.lt 8 (std.ofN (len a0.fI))))))
 ) : Option (Bool)).bind fun y1 =>
 letO y1 fun w7 =>
 br w7
 (some false)
 (((
 (Fq102 a0.fS).bind fun y20 =>
 br (!(y20))
 ((Fq83 a0.fL).bind fun y22 =>
 br (!(y22))
 ((Fq95 a0.fI a1).bind fun y24 =>
 some (!(y24)))
 (some false))
 (some false)
 ) : Option (Bool)).bind fun y13 =>
 letO y13 fun w19 =>
 some w19)
theorem runq3 (a0 : TC) (a1 : Int) (r : Bool) (h : Fq3 a0 a1 = some r) : Fun prog 40 [.agg [ws a0.fN, .bs (len a0.fS) 5 (row gd (eS) a0.fS), .bs (len a0.fL) 4 (row gd (eL) a0.fL), .bs (len a0.fI) 8 (row gd (eI) a0.fI)], .c (wi a1)] [] (.c (.v (.bool r))) [] true := by
 refine ow [1, 3] func40 ntmps40 ?_; unfold Fq3 at h; have hfq16 := @runq16; have hfq95 := @runq95
 have hfq83 := @runq83; have hfq102 := @runq102; generalize hU : @len = U_, hG_ : @gd = G_, hA : std = A, hP : prog = P at *; cbv
 revert h; refine cu (fun y1 => (sp 44 [(2, .c (.ptr 128 0)), (3, .c (.ptr 192 0)), (26, .c (.v (.bool y1)))] [(128, .var [ws a0.fN, .bs (U_ a0.fS) 5 (row G_ (eS) a0.fS), .bs (U_ a0.fL) 4 (row G_ (eL) a0.fL), .bs (U_ a0.fI) 8 (row G_ (eI) a0.fI)]), (192, .var [wi a1])])) ?_ fun w7 => rz fun h => ?_
 ·intro y1 S hS h; cbv; revert h; refine rk0 (hfq16 _) fun y8 h => ?_; cbv; revert h; refine fk ?_ ?_ <;> intro h <;> cbv
  ·exact dn
  revert h; refine fk ?_ ?_ <;> intro h <;> cbv
  ·exact dn
  revert h; refine fk ?_ ?_ <;> intro h <;> cbv
  ·exact dn
  exact dn
 cbv; revert h; refine fk ?_ ?_ <;> intro h <;> cbv
 ·exact df
 revert h; refine cu (fun y13 => (sp 44 [(4, .c (.v (.bool y13)))] [])) ?_ fun w19 => rz fun h => ?_
 ·intro y13 S hS h; cbv; revert h; refine rk0 (hfq102 _) fun y20 h => ?_; cbv; revert h; refine fk ?_ ?_ <;> intro h <;> cbv
  ·revert h; refine rk0 (hfq83 _) fun y22 h => ?_; cbv; revert h; refine fk ?_ ?_ <;> intro h <;> cbv
   ·revert h; refine rk [] [] (hfq95 _ _) (fun _ => zg (lc_ (lR _) (lc_ (le_fn (by intro j hj; match j, hj with | 0, _ => exact le_bp (show 1 <= 1 from by decide) (by intro j hj; match j, hj with | 0, _ => exact rle_refl _ | (j_ + 1), h_ => omega) | (j_ + 1), h_ => omega)) (ln_)))) fun y24 h => ?_
    cbv; exact dn
   exact dn
  exact dn
 cbv; exact df

/-- impl.named$1 -/
def Fq118 (a0 : TC) (a1 : ByteArray) : Option (Bool) :=
 some (std.seq a0.fN a1)
theorem runq118 (a0 : TC) (a1 : ByteArray) (r : Bool) (h : Fq118 a0 a1 = some r) : Fun prog 97 [.agg [ws a0.fN, .bs (len a0.fS) 5 (row gd (eS) a0.fS), .bs (len a0.fL) 4 (row gd (eL) a0.fL), .bs (len a0.fI) 8 (row gd (eI) a0.fI)], .c (.bp 1 (encS a1))] [] (.c (.v (.bool r))) [] true := by
 refine ow [] func97 ntmps97 ?_; unfold Fq118 at h; generalize hU : @len = U_, hG_ : @gd = G_, hA : std = A, hP : prog = P at *; cbv; exact df

def Lq58_x2 (a0 : List TC) (a1_0 : ByteArray) : (Int) -> Option ((Int) ⊕ ((Int) ⊕ (Unit))) := fun x2 =>
 letO x2 fun v1 =>
 br (std.lt v1 (std.ofN (len a0)))
 (req (std.inR v1 (len a0)) <|
 (Fq118 (gd a0 (std.toN v1)) a1_0).bind fun y15 =>
 br y15
 (some (.inr (.inl v1)))
 (some (.inl (std.add .i64 v1 1))))
 (some (.inr (.inr ())))
/-- impl.Cell] -/
def Fq58 (a0 : List TC) (a1_0 : ByteArray) : Option (Int) :=
  (whileP (σ := Int) (ρ := (Int) ⊕ (Unit)) (Lq58_x2 a0 a1_0) 0).bind fun y3 =>
  (match y3 with
 | .inl y3k0 => (
  letO y3k0 fun w19 =>
  some w19)
 | .inr y3m0 =>
  some (-1))
theorem runq58 (a0 : List TC) (a1_0 : ByteArray) (r : Int) (h : Fq58 a0 a1_0 = some r) : Fun prog 96 [.c (.bs (len a0) 4 (row gd (eC_ len gd) a0)), .c (.fn 97 1 fun j => ([.bp 1 (encS a1_0)] : List AC).getD j .junk)] [] (.c (wi r)) [] true := by
 refine ow [] func96 ntmps96 ?_; unfold Fq58 at h; unfold Lq58_x2 at h; have hfq118 := @runq118; generalize hU : @len = U_, hG_ : @gd = G_, hA : std = A, hP : prog = P at *; cbv
 revert h; refine lc (fun x => (sp 19 [(0, .c (.bs (U_ a0) 4 (row G_ (eC_ U_ G_) a0))), (1, .c (.fn 97 1 fun j => ([.bp 1 (encS a1_0)] : List AC).getD j .junk)), (7, .c (wi (A.ofN (U_ a0)))), (8, .c (wi x))] [])) (fun y e s => (match y with | .inl w => e = .ret /\ s.le (sp 19 [(4, .c (wi w))] []) | .inr w0 => (fun (w : Unit) => e = .exit 0 /\ s.le (sp 19 [] [])) w0)) zb ?_ ?_
 ·intro v1 z h K hK hY; replace h := oz h; cbv; revert h; refine fk ?_ ?_ <;> intro h <;> cbv
  ·revert h; refine ra fun c14 h => ?_; revert h; refine rk [] [] (hfq118 _ _) (fun _ => zg (lc_ (lR _) (lc_ (le_bp (show 1 <= 1 from by decide) (by intro j hj; match j, hj with | 0, _ => exact rle_refl _ | (j_ + 1), h_ => omega)) (ln_)))) fun y15 h => ?_; cbv; revert h; refine fk ?_ ?_ <;> intro h <;> cbv
   ·exact dy
   exact dm
  exact dy
 intro y3 h e12 s13 q11 hne; rcases y3 with y3k0 | y3m0
 ·replace h := h; obtain ⟨rfl, q11⟩ := q11; revert h; refine rz fun h => ?_; cbv; injection h with h; subst h; exact ⟨_, q11, lR _, zo, rfl⟩
 ·obtain ⟨rfl, q11⟩ := q11; cbv; refine ⟨_, q11, ?_⟩; cbv; exact df

/-- impl.named -/
def Fq9 (a0 : TL) (a1 : ByteArray) : Option (Int) :=
 (Fq58 a0.fC a1).bind fun y1 =>
 some y1
theorem runq9 (a0 : TL) (a1 : ByteArray) (r : Int) (h : Fq9 a0 a1 = some r) : Fun prog 41 [.agg [.bs (len a0.fC) 4 (row gd (eC_ len gd) a0.fC)], .c (ws a1)] [] (.c (wi r)) [] true := by
 refine ow [] func41 ntmps41 ?_; unfold Fq9 at h; have hfq58 := @runq58; generalize hU : @len = U_, hG_ : @gd = G_, hA : std = A, hP : prog = P at *; cbv
 revert h; refine rk [] [] (hfq58 _ _) (fun _ => zg (lc_ (lR _) (lc_ (le_fn (by intro j hj; match j, hj with | 0, _ => exact le_bp (show 1 <= 1 from by decide) (by intro j hj; match j, hj with | 0, _ => exact rle_refl _ | (j_ + 1), h_ => omega) | (j_ + 1), h_ => omega)) (ln_)))) fun y1 h => ?_
 cbv; exact df

def Lq5_x10 (a0 : TL) : (Int) -> Option ((Int) ⊕ ((Bool) ⊕ (Unit))) := fun x10 =>
 letO x10 fun v9 =>
 br (std.lt v9 (std.ofN (len a0.fC)))
 (req (std.inR v9 (len a0.fC)) <|
 ((
 (Fq3 (gd a0.fC (std.toN v9)) v9).bind fun y30 =>
 br (!(y30))
 (some true)
 ((Fq9 (TL.mk a0.fC) (gd a0.fC (std.toN v9)).fN).bind fun y32 =>
 some (std.not (std.eq y32 v9)))
 ) : Option (Bool)).bind fun y23 =>
 letO y23 fun w29 =>
 br w29
 (some (.inr (.inl false)))
 (some (.inl (std.add .i64 v9 1))))
 (some (.inr (.inr ())))
/-- impl.IsValidLibrary -/
def Fq5 (a0 : TL) : Option (Bool) :=
  ((
  br (std.lt (std.ofN (len a0.fC)) 1)
  (some true)
  (some (std.lt 8 (std.ofN (len a0.fC))))
  ) : Option (Bool)).bind fun y1 =>
  letO y1 fun w7 =>
  br w7
  (some false)
  ((whileP (σ := Int) (ρ := (Bool) ⊕ (Unit)) (Lq5_x10 a0) 0).bind fun y11 =>
  (match y11 with
 | .inl y11k0 => (
  letO y11k0 fun w37 =>
  some w37)
 | .inr y11m0 =>
  some true))
theorem runq5 (a0 : TL) (r : Bool) (h : Fq5 a0 = some r) : Fun prog 19 [.agg [.bs (len a0.fC) 4 (row gd (eC_ len gd) a0.fC)]] [] (.c (.v (.bool r))) [] true := by
 refine ow [1, 6] func19 ntmps19 ?_; unfold Fq5 at h; unfold Lq5_x10 at h; have hfq9 := @runq9; have hfq3 := @runq3; generalize hU : @len = U_, hG_ : @gd = G_, hA : std = A, hP : prog = P at *; cbv
 revert h; refine cu (fun y1 => (sp 36 [(1, .c (.ptr 64 0)), (14, .c (.v (.bool y1)))] [(64, .var [.bs (U_ a0.fC) 4 (row G_ (eC_ U_ G_) a0.fC)])])) (fun y1 S hS h => rg) fun w7 => rz fun h => ?_; cbv; revert h; refine fk ?_ ?_ <;> intro h <;> cbv
 ·exact df
 revert h; refine lc (fun x => (sp 36 [(1, .c (.ptr 64 0)), (16, .c (.bs (U_ a0.fC) 4 (row G_ (eC_ U_ G_) a0.fC))), (17, .c (wi (A.ofN (U_ a0.fC)))), (18, .c (wi x))] [(64, .var [.bs (U_ a0.fC) 4 (row G_ (eC_ U_ G_) a0.fC)])])) (fun y e s => (match y with | .inl w => e = .ret /\ s.le (sp 36 [(2, .c (.v (.bool w)))] []) | .inr w0 => (fun (w : Unit) => e = .exit 0 /\ s.le (sp 36 [] [])) w0)) zb ?_ ?_
 ·intro v9 z h K hK hY; replace h := oz h; cbv; revert h; refine fk ?_ ?_ <;> intro h <;> cbv
  ·revert h; refine ra fun c22 h => ?_; revert h; refine cu (fun y23 => (sp 36 [(1, .c (.ptr 64 0)), (16, .c (.bs (U_ a0.fC) 4 (row G_ (eC_ U_ G_) a0.fC))), (17, .c (wi (A.ofN (U_ a0.fC)))), (18, .c (wi v9)), (34, .c (.v (.bool y23)))] [(64, .var [.bs (U_ a0.fC) 4 (row G_ (eC_ U_ G_) a0.fC)])])) ?_ fun w29 => rz fun h => ?_
   ·intro y23 S hS h; cbv; revert h; refine rk0 (hfq3 _ _) fun y30 h => ?_; cbv; revert h; refine fk ?_ ?_ <;> intro h <;> cbv
    ·exact dn
    revert h; refine rk0 (hfq9 _ _) fun y32 h => ?_; cbv; exact dn
   cbv; revert h; refine fk ?_ ?_ <;> intro h <;> cbv
   ·exact dy
   exact dm
  exact dy
 intro y11 h e20 s21 q19 hne; rcases y11 with y11k0 | y11m0
 ·replace h := h; obtain ⟨rfl, q19⟩ := q19; revert h; refine rz fun h => ?_; cbv; injection h with h; subst h; exact ⟨_, q19, lR _, zo, rfl⟩
 ·obtain ⟨rfl, q19⟩ := q19; cbv; refine ⟨_, q19, ?_⟩; cbv; exact df
set_option maxHeartbeats 40000000
/-- impl.IsValidEdit -/
def Fq60 (a0 : TE) : Option (Bool) :=
  ((
  (Fq2 a0.fc 0 8).bind fun y8 =>
  br (!(y8))
  (some true)
  ((Fq2 a0.fx 0 24).bind fun y10 =>
  some (!(y10)))
  ) : Option (Bool)).bind fun y1 =>
  letO y1 fun w7 =>
  br w7
  (some false)
  (br (std.eq a0.fk_ 1)
  (((
  br (std.band (std.eq a0.fk_ a0.fk_) (std.band (std.eq a0.fc a0.fc) (std.band (std.eq a0.fx a0.fx) (std.band (std.seq (ByteArray.mk #[]) a0.fN) (std.band (std.band (std.eq a0.fs_.fy a0.fs_.fy) (std.band (std.band (std.eq a0.fs_.fb.fX0 a0.fs_.fb.fX0) (std.band (std.eq a0.fs_.fb.fY0 a0.fs_.fb.fY0) (std.band (std.eq a0.fs_.fb.fX1 a0.fs_.fb.fX1) (std.band (std.eq a0.fs_.fb.fY1 a0.fs_.fb.fY1) (true))))) (true))) (std.band (std.band (std.eq 0 a0.fl_.fy) (std.band (std.band (std.eq 0 a0.fl_.fa.fX) (std.band (std.eq 0 a0.fl_.fa.fY) (true))) (std.band (std.seq (ByteArray.mk #[]) a0.fl_.fN) (true)))) (std.band (std.band (std.eq 0 a0.fi_.fc) (std.band (std.band (std.eq 0 a0.fi_.fp.fo) (std.band (std.eq 0 a0.fi_.fp.fX) (std.band (std.eq 0 a0.fi_.fp.fY) (true)))) (std.band (std.eq 0 a0.fi_.fK) (std.band (std.eq 0 a0.fi_.fR) (std.band (std.eq 0 a0.fi_.fu) (std.band (std.eq 0 a0.fi_.fv) (true))))))) (true))))))))
  ((Fq59 a0.fs_).bind fun y20 =>
  some y20)
  (some false)
  ) : Option (Bool)).bind fun y13 =>
  letO y13 fun w19 =>
  some w19)
  (br (std.eq a0.fk_ 3)
  (((
  br (std.band (std.eq a0.fk_ a0.fk_) (std.band (std.eq a0.fc a0.fc) (std.band (std.eq a0.fx a0.fx) (std.band (std.seq (ByteArray.mk #[]) a0.fN) (std.band (std.band (std.eq 0 a0.fs_.fy) (std.band (std.band (std.eq 0 a0.fs_.fb.fX0) (std.band (std.eq 0 a0.fs_.fb.fY0) (std.band (std.eq 0 a0.fs_.fb.fX1) (std.band (std.eq 0 a0.fs_.fb.fY1) (true))))) (true))) (std.band (std.band (std.eq a0.fl_.fy a0.fl_.fy) (std.band (std.band (std.eq a0.fl_.fa.fX a0.fl_.fa.fX) (std.band (std.eq a0.fl_.fa.fY a0.fl_.fa.fY) (true))) (std.band (std.seq a0.fl_.fN a0.fl_.fN) (true)))) (std.band (std.band (std.eq 0 a0.fi_.fc) (std.band (std.band (std.eq 0 a0.fi_.fp.fo) (std.band (std.eq 0 a0.fi_.fp.fX) (std.band (std.eq 0 a0.fi_.fp.fY) (true)))) (std.band (std.eq 0 a0.fi_.fK) (std.band (std.eq 0 a0.fi_.fR) (std.band (std.eq 0 a0.fi_.fu) (std.band (std.eq 0 a0.fi_.fv) (true))))))) (true))))))))
  ((Fq52 a0.fl_).bind fun y30 =>
  some y30)
  (some false)
  ) : Option (Bool)).bind fun y23 =>
  letO y23 fun w29 =>
  some w29)
  (br (std.eq a0.fk_ 5)
  (((
  br (std.band (std.eq a0.fk_ a0.fk_) (std.band (std.eq a0.fc a0.fc) (std.band (std.eq a0.fx a0.fx) (std.band (std.seq (ByteArray.mk #[]) a0.fN) (std.band (std.band (std.eq 0 a0.fs_.fy) (std.band (std.band (std.eq 0 a0.fs_.fb.fX0) (std.band (std.eq 0 a0.fs_.fb.fY0) (std.band (std.eq 0 a0.fs_.fb.fX1) (std.band (std.eq 0 a0.fs_.fb.fY1) (true))))) (true))) (std.band (std.band (std.eq 0 a0.fl_.fy) (std.band (std.band (std.eq 0 a0.fl_.fa.fX) (std.band (std.eq 0 a0.fl_.fa.fY) (true))) (std.band (std.seq (ByteArray.mk #[]) a0.fl_.fN) (true)))) (std.band (std.band (std.eq a0.fi_.fc a0.fi_.fc) (std.band (std.band (std.eq a0.fi_.fp.fo a0.fi_.fp.fo) (std.band (std.eq a0.fi_.fp.fX a0.fi_.fp.fX) (std.band (std.eq a0.fi_.fp.fY a0.fi_.fp.fY) (true)))) (std.band (std.eq a0.fi_.fK a0.fi_.fK) (std.band (std.eq a0.fi_.fR a0.fi_.fR) (std.band (std.eq a0.fi_.fu a0.fi_.fu) (std.band (std.eq a0.fi_.fv a0.fi_.fv) (true))))))) (true))))))))
  ((Fq43 a0.fi_ 8).bind fun y40 =>
  some y40)
  (some false)
  ) : Option (Bool)).bind fun y33 =>
  letO y33 fun w39 =>
  some w39)
  (((
  br (std.eq a0.fk_ 2)
  (some true)
  (((
  br (std.eq a0.fk_ 4)
  (some true)
  (some (std.eq a0.fk_ 6))
  ) : Option (Bool)).bind fun y50 =>
  letO y50 fun w56 =>
  some w56)
  ) : Option (Bool)).bind fun y43 =>
  letO y43 fun w49 =>
  ((
  br w49
  ((some (std.band (std.eq a0.fk_ a0.fk_) (std.band (std.eq a0.fc a0.fc) (std.band (std.eq a0.fx a0.fx) (std.band (std.seq (ByteArray.mk #[]) a0.fN) (std.band (std.band (std.eq 0 a0.fs_.fy) (std.band (std.band (std.eq 0 a0.fs_.fb.fX0) (std.band (std.eq 0 a0.fs_.fb.fY0) (std.band (std.eq 0 a0.fs_.fb.fX1) (std.band (std.eq 0 a0.fs_.fb.fY1) (true))))) (true))) (std.band (std.band (std.eq 0 a0.fl_.fy) (std.band (std.band (std.eq 0 a0.fl_.fa.fX) (std.band (std.eq 0 a0.fl_.fa.fY) (true))) (std.band (std.seq (ByteArray.mk #[]) a0.fl_.fN) (true)))) (std.band (std.band (std.eq 0 a0.fi_.fc) (std.band (std.band (std.eq 0 a0.fi_.fp.fo) (std.band (std.eq 0 a0.fi_.fp.fX) (std.band (std.eq 0 a0.fi_.fp.fY) (true)))) (std.band (std.eq 0 a0.fi_.fK) (std.band (std.eq 0 a0.fi_.fR) (std.band (std.eq 0 a0.fi_.fu) (std.band (std.eq 0 a0.fi_.fv) (true))))))) (true))))))))).bind fun r65 => some (.inl r65))
  (((
  br (std.eq a0.fk_ 7)
  (some true)
  (some (std.eq a0.fk_ 8))
  ) : Option (Bool)).bind fun y68 =>
  letO y68 fun w74 =>
  ((
  br w74
  (((
  br (std.band (std.eq a0.fk_ a0.fk_) (std.band (std.eq a0.fc a0.fc) (std.band (std.eq 0 a0.fx) (std.band (std.seq a0.fN a0.fN) (std.band (std.band (std.eq 0 a0.fs_.fy) (std.band (std.band (std.eq 0 a0.fs_.fb.fX0) (std.band (std.eq 0 a0.fs_.fb.fY0) (std.band (std.eq 0 a0.fs_.fb.fX1) (std.band (std.eq 0 a0.fs_.fb.fY1) (true))))) (true))) (std.band (std.band (std.eq 0 a0.fl_.fy) (std.band (std.band (std.eq 0 a0.fl_.fa.fX) (std.band (std.eq 0 a0.fl_.fa.fY) (true))) (std.band (std.seq (ByteArray.mk #[]) a0.fl_.fN) (true)))) (std.band (std.band (std.eq 0 a0.fi_.fc) (std.band (std.band (std.eq 0 a0.fi_.fp.fo) (std.band (std.eq 0 a0.fi_.fp.fX) (std.band (std.eq 0 a0.fi_.fp.fY) (true)))) (std.band (std.eq 0 a0.fi_.fK) (std.band (std.eq 0 a0.fi_.fR) (std.band (std.eq 0 a0.fi_.fu) (std.band (std.eq 0 a0.fi_.fv) (true))))))) (true))))))))
  ((Fq16 a0.fN).bind fun y89 =>
  some y89)
  (some false)
  ) : Option (Bool)).bind fun y82 =>
  letO y82 fun w88 =>
  ((some w88).bind fun r92 => some (.inl r92)).bind fun r95 => some (.inl r95))
  (br (std.eq a0.fk_ 9)
  (((some (std.band (std.eq a0.fk_ a0.fk_) (std.band (std.eq a0.fc a0.fc) (std.band (std.eq 0 a0.fx) (std.band (std.seq (ByteArray.mk #[]) a0.fN) (std.band (std.band (std.eq 0 a0.fs_.fy) (std.band (std.band (std.eq 0 a0.fs_.fb.fX0) (std.band (std.eq 0 a0.fs_.fb.fY0) (std.band (std.eq 0 a0.fs_.fb.fX1) (std.band (std.eq 0 a0.fs_.fb.fY1) (true))))) (true))) (std.band (std.band (std.eq 0 a0.fl_.fy) (std.band (std.band (std.eq 0 a0.fl_.fa.fX) (std.band (std.eq 0 a0.fl_.fa.fY) (true))) (std.band (std.seq (ByteArray.mk #[]) a0.fl_.fN) (true)))) (std.band (std.band (std.eq 0 a0.fi_.fc) (std.band (std.band (std.eq 0 a0.fi_.fp.fo) (std.band (std.eq 0 a0.fi_.fp.fX) (std.band (std.eq 0 a0.fi_.fp.fY) (true)))) (std.band (std.eq 0 a0.fi_.fK) (std.band (std.eq 0 a0.fi_.fR) (std.band (std.eq 0 a0.fi_.fu) (std.band (std.eq 0 a0.fi_.fv) (true))))))) (true))))))))).bind fun r98 => some (.inl r98)).bind fun r101 => some (.inl r101))
  (some (.inr ())))
  ) : Option (_ ⊕ Unit)).bind fun z78 => (match z78 with
 | .inl r => some r
 | .inr y76 =>
  some (.inr ())))
  ) : Option (_ ⊕ Unit)).bind fun z61 => (match z61 with
 | .inl r => some r
 | .inr y59 =>
  some false)))))
theorem runq60 (a0 : TE) (r : Bool) (h : Fq60 a0 = some r) : Fun prog 62 [.agg (cE a0)] [] (.c (.v (.bool r))) [] true := by
 refine ow [1, 7, 10, 13, 22, 100069, 100079] func62 ntmps62 ?_; unfold Fq60 at h; have hfq16 := @runq16; have hfq43 := @runq43; have hfq52 := @runq52; have hfq59 := @runq59; have hfq2 := @runq2
 generalize hU : @len = U_, hG_ : @gd = G_, hA : std = A, hP : prog = P at *; cbv
 revert h; refine cu (fun y1 => (sp 98 [(1, .c (.ptr 64 0)), (13, .c (.v (.bool y1)))] [(64, .var (cE a0))])) ?_ fun w7 => rz fun h => ?_
 ·intro y1 S hS h; cbv; revert h; refine rk0 (hfq2 _ _ _) fun y8 h => ?_; cbv; revert h; refine fk ?_ ?_ <;> intro h <;> cbv
  ·exact dn
  revert h; refine rk0 (hfq2 _ _ _) fun y10 h => ?_; cbv; exact dn
 cbv; revert h; refine fk ?_ ?_ <;> intro h <;> cbv
 ·exact df
 revert h; refine fk ?_ ?_ <;> intro h <;> cbv
 ·revert h; refine cu (fun y13 => (sp 98 [(2, .c (.v (.bool y13)))] [])) ?_ fun w19 => rz fun h => ?_
  ·intro y13 S hS h; cbv; revert h; refine fk ?_ ?_ <;> intro h <;> cbv
   ·revert h; refine rk0 (hfq59 _) fun y20 h => ?_; cbv; exact dn
   exact dn
  cbv; exact df
 revert h; refine fk ?_ ?_ <;> intro h <;> cbv
 ·revert h; refine cu (fun y23 => (sp 98 [(2, .c (.v (.bool y23)))] [])) ?_ fun w29 => rz fun h => ?_
  ·intro y23 S hS h; cbv; revert h; refine fk ?_ ?_ <;> intro h <;> cbv
   ·revert h; refine rk0 (hfq52 _) fun y30 h => ?_; cbv; exact dn
   exact dn
  cbv; exact df
 revert h; refine fk ?_ ?_ <;> intro h <;> cbv
 ·revert h; refine cu (fun y33 => (sp 98 [(2, .c (.v (.bool y33)))] [])) ?_ fun w39 => rz fun h => ?_
  ·intro y33 S hS h; cbv; revert h; refine fk ?_ ?_ <;> intro h <;> cbv
   ·revert h; refine rk0 (hfq43 _ _) fun y40 h => ?_; cbv; exact dn
   exact dn
  cbv; exact df
 revert h; refine cu (fun y43 => some (sp 98 [(1, .c (.ptr 64 0)), (3, .c (.ptr 192 0)), (20, .c (wi a0.fk_)), (69, .c (.v (.bool y43)))] [(64, .var (cE a0)), (192, .var [wi a0.fk_, wi a0.fc, wi 0, ws (ByteArray.mk #[]), wi 0, wi 0, wi 0, wi 0, wi 0, wi 0, wi 0, wi 0, ws (ByteArray.mk #[]), wi 0, wi 0, wi 0, wi 0, wi 0, wi 0, wi 0, wi 0])])) ?_ fun w49 => rz fun h => ?_
 ·intro y43 S hS h; cbv; revert h; refine fk ?_ ?_ <;> intro h <;> cbv
  ·exact dn
  revert h; refine cu (fun y50 => some (sp 98 [(1, .c (.ptr 64 0)), (3, .c (.ptr 192 0)), (20, .c (wi a0.fk_)), (69, .c (.v (.bool y50)))] [(64, .var (cE a0)), (192, .var [wi a0.fk_, wi a0.fc, wi 0, ws (ByteArray.mk #[]), wi 0, wi 0, wi 0, wi 0, wi 0, wi 0, wi 0, wi 0, ws (ByteArray.mk #[]), wi 0, wi 0, wi 0, wi 0, wi 0, wi 0, wi 0, wi 0])])) (fun y50 S hS h => rg) fun w56 => rz fun h => ?_
  cbv; exact dn
 cbv; obtain ⟨z61, hy60, hz62⟩ := ob_ h; obtain ⟨S, hS⟩ : ∃ S, S = (match z61 with | .inl _ => none | .inr y59 => some (sp 98 [] [])) := ⟨_, rfl⟩; refine ⟨S, ?_, ?_⟩
 ·have h := hy60; clear hy60; cbv; revert h; refine fk ?_ ?_ <;> intro h <;> cbv
  ·obtain ⟨r65, h66, he67⟩ := ob_ h; injection he67 with he67; subst he67; injection hz62 with hz62; subst hz62; have h := h66; exact df
  revert h; refine cu (fun y68 => some (sp 98 [(1, .c (.ptr 64 0)), (3, .c (.ptr 192 0)), (20, .c (wi a0.fk_)), (79, .c (.v (.bool y68)))] [(64, .var (cE a0)), (192, .var [wi a0.fk_, wi a0.fc, wi 0, ws (ByteArray.mk #[]), wi 0, wi 0, wi 0, wi 0, wi 0, wi 0, wi 0, wi 0, ws (ByteArray.mk #[]), wi 0, wi 0, wi 0, wi 0, wi 0, wi 0, wi 0, wi 0])])) (fun y68 S hS h => rg) fun w74 => rz fun h => ?_
  cbv; obtain ⟨z78, hy77, hz79⟩ := ob_ h; obtain ⟨S, hS⟩ : ∃ S, S = (match z78 with | .inl _ => none | .inr y76 => some (sp 98 [] [])) := ⟨_, rfl⟩; refine ⟨S, ?_, ?_⟩
  ·have h := hy77; clear hy77; cbv; revert h; refine fk ?_ ?_ <;> intro h <;> cbv
   ·revert h; refine cu (fun y82 => (sp 98 [(2, .c (.v (.bool y82)))] [])) ?_ fun w88 => rz fun h => ?_
    ·intro y82 S hS h; cbv; revert h; refine fk ?_ ?_ <;> intro h <;> cbv
     ·revert h; refine rk0 (hfq16 _) fun y89 h => ?_; cbv; exact dn
     exact dn
    cbv; obtain ⟨r95, h96, he97⟩ := ob_ h; injection he97 with he97; subst he97; injection hz79 with hz79; subst hz79; have h := h96; obtain ⟨r92, h93, he94⟩ := ob_ h; injection he94 with he94; subst he94; injection hz62 with hz62; subst hz62; have h := h93; exact df
   revert h; refine fk ?_ ?_ <;> intro h <;> cbv
   ·obtain ⟨r101, h102, he103⟩ := ob_ h; injection he103 with he103; subst he103; injection hz79 with hz79; subst hz79; have h := h102; obtain ⟨r98, h99, he100⟩ := ob_ h; injection he100 with he100; subst he100; injection hz62 with hz62; subst hz62; have h := h99; exact df
   exact dn
  ·clear hy77; subst hS; rcases z78 with _ | y76
   ·trivial
   ·have h := hz79; clear hz79; cbv; exact dn
 ·clear hy60; subst hS; rcases z61 with _ | y59
  ·trivial
  ·have h := hz62; clear hz62; cbv; exact df

/-- impl.isTransaction$1 -/
def Fq110 (a0 : TE) : Option (Bool) :=
 (Fq60 a0).bind fun y1 =>
 some (!(y1))
theorem runq110 (a0 : TE) (r : Bool) (h : Fq110 a0 = some r) : Fun prog 105 [.agg (cE a0)] [] (.c (.v (.bool r))) [] true := by
 refine ow [] func105 ntmps105 ?_; unfold Fq110 at h; have hfq60 := @runq60; generalize hU : @len = U_, hG_ : @gd = G_, hA : std = A, hP : prog = P at *; cbv; revert h; refine rk0 (hfq60 _) fun y1 h => ?_; cbv; exact df

def Lq54_x2 (a0 : List TE) : (Int) -> Option ((Int) ⊕ ((Int) ⊕ (Unit))) := fun x2 =>
 letO x2 fun v1 =>
 br (std.lt v1 (std.ofN (len a0)))
 (req (std.inR v1 (len a0)) <|
 (Fq110 (gd a0 (std.toN v1))).bind fun y15 =>
 br y15
 (some (.inr (.inl v1)))
 (some (.inl (std.add .i64 v1 1))))
 (some (.inr (.inr ())))
/-- impl.Edit] -/
def Fq54 (a0 : List TE) : Option (Int) :=
  (whileP (σ := Int) (ρ := (Int) ⊕ (Unit)) (Lq54_x2 a0) 0).bind fun y3 =>
  (match y3 with
 | .inl y3k0 => (
  letO y3k0 fun w19 =>
  some w19)
 | .inr y3m0 =>
  some (-1))
theorem runq54 (a0 : List TE) (r : Int) (h : Fq54 a0 = some r) : Fun prog 153 [.c (.bs (len a0) 21 (row gd (eE) a0)), .c (.fn 105 0 fun _ => .junk)] [] (.c (wi r)) [] true := by
 refine ow [] func153 ntmps153 ?_; unfold Fq54 at h; unfold Lq54_x2 at h; have hfq110 := @runq110; generalize hU : @len = U_, hG_ : @gd = G_, hA : std = A, hP : prog = P at *; cbv
 revert h; refine lc (fun x => (sp 19 [(0, .c (.bs (U_ a0) 21 (row G_ (eE) a0))), (1, .c (.fn 105 0 fun _ => .junk)), (7, .c (wi (A.ofN (U_ a0)))), (8, .c (wi x))] [])) (fun y e s => (match y with | .inl w => e = .ret /\ s.le (sp 19 [(4, .c (wi w))] []) | .inr w0 => (fun (w : Unit) => e = .exit 0 /\ s.le (sp 19 [] [])) w0)) zb ?_ ?_
 ·intro v1 z h K hK hY; replace h := oz h; cbv; revert h; refine fk ?_ ?_ <;> intro h <;> cbv
  ·revert h; refine ra fun c14 h => ?_; revert h; refine rk0 (hfq110 _) fun y15 h => ?_; cbv; revert h; refine fk ?_ ?_ <;> intro h <;> cbv
   ·exact dy
   exact dm
  exact dy
 intro y3 h e12 s13 q11 hne; rcases y3 with y3k0 | y3m0
 ·replace h := h; obtain ⟨rfl, q11⟩ := q11; revert h; refine rz fun h => ?_; cbv; injection h with h; subst h; exact ⟨_, q11, lR _, zo, rfl⟩
 ·obtain ⟨rfl, q11⟩ := q11; cbv; refine ⟨_, q11, ?_⟩; cbv; exact df

/-- impl.Edit] -/
def Fq92 (a0 : List TE) : Option (Bool) :=
 (Fq54 a0).bind fun y1 =>
 some (std.le 0 y1)
theorem runq92 (a0 : List TE) (r : Bool) (h : Fq92 a0 = some r) : Fun prog 104 [.c (.bs (len a0) 21 (row gd (eE) a0)), .c (.fn 105 0 fun _ => .junk)] [] (.c (.v (.bool r))) [] true := by
 refine ow [] func104 ntmps104 ?_; unfold Fq92 at h; have hfq54 := @runq54; generalize hU : @len = U_, hG_ : @gd = G_, hA : std = A, hP : prog = P at *; cbv
 revert h; refine rk0 (hfq54 _) fun y1 h => ?_; cbv; exact df

/-- impl.isTransaction -/
def Fq31 (a0 : List TE) : Option (Bool) :=
 ((
 br (std.le 1 (std.ofN (len a0)))
 (br (std.le (std.ofN (len a0)) 8)
 ((Fq92 a0).bind fun y8 =>
 some (!(y8)))
 (some false))
 (some false)
 ) : Option (Bool)).bind fun y1 =>
 letO y1 fun w7 =>
 some w7
theorem runq31 (a0 : List TE) (r : Bool) (h : Fq31 a0 = some r) : Fun prog 44 [.c (.bs (len a0) 21 (row gd (eE) a0))] [] (.c (.v (.bool r))) [] true := by
 refine ow [1] func44 ntmps44 ?_; unfold Fq31 at h; have hfq92 := @runq92; generalize hU : @len = U_, hG_ : @gd = G_, hA : std = A, hP : prog = P at *; cbv
 revert h; refine cu (fun y1 => (sp 16 [(2, .c (.v (.bool y1)))] [])) ?_ fun w7 => rz fun h => ?_
 ·intro y1 S hS h; cbv; revert h; refine fk ?_ ?_ <;> intro h <;> cbv
  ·revert h; refine fk ?_ ?_ <;> intro h <;> cbv
   ·revert h; refine rk0 (hfq92 _) fun y8 h => ?_; cbv; exact dn
   exact dn
  exact dn
 cbv; exact df

/-- impl.validHistory$1 -/
def Fq119 (a0 : List TE) : Option (Bool) :=
 (Fq31 a0).bind fun y1 =>
 some (!(y1))
theorem runq119 (a0 : List TE) (r : Bool) (h : Fq119 a0 = some r) : Fun prog 138 [.c (.bs (len a0) 21 (row gd (eE) a0))] [] (.c (.v (.bool r))) [] true := by
 refine ow [] func138 ntmps138 ?_; unfold Fq119 at h; have hfq31 := @runq31; generalize hU : @len = U_, hG_ : @gd = G_, hA : std = A, hP : prog = P at *; cbv; revert h; refine rk0 (hfq31 _) fun y1 h => ?_; cbv; exact df
end
end Go.Proofs.YtfoefnkbiofejaaGreat.AM
