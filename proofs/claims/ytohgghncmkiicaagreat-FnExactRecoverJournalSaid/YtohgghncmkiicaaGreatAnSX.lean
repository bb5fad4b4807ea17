/-
  What the functions that the law reaches compute, and that they do. No condition.
-/
import Derived.Test.YtohgghncmkiicaaGreatAnSW
namespace Go.Proofs.YtohgghncmkiicaaGreat.AM
noncomputable section
open Go Go.Proofs Go.RowKit Go.Proofs.Tryz
set_option linter.unusedVariables false
set_option linter.unusedSimpArgs false
set_option maxRecDepth 100000

set_option maxHeartbeats 4000000
def Lq92_x2 (a0 : List TS) : (Int) -> Option ((Int) ⊕ ((Int) ⊕ (Unit))) := fun x2 =>
 letO x2 fun v1 =>
 br (std.lt v1 (std.ofN (len a0)))
 (req (std.inR v1 (len a0)) <|
 (Fq162 (gd a0 (std.toN v1))).bind fun y15 =>
 br y15
 (some (.inr (.inl v1)))
 (some (.inl (std.add .i64 v1 1))))
 (some (.inr (.inr ())))
/-- impl.Shape] -/
def Fq92 (a0 : List TS) : Option (Int) :=
 (whileP (σ := Int) (ρ := (Int) ⊕ (Unit)) (Lq92_x2 a0) 0).bind fun y3 =>
 (match y3 with
 | .inl y3k0 => (
 letO y3k0 fun w19 =>
 some w19)
 | .inr y3m0 =>
 some (-1))
theorem runq92 (a0 : List TS) (r : Int) (h : Fq92 a0 = some r) : Fun prog 234 [.c (.bs (len a0) 5 (row gd (eS) a0)), .c (.fn 163 0 fun _ => .junk)] [] (.c (wi r)) [] true := by
 refine ow [] func234 ntmps234 ?_; unfold Fq92 at h; unfold Lq92_x2 at h; have hfq162 := @runq162; generalize hU : @len = U_, hG_ : @gd = G_, hA : std = A, hP : prog = P at *; cbv
 revert h; refine lc (fun x => (sp 19 [(0, .c (.bs (U_ a0) 5 (row G_ (eS) a0))), (1, .c (.fn 163 0 fun _ => .junk)), (7, .c (wi (A.ofN (U_ a0)))), (8, .c (wi x))] [])) (fun y e s => (match y with | .inl w => e = .ret /\ s.le (sp 19 [(4, .c (wi w))] []) | .inr w0 => (fun (w : Unit) => e = .exit 0 /\ s.le (sp 19 [] [])) w0)) zb ?_ ?_
 ·intro v1 z h K hK hY; replace h := oz h; cbv; revert h; refine fk ?_ ?_ <;> intro h <;> cbv
  ·revert h; refine ra fun c14 h => ?_; revert h; refine rk0 (hfq162 _) fun y15 h => ?_; cbv; revert h; refine fk ?_ ?_ <;> intro h <;> cbv
   ·exact dy
   exact dm
  exact dy
 intro y3 h e12 s13 q11 hne; rcases y3 with y3k0 | y3m0
 ·replace h := h; obtain ⟨rfl, q11⟩ := q11; revert h; refine rz fun h => ?_; cbv; injection h with h; subst h; exact ⟨_, q11, lR _, zo, rfl⟩
 ·obtain ⟨rfl, q11⟩ := q11; cbv; refine ⟨_, q11, ?_⟩; cbv; exact df

/-- impl.Shape] -/
def Fq113 (a0 : List TS) : Option (Bool) :=
 (Fq92 a0).bind fun y1 =>
 some (std.le 0 y1)
theorem runq113 (a0 : List TS) (r : Bool) (h : Fq113 a0 = some r) : Fun prog 162 [.c (.bs (len a0) 5 (row gd (eS) a0)), .c (.fn 163 0 fun _ => .junk)] [] (.c (.v (.bool r))) [] true := by
 refine ow [] func162 ntmps162 ?_; unfold Fq113 at h; have hfq92 := @runq92; generalize hU : @len = U_, hG_ : @gd = G_, hA : std = A, hP : prog = P at *; cbv
 revert h; refine rk0 (hfq92 _) fun y1 h => ?_; cbv; exact df

/-- impl.isUnitCell -/
def Fq126 (a0 : TPoint) : Option (Bool) :=
 ((
 (Fq1 a0.fX (-40) 39).bind fun y8 =>
 br y8
 ((Fq1 a0.fY (-40) 39).bind fun y10 =>
 some y10)
 (some false)
 ) : Option (Bool)).bind fun y1 =>
 letO y1 fun w7 =>
 some w7
theorem runq126 (a0 : TPoint) (r : Bool) (h : Fq126 a0 = some r) : Fun prog 237 [.agg [wi a0.fX, wi a0.fY]] [] (.c (.v (.bool r))) [] true := by
 refine ow [1] func237 ntmps237 ?_; unfold Fq126 at h; have hfq1 := @runq1; generalize hU : @len = U_, hG_ : @gd = G_, hA : std = A, hP : prog = P at *; cbv; revert h; refine cu (fun y1 => (sp 11 [(2, .c (.v (.bool y1)))] [])) ?_ fun w7 => rz fun h => ?_
 ·intro y1 S hS h; cbv; revert h; refine rk0 (hfq1 _ _ _) fun y8 h => ?_; cbv; revert h; refine fk ?_ ?_ <;> intro h <;> cbv
  ·revert h; refine rk0 (hfq1 _ _ _) fun y10 h => ?_; cbv; exact dn
  exact dn
 cbv; exact df

/-- impl.validLabel -/
def Fq83 (a0 : TB) : Option (Bool) :=
 ((
 (Fq1 a0.fy 0 7).bind fun y8 =>
 br y8
 ((Fq126 a0.fa).bind fun y10 =>
 br y10
 ((Fq29 a0.fN).bind fun y12 =>
 some y12)
 (some false))
 (some false)
 ) : Option (Bool)).bind fun y1 =>
 letO y1 fun w7 =>
 some w7
theorem runq83 (a0 : TB) (r : Bool) (h : Fq83 a0 = some r) : Fun prog 167 [.agg [wi a0.fy, wi a0.fa.fX, wi a0.fa.fY, ws a0.fN]] [] (.c (.v (.bool r))) [] true := by
 refine ow [1] func167 ntmps167 ?_; unfold Fq83 at h; have hfq29 := @runq29; have hfq126 := @runq126; have hfq1 := @runq1; generalize hU : @len = U_, hG_ : @gd = G_, hA : std = A, hP : prog = P at *; cbv; revert h; refine cu (fun y1 => (sp 16 [(2, .c (.v (.bool y1)))] [])) ?_ fun w7 => rz fun h => ?_
 ·intro y1 S hS h; cbv; revert h; refine rk0 (hfq1 _ _ _) fun y8 h => ?_; cbv; revert h; refine fk ?_ ?_ <;> intro h <;> cbv
  ·revert h; refine rk0 (hfq126 _) fun y10 h => ?_; cbv; revert h; refine fk ?_ ?_ <;> intro h <;> cbv
   ·revert h; refine rk0 (hfq29 _) fun y12 h => ?_; cbv; exact dn
   exact dn
  exact dn
 cbv; exact df

/-- impl.validCell$2 -/
def Fq158 (a0 : TB) : Option (Bool) :=
 (Fq83 (TB.mk a0.fy a0.fa a0.fN)).bind fun y1 =>
 some (!(y1))
theorem runq158 (a0 : TB) (r : Bool) (h : Fq158 a0 = some r) : Fun prog 166 [.agg [wi a0.fy, wi a0.fa.fX, wi a0.fa.fY, ws a0.fN]] [] (.c (.v (.bool r))) [] true := by
 refine ow [] func166 ntmps166 ?_; unfold Fq158 at h; have hfq83 := @runq83; generalize hU : @len = U_, hG_ : @gd = G_, hA : std = A, hP : prog = P at *; cbv; revert h; refine rk0 (hfq83 _) fun y1 h => ?_; cbv; exact df

def Lq84_x2 (a0 : List TB) : (Int) -> Option ((Int) ⊕ ((Int) ⊕ (Unit))) := fun x2 =>
 letO x2 fun v1 =>
 br (std.lt v1 (std.ofN (len a0)))
 (req (std.inR v1 (len a0)) <|
 (Fq158 (gd a0 (std.toN v1))).bind fun y15 =>
 br y15
 (some (.inr (.inl v1)))
 (some (.inl (std.add .i64 v1 1))))
 (some (.inr (.inr ())))
/-- impl.Label] -/
def Fq84 (a0 : List TB) : Option (Int) :=
 (whileP (σ := Int) (ρ := (Int) ⊕ (Unit)) (Lq84_x2 a0) 0).bind fun y3 =>
 (match y3 with
 | .inl y3k0 => (
 letO y3k0 fun w19 =>
 some w19)
 | .inr y3m0 =>
 some (-1))
theorem runq84 (a0 : List TB) (r : Int) (h : Fq84 a0 = some r) : Fun prog 236 [.c (.bs (len a0) 4 (row gd (eL_0) a0)), .c (.fn 166 0 fun _ => .junk)] [] (.c (wi r)) [] true := by
 refine ow [] func236 ntmps236 ?_; unfold Fq84 at h; unfold Lq84_x2 at h; have hfq158 := @runq158; generalize hU : @len = U_, hG_ : @gd = G_, hA : std = A, hP : prog = P at *; cbv
 revert h; refine lc (fun x => (sp 19 [(0, .c (.bs (U_ a0) 4 (row G_ (eL_0) a0))), (1, .c (.fn 166 0 fun _ => .junk)), (7, .c (wi (A.ofN (U_ a0)))), (8, .c (wi x))] [])) (fun y e s => (match y with | .inl w => e = .ret /\ s.le (sp 19 [(4, .c (wi w))] []) | .inr w0 => (fun (w : Unit) => e = .exit 0 /\ s.le (sp 19 [] [])) w0)) zb ?_ ?_
 ·intro v1 z h K hK hY; replace h := oz h; cbv; revert h; refine fk ?_ ?_ <;> intro h <;> cbv
  ·revert h; refine ra fun c14 h => ?_; revert h; refine rk0 (hfq158 _) fun y15 h => ?_; cbv; revert h; refine fk ?_ ?_ <;> intro h <;> cbv
   ·exact dy
   exact dm
  exact dy
 intro y3 h e12 s13 q11 hne; rcases y3 with y3k0 | y3m0
 ·replace h := h; obtain ⟨rfl, q11⟩ := q11; revert h; refine rz fun h => ?_; cbv; injection h with h; subst h; exact ⟨_, q11, lR _, zo, rfl⟩
 ·obtain ⟨rfl, q11⟩ := q11; cbv; refine ⟨_, q11, ?_⟩; cbv; exact df
set_option maxHeartbeats 4000000
/-- impl.Label] -/
def Fq136 (a0 : List TB) : Option (Bool) :=
 (Fq84 a0).bind fun y1 =>
 some (std.le 0 y1)
theorem runq136 (a0 : List TB) (r : Bool) (h : Fq136 a0 = some r) : Fun prog 165 [.c (.bs (len a0) 4 (row gd (eL_0) a0)), .c (.fn 166 0 fun _ => .junk)] [] (.c (.v (.bool r))) [] true := by
 refine ow [] func165 ntmps165 ?_; unfold Fq136 at h; have hfq84 := @runq84; generalize hU : @len = U_, hG_ : @gd = G_, hA : std = A, hP : prog = P at *; cbv
 revert h; refine rk0 (hfq84 _) fun y1 h => ?_; cbv; exact df

/-- impl.IsValidTransform -/
def Fq134 (a0 : TM) : Option (Bool) :=
 ((
 (Fq1 a0.fo 0 7).bind fun y8 =>
 br y8
 ((Fq1 a0.fX (-80) 80).bind fun y10 =>
 br y10
 ((Fq1 a0.fY (-80) 80).bind fun y12 =>
 some y12)
 (some false))
 (some false)
 ) : Option (Bool)).bind fun y1 =>
 letO y1 fun w7 =>
 some w7
theorem runq134 (a0 : TM) (r : Bool) (h : Fq134 a0 = some r) : Fun prog 239 [.agg [wi a0.fo, wi a0.fX, wi a0.fY]] [] (.c (.v (.bool r))) [] true := by
 refine ow [1] func239 ntmps239 ?_; unfold Fq134 at h; have hfq1 := @runq1; generalize hU : @len = U_, hG_ : @gd = G_, hA : std = A, hP : prog = P at *; cbv; revert h; refine cu (fun y1 => (sp 16 [(2, .c (.v (.bool y1)))] [])) ?_ fun w7 => rz fun h => ?_
 ·intro y1 S hS h; cbv; revert h; refine rk0 (hfq1 _ _ _) fun y8 h => ?_; cbv; revert h; refine fk ?_ ?_ <;> intro h <;> cbv
  ·revert h; refine rk0 (hfq1 _ _ _) fun y10 h => ?_; cbv; revert h; refine fk ?_ ?_ <;> intro h <;> cbv
   ·revert h; refine rk0 (hfq1 _ _ _) fun y12 h => ?_; cbv; exact dn
   exact dn
  exact dn
 cbv; exact df

/-- impl.validInstance -/
def Fq94 (a0 : TI) (a1 : Int) : Option (Bool) :=
 ((
 (Fq1 a0.fc 0 (std.sub .i64 a1 1)).bind fun y8 =>
 br y8
 ((Fq134 a0.fp).bind fun y10 =>
 br y10
 ((Fq1 a0.fK 1 4).bind fun y12 =>
 br y12
 ((Fq1 a0.fR 1 4).bind fun y14 =>
 br y14
 ((Fq1 a0.fu (-80) 80).bind fun y16 =>
 br y16
 ((Fq1 a0.fv (-80) 80).bind fun y18 =>
 br y18
 (br (std.eq a0.fu 0)
 (br (std.eq a0.fv 0)
 (some true)
 (some (std.lt 1 a0.fR)))
 (br (std.lt 1 a0.fK)
 (br (std.eq a0.fv 0)
 (some true)
 (some (std.lt 1 a0.fR)))
 (some false)))
 (some false))
 (some false))
 (some false))
 (some false))
 (some false))
 (some false)
 ) : Option (Bool)).bind fun y1 =>
 letO y1 fun w7 =>
 some w7
theorem runq94 (a0 : TI) (a1 : Int) (r : Bool) (h : Fq94 a0 a1 = some r) : Fun prog 170 [.agg [wi a0.fc, wi a0.fp.fo, wi a0.fp.fX, wi a0.fp.fY, wi a0.fK, wi a0.fR, wi a0.fu, wi a0.fv], .c (wi a1)] [] (.c (.v (.bool r))) [] true := by
 refine ow [1] func170 ntmps170 ?_; unfold Fq94 at h; have hfq134 := @runq134; have hfq1 := @runq1; generalize hU : @len = U_, hG_ : @gd = G_, hA : std = A, hP : prog = P at *; cbv; revert h; refine cu (fun y1 => (sp 55 [(4, .c (.v (.bool y1)))] [])) ?_ fun w7 => rz fun h => ?_
 ·intro y1 S hS h; cbv; revert h; refine rk0 (hfq1 _ _ _) fun y8 h => ?_; cbv; revert h; refine fk ?_ ?_ <;> intro h <;> cbv
  ·revert h; refine rk0 (hfq134 _) fun y10 h => ?_; cbv; revert h; refine fk ?_ ?_ <;> intro h <;> cbv
   ·revert h; refine rk0 (hfq1 _ _ _) fun y12 h => ?_; cbv; revert h; refine fk ?_ ?_ <;> intro h <;> cbv
    ·revert h; refine rk0 (hfq1 _ _ _) fun y14 h => ?_; cbv; revert h; refine fk ?_ ?_ <;> intro h <;> cbv
     ·revert h; refine rk0 (hfq1 _ _ _) fun y16 h => ?_; cbv; revert h; refine fk ?_ ?_ <;> intro h <;> cbv
      ·revert h; refine rk0 (hfq1 _ _ _) fun y18 h => ?_; cbv; revert h; refine fk ?_ ?_ <;> intro h <;> cbv
       ·revert h; refine fk ?_ ?_ <;> intro h <;> cbv
        ·revert h; refine fk ?_ ?_ <;> intro h <;> cbv
         ·exact dn
         exact dn
        revert h; refine fk ?_ ?_ <;> intro h <;> cbv
        ·revert h; refine fk ?_ ?_ <;> intro h <;> cbv
         ·exact dn
         exact dn
        exact dn
       exact dn
      exact dn
     exact dn
    exact dn
   exact dn
  exact dn
 cbv; exact df

/-- impl.validCell$3 -/
def Fq157 (a0 : TI) (a1 : Int) : Option (Bool) :=
 (Fq94 (TI.mk a0.fc a0.fp a0.fK a0.fR a0.fu a0.fv) a1).bind fun y1 =>
 some (!(y1))
theorem runq157 (a0 : TI) (a1 : Int) (r : Bool) (h : Fq157 a0 a1 = some r) : Fun prog 169 [.agg [wi a0.fc, wi a0.fp.fo, wi a0.fp.fX, wi a0.fp.fY, wi a0.fK, wi a0.fR, wi a0.fu, wi a0.fv], .c (.bp 1 (encI .i64 a1))] [] (.c (.v (.bool r))) [] true := by
 refine ow [] func169 ntmps169 ?_; unfold Fq157 at h; have hfq94 := @runq94; generalize hU : @len = U_, hG_ : @gd = G_, hA : std = A, hP : prog = P at *; cbv; revert h; refine rk0 (hfq94 _ _) fun y1 h => ?_; cbv; exact df

def Lq89_x2 (a0 : List TI) (a1_0 : Int) : (Int) -> Option ((Int) ⊕ ((Int) ⊕ (Unit))) := fun x2 =>
 letO x2 fun v1 =>
 br (std.lt v1 (std.ofN (len a0)))
 (req (std.inR v1 (len a0)) <|
 (Fq157 (gd a0 (std.toN v1)) a1_0).bind fun y15 =>
 br y15
 (some (.inr (.inl v1)))
 (some (.inl (std.add .i64 v1 1))))
 (some (.inr (.inr ())))
/-- impl.Instance] -/
def Fq89 (a0 : List TI) (a1_0 : Int) : Option (Int) :=
 (whileP (σ := Int) (ρ := (Int) ⊕ (Unit)) (Lq89_x2 a0 a1_0) 0).bind fun y3 =>
 (match y3 with
 | .inl y3k0 => (
 letO y3k0 fun w19 =>
 some w19)
 | .inr y3m0 =>
 some (-1))
theorem runq89 (a0 : List TI) (a1_0 : Int) (r : Int) (h : Fq89 a0 a1_0 = some r) : Fun prog 238 [.c (.bs (len a0) 8 (row gd (eI) a0)), .c (.fn 169 1 fun j => ([.bp 1 (encI .i64 a1_0)] : List AC).getD j .junk)] [] (.c (wi r)) [] true := by
 refine ow [] func238 ntmps238 ?_; unfold Fq89 at h; unfold Lq89_x2 at h; have hfq157 := @runq157; generalize hU : @len = U_, hG_ : @gd = G_, hA : std = A, hP : prog = P at *; cbv
 revert h; refine lc (fun x => (sp 19 [(0, .c (.bs (U_ a0) 8 (row G_ (eI) a0))), (1, .c (.fn 169 1 fun j => ([.bp 1 (encI .i64 a1_0)] : List AC).getD j .junk)), (7, .c (wi (A.ofN (U_ a0)))), (8, .c (wi x))] [])) (fun y e s => (match y with | .inl w => e = .ret /\ s.le (sp 19 [(4, .c (wi w))] []) | .inr w0 => (fun (w : Unit) => e = .exit 0 /\ s.le (sp 19 [] [])) w0)) zb ?_ ?_
 ·intro v1 z h K hK hY; replace h := oz h; cbv; revert h; refine fk ?_ ?_ <;> intro h <;> cbv
  ·revert h; refine ra fun c14 h => ?_; revert h; refine rk [] [] (hfq157 _ _) (fun _ => zg (lc_ (lR _) (lc_ (le_bp (show 1 <= 1 from by decide) (by intro j hj; match j, hj with | 0, _ => exact rle_refl _ | (j_ + 1), h_ => omega)) (ln_)))) fun y15 h => ?_; cbv; revert h; refine fk ?_ ?_ <;> intro h <;> cbv
   ·exact dy
   exact dm
  exact dy
 intro y3 h e12 s13 q11 hne; rcases y3 with y3k0 | y3m0
 ·replace h := h; obtain ⟨rfl, q11⟩ := q11; revert h; refine rz fun h => ?_; cbv; injection h with h; subst h; exact ⟨_, q11, lR _, zo, rfl⟩
 ·obtain ⟨rfl, q11⟩ := q11; cbv; refine ⟨_, q11, ?_⟩; cbv; exact df

/-- impl.Instance] -/
def Fq125 (a0 : List TI) (a1_0 : Int) : Option (Bool) :=
 (Fq89 a0 a1_0).bind fun y1 =>
 some (std.le 0 y1)
theorem runq125 (a0 : List TI) (a1_0 : Int) (r : Bool) (h : Fq125 a0 a1_0 = some r) : Fun prog 168 [.c (.bs (len a0) 8 (row gd (eI) a0)), .c (.fn 169 1 fun j => ([.bp 1 (encI .i64 a1_0)] : List AC).getD j .junk)] [] (.c (.v (.bool r))) [] true := by
 refine ow [] func168 ntmps168 ?_; unfold Fq125 at h; have hfq89 := @runq89; generalize hU : @len = U_, hG_ : @gd = G_, hA : std = A, hP : prog = P at *; cbv
 revert h; refine rk [] [] (hfq89 _ _) (fun _ => zg (lc_ (lR _) (lc_ (le_fn (by intro j hj; match j, hj with | 0, _ => exact le_bp (show 1 <= 1 from by decide) (by intro j hj; match j, hj with | 0, _ => exact rle_refl _ | (j_ + 1), h_ => omega) | (j_ + 1), h_ => omega)) (ln_)))) fun y1 h => ?_
 cbv; exact df
set_option maxHeartbeats 4000000
/-- impl.validCell -/
def Fq5 (a0 : TC) (a1 : Int) : Option (Bool) :=
 ((
 (Fq29 a0.fN).bind fun y8 =>
 br (!(y8))
 (some true)
 (br (std.lt 24 (std.ofN (len a0.fS)))
 (some true)
 (br (std.lt 8 (std.ofN (len a0.fL)))
 (some true)
 (some (std.lt 8 (std.ofN (len a0.fI))))))
 ) : Option (Bool)).bind fun y1 =>
 letO y1 fun w7 =>
 br w7
 (some false)
 (((
 (Fq113 a0.fS).bind fun y20 =>
 br (!(y20))
 ((Fq136 a0.fL).bind fun y22 =>
 br (!(y22))
 ((Fq125 a0.fI a1).bind fun y24 =>
 some (!(y24)))
 (some false))
 (some false)
 ) : Option (Bool)).bind fun y13 =>
 letO y13 fun w19 =>
 some w19)
theorem runq5 (a0 : TC) (a1 : Int) (r : Bool) (h : Fq5 a0 a1 = some r) : Fun prog 95 [.agg [ws a0.fN, .bs (len a0.fS) 5 (row gd (eS) a0.fS), .bs (len a0.fL) 4 (row gd (eL_0) a0.fL), .bs (len a0.fI) 8 (row gd (eI) a0.fI)], .c (wi a1)] [] (.c (.v (.bool r))) [] true := by
 refine ow [1, 3] func95 ntmps95 ?_; unfold Fq5 at h; have hfq29 := @runq29; have hfq125 := @runq125
 have hfq136 := @runq136; have hfq113 := @runq113; generalize hU : @len = U_, hG_ : @gd = G_, hA : std = A, hP : prog = P at *; cbv
 revert h; refine cu (fun y1 => (sp 44 [(2, .c (.ptr 128 0)), (3, .c (.ptr 192 0)), (26, .c (.v (.bool y1)))] [(128, .var [ws a0.fN, .bs (U_ a0.fS) 5 (row G_ (eS) a0.fS), .bs (U_ a0.fL) 4 (row G_ (eL_0) a0.fL), .bs (U_ a0.fI) 8 (row G_ (eI) a0.fI)]), (192, .var [wi a1])])) ?_ fun w7 => rz fun h => ?_
 ·intro y1 S hS h; cbv; revert h; refine rk0 (hfq29 _) fun y8 h => ?_; cbv; revert h; refine fk ?_ ?_ <;> intro h <;> cbv
  ·exact dn
  revert h; refine fk ?_ ?_ <;> intro h <;> cbv
  ·exact dn
  revert h; refine fk ?_ ?_ <;> intro h <;> cbv
  ·exact dn
  exact dn
 cbv; revert h; refine fk ?_ ?_ <;> intro h <;> cbv
 ·exact df
 revert h; refine cu (fun y13 => (sp 44 [(4, .c (.v (.bool y13)))] [])) ?_ fun w19 => rz fun h => ?_
 ·intro y13 S hS h; cbv; revert h; refine rk0 (hfq113 _) fun y20 h => ?_; cbv; revert h; refine fk ?_ ?_ <;> intro h <;> cbv
  ·revert h; refine rk0 (hfq136 _) fun y22 h => ?_; cbv; revert h; refine fk ?_ ?_ <;> intro h <;> cbv
   ·revert h; refine rk [] [] (hfq125 _ _) (fun _ => zg (lc_ (lR _) (lc_ (le_fn (by intro j hj; match j, hj with | 0, _ => exact le_bp (show 1 <= 1 from by decide) (by intro j hj; match j, hj with | 0, _ => exact rle_refl _ | (j_ + 1), h_ => omega) | (j_ + 1), h_ => omega)) (ln_)))) fun y24 h => ?_
    cbv; exact dn
   exact dn
  exact dn
 cbv; exact df

/-- impl.named$1 -/
def Fq156 (a0 : TC) (a1 : ByteArray) : Option (Bool) :=
 some (std.seq a0.fN a1)
theorem runq156 (a0 : TC) (a1 : ByteArray) (r : Bool) (h : Fq156 a0 a1 = some r) : Fun prog 172 [.agg [ws a0.fN, .bs (len a0.fS) 5 (row gd (eS) a0.fS), .bs (len a0.fL) 4 (row gd (eL_0) a0.fL), .bs (len a0.fI) 8 (row gd (eI) a0.fI)], .c (.bp 1 (encS a1))] [] (.c (.v (.bool r))) [] true := by
 refine ow [] func172 ntmps172 ?_; unfold Fq156 at h; generalize hU : @len = U_, hG_ : @gd = G_, hA : std = A, hP : prog = P at *; cbv; exact df

def Lq91_x2 (a0 : List TC) (a1_0 : ByteArray) : (Int) -> Option ((Int) ⊕ ((Int) ⊕ (Unit))) := fun x2 =>
 letO x2 fun v1 =>
 br (std.lt v1 (std.ofN (len a0)))
 (req (std.inR v1 (len a0)) <|
 (Fq156 (gd a0 (std.toN v1)) a1_0).bind fun y15 =>
 br y15
 (some (.inr (.inl v1)))
 (some (.inl (std.add .i64 v1 1))))
 (some (.inr (.inr ())))
/-- impl.Cell] -/
def Fq91 (a0 : List TC) (a1_0 : ByteArray) : Option (Int) :=
 (whileP (σ := Int) (ρ := (Int) ⊕ (Unit)) (Lq91_x2 a0 a1_0) 0).bind fun y3 =>
 (match y3 with
 | .inl y3k0 => (
 letO y3k0 fun w19 =>
 some w19)
 | .inr y3m0 =>
 some (-1))
theorem runq91 (a0 : List TC) (a1_0 : ByteArray) (r : Int) (h : Fq91 a0 a1_0 = some r) : Fun prog 171 [.c (.bs (len a0) 4 (row gd (eC len gd) a0)), .c (.fn 172 1 fun j => ([.bp 1 (encS a1_0)] : List AC).getD j .junk)] [] (.c (wi r)) [] true := by
 refine ow [] func171 ntmps171 ?_; unfold Fq91 at h; unfold Lq91_x2 at h; have hfq156 := @runq156; generalize hU : @len = U_, hG_ : @gd = G_, hA : std = A, hP : prog = P at *; cbv
 revert h; refine lc (fun x => (sp 19 [(0, .c (.bs (U_ a0) 4 (row G_ (eC U_ G_) a0))), (1, .c (.fn 172 1 fun j => ([.bp 1 (encS a1_0)] : List AC).getD j .junk)), (7, .c (wi (A.ofN (U_ a0)))), (8, .c (wi x))] [])) (fun y e s => (match y with | .inl w => e = .ret /\ s.le (sp 19 [(4, .c (wi w))] []) | .inr w0 => (fun (w : Unit) => e = .exit 0 /\ s.le (sp 19 [] [])) w0)) zb ?_ ?_
 ·intro v1 z h K hK hY; replace h := oz h; cbv; revert h; refine fk ?_ ?_ <;> intro h <;> cbv
  ·revert h; refine ra fun c14 h => ?_; revert h; refine rk [] [] (hfq156 _ _) (fun _ => zg (lc_ (lR _) (lc_ (le_bp (show 1 <= 1 from by decide) (by intro j hj; match j, hj with | 0, _ => exact rle_refl _ | (j_ + 1), h_ => omega)) (ln_)))) fun y15 h => ?_; cbv; revert h; refine fk ?_ ?_ <;> intro h <;> cbv
   ·exact dy
   exact dm
  exact dy
 intro y3 h e12 s13 q11 hne; rcases y3 with y3k0 | y3m0
 ·replace h := h; obtain ⟨rfl, q11⟩ := q11; revert h; refine rz fun h => ?_; cbv; injection h with h; subst h; exact ⟨_, q11, lR _, zo, rfl⟩
 ·obtain ⟨rfl, q11⟩ := q11; cbv; refine ⟨_, q11, ?_⟩; cbv; exact df

/-- impl.named -/
def Fq23 (a0 : TL) (a1 : ByteArray) : Option (Int) :=
 (Fq91 a0.fC a1).bind fun y1 =>
 some y1
theorem runq23 (a0 : TL) (a1 : ByteArray) (r : Int) (h : Fq23 a0 a1 = some r) : Fun prog 96 [.agg [.bs (len a0.fC) 4 (row gd (eC len gd) a0.fC)], .c (ws a1)] [] (.c (wi r)) [] true := by
 refine ow [] func96 ntmps96 ?_; unfold Fq23 at h; have hfq91 := @runq91; generalize hU : @len = U_, hG_ : @gd = G_, hA : std = A, hP : prog = P at *; cbv
 revert h; refine rk [] [] (hfq91 _ _) (fun _ => zg (lc_ (lR _) (lc_ (le_fn (by intro j hj; match j, hj with | 0, _ => exact le_bp (show 1 <= 1 from by decide) (by intro j hj; match j, hj with | 0, _ => exact rle_refl _ | (j_ + 1), h_ => omega) | (j_ + 1), h_ => omega)) (ln_)))) fun y1 h => ?_
 cbv; exact df

def Lq13_x10 (a0 : TL) : (Int) -> Option ((Int) ⊕ ((Bool) ⊕ (Unit))) := fun x10 =>
 letO x10 fun v9 =>
 br (std.lt v9 (std.ofN (len a0.fC)))
 (req (std.inR v9 (len a0.fC)) <|
 ((
 (Fq5 (gd a0.fC (std.toN v9)) v9).bind fun y30 =>
 br (!(y30))
 (some true)
 ((Fq23 (TL.mk a0.fC) (gd a0.fC (std.toN v9)).fN).bind fun y32 =>
 some (std.not (std.eq y32 v9)))
 ) : Option (Bool)).bind fun y23 =>
 letO y23 fun w29 =>
 br w29
 (some (.inr (.inl false)))
 (some (.inl (std.add .i64 v9 1))))
 (some (.inr (.inr ())))
/-- impl.IsValidLibrary -/
def Fq13 (a0 : TL) : Option (Bool) :=
 ((
 br (std.lt (std.ofN (len a0.fC)) 1)
 (some true)
 (some (std.lt 8 (std.ofN (len a0.fC))))
 ) : Option (Bool)).bind fun y1 =>
 letO y1 fun w7 =>
 br w7
 (some false)
 ((whileP (σ := Int) (ρ := (Bool) ⊕ (Unit)) (Lq13_x10 a0) 0).bind fun y11 =>
 (match y11 with
 | .inl y11k0 => (
 letO y11k0 fun w37 =>
 some w37)
 | .inr y11m0 =>
 some true))
theorem runq13 (a0 : TL) (r : Bool) (h : Fq13 a0 = some r) : Fun prog 46 [.agg [.bs (len a0.fC) 4 (row gd (eC len gd) a0.fC)]] [] (.c (.v (.bool r))) [] true := by
 refine ow [1, 6] func46 ntmps46 ?_; unfold Fq13 at h; unfold Lq13_x10 at h; have hfq23 := @runq23; have hfq5 := @runq5; generalize hU : @len = U_, hG_ : @gd = G_, hA : std = A, hP : prog = P at *; cbv
 revert h; refine cu (fun y1 => (sp 36 [(1, .c (.ptr 64 0)), (14, .c (.v (.bool y1)))] [(64, .var [.bs (U_ a0.fC) 4 (row G_ (eC U_ G_) a0.fC)])])) (fun y1 S hS h => rg) fun w7 => rz fun h => ?_; cbv; revert h; refine fk ?_ ?_ <;> intro h <;> cbv
 ·exact df
 revert h; refine lc (fun x => (sp 36 [(1, .c (.ptr 64 0)), (16, .c (.bs (U_ a0.fC) 4 (row G_ (eC U_ G_) a0.fC))), (17, .c (wi (A.ofN (U_ a0.fC)))), (18, .c (wi x))] [(64, .var [.bs (U_ a0.fC) 4 (row G_ (eC U_ G_) a0.fC)])])) (fun y e s => (match y with | .inl w => e = .ret /\ s.le (sp 36 [(2, .c (.v (.bool w)))] []) | .inr w0 => (fun (w : Unit) => e = .exit 0 /\ s.le (sp 36 [] [])) w0)) zb ?_ ?_
 ·intro v9 z h K hK hY; replace h := oz h; cbv; revert h; refine fk ?_ ?_ <;> intro h <;> cbv
  ·revert h; refine ra fun c22 h => ?_; revert h; refine cu (fun y23 => (sp 36 [(1, .c (.ptr 64 0)), (16, .c (.bs (U_ a0.fC) 4 (row G_ (eC U_ G_) a0.fC))), (17, .c (wi (A.ofN (U_ a0.fC)))), (18, .c (wi v9)), (34, .c (.v (.bool y23)))] [(64, .var [.bs (U_ a0.fC) 4 (row G_ (eC U_ G_) a0.fC)])])) ?_ fun w29 => rz fun h => ?_
   ·intro y23 S hS h; cbv; revert h; refine rk0 (hfq5 _ _) fun y30 h => ?_; cbv; revert h; refine fk ?_ ?_ <;> intro h <;> cbv
    ·exact dn
    revert h; refine rk0 (hfq23 _ _) fun y32 h => ?_; cbv; exact dn
   cbv; revert h; refine fk ?_ ?_ <;> intro h <;> cbv
   ·exact dy
   exact dm
  exact dy
 intro y11 h e20 s21 q19 hne; rcases y11 with y11k0 | y11m0
 ·replace h := h; obtain ⟨rfl, q19⟩ := q19; revert h; refine rz fun h => ?_; cbv; injection h with h; subst h; exact ⟨_, q19, lR _, zo, rfl⟩
 ·obtain ⟨rfl, q19⟩ := q19; cbv; refine ⟨_, q19, ?_⟩; cbv; exact df

/-- impl.Shape] -/
def Fq139 (a0 : List TS) : Option (List TS) :=
 nilB (len a0)
 (some ([] : List TS))
 (letO ([] : List TS) fun l1 =>
 req (std.room (std.nadd (len l1) (len a0)) 40) <|
 letO (l1 ++ a0) fun l3 =>
 some l3)
theorem runq139 (a0 : List TS) (r : List TS) (h : Fq139 a0 = some r) : Fun prog 226 [.c (.bs (len a0) 5 (row gd (eS) a0))] [] (.c (.os 64000 0 (len r))) [(64000, .arr .rw [] (len r) 5 (row gd (eS) r))] true := by
 refine ow [] func226 ntmps226 ?_ (hv := (fun _ => ⟨trivial, ⟨fun i _ j _ => val_flat (vl_encShape _ _), tv⟩⟩)); unfold Fq139 at h; generalize hU : @len = U_, hG_ : @gd = G_, hA : std = A, hP : prog = P at *; cbv; obtain ⟨h, hz7⟩ := of_nilB h; refine And.intro (fun hn6 => ?_) ?_
 ·have h := hz7 hn6; clear hz7; cbv; injection h with h; subst h; refine ⟨(sp 8 [(2, .c (.os 64000 0 (U_ ([] : List TS))))] [(64000, .arr .rw [] (U_ ([] : List TS)) 5 (row G_ (eS) ([] : List TS)))]), ?_, ?_⟩
  ·refine St.le_trans (le_nilT 2 64000 5 (row G_ (eS) ([] : List TS)) (by decide) rfl) ?_; subst hU; exact zb
  ·subst hU; exact ⟨lR _, zo, rfl⟩
 ·clear hz7; cbv; revert h; refine rl fun l1 hl1 h => ?_; have e2 : 0 = U_ l1 := by subst hl1 hU; rfl
  refine ⟨_, (co e2), _, row G_ (eS) l1, e2, wO ?_, ?_⟩
  ·intro i hi j hj; rw [<- e2] at hi; subst hl1; subst hG_; omega
  cbv; revert h; refine rq fun c5 => rl fun l3 hl3 h => ?_; have e4 := nl hA hU hl3; refine ⟨c5, _, (co e4), _, row G_ (eS) l3, e4, wO ?_, ?_⟩
  ·subst hG_ hU hA; exact app_bs (pl_encShape) hl3 (Nat.le_refl _)
  cbv; injection h with h; subst h; exact ⟨_, le_ren 320 64000 (by decide) rfl, lR _, zo, rfl⟩
set_option maxHeartbeats 4000000
/-- impl.Label] -/
def Fq148 (a0 : List TB) : Option (List TB) :=
 nilB (len a0)
 (some ([] : List TB))
 (letO ([] : List TB) fun l1 =>
 req (std.room (std.nadd (len l1) (len a0)) 40) <|
 letO (l1 ++ a0) fun l3 =>
 some l3)
theorem runq148 (a0 : List TB) (r : List TB) (h : Fq148 a0 = some r) : Fun prog 227 [.c (.bs (len a0) 4 (row gd (eL_0) a0))] [] (.c (.os 64000 0 (len r))) [(64000, .arr .rw [] (len r) 4 (row gd (eL_0) r))] true := by
 refine ow [] func227 ntmps227 ?_ (hv := (fun _ => ⟨trivial, ⟨fun i _ j _ => val_flat (vl_encLabel _ _), tv⟩⟩)); unfold Fq148 at h; generalize hU : @len = U_, hG_ : @gd = G_, hA : std = A, hP : prog = P at *; cbv; obtain ⟨h, hz7⟩ := of_nilB h; refine And.intro (fun hn6 => ?_) ?_
 ·have h := hz7 hn6; clear hz7; cbv; injection h with h; subst h; refine ⟨(sp 8 [(2, .c (.os 64000 0 (U_ ([] : List TB))))] [(64000, .arr .rw [] (U_ ([] : List TB)) 4 (row G_ (eL_0) ([] : List TB)))]), ?_, ?_⟩
  ·refine St.le_trans (le_nilT 2 64000 4 (row G_ (eL_0) ([] : List TB)) (by decide) rfl) ?_; subst hU; exact zb
  ·subst hU; exact ⟨lR _, zo, rfl⟩
 ·clear hz7; cbv; revert h; refine rl fun l1 hl1 h => ?_; have e2 : 0 = U_ l1 := by subst hl1 hU; rfl
  refine ⟨_, (co e2), _, row G_ (eL_0) l1, e2, wO ?_, ?_⟩
  ·intro i hi j hj; rw [<- e2] at hi; subst hl1; subst hG_; omega
  cbv; revert h; refine rq fun c5 => rl fun l3 hl3 h => ?_; have e4 := nl hA hU hl3; refine ⟨c5, _, (co e4), _, row G_ (eL_0) l3, e4, wO ?_, ?_⟩
  ·subst hG_ hU hA; exact app_bs (pl_encLabel) hl3 (Nat.le_refl _)
  cbv; injection h with h; subst h; exact ⟨_, le_ren 320 64000 (by decide) rfl, lR _, zo, rfl⟩

/-- impl.Instance] -/
def Fq119 (a0 : List TI) : Option (List TI) :=
 nilB (len a0)
 (some ([] : List TI))
 (letO ([] : List TI) fun l1 =>
 req (std.room (std.nadd (len l1) (len a0)) 64) <|
 letO (l1 ++ a0) fun l3 =>
 some l3)
theorem runq119 (a0 : List TI) (r : List TI) (h : Fq119 a0 = some r) : Fun prog 228 [.c (.bs (len a0) 8 (row gd (eI) a0))] [] (.c (.os 64000 0 (len r))) [(64000, .arr .rw [] (len r) 8 (row gd (eI) r))] true := by
 refine ow [] func228 ntmps228 ?_ (hv := (fun _ => ⟨trivial, ⟨fun i _ j _ => val_flat (vl_encInstance _ _), tv⟩⟩)); unfold Fq119 at h; generalize hU : @len = U_, hG_ : @gd = G_, hA : std = A, hP : prog = P at *; cbv; obtain ⟨h, hz7⟩ := of_nilB h; refine And.intro (fun hn6 => ?_) ?_
 ·have h := hz7 hn6; clear hz7; cbv; injection h with h; subst h; refine ⟨(sp 8 [(2, .c (.os 64000 0 (U_ ([] : List TI))))] [(64000, .arr .rw [] (U_ ([] : List TI)) 8 (row G_ (eI) ([] : List TI)))]), ?_, ?_⟩
  ·refine St.le_trans (le_nilT 2 64000 8 (row G_ (eI) ([] : List TI)) (by decide) rfl) ?_; subst hU; exact zb
  ·subst hU; exact ⟨lR _, zo, rfl⟩
 ·clear hz7; cbv; revert h; refine rl fun l1 hl1 h => ?_; have e2 : 0 = U_ l1 := by subst hl1 hU; rfl
  refine ⟨_, (co e2), _, row G_ (eI) l1, e2, wO ?_, ?_⟩
  ·intro i hi j hj; rw [<- e2] at hi; subst hl1; subst hG_; omega
  cbv; revert h; refine rq fun c5 => rl fun l3 hl3 h => ?_; have e4 := nl hA hU hl3; refine ⟨c5, _, (co e4), _, row G_ (eI) l3, e4, wO ?_, ?_⟩
  ·subst hG_ hU hA; exact app_bs (pl_encInstance) hl3 (Nat.le_refl _)
  cbv; injection h with h; subst h; exact ⟨_, le_ren 320 64000 (by decide) rfl, lR _, zo, rfl⟩

/-- impl.copyCell -/
def Fq141 (a0 : TC) : Option (TC) :=
 (Fq139 a0.fS).bind fun y1 =>
 (Fq148 a0.fL).bind fun y3 =>
 (Fq119 a0.fI).bind fun y5 =>
 some (TC.mk a0.fN y1 y3 y5)
theorem runq141 (a0 : TC) (r : TC) (h : Fq141 a0 = some r) : Fun prog 149 [.agg [ws a0.fN, .bs (len a0.fS) 5 (row gd (eS) a0.fS), .bs (len a0.fL) 4 (row gd (eL_0) a0.fL), .bs (len a0.fI) 8 (row gd (eI) a0.fI)]] [] (.agg [ws r.fN, .os 64000 0 (len r.fS), .os 64002 0 (len r.fL), .os 64004 0 (len r.fI)]) [(64000, .arr .rw [] (len r.fS) 5 (row gd (eS) r.fS)), (64002, .arr .rw [] (len r.fL) 4 (row gd (eL_0) r.fL)), (64004, .arr .rw [] (len r.fI) 8 (row gd (eI) r.fI))] true := by
 refine ow [] func149 ntmps149 ?_ (hv := (fun _ => ⟨(by simp [AV.flat, AV.flat1, AC.flat]), ⟨fun i _ j _ => val_flat (vl_encShape _ _), fun i _ j _ => val_flat (vl_encLabel _ _), fun i _ j _ => val_flat (vl_encInstance _ _), tv⟩⟩)); unfold Fq141 at h; have hfq119 := @runq119
 have hfq148 := @runq148; have hfq139 := @runq139; generalize hU : @len = U_, hG_ : @gd = G_, hA : std = A, hP : prog = P at *; cbv
 revert h; refine rk [] [(64000, 448)] (hfq139 _) (fun _ => zf) fun y1 h => ⟨_, rfl, _, _, rfl, fun _ _ _ _ => .refl _, ?_⟩
 cbv; revert h; refine rk [] [(64000, 640)] (hfq148 _) (fun _ => zf) fun y3 h => ⟨_, rfl, _, _, rfl, fun _ _ _ _ => .refl _, ?_⟩
 cbv; revert h; refine rk [] [(64000, 832)] (hfq119 _) (fun _ => zf) fun y5 h => ⟨_, rfl, _, _, rfl, fun _ _ _ _ => .refl _, ?_⟩
 cbv; injection h with h; subst h; exact ⟨_, St.le_trans (le_ren 448 64000 (by decide) rfl) (St.le_trans (le_ren 640 64002 (by decide) rfl) ((le_ren 832 64004 (by decide) rfl))), lR _, zo, rfl⟩

def Lq27_x3 (a0 : TL) : (Int × (List TC)) -> Option ((Int × (List TC)) ⊕ (((List TC)))) := fun x3 =>
 letO x3.1 fun v1 =>
 letO x3.2 fun v2 =>
 br (std.lt v1 (std.ofN (len a0.fC)))
 (req (std.inR v1 (len a0.fC)) <|
 ((
 (Fq141 (gd a0.fC (std.toN v1))).bind fun y23 =>
 letO ([y23] : List TC) fun l25 =>
 req (std.room (std.nadd (len v2) (len l25)) 88) <|
 letO (v2 ++ l25) fun l27 =>
 some l27
 ) : Option ((List TC))).bind fun y16 =>
 letO y16 fun w22 =>
 some (.inl (std.add .i64 v1 1, w22)))
 (some (.inr v2))
/-- impl.copyLibrary -/
def Fq27 (a0 : TL) : Option (TL) :=
 (whileP (σ := Int × (List TC)) (ρ := ((List TC))) (Lq27_x3 a0) (0, ([] : List TC))).bind fun y4 =>
 letO y4 fun y4k0 =>
 letO y4k0 fun w31 =>
 some (TL.mk w31)
theorem runq27 (a0 : TL) (r : TL) (h : Fq27 a0 = some r) : Fun prog 85 [.agg [.bs (len a0.fC) 4 (row gd (eC len gd) a0.fC)]] [] (.agg [.os 64000 0 (len r.fC)]) [(64000, .arr .rw [] (len r.fC) 4 (row gd (oC len gd) r.fC))] true := by
 refine ow [5] func85 ntmps85 ?_ (hv := (fun _ => ⟨(by simp [AV.flat, AV.flat1, AC.flat]), ⟨fun i _ j _ => fl_oncCell _ _, tv⟩⟩)); unfold Fq27 at h; unfold Lq27_x3 at h; have hfq141 := @runq141; generalize hU : @len = U_, hG_ : @gd = G_, hA : std = A, hP : prog = P at *; cbv
 revert h; refine ln (.exit 0) (fun x => (sp 23 [(2, .c (.ptr 128 0)), (3, .c (.ptr 192 0)), (8, .c (.bs (U_ a0.fC) 4 (row G_ (eC U_ G_) a0.fC))), (9, .c (wi (A.ofN (U_ a0.fC)))), (10, .c (wi x.1))] [(128, .var [.v (.slice none 0 0)]), (192, .var [.os 1216 0 (U_ x.2)]), (1216, .arr .rw [] (U_ x.2) 4 (row G_ (oC U_ G_) x.2))])) (fun w => (sp 23 [(2, .c (.ptr 128 0)), (3, .c (.ptr 192 0))] [(128, .var [.v (.slice none 0 0)]), (192, .var [.os 1216 0 (U_ w)]), (1216, .arr .rw [] (U_ w) 4 (row G_ (oC U_ G_) w))])) ?_ ?_ ?_
 ·show St.le _ _; refine St.le_trans (le_nilV 192 0 1216 4 (row G_ (oC U_ G_) ([] : List TC)) (by decide) (by decide) rfl rfl) ?_; subst hU; exact zb
 ·rintro ⟨v1, v2⟩ z h K hK hY; replace h := oz (oz h); dsimp only at h; cbv; revert h; refine fk ?_ ?_ <;> intro h <;> cbv
  ·revert h; refine ra fun c15 h => ?_
   revert h; refine cu (fun y16 => (sp 23 [(2, .c (.ptr 128 0)), (3, .c (.ptr 192 0)), (8, .c (.bs (U_ a0.fC) 4 (row G_ (eC U_ G_) a0.fC))), (9, .c (wi (A.ofN (U_ a0.fC)))), (10, .c (wi v1))] [(128, .var [.v (.slice none 0 0)]), (192, .var [.os 1216 0 (U_ y16)]), (1216, .arr .rw [] (U_ y16) 4 (row G_ (oC U_ G_) y16))])) ?_ fun w22 => rz fun h => ?_
   ·intro y16 S hS h; cbv; revert h; refine rk [] [(64000, 1088), (64002, 1090), (64004, 1092)] (hfq141 _) (fun _ => zf) fun y23 h => ⟨_, rfl, _, _, rfl, fun _ _ _ _ => .refl _, _, _, rfl, fun _ _ _ _ => .refl _, _, _, rfl, fun _ _ _ _ => .refl _, ?_⟩
    cbv; revert h; refine rl fun l25 hl25 h => ?_; have e26 : 1 = U_ l25 := by subst hl25 hU; rfl
    refine ⟨_, (co e26), _, (pC (fun _ _ => AC.junk) 0 [ws y23.fN, .os 1088 0 (U_ y23.fS), .os 1090 0 (U_ y23.fL), .os 1092 0 (U_ y23.fI)]), e26, wO ?_, ?_⟩
    ·refine patch_one (by subst hl25 hU; rfl) ?_; exact zr
    cbv; revert h; refine rq fun c29 => rl fun l27 hl27 h => ?_; have e28 := nl hA hU hl27; refine ⟨c29, _, (co e28), _, (pC (row G_ (oC U_ G_) v2) (U_ v2) [ws y23.fN, .os 1088 0 (U_ y23.fS), .os 1090 0 (U_ y23.fL), .os 1092 0 (U_ y23.fI)]), e28, wO ?_, ?_⟩
    ·subst hU hA; refine patch_joinG (by first | (rw [hl27]; simp [len]; done) | (rw [hl27]; simp [len]; omega) | (subst_vars; simp [len])) ?_; exact zr
    cbv; rw [hl25] at hl27; injection h with h; subst h; subst hS; show St.le _ _; refine St.le_trans (le_foldP 1216 1 1088 rfl rfl rfl (by decide) (by subst hU; exact app_lt hl27) (by decide) rfl (fun _ _ => rC _ _)) ?_; refine St.le_trans (le_foldP 1216 2 1090 rfl rfl rfl (by decide) (by subst hU; exact app_lt hl27) (by decide) rfl (fun _ _ => rC _ _)) ?_
    refine St.le_trans (le_foldP 1216 3 1092 rfl rfl rfl (by decide) (by subst hU; exact app_lt hl27) (by decide) rfl (fun _ _ => rC _ _)) ?_; exact lsp rfl zl ⟨rfl, rfl, oP (fun _ _ => rC _ _) (by subst hG_ hU hA; exact patch_app hl27 (Nat.le_refl _) zr), tv⟩ rfl
   cbv; exact dm
  exact dx
 intro w31 h s q12; replace h := oz (oz h); cbv; refine ⟨_, q12, ?_⟩; cbv; injection h with h; subst h; exact ⟨_, le_ren 1216 64000 (by decide) rfl, lR _, zo, rfl⟩

/-- impl.byteReader).one -/
def Fq2 (a0 : TbyteReader) : Option (Int × TbyteReader) :=
 br (std.lt (std.ofN (std.slen a0.gs)) 1)
 (some ((0 : Int), (TbyteReader.mk a0.gs true)))
 (req (std.inR 0 (std.slen a0.gs)) <|
 req (std.upTo 1 (std.slen a0.gs)) <|
 some (std.conv .i64 (std.sat a0.gs (std.toN 0)), (TbyteReader.mk (std.ssub a0.gs (std.toN 1) (std.slen a0.gs)) a0.gbad)))
theorem runq2 (a0 : TbyteReader) (r : Int × TbyteReader) (h : Fq2 a0 = some r) : Fun prog 150 [.c (.ptr 5 0)] [(5, .var [ws a0.gs, .v (.bool a0.gbad)])] (.c (wi r.1)) [(5, .var [ws r.2.gs, .v (.bool r.2.gbad)])] true := by
 refine ow [] func150 ntmps150 ?_ (hv := (fun _ => ⟨trivial, ⟨(by simp [AO.flat, AC.flat]), tv⟩⟩)); unfold Fq2 at h; generalize hU : @len = U_, hG_ : @gd = G_, hA : std = A, hP : prog = P at *; cbv; revert h; refine fk ?_ ?_ <;> intro h <;> cbv
 ·exact df
 revert h; refine ra fun c1 h => ?_; revert h; refine ra fun c2 h => ?_; exact df

/-- impl.byteReader).two -/
def Fq48 (a0 : TbyteReader) : Option (Int × TbyteReader) :=
 (Fq2 a0).bind fun y1 =>
 req (std.nneg 8) <|
 (Fq2 y1.2).bind fun y4 =>
 some (std.add .i64 (std.shl .i64 y1.1 8) y4.1, y4.2)
theorem runq48 (a0 : TbyteReader) (r : Int × TbyteReader) (h : Fq48 a0 = some r) : Fun prog 151 [.c (.ptr 5 0)] [(5, .var [ws a0.gs, .v (.bool a0.gbad)])] (.c (wi r.1)) [(5, .var [ws r.2.gs, .v (.bool r.2.gbad)])] true := by
 refine ow [] func151 ntmps151 ?_ (hv := (fun _ => ⟨trivial, ⟨(by simp [AO.flat, AC.flat]), tv⟩⟩)); unfold Fq48 at h; have hfq2 := @runq2; generalize hU : @len = U_, hG_ : @gd = G_, hA : std = A, hP : prog = P at *; cbv
 revert h; refine rk [(5, 5)] [(5, 5)] (hfq2 _) (fun _ => yf) fun y1 h => ?_; cbv; revert h; refine ra fun c3 h => ?_; revert h; refine rk [(5, 5)] [(5, 5)] (hfq2 _) (fun _ => yf) fun y4 h => ?_; cbv; exact df
set_option maxHeartbeats 4000000
/-- impl.byteReader).coordinate -/
def Fq6 (a0 : TbyteReader) : Option (Int × TbyteReader) :=
 (Fq48 a0).bind fun y1 =>
 some (std.sub .i64 y1.1 32768, y1.2)
theorem runq6 (a0 : TbyteReader) (r : Int × TbyteReader) (h : Fq6 a0 = some r) : Fun prog 257 [.c (.ptr 5 0)] [(5, .var [ws a0.gs, .v (.bool a0.gbad)])] (.c (wi r.1)) [(5, .var [ws r.2.gs, .v (.bool r.2.gbad)])] true := by
 refine ow [] func257 ntmps257 ?_ (hv := (fun _ => ⟨trivial, ⟨(by simp [AO.flat, AC.flat]), tv⟩⟩)); unfold Fq6 at h; have hfq48 := @runq48; generalize hU : @len = U_, hG_ : @gd = G_, hA : std = A, hP : prog = P at *; cbv
 revert h; refine rk [(5, 5)] [(5, 5)] (hfq48 _) (fun _ => yf) fun y1 h => ?_; cbv; exact df

/-- impl.byteReader).shape -/
def Fq137 (a0 : TbyteReader) : Option (TS × TbyteReader) :=
 (Fq2 a0).bind fun y1 =>
 (Fq6 y1.2).bind fun y3 =>
 (Fq6 y3.2).bind fun y5 =>
 (Fq6 y5.2).bind fun y7 =>
 (Fq6 y7.2).bind fun y9 =>
 some ((TS.mk y1.1 (TRect.mk y3.1 y5.1 y7.1 y9.1)), y9.2)
theorem runq137 (a0 : TbyteReader) (r : TS × TbyteReader) (h : Fq137 a0 = some r) : Fun prog 229 [.c (.ptr 5 0)] [(5, .var [ws a0.gs, .v (.bool a0.gbad)])] (.agg [wi r.1.fy, wi r.1.fb.fX0, wi r.1.fb.fY0, wi r.1.fb.fX1, wi r.1.fb.fY1]) [(5, .var [ws r.2.gs, .v (.bool r.2.gbad)])] true := by
 refine ow [] func229 ntmps229 ?_ (hv := (fun _ => ⟨(by simp [AV.flat, AV.flat1, AC.flat]), ⟨(by simp [AO.flat, AC.flat]), tv⟩⟩)); unfold Fq137 at h; have hfq6 := @runq6; have hfq2 := @runq2
 generalize hU : @len = U_, hG_ : @gd = G_, hA : std = A, hP : prog = P at *; cbv; revert h; refine rk [(5, 5)] [(5, 5)] (hfq2 _) (fun _ => yf) fun y1 h => ?_; cbv; revert h; refine rk [(5, 5)] [(5, 5)] (hfq6 _) (fun _ => yf) fun y3 h => ?_; cbv
 revert h; refine rk [(5, 5)] [(5, 5)] (hfq6 _) (fun _ => yf) fun y5 h => ?_; cbv; revert h; refine rk [(5, 5)] [(5, 5)] (hfq6 _) (fun _ => yf) fun y7 h => ?_; cbv; revert h; refine rk [(5, 5)] [(5, 5)] (hfq6 _) (fun _ => yf) fun y9 h => ?_; cbv; exact df

/-- impl.byteReader).name -/
def Fq86 (a0 : TbyteReader) : Option (ByteArray × TbyteReader) :=
 (Fq2 a0).bind fun y1 =>
 br (std.lt (std.ofN (std.slen y1.2.gs)) y1.1)
 (some ((ByteArray.mk #[]), (TbyteReader.mk y1.2.gs true)))
 (req (std.upTo y1.1 (std.slen y1.2.gs)) <|
 req (std.upTo y1.1 (std.slen y1.2.gs)) <|
 some (std.ssub y1.2.gs 0 (std.toN y1.1), (TbyteReader.mk (std.ssub y1.2.gs (std.toN y1.1) (std.slen y1.2.gs)) y1.2.gbad)))
theorem runq86 (a0 : TbyteReader) (r : ByteArray × TbyteReader) (h : Fq86 a0 = some r) : Fun prog 232 [.c (.ptr 5 0)] [(5, .var [ws a0.gs, .v (.bool a0.gbad)])] (.c (ws r.1)) [(5, .var [ws r.2.gs, .v (.bool r.2.gbad)])] true := by
 refine ow [] func232 ntmps232 ?_ (hv := (fun _ => ⟨trivial, ⟨(by simp [AO.flat, AC.flat]), tv⟩⟩)); unfold Fq86 at h; have hfq2 := @runq2; generalize hU : @len = U_, hG_ : @gd = G_, hA : std = A, hP : prog = P at *; cbv
 revert h; refine rk [(5, 5)] [(5, 5)] (hfq2 _) (fun _ => yf) fun y1 h => ?_; cbv; revert h; refine fk ?_ ?_ <;> intro h <;> cbv
 ·exact df
 revert h; refine ra fun c3 h => ?_; revert h; refine ra fun c4 h => ?_; exact df

/-- impl.byteReader).label -/
def Fq114 (a0 : TbyteReader) : Option (TB × TbyteReader) :=
 (Fq2 a0).bind fun y1 =>
 (Fq6 y1.2).bind fun y3 =>
 (Fq6 y3.2).bind fun y5 =>
 (Fq86 y5.2).bind fun y7 =>
 some ((TB.mk y1.1 (TPoint.mk y3.1 y5.1) y7.1), y7.2)
theorem runq114 (a0 : TbyteReader) (r : TB × TbyteReader) (h : Fq114 a0 = some r) : Fun prog 230 [.c (.ptr 5 0)] [(5, .var [ws a0.gs, .v (.bool a0.gbad)])] (.agg [wi r.1.fy, wi r.1.fa.fX, wi r.1.fa.fY, ws r.1.fN]) [(5, .var [ws r.2.gs, .v (.bool r.2.gbad)])] true := by
 refine ow [] func230 ntmps230 ?_ (hv := (fun _ => ⟨(by simp [AV.flat, AV.flat1, AC.flat]), ⟨(by simp [AO.flat, AC.flat]), tv⟩⟩)); unfold Fq114 at h; have hfq6 := @runq6; have hfq86 := @runq86; have hfq2 := @runq2
 generalize hU : @len = U_, hG_ : @gd = G_, hA : std = A, hP : prog = P at *; cbv; revert h; refine rk [(5, 5)] [(5, 5)] (hfq2 _) (fun _ => yf) fun y1 h => ?_; cbv; revert h; refine rk [(5, 5)] [(5, 5)] (hfq6 _) (fun _ => yf) fun y3 h => ?_; cbv
 revert h; refine rk [(5, 5)] [(5, 5)] (hfq6 _) (fun _ => yf) fun y5 h => ?_; cbv; revert h; refine rk [(5, 5)] [(5, 5)] (hfq86 _) (fun _ => yf) fun y7 h => ?_; cbv; exact df

/-- impl.byteReader).instance -/
def Fq161 (a0 : TbyteReader) : Option (TI × TbyteReader) :=
 (Fq2 a0).bind fun y1 =>
 (Fq6 y1.2).bind fun y3 =>
 (Fq6 y3.2).bind fun y5 =>
 (Fq2 y5.2).bind fun y7 =>
 (Fq2 y7.2).bind fun y9 =>
 (Fq6 y9.2).bind fun y11 =>
 (Fq6 y11.2).bind fun y13 =>
 some ((TI.mk 0 (TM.mk y1.1 y3.1 y5.1) y7.1 y9.1 y11.1 y13.1), y13.2)
theorem runq161 (a0 : TbyteReader) (r : TI × TbyteReader) (h : Fq161 a0 = some r) : Fun prog 231 [.c (.ptr 5 0)] [(5, .var [ws a0.gs, .v (.bool a0.gbad)])] (.agg [wi r.1.fc, wi r.1.fp.fo, wi r.1.fp.fX, wi r.1.fp.fY, wi r.1.fK, wi r.1.fR, wi r.1.fu, wi r.1.fv]) [(5, .var [ws r.2.gs, .v (.bool r.2.gbad)])] true := by
 refine ow [] func231 ntmps231 ?_ (hv := (fun _ => ⟨(by simp [AV.flat, AV.flat1, AC.flat]), ⟨(by simp [AO.flat, AC.flat]), tv⟩⟩)); unfold Fq161 at h; have hfq6 := @runq6; have hfq2 := @runq2
 generalize hU : @len = U_, hG_ : @gd = G_, hA : std = A, hP : prog = P at *; cbv; revert h; refine rk [(5, 5)] [(5, 5)] (hfq2 _) (fun _ => yf) fun y1 h => ?_; cbv; revert h; refine rk [(5, 5)] [(5, 5)] (hfq6 _) (fun _ => yf) fun y3 h => ?_; cbv
 revert h; refine rk [(5, 5)] [(5, 5)] (hfq6 _) (fun _ => yf) fun y5 h => ?_; cbv; revert h; refine rk [(5, 5)] [(5, 5)] (hfq2 _) (fun _ => yf) fun y7 h => ?_; cbv; revert h; refine rk [(5, 5)] [(5, 5)] (hfq2 _) (fun _ => yf) fun y9 h => ?_; cbv
 revert h; refine rk [(5, 5)] [(5, 5)] (hfq6 _) (fun _ => yf) fun y11 h => ?_; cbv; revert h; refine rk [(5, 5)] [(5, 5)] (hfq6 _) (fun _ => yf) fun y13 h => ?_; cbv; exact df

/-- impl.byteReader).edit -/
def Fq116 (a0 : TbyteReader) : Option (TE × TbyteReader) :=
 (Fq2 a0).bind fun y1 =>
 (Fq2 y1.2).bind fun y3 =>
 (Fq2 y3.2).bind fun y5 =>
 ((
 br (std.eq y1.1 1)
 ((Fq137 y5.2).bind fun y33 =>
 some (y33.1.fy, y33.1.fb.fX0, y33.1.fb.fY0, y33.1.fb.fX1, y33.1.fb.fY1, y33.2.gs, y33.2.gbad, (ByteArray.mk #[]), 0, 0, 0, (ByteArray.mk #[]), 0, 0, 0, 0, 0, 0, 0, 0))
 (((
 br (std.eq y1.1 3)
 ((Fq114 y5.2).bind fun y56 =>
 some (y56.1.fy, y56.1.fa.fX, y56.1.fa.fY, y56.1.fN, y56.2.gs, y56.2.gbad, (ByteArray.mk #[]), 0, 0, 0, 0, 0, 0, 0, 0))
 (((
 br (std.eq y1.1 5)
 ((Fq2 y5.2).bind fun y75 =>
 (Fq161 y75.2).bind fun y77 =>
 some (y75.1, y77.1.fp.fo, y77.1.fp.fX, y77.1.fp.fY, y77.1.fK, y77.1.fR, y77.1.fu, y77.1.fv, y77.2.gs, y77.2.gbad, (ByteArray.mk #[])))
 (((
 br (std.eq y1.1 7)
 (some true)
 (some (std.eq y1.1 8))
 ) : Option (Bool)).bind fun y79 =>
 letO y79 fun w85 =>
 ((
 br w85
 ((Fq86 y5.2).bind fun y96 =>
 some (y96.1, y96.2.gs, y96.2.gbad))
 (some ((ByteArray.mk #[]), y5.2.gs, y5.2.gbad))
 ) : Option (ByteArray × ByteArray × Bool)).bind fun y87 =>
 letO y87.1 fun w93 =>
 letO y87.2.1 fun w94 =>
 letO y87.2.2 fun w95 =>
 some (0, 0, 0, 0, 0, 0, 0, 0, w94, w95, w93))
 ) : Option (Int × Int × Int × Int × Int × Int × Int × Int × ByteArray × Bool × ByteArray)).bind fun y58 =>
 letO y58.1 fun w64 =>
 letO y58.2.1 fun w65 =>
 letO y58.2.2.1 fun w66 =>
 letO y58.2.2.2.1 fun w67 =>
 letO y58.2.2.2.2.1 fun w68 =>
 letO y58.2.2.2.2.2.1 fun w69 =>
 letO y58.2.2.2.2.2.2.1 fun w70 =>
 letO y58.2.2.2.2.2.2.2.1 fun w71 =>
 letO y58.2.2.2.2.2.2.2.2.1 fun w72 =>
 letO y58.2.2.2.2.2.2.2.2.2.1 fun w73 =>
 letO y58.2.2.2.2.2.2.2.2.2.2 fun w74 =>
 some (0, 0, 0, (ByteArray.mk #[]), w72, w73, w74, w64, w65, w66, w67, w68, w69, w70, w71))
 ) : Option (Int × Int × Int × ByteArray × ByteArray × Bool × ByteArray × Int × Int × Int × Int × Int × Int × Int × Int)).bind fun y35 =>
 letO y35.1 fun w41 =>
 letO y35.2.1 fun w42 =>
 letO y35.2.2.1 fun w43 =>
 letO y35.2.2.2.1 fun w44 =>
 letO y35.2.2.2.2.1 fun w45 =>
 letO y35.2.2.2.2.2.1 fun w46 =>
 letO y35.2.2.2.2.2.2.1 fun w47 =>
 letO y35.2.2.2.2.2.2.2.1 fun w48 =>
 letO y35.2.2.2.2.2.2.2.2.1 fun w49 =>
 letO y35.2.2.2.2.2.2.2.2.2.1 fun w50 =>
 letO y35.2.2.2.2.2.2.2.2.2.2.1 fun w51 =>
 letO y35.2.2.2.2.2.2.2.2.2.2.2.1 fun w52 =>
 letO y35.2.2.2.2.2.2.2.2.2.2.2.2.1 fun w53 =>
 letO y35.2.2.2.2.2.2.2.2.2.2.2.2.2.1 fun w54 =>
 letO y35.2.2.2.2.2.2.2.2.2.2.2.2.2.2 fun w55 =>
 some (0, 0, 0, 0, 0, w45, w46, w47, w41, w42, w43, w44, w48, w49, w50, w51, w52, w53, w54, w55))
 ) : Option (Int × Int × Int × Int × Int × ByteArray × Bool × ByteArray × Int × Int × Int × ByteArray × Int × Int × Int × Int × Int × Int × Int × Int)).bind fun y7 =>
 letO y7.1 fun w13 =>
 letO y7.2.1 fun w14 =>
 letO y7.2.2.1 fun w15 =>
 letO y7.2.2.2.1 fun w16 =>
 letO y7.2.2.2.2.1 fun w17 =>
 letO y7.2.2.2.2.2.1 fun w18 =>
 letO y7.2.2.2.2.2.2.1 fun w19 =>
 letO y7.2.2.2.2.2.2.2.1 fun w20 =>
 letO y7.2.2.2.2.2.2.2.2.1 fun w21 =>
 letO y7.2.2.2.2.2.2.2.2.2.1 fun w22 =>
 letO y7.2.2.2.2.2.2.2.2.2.2.1 fun w23 =>
 letO y7.2.2.2.2.2.2.2.2.2.2.2.1 fun w24 =>
 letO y7.2.2.2.2.2.2.2.2.2.2.2.2.1 fun w25 =>
 letO y7.2.2.2.2.2.2.2.2.2.2.2.2.2.1 fun w26 =>
 letO y7.2.2.2.2.2.2.2.2.2.2.2.2.2.2.1 fun w27 =>
 letO y7.2.2.2.2.2.2.2.2.2.2.2.2.2.2.2.1 fun w28 =>
 letO y7.2.2.2.2.2.2.2.2.2.2.2.2.2.2.2.2.1 fun w29 =>
 letO y7.2.2.2.2.2.2.2.2.2.2.2.2.2.2.2.2.2.1 fun w30 =>
 letO y7.2.2.2.2.2.2.2.2.2.2.2.2.2.2.2.2.2.2.1 fun w31 =>
 letO y7.2.2.2.2.2.2.2.2.2.2.2.2.2.2.2.2.2.2.2 fun w32 =>
 some ((TE.mk y1.1 y3.1 y5.1 w20 (TS.mk w13 (TRect.mk w14 w15 w16 w17)) (TB.mk w21 (TPoint.mk w22 w23) w24) (TI.mk w25 (TM.mk w26 w27 w28) w29 w30 w31 w32)), (TbyteReader.mk w18 w19))
theorem runq116 (a0 : TbyteReader) (r : TE × TbyteReader) (h : Fq116 a0 = some r) : Fun prog 153 [.c (.ptr 5 0)] [(5, .var [ws a0.gs, .v (.bool a0.gbad)])] (.agg [wi r.1.fk_, wi r.1.fc, wi r.1.fx, ws r.1.fN, wi r.1.fs_.fy, wi r.1.fs_.fb.fX0, wi r.1.fs_.fb.fY0, wi r.1.fs_.fb.fX1, wi r.1.fs_.fb.fY1, wi r.1.fl_.fy, wi r.1.fl_.fa.fX, wi r.1.fl_.fa.fY, ws r.1.fl_.fN, wi r.1.fi_.fc, wi r.1.fi_.fp.fo, wi r.1.fi_.fp.fX, wi r.1.fi_.fp.fY, wi r.1.fi_.fK, wi r.1.fi_.fR, wi r.1.fi_.fu, wi r.1.fi_.fv]) [(5, .var [ws r.2.gs, .v (.bool r.2.gbad)])] true := by
 refine ow [100016, 100021, 100026, 100036] func153 ntmps153 ?_ (hv := (fun _ => ⟨(by simp [AV.flat, AV.flat1, AC.flat]), ⟨(by simp [AO.flat, AC.flat]), tv⟩⟩)); unfold Fq116 at h; have hfq161 := @runq161; have hfq114 := @runq114
 have hfq86 := @runq86; have hfq2 := @runq2; have hfq137 := @runq137; generalize hU : @len = U_, hG_ : @gd = G_, hA : std = A, hP : prog = P at *; cbv; revert h; refine rk [(5, 5)] [(5, 5)] (hfq2 _) (fun _ => yf) fun y1 h => ?_; cbv
 revert h; refine rk [(5, 5)] [(5, 5)] (hfq2 _) (fun _ => yf) fun y3 h => ?_; cbv; revert h; refine rk [(5, 5)] [(5, 5)] (hfq2 _) (fun _ => yf) fun y5 h => ?_; cbv
 revert h; refine cu (fun y7 => some (sp 43 [(2, .c (.ptr 128 0)), (3, .c (.ptr 192 0))] [(128, .var [wi 0, wi 0, wi 0, ws (ByteArray.mk #[]), wi 0, wi 0, wi 0, wi 0, wi 0, wi 0, wi 0, wi 0, ws (ByteArray.mk #[]), wi 0, wi 0, wi 0, wi 0, wi 0, wi 0, wi 0, wi 0]), (192, .var [wi y1.1, wi y3.1, wi y5.1, ws y7.2.2.2.2.2.2.2.1, wi y7.1, wi y7.2.1, wi y7.2.2.1, wi y7.2.2.2.1, wi y7.2.2.2.2.1, wi y7.2.2.2.2.2.2.2.2.1, wi y7.2.2.2.2.2.2.2.2.2.1, wi y7.2.2.2.2.2.2.2.2.2.2.1, ws y7.2.2.2.2.2.2.2.2.2.2.2.1, wi y7.2.2.2.2.2.2.2.2.2.2.2.2.1, wi y7.2.2.2.2.2.2.2.2.2.2.2.2.2.1, wi y7.2.2.2.2.2.2.2.2.2.2.2.2.2.2.1, wi y7.2.2.2.2.2.2.2.2.2.2.2.2.2.2.2.1, wi y7.2.2.2.2.2.2.2.2.2.2.2.2.2.2.2.2.1, wi y7.2.2.2.2.2.2.2.2.2.2.2.2.2.2.2.2.2.1, wi y7.2.2.2.2.2.2.2.2.2.2.2.2.2.2.2.2.2.2.1, wi y7.2.2.2.2.2.2.2.2.2.2.2.2.2.2.2.2.2.2.2]), (5, .var [ws y7.2.2.2.2.2.1, .v (.bool y7.2.2.2.2.2.2.1)])])) ?_ ?_
 ·intro y7 S hS h; cbv; revert h; refine fk ?_ ?_ <;> intro h <;> cbv
  ·revert h; refine rk [(5, 5)] [(5, 5)] (hfq137 _) (fun _ => yf) fun y33 h => ?_; cbv; exact dn
  revert h; refine cu (fun y35 => some (sp 43 [(2, .c (.ptr 128 0)), (3, .c (.ptr 192 0))] [(128, .var [wi 0, wi 0, wi 0, ws (ByteArray.mk #[]), wi 0, wi 0, wi 0, wi 0, wi 0, wi 0, wi 0, wi 0, ws (ByteArray.mk #[]), wi 0, wi 0, wi 0, wi 0, wi 0, wi 0, wi 0, wi 0]), (192, .var [wi y1.1, wi y3.1, wi y5.1, ws y35.2.2.2.2.2.2.1, wi 0, wi 0, wi 0, wi 0, wi 0, wi y35.1, wi y35.2.1, wi y35.2.2.1, ws y35.2.2.2.1, wi y35.2.2.2.2.2.2.2.1, wi y35.2.2.2.2.2.2.2.2.1, wi y35.2.2.2.2.2.2.2.2.2.1, wi y35.2.2.2.2.2.2.2.2.2.2.1, wi y35.2.2.2.2.2.2.2.2.2.2.2.1, wi y35.2.2.2.2.2.2.2.2.2.2.2.2.1, wi y35.2.2.2.2.2.2.2.2.2.2.2.2.2.1, wi y35.2.2.2.2.2.2.2.2.2.2.2.2.2.2]), (5, .var [ws y35.2.2.2.2.1, .v (.bool y35.2.2.2.2.2.1)])])) ?_ ?_
  ·intro y35 S hS h; cbv; revert h; refine fk ?_ ?_ <;> intro h <;> cbv
   ·revert h; refine rk [(5, 5)] [(5, 5)] (hfq114 _) (fun _ => yf) fun y56 h => ?_; cbv; exact dn
   revert h; refine cu (fun y58 => some (sp 43 [(2, .c (.ptr 128 0)), (3, .c (.ptr 192 0))] [(128, .var [wi 0, wi 0, wi 0, ws (ByteArray.mk #[]), wi 0, wi 0, wi 0, wi 0, wi 0, wi 0, wi 0, wi 0, ws (ByteArray.mk #[]), wi 0, wi 0, wi 0, wi 0, wi 0, wi 0, wi 0, wi 0]), (192, .var [wi y1.1, wi y3.1, wi y5.1, ws y58.2.2.2.2.2.2.2.2.2.2, wi 0, wi 0, wi 0, wi 0, wi 0, wi 0, wi 0, wi 0, ws (ByteArray.mk #[]), wi y58.1, wi y58.2.1, wi y58.2.2.1, wi y58.2.2.2.1, wi y58.2.2.2.2.1, wi y58.2.2.2.2.2.1, wi y58.2.2.2.2.2.2.1, wi y58.2.2.2.2.2.2.2.1]), (5, .var [ws y58.2.2.2.2.2.2.2.2.1, .v (.bool y58.2.2.2.2.2.2.2.2.2.1)])])) ?_ ?_
   ·intro y58 S hS h; cbv; revert h; refine fk ?_ ?_ <;> intro h <;> cbv
    ·revert h; refine rk [(5, 5)] [(5, 5)] (hfq2 _) (fun _ => yf) fun y75 h => ?_; cbv; revert h; refine rk [(5, 5)] [(5, 5)] (hfq161 _) (fun _ => yf) fun y77 h => ?_; cbv; exact dn
    revert h; refine cu (fun y79 => some (sp 43 [(0, .c (.ptr 5 0)), (2, .c (.ptr 128 0)), (3, .c (.ptr 192 0)), (36, .c (.v (.bool y79)))] [(5, .var [ws y5.2.gs, .v (.bool y5.2.gbad)]), (128, .var [wi 0, wi 0, wi 0, ws (ByteArray.mk #[]), wi 0, wi 0, wi 0, wi 0, wi 0, wi 0, wi 0, wi 0, ws (ByteArray.mk #[]), wi 0, wi 0, wi 0, wi 0, wi 0, wi 0, wi 0, wi 0]), (192, .var [wi y1.1, wi y3.1, wi y5.1, ws (ByteArray.mk #[]), wi 0, wi 0, wi 0, wi 0, wi 0, wi 0, wi 0, wi 0, ws (ByteArray.mk #[]), wi 0, wi 0, wi 0, wi 0, wi 0, wi 0, wi 0, wi 0])])) (fun y79 S hS h => rg) fun w85 => rz fun h => ?_
    cbv
    revert h; refine cu (fun y87 => some (sp 43 [(2, .c (.ptr 128 0)), (3, .c (.ptr 192 0))] [(128, .var [wi 0, wi 0, wi 0, ws (ByteArray.mk #[]), wi 0, wi 0, wi 0, wi 0, wi 0, wi 0, wi 0, wi 0, ws (ByteArray.mk #[]), wi 0, wi 0, wi 0, wi 0, wi 0, wi 0, wi 0, wi 0]), (192, .var [wi y1.1, wi y3.1, wi y5.1, ws y87.1, wi 0, wi 0, wi 0, wi 0, wi 0, wi 0, wi 0, wi 0, ws (ByteArray.mk #[]), wi 0, wi 0, wi 0, wi 0, wi 0, wi 0, wi 0, wi 0]), (5, .var [ws y87.2.1, .v (.bool y87.2.2)])])) ?_ ?_
    ·intro y87 S hS h; cbv; revert h; refine fk ?_ ?_ <;> intro h <;> cbv
     ·revert h; refine rk [(5, 5)] [(5, 5)] (hfq86 _) (fun _ => yf) fun y96 h => ?_; cbv; exact dn
     exact dn
    rintro ⟨w93, w94, w95⟩ h; replace h := oz (oz (oz h)); dsimp only at h; cbv; exact dn
   rintro ⟨w64, w65, w66, w67, w68, w69, w70, w71, w72, w73, w74⟩ h; replace h := oz (oz (oz (oz (oz (oz (oz (oz (oz (oz (oz h)))))))))); dsimp only at h; cbv; exact dn
  rintro ⟨w41, w42, w43, w44, w45, w46, w47, w48, w49, w50, w51, w52, w53, w54, w55⟩ h; replace h := oz (oz (oz (oz (oz (oz (oz (oz (oz (oz (oz (oz (oz (oz (oz h)))))))))))))); dsimp only at h; cbv; exact dn
 rintro ⟨w13, w14, w15, w16, w17, w18, w19, w20, w21, w22, w23, w24, w25, w26, w27, w28, w29, w30, w31, w32⟩ h; replace h := oz (oz (oz (oz (oz (oz (oz (oz (oz (oz (oz (oz (oz (oz (oz (oz (oz (oz (oz (oz h))))))))))))))))))); dsimp only at h; cbv; exact df
end
end Go.Proofs.YtohgghncmkiicaaGreat.AM
