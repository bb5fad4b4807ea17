/-
  What the functions that the law reaches compute, and that they do. No condition.
-/
import Derived.Test.YtohgghncmkiicaaGreatAmSW
namespace Go.Proofs.YtohgghncmkiicaaGreat.AM
noncomputable section
open Go Go.Proofs Go.RowKit Go.Proofs.Tryz
set_option linter.unusedVariables false
set_option linter.unusedSimpArgs false
set_option maxRecDepth 100000

set_option maxHeartbeats 4000000
/-- impl.within -/
def Fq4 (a0 : Int) (a1 : Int) (a2 : Int) : Option (Bool) :=
 ((
 br (std.le a1 a0)
 (some (std.le a0 a2))
 (some false)
 ) : Option (Bool)).bind fun y1 =>
 letO y1 fun w7 =>
 some w7
theorem runq4 (a0 : Int) (a1 : Int) (a2 : Int) (r : Bool) (h : Fq4 a0 a1 a2 = some r) : Fun prog 152 [.c (wi a0), .c (wi a1), .c (wi a2)] [] (.c (.v (.bool r))) [] true := by
 refine ow [1] func152 ntmps152 ?_; unfold Fq4 at h; generalize hU_ : @len = U_, hG_ : @gd = G_, hA : std = A, hP : prog = P at *; cbv; revert h; refine cu (fun y1 => (sp 15 [(6, .c (.v (.bool y1)))] [])) (fun y1 S hS h => rg) fun w7 => rz fun h => ?_; cbv; exact df

/-- impl.IsValidRect -/
def Fq122 (a0 : TRect) : Option (Bool) :=
 ((
 br (std.le (-40) a0.fX0)
 (br (std.lt a0.fX0 a0.fX1)
 (br (std.le a0.fX1 40)
 (br (std.le (-40) a0.fY0)
 (br (std.lt a0.fY0 a0.fY1)
 (some (std.le a0.fY1 40))
 (some false))
 (some false))
 (some false))
 (some false))
 (some false)
 ) : Option (Bool)).bind fun y1 =>
 letO y1 fun w7 =>
 some w7
theorem runq122 (a0 : TRect) (r : Bool) (h : Fq122 a0 = some r) : Fun prog 235 [.agg [wi a0.fX0, wi a0.fY0, wi a0.fX1, wi a0.fY1]] [] (.c (.v (.bool r))) [] true := by
 refine ow [1] func235 ntmps235 ?_; unfold Fq122 at h; generalize hU_ : @len = U_, hG_ : @gd = G_, hA : std = A, hP : prog = P at *; cbv; revert h; refine cu (fun y1 => (sp 35 [(2, .c (.v (.bool y1)))] [])) (fun y1 S hS h => rg) fun w7 => rz fun h => ?_; cbv; exact df

/-- impl.validShape -/
def Fq101 (a0 : TS) : Option (Bool) :=
 ((
 (Fq4 a0.fy 0 7).bind fun y8 =>
 br y8
 ((Fq122 a0.fb).bind fun y10 =>
 some y10)
 (some false)
 ) : Option (Bool)).bind fun y1 =>
 letO y1 fun w7 =>
 some w7
theorem runq101 (a0 : TS) (r : Bool) (h : Fq101 a0 = some r) : Fun prog 164 [.agg [wi a0.fy, wi a0.fb.fX0, wi a0.fb.fY0, wi a0.fb.fX1, wi a0.fb.fY1]] [] (.c (.v (.bool r))) [] true := by
 refine ow [1] func164 ntmps164 ?_; unfold Fq101 at h; have hfq122 := @runq122; have hfq4 := @runq4; generalize hU_ : @len = U_, hG_ : @gd = G_, hA : std = A, hP : prog = P at *; cbv; revert h; refine cu (fun y1 => (sp 11 [(2, .c (.v (.bool y1)))] [])) ?_ fun w7 => rz fun h => ?_
 ·intro y1 S hS h; cbv; revert h; refine rk0 (hfq4 _ _ _) fun y8 h => ?_; cbv; revert h; refine fk ?_ ?_ <;> intro h <;> cbv
  ·revert h; refine rk0 (hfq122 _) fun y10 h => ?_; cbv; exact dn
  exact dn
 cbv; exact df

/-- impl.validCell$1 -/
def Fq163 (a0 : TS) : Option (Bool) :=
 (Fq101 (TS.mk a0.fy a0.fb)).bind fun y1 =>
 some (!(y1))
theorem runq163 (a0 : TS) (r : Bool) (h : Fq163 a0 = some r) : Fun prog 163 [.agg [wi a0.fy, wi a0.fb.fX0, wi a0.fb.fY0, wi a0.fb.fX1, wi a0.fb.fY1]] [] (.c (.v (.bool r))) [] true := by
 refine ow [] func163 ntmps163 ?_; unfold Fq163 at h; have hfq101 := @runq101; generalize hU_ : @len = U_, hG_ : @gd = G_, hA : std = A, hP : prog = P at *; cbv; revert h; refine rk0 (hfq101 _) fun y1 h => ?_; cbv; exact df

def Lq82_x2 (a0 : List TS) : (Int) -> Option ((Int) ⊕ ((Int) ⊕ (Unit))) := fun x2 =>
 letO x2 fun v1 =>
 br (std.lt v1 (std.ofN (len a0)))
 (req (std.inR v1 (len a0)) <|
 (Fq163 (gd a0 (std.toN v1))).bind fun y15 =>
 br y15
 (some (.inr (.inl v1)))
 (some (.inl (std.add .i64 v1 1))))
 (some (.inr (.inr ())))
/-- impl.Shape] -/
def Fq82 (a0 : List TS) : Option (Int) :=
 (whileP (σ := Int) (ρ := (Int) ⊕ (Unit)) (Lq82_x2 a0) 0).bind fun y3 =>
 (match y3 with
 | .inl y3k0 => (
 letO y3k0 fun w19 =>
 some w19)
 | .inr y3m0 =>
 some (-1))
theorem runq82 (a0 : List TS) (r : Int) (h : Fq82 a0 = some r) : Fun prog 234 [.c (.bs (len a0) 5 (row gd (eS) a0)), .c (.fn 163 0 fun _ => .junk)] [] (.c (wi r)) [] true := by
 refine ow [] func234 ntmps234 ?_; unfold Fq82 at h; unfold Lq82_x2 at h; have hfq163 := @runq163; generalize hU_ : @len = U_, hG_ : @gd = G_, hA : std = A, hP : prog = P at *; cbv
 revert h; refine lc (fun x => (sp 19 [(0, .c (.bs (U_ a0) 5 (row G_ (eS) a0))), (1, .c (.fn 163 0 fun _ => .junk)), (7, .c (wi (A.ofN (U_ a0)))), (8, .c (wi x))] [])) (fun y e s => (match y with | .inl w => e = .ret /\ s.le (sp 19 [(4, .c (wi w))] []) | .inr w0 => (fun (w : Unit) => e = .exit 0 /\ s.le (sp 19 [] [])) w0)) zb ?_ ?_
 ·intro v1 z h K hK hY; replace h := oz h; cbv; revert h; refine fk ?_ ?_ <;> intro h <;> cbv
  ·revert h; refine ra fun c14 h => ?_; revert h; refine rk0 (hfq163 _) fun y15 h => ?_; cbv; revert h; refine fk ?_ ?_ <;> intro h <;> cbv
   ·exact dy
   exact dm
  exact dy
 intro y3 h e12 s13 q11 hne; rcases y3 with y3k0 | y3m0
 ·replace h := h; obtain ⟨rfl, q11⟩ := q11; revert h; refine rz fun h => ?_; cbv; injection h with h; subst h; exact ⟨_, q11, lR _, zo, rfl⟩
 ·obtain ⟨rfl, q11⟩ := q11; cbv; refine ⟨_, q11, ?_⟩; cbv; exact df

/-- impl.Shape] -/
def Fq147 (a0 : List TS) : Option (Bool) :=
 (Fq82 a0).bind fun y1 =>
 some (std.le 0 y1)
theorem runq147 (a0 : List TS) (r : Bool) (h : Fq147 a0 = some r) : Fun prog 162 [.c (.bs (len a0) 5 (row gd (eS) a0)), .c (.fn 163 0 fun _ => .junk)] [] (.c (.v (.bool r))) [] true := by
 refine ow [] func162 ntmps162 ?_; unfold Fq147 at h; have hfq82 := @runq82; generalize hU_ : @len = U_, hG_ : @gd = G_, hA : std = A, hP : prog = P at *; cbv
 revert h; refine rk0 (hfq82 _) fun y1 h => ?_; cbv; exact df
set_option maxHeartbeats 4000000
/-- impl.isUnitCell -/
def Fq124 (a0 : TPoint) : Option (Bool) :=
 ((
 (Fq4 a0.fX (-40) 39).bind fun y8 =>
 br y8
 ((Fq4 a0.fY (-40) 39).bind fun y10 =>
 some y10)
 (some false)
 ) : Option (Bool)).bind fun y1 =>
 letO y1 fun w7 =>
 some w7
theorem runq124 (a0 : TPoint) (r : Bool) (h : Fq124 a0 = some r) : Fun prog 237 [.agg [wi a0.fX, wi a0.fY]] [] (.c (.v (.bool r))) [] true := by
 refine ow [1] func237 ntmps237 ?_; unfold Fq124 at h; have hfq4 := @runq4; generalize hU_ : @len = U_, hG_ : @gd = G_, hA : std = A, hP : prog = P at *; cbv; revert h; refine cu (fun y1 => (sp 11 [(2, .c (.v (.bool y1)))] [])) ?_ fun w7 => rz fun h => ?_
 ·intro y1 S hS h; cbv; revert h; refine rk0 (hfq4 _ _ _) fun y8 h => ?_; cbv; revert h; refine fk ?_ ?_ <;> intro h <;> cbv
  ·revert h; refine rk0 (hfq4 _ _ _) fun y10 h => ?_; cbv; exact dn
  exact dn
 cbv; exact df

/-- impl.validLabel -/
def Fq84 (a0 : TB) : Option (Bool) :=
 ((
 (Fq4 a0.fy 0 7).bind fun y8 =>
 br y8
 ((Fq124 a0.fa).bind fun y10 =>
 br y10
 ((Fq33 a0.fN).bind fun y12 =>
 some y12)
 (some false))
 (some false)
 ) : Option (Bool)).bind fun y1 =>
 letO y1 fun w7 =>
 some w7
theorem runq84 (a0 : TB) (r : Bool) (h : Fq84 a0 = some r) : Fun prog 167 [.agg [wi a0.fy, wi a0.fa.fX, wi a0.fa.fY, ws a0.fN]] [] (.c (.v (.bool r))) [] true := by
 refine ow [1] func167 ntmps167 ?_; unfold Fq84 at h; have hfq33 := @runq33; have hfq124 := @runq124; have hfq4 := @runq4; generalize hU_ : @len = U_, hG_ : @gd = G_, hA : std = A, hP : prog = P at *; cbv; revert h; refine cu (fun y1 => (sp 16 [(2, .c (.v (.bool y1)))] [])) ?_ fun w7 => rz fun h => ?_
 ·intro y1 S hS h; cbv; revert h; refine rk0 (hfq4 _ _ _) fun y8 h => ?_; cbv; revert h; refine fk ?_ ?_ <;> intro h <;> cbv
  ·revert h; refine rk0 (hfq124 _) fun y10 h => ?_; cbv; revert h; refine fk ?_ ?_ <;> intro h <;> cbv
   ·revert h; refine rk0 (hfq33 _) fun y12 h => ?_; cbv; exact dn
   exact dn
  exact dn
 cbv; exact df

/-- impl.validCell$2 -/
def Fq158 (a0 : TB) : Option (Bool) :=
 (Fq84 (TB.mk a0.fy a0.fa a0.fN)).bind fun y1 =>
 some (!(y1))
theorem runq158 (a0 : TB) (r : Bool) (h : Fq158 a0 = some r) : Fun prog 166 [.agg [wi a0.fy, wi a0.fa.fX, wi a0.fa.fY, ws a0.fN]] [] (.c (.v (.bool r))) [] true := by
 refine ow [] func166 ntmps166 ?_; unfold Fq158 at h; have hfq84 := @runq84; generalize hU_ : @len = U_, hG_ : @gd = G_, hA : std = A, hP : prog = P at *; cbv; revert h; refine rk0 (hfq84 _) fun y1 h => ?_; cbv; exact df

def Lq89_x2 (a0 : List TB) : (Int) -> Option ((Int) ⊕ ((Int) ⊕ (Unit))) := fun x2 =>
 letO x2 fun v1 =>
 br (std.lt v1 (std.ofN (len a0)))
 (req (std.inR v1 (len a0)) <|
 (Fq158 (gd a0 (std.toN v1))).bind fun y15 =>
 br y15
 (some (.inr (.inl v1)))
 (some (.inl (std.add .i64 v1 1))))
 (some (.inr (.inr ())))
/-- impl.Label] -/
def Fq89 (a0 : List TB) : Option (Int) :=
 (whileP (σ := Int) (ρ := (Int) ⊕ (Unit)) (Lq89_x2 a0) 0).bind fun y3 =>
 (match y3 with
 | .inl y3k0 => (
 letO y3k0 fun w19 =>
 some w19)
 | .inr y3m0 =>
 some (-1))
theorem runq89 (a0 : List TB) (r : Int) (h : Fq89 a0 = some r) : Fun prog 236 [.c (.bs (len a0) 4 (row gd (eL) a0)), .c (.fn 166 0 fun _ => .junk)] [] (.c (wi r)) [] true := by
 refine ow [] func236 ntmps236 ?_; unfold Fq89 at h; unfold Lq89_x2 at h; have hfq158 := @runq158; generalize hU_ : @len = U_, hG_ : @gd = G_, hA : std = A, hP : prog = P at *; cbv
 revert h; refine lc (fun x => (sp 19 [(0, .c (.bs (U_ a0) 4 (row G_ (eL) a0))), (1, .c (.fn 166 0 fun _ => .junk)), (7, .c (wi (A.ofN (U_ a0)))), (8, .c (wi x))] [])) (fun y e s => (match y with | .inl w => e = .ret /\ s.le (sp 19 [(4, .c (wi w))] []) | .inr w0 => (fun (w : Unit) => e = .exit 0 /\ s.le (sp 19 [] [])) w0)) zb ?_ ?_
 ·intro v1 z h K hK hY; replace h := oz h; cbv; revert h; refine fk ?_ ?_ <;> intro h <;> cbv
  ·revert h; refine ra fun c14 h => ?_; revert h; refine rk0 (hfq158 _) fun y15 h => ?_; cbv; revert h; refine fk ?_ ?_ <;> intro h <;> cbv
   ·exact dy
   exact dm
  exact dy
 intro y3 h e12 s13 q11 hne; rcases y3 with y3k0 | y3m0
 ·replace h := h; obtain ⟨rfl, q11⟩ := q11; revert h; refine rz fun h => ?_; cbv; injection h with h; subst h; exact ⟨_, q11, lR _, zo, rfl⟩
 ·obtain ⟨rfl, q11⟩ := q11; cbv; refine ⟨_, q11, ?_⟩; cbv; exact df

/-- impl.Label] -/
def Fq128 (a0 : List TB) : Option (Bool) :=
 (Fq89 a0).bind fun y1 =>
 some (std.le 0 y1)
theorem runq128 (a0 : List TB) (r : Bool) (h : Fq128 a0 = some r) : Fun prog 165 [.c (.bs (len a0) 4 (row gd (eL) a0)), .c (.fn 166 0 fun _ => .junk)] [] (.c (.v (.bool r))) [] true := by
 refine ow [] func165 ntmps165 ?_; unfold Fq128 at h; have hfq89 := @runq89; generalize hU_ : @len = U_, hG_ : @gd = G_, hA : std = A, hP : prog = P at *; cbv
 revert h; refine rk0 (hfq89 _) fun y1 h => ?_; cbv; exact df

/-- impl.IsValidTransform -/
def Fq150 (a0 : TM) : Option (Bool) :=
 ((
 (Fq4 a0.fo 0 7).bind fun y8 =>
 br y8
 ((Fq4 a0.fX (-80) 80).bind fun y10 =>
 br y10
 ((Fq4 a0.fY (-80) 80).bind fun y12 =>
 some y12)
 (some false))
 (some false)
 ) : Option (Bool)).bind fun y1 =>
 letO y1 fun w7 =>
 some w7
theorem runq150 (a0 : TM) (r : Bool) (h : Fq150 a0 = some r) : Fun prog 239 [.agg [wi a0.fo, wi a0.fX, wi a0.fY]] [] (.c (.v (.bool r))) [] true := by
 refine ow [1] func239 ntmps239 ?_; unfold Fq150 at h; have hfq4 := @runq4; generalize hU_ : @len = U_, hG_ : @gd = G_, hA : std = A, hP : prog = P at *; cbv; revert h; refine cu (fun y1 => (sp 16 [(2, .c (.v (.bool y1)))] [])) ?_ fun w7 => rz fun h => ?_
 ·intro y1 S hS h; cbv; revert h; refine rk0 (hfq4 _ _ _) fun y8 h => ?_; cbv; revert h; refine fk ?_ ?_ <;> intro h <;> cbv
  ·revert h; refine rk0 (hfq4 _ _ _) fun y10 h => ?_; cbv; revert h; refine fk ?_ ?_ <;> intro h <;> cbv
   ·revert h; refine rk0 (hfq4 _ _ _) fun y12 h => ?_; cbv; exact dn
   exact dn
  exact dn
 cbv; exact df
set_option maxHeartbeats 4000000
/-- impl.validInstance -/
def Fq98 (a0 : TI) (a1 : Int) : Option (Bool) :=
 ((
 (Fq4 a0.fc 0 (std.sub .i64 a1 1)).bind fun y8 =>
 br y8
 ((Fq150 a0.fp).bind fun y10 =>
 br y10
 ((Fq4 a0.fK 1 4).bind fun y12 =>
 br y12
 ((Fq4 a0.fR 1 4).bind fun y14 =>
 br y14
 ((Fq4 a0.fu (-80) 80).bind fun y16 =>
 br y16
 ((Fq4 a0.fv (-80) 80).bind fun y18 =>
 br y18
 (br (std.eq a0.fu 0)
 (br (std.eq a0.fv 0)
 (some true)
 (some (std.lt 1 a0.fR)))
 (br (std.lt 1 a0.fK)
 (br (std.eq a0.fv 0)
 (some true)
 (some (std.lt 1 a0.fR)))
 (some false)))
 (some false))
 (some false))
 (some false))
 (some false))
 (some false))
 (some false)
 ) : Option (Bool)).bind fun y1 =>
 letO y1 fun w7 =>
 some w7
theorem runq98 (a0 : TI) (a1 : Int) (r : Bool) (h : Fq98 a0 a1 = some r) : Fun prog 170 [.agg [wi a0.fc, wi a0.fp.fo, wi a0.fp.fX, wi a0.fp.fY, wi a0.fK, wi a0.fR, wi a0.fu, wi a0.fv], .c (wi a1)] [] (.c (.v (.bool r))) [] true := by
 refine ow [1] func170 ntmps170 ?_; unfold Fq98 at h; have hfq150 := @runq150; have hfq4 := @runq4; generalize hU_ : @len = U_, hG_ : @gd = G_, hA : std = A, hP : prog = P at *; cbv; revert h; refine cu (fun y1 => (sp 55 [(4, .c (.v (.bool y1)))] [])) ?_ fun w7 => rz fun h => ?_
 ·intro y1 S hS h; cbv; revert h; refine rk0 (hfq4 _ _ _) fun y8 h => ?_; cbv; revert h; refine fk ?_ ?_ <;> intro h <;> cbv
  ·revert h; refine rk0 (hfq150 _) fun y10 h => ?_; cbv; revert h; refine fk ?_ ?_ <;> intro h <;> cbv
   ·revert h; refine rk0 (hfq4 _ _ _) fun y12 h => ?_; cbv; revert h; refine fk ?_ ?_ <;> intro h <;> cbv
    ·revert h; refine rk0 (hfq4 _ _ _) fun y14 h => ?_; cbv; revert h; refine fk ?_ ?_ <;> intro h <;> cbv
     ·revert h; refine rk0 (hfq4 _ _ _) fun y16 h => ?_; cbv; revert h; refine fk ?_ ?_ <;> intro h <;> cbv
      ·revert h; refine rk0 (hfq4 _ _ _) fun y18 h => ?_; cbv; revert h; refine fk ?_ ?_ <;> intro h <;> cbv
       ·revert h; refine fk ?_ ?_ <;> intro h <;> cbv
        ·revert h; refine fk ?_ ?_ <;> intro h <;> cbv
         ·exact dn
         exact dn
        revert h; refine fk ?_ ?_ <;> intro h <;> cbv
        ·revert h; refine fk ?_ ?_ <;> intro h <;> cbv
         ·exact dn
         exact dn
        exact dn
       exact dn
      exact dn
     exact dn
    exact dn
   exact dn
  exact dn
 cbv; exact df

/-- impl.validCell$3 -/
def Fq157 (a0 : TI) (a1 : Int) : Option (Bool) :=
 (Fq98 (TI.mk a0.fc a0.fp a0.fK a0.fR a0.fu a0.fv) a1).bind fun y1 =>
 some (!(y1))
theorem runq157 (a0 : TI) (a1 : Int) (r : Bool) (h : Fq157 a0 a1 = some r) : Fun prog 169 [.agg [wi a0.fc, wi a0.fp.fo, wi a0.fp.fX, wi a0.fp.fY, wi a0.fK, wi a0.fR, wi a0.fu, wi a0.fv], .c (.bp 1 (encI .i64 a1))] [] (.c (.v (.bool r))) [] true := by
 refine ow [] func169 ntmps169 ?_; unfold Fq157 at h; have hfq98 := @runq98; generalize hU_ : @len = U_, hG_ : @gd = G_, hA : std = A, hP : prog = P at *; cbv; revert h; refine rk0 (hfq98 _ _) fun y1 h => ?_; cbv; exact df

def Lq92_x2 (a0 : List TI) (a1_0 : Int) : (Int) -> Option ((Int) ⊕ ((Int) ⊕ (Unit))) := fun x2 =>
 letO x2 fun v1 =>
 br (std.lt v1 (std.ofN (len a0)))
 (req (std.inR v1 (len a0)) <|
 (Fq157 (gd a0 (std.toN v1)) a1_0).bind fun y15 =>
 br y15
 (some (.inr (.inl v1)))
 (some (.inl (std.add .i64 v1 1))))
 (some (.inr (.inr ())))
/-- impl.Instance] -/
def Fq92 (a0 : List TI) (a1_0 : Int) : Option (Int) :=
 (whileP (σ := Int) (ρ := (Int) ⊕ (Unit)) (Lq92_x2 a0 a1_0) 0).bind fun y3 =>
 (match y3 with
 | .inl y3k0 => (
 letO y3k0 fun w19 =>
 some w19)
 | .inr y3m0 =>
 some (-1))
theorem runq92 (a0 : List TI) (a1_0 : Int) (r : Int) (h : Fq92 a0 a1_0 = some r) : Fun prog 238 [.c (.bs (len a0) 8 (row gd (eI) a0)), .c (.fn 169 1 fun j => ([.bp 1 (encI .i64 a1_0)] : List AC).getD j .junk)] [] (.c (wi r)) [] true := by
 refine ow [] func238 ntmps238 ?_; unfold Fq92 at h; unfold Lq92_x2 at h; have hfq157 := @runq157; generalize hU_ : @len = U_, hG_ : @gd = G_, hA : std = A, hP : prog = P at *; cbv
 revert h; refine lc (fun x => (sp 19 [(0, .c (.bs (U_ a0) 8 (row G_ (eI) a0))), (1, .c (.fn 169 1 fun j => ([.bp 1 (encI .i64 a1_0)] : List AC).getD j .junk)), (7, .c (wi (A.ofN (U_ a0)))), (8, .c (wi x))] [])) (fun y e s => (match y with | .inl w => e = .ret /\ s.le (sp 19 [(4, .c (wi w))] []) | .inr w0 => (fun (w : Unit) => e = .exit 0 /\ s.le (sp 19 [] [])) w0)) zb ?_ ?_
 ·intro v1 z h K hK hY; replace h := oz h; cbv; revert h; refine fk ?_ ?_ <;> intro h <;> cbv
  ·revert h; refine ra fun c14 h => ?_; revert h; refine rk [] [] (hfq157 _ _) (fun _ => zg (lc_ (lR _) (lc_ (le_bp (show 1 <= 1 from by decide) (by intro j hj; match j, hj with | 0, _ => exact rle_refl _ | (j_ + 1), h_ => omega)) (ln_)))) fun y15 h => ?_; cbv; revert h; refine fk ?_ ?_ <;> intro h <;> cbv
   ·exact dy
   exact dm
  exact dy
 intro y3 h e12 s13 q11 hne; rcases y3 with y3k0 | y3m0
 ·replace h := h; obtain ⟨rfl, q11⟩ := q11; revert h; refine rz fun h => ?_; cbv; injection h with h; subst h; exact ⟨_, q11, lR _, zo, rfl⟩
 ·obtain ⟨rfl, q11⟩ := q11; cbv; refine ⟨_, q11, ?_⟩; cbv; exact df

/-- impl.Instance] -/
def Fq133 (a0 : List TI) (a1_0 : Int) : Option (Bool) :=
 (Fq92 a0 a1_0).bind fun y1 =>
 some (std.le 0 y1)
theorem runq133 (a0 : List TI) (a1_0 : Int) (r : Bool) (h : Fq133 a0 a1_0 = some r) : Fun prog 168 [.c (.bs (len a0) 8 (row gd (eI) a0)), .c (.fn 169 1 fun j => ([.bp 1 (encI .i64 a1_0)] : List AC).getD j .junk)] [] (.c (.v (.bool r))) [] true := by
 refine ow [] func168 ntmps168 ?_; unfold Fq133 at h; have hfq92 := @runq92; generalize hU_ : @len = U_, hG_ : @gd = G_, hA : std = A, hP : prog = P at *; cbv
 revert h; refine rk [] [] (hfq92 _ _) (fun _ => zg (lc_ (lR _) (lc_ (le_fn (by intro j hj; match j, hj with | 0, _ => exact le_bp (show 1 <= 1 from by decide) (by intro j hj; match j, hj with | 0, _ => exact rle_refl _ | (j_ + 1), h_ => omega) | (j_ + 1), h_ => omega)) (ln_)))) fun y1 h => ?_
 cbv; exact df

/-- impl.validCell -/
def Fq9 (a0 : TC) (a1 : Int) : Option (Bool) :=
 ((
 (Fq33 a0.fN).bind fun y8 =>
 br (!(y8))
 (some true)
 (br (std.lt 24 (std.ofN (len a0.fS)))
 (some true)
 (br (std.lt 8 (std.ofN (len a0.fL)))
 (some true)
 (some (std.lt 8 (std.ofN (len a0.fI))))))
 ) : Option (Bool)).bind fun y1 =>
 letO y1 fun w7 =>
 br w7
 (some false)
 (((
 (Fq147 a0.fS).bind fun y20 =>
 br (!(y20))
 ((Fq128 a0.fL).bind fun y22 =>
 br (!(y22))
 ((Fq133 a0.fI a1).bind fun y24 =>
 some (!(y24)))
 (some false))
 (some false)
 ) : Option (Bool)).bind fun y13 =>
 letO y13 fun w19 =>
 some w19)
theorem runq9 (a0 : TC) (a1 : Int) (r : Bool) (h : Fq9 a0 a1 = some r) : Fun prog 95 [.agg [ws a0.fN, .bs (len a0.fS) 5 (row gd (eS) a0.fS), .bs (len a0.fL) 4 (row gd (eL) a0.fL), .bs (len a0.fI) 8 (row gd (eI) a0.fI)], .c (wi a1)] [] (.c (.v (.bool r))) [] true := by
 refine ow [1, 3] func95 ntmps95 ?_; unfold Fq9 at h; have hfq33 := @runq33; have hfq133 := @runq133
 have hfq128 := @runq128; have hfq147 := @runq147; generalize hU_ : @len = U_, hG_ : @gd = G_, hA : std = A, hP : prog = P at *; cbv
 revert h; refine cu (fun y1 => (sp 44 [(2, .c (.ptr 128 0)), (3, .c (.ptr 192 0)), (26, .c (.v (.bool y1)))] [(128, .var [ws a0.fN, .bs (U_ a0.fS) 5 (row G_ (eS) a0.fS), .bs (U_ a0.fL) 4 (row G_ (eL) a0.fL), .bs (U_ a0.fI) 8 (row G_ (eI) a0.fI)]), (192, .var [wi a1])])) ?_ fun w7 => rz fun h => ?_
 ·intro y1 S hS h; cbv; revert h; refine rk0 (hfq33 _) fun y8 h => ?_; cbv; revert h; refine fk ?_ ?_ <;> intro h <;> cbv
  ·exact dn
  revert h; refine fk ?_ ?_ <;> intro h <;> cbv
  ·exact dn
  revert h; refine fk ?_ ?_ <;> intro h <;> cbv
  ·exact dn
  exact dn
 cbv; revert h; refine fk ?_ ?_ <;> intro h <;> cbv
 ·exact df
 revert h; refine cu (fun y13 => (sp 44 [(4, .c (.v (.bool y13)))] [])) ?_ fun w19 => rz fun h => ?_
 ·intro y13 S hS h; cbv; revert h; refine rk0 (hfq147 _) fun y20 h => ?_; cbv; revert h; refine fk ?_ ?_ <;> intro h <;> cbv
  ·revert h; refine rk0 (hfq128 _) fun y22 h => ?_; cbv; revert h; refine fk ?_ ?_ <;> intro h <;> cbv
   ·revert h; refine rk [] [] (hfq133 _ _) (fun _ => zg (lc_ (lR _) (lc_ (le_fn (by intro j hj; match j, hj with | 0, _ => exact le_bp (show 1 <= 1 from by decide) (by intro j hj; match j, hj with | 0, _ => exact rle_refl _ | (j_ + 1), h_ => omega) | (j_ + 1), h_ => omega)) (ln_)))) fun y24 h => ?_
    cbv; exact dn
   exact dn
  exact dn
 cbv; exact df

/-- impl.named$1 -/
def Fq155 (a0 : TC) (a1 : ByteArray) : Option (Bool) :=
 some (std.seq a0.fN a1)
theorem runq155 (a0 : TC) (a1 : ByteArray) (r : Bool) (h : Fq155 a0 a1 = some r) : Fun prog 172 [.agg [ws a0.fN, .bs (len a0.fS) 5 (row gd (eS) a0.fS), .bs (len a0.fL) 4 (row gd (eL) a0.fL), .bs (len a0.fI) 8 (row gd (eI) a0.fI)], .c (.bp 1 (encS a1))] [] (.c (.v (.bool r))) [] true := by
 refine ow [] func172 ntmps172 ?_; unfold Fq155 at h; generalize hU_ : @len = U_, hG_ : @gd = G_, hA : std = A, hP : prog = P at *; cbv; exact df
set_option maxHeartbeats 4000000
def Lq100_x2 (a0 : List TC) (a1_0 : ByteArray) : (Int) -> Option ((Int) ⊕ ((Int) ⊕ (Unit))) := fun x2 =>
 letO x2 fun v1 =>
 br (std.lt v1 (std.ofN (len a0)))
 (req (std.inR v1 (len a0)) <|
 (Fq155 (gd a0 (std.toN v1)) a1_0).bind fun y15 =>
 br y15
 (some (.inr (.inl v1)))
 (some (.inl (std.add .i64 v1 1))))
 (some (.inr (.inr ())))
/-- impl.Cell] -/
def Fq100 (a0 : List TC) (a1_0 : ByteArray) : Option (Int) :=
 (whileP (σ := Int) (ρ := (Int) ⊕ (Unit)) (Lq100_x2 a0 a1_0) 0).bind fun y3 =>
 (match y3 with
 | .inl y3k0 => (
 letO y3k0 fun w19 =>
 some w19)
 | .inr y3m0 =>
 some (-1))
theorem runq100 (a0 : List TC) (a1_0 : ByteArray) (r : Int) (h : Fq100 a0 a1_0 = some r) : Fun prog 171 [.c (.bs (len a0) 4 (row gd (eC len gd) a0)), .c (.fn 172 1 fun j => ([.bp 1 (encS a1_0)] : List AC).getD j .junk)] [] (.c (wi r)) [] true := by
 refine ow [] func171 ntmps171 ?_; unfold Fq100 at h; unfold Lq100_x2 at h; have hfq155 := @runq155; generalize hU_ : @len = U_, hG_ : @gd = G_, hA : std = A, hP : prog = P at *; cbv
 revert h; refine lc (fun x => (sp 19 [(0, .c (.bs (U_ a0) 4 (row G_ (eC U_ G_) a0))), (1, .c (.fn 172 1 fun j => ([.bp 1 (encS a1_0)] : List AC).getD j .junk)), (7, .c (wi (A.ofN (U_ a0)))), (8, .c (wi x))] [])) (fun y e s => (match y with | .inl w => e = .ret /\ s.le (sp 19 [(4, .c (wi w))] []) | .inr w0 => (fun (w : Unit) => e = .exit 0 /\ s.le (sp 19 [] [])) w0)) zb ?_ ?_
 ·intro v1 z h K hK hY; replace h := oz h; cbv; revert h; refine fk ?_ ?_ <;> intro h <;> cbv
  ·revert h; refine ra fun c14 h => ?_; revert h; refine rk [] [] (hfq155 _ _) (fun _ => zg (lc_ (lR _) (lc_ (le_bp (show 1 <= 1 from by decide) (by intro j hj; match j, hj with | 0, _ => exact rle_refl _ | (j_ + 1), h_ => omega)) (ln_)))) fun y15 h => ?_; cbv; revert h; refine fk ?_ ?_ <;> intro h <;> cbv
   ·exact dy
   exact dm
  exact dy
 intro y3 h e12 s13 q11 hne; rcases y3 with y3k0 | y3m0
 ·replace h := h; obtain ⟨rfl, q11⟩ := q11; revert h; refine rz fun h => ?_; cbv; injection h with h; subst h; exact ⟨_, q11, lR _, zo, rfl⟩
 ·obtain ⟨rfl, q11⟩ := q11; cbv; refine ⟨_, q11, ?_⟩; cbv; exact df

/-- impl.named -/
def Fq24 (a0 : TL) (a1 : ByteArray) : Option (Int) :=
 (Fq100 a0.fC a1).bind fun y1 =>
 some y1
theorem runq24 (a0 : TL) (a1 : ByteArray) (r : Int) (h : Fq24 a0 a1 = some r) : Fun prog 96 [.agg [.bs (len a0.fC) 4 (row gd (eC len gd) a0.fC)], .c (ws a1)] [] (.c (wi r)) [] true := by
 refine ow [] func96 ntmps96 ?_; unfold Fq24 at h; have hfq100 := @runq100; generalize hU_ : @len = U_, hG_ : @gd = G_, hA : std = A, hP : prog = P at *; cbv
 revert h; refine rk [] [] (hfq100 _ _) (fun _ => zg (lc_ (lR _) (lc_ (le_fn (by intro j hj; match j, hj with | 0, _ => exact le_bp (show 1 <= 1 from by decide) (by intro j hj; match j, hj with | 0, _ => exact rle_refl _ | (j_ + 1), h_ => omega) | (j_ + 1), h_ => omega)) (ln_)))) fun y1 h => ?_
 cbv; exact df

def Lq21_x10 (a0 : TL) : (Int) -> Option ((Int) ⊕ ((Bool) ⊕ (Unit))) := fun x10 =>
 letO x10 fun v9 =>
 br (std.lt v9 (std.ofN (len a0.fC)))
 (req (std.inR v9 (len a0.fC)) <|
 ((
 (Fq9 (gd a0.fC (std.toN v9)) v9).bind fun y30 =>
 br (!(y30))
 (some true)
 ((Fq24 (TL.mk a0.fC) (gd a0.fC (std.toN v9)).fN).bind fun y32 =>
 some (std.not (std.eq y32 v9)))
 ) : Option (Bool)).bind fun y23 =>
 letO y23 fun w29 =>
 br w29
 (some (.inr (.inl false)))
 (some (.inl (std.add .i64 v9 1))))
 (some (.inr (.inr ())))
/-- impl.IsValidLibrary -/
def Fq21 (a0 : TL) : Option (Bool) :=
 ((
 br (std.lt (std.ofN (len a0.fC)) 1)
 (some true)
 (some (std.lt 8 (std.ofN (len a0.fC))))
 ) : Option (Bool)).bind fun y1 =>
 letO y1 fun w7 =>
 br w7
 (some false)
 ((whileP (σ := Int) (ρ := (Bool) ⊕ (Unit)) (Lq21_x10 a0) 0).bind fun y11 =>
 (match y11 with
 | .inl y11k0 => (
 letO y11k0 fun w37 =>
 some w37)
 | .inr y11m0 =>
 some true))
theorem runq21 (a0 : TL) (r : Bool) (h : Fq21 a0 = some r) : Fun prog 46 [.agg [.bs (len a0.fC) 4 (row gd (eC len gd) a0.fC)]] [] (.c (.v (.bool r))) [] true := by
 refine ow [1, 6] func46 ntmps46 ?_; unfold Fq21 at h; unfold Lq21_x10 at h; have hfq24 := @runq24; have hfq9 := @runq9; generalize hU_ : @len = U_, hG_ : @gd = G_, hA : std = A, hP : prog = P at *; cbv
 revert h; refine cu (fun y1 => (sp 36 [(1, .c (.ptr 64 0)), (14, .c (.v (.bool y1)))] [(64, .var [.bs (U_ a0.fC) 4 (row G_ (eC U_ G_) a0.fC)])])) (fun y1 S hS h => rg) fun w7 => rz fun h => ?_; cbv; revert h; refine fk ?_ ?_ <;> intro h <;> cbv
 ·exact df
 revert h; refine lc (fun x => (sp 36 [(1, .c (.ptr 64 0)), (16, .c (.bs (U_ a0.fC) 4 (row G_ (eC U_ G_) a0.fC))), (17, .c (wi (A.ofN (U_ a0.fC)))), (18, .c (wi x))] [(64, .var [.bs (U_ a0.fC) 4 (row G_ (eC U_ G_) a0.fC)])])) (fun y e s => (match y with | .inl w => e = .ret /\ s.le (sp 36 [(2, .c (.v (.bool w)))] []) | .inr w0 => (fun (w : Unit) => e = .exit 0 /\ s.le (sp 36 [] [])) w0)) zb ?_ ?_
 ·intro v9 z h K hK hY; replace h := oz h; cbv; revert h; refine fk ?_ ?_ <;> intro h <;> cbv
  ·revert h; refine ra fun c22 h => ?_; revert h; refine cu (fun y23 => (sp 36 [(1, .c (.ptr 64 0)), (16, .c (.bs (U_ a0.fC) 4 (row G_ (eC U_ G_) a0.fC))), (17, .c (wi (A.ofN (U_ a0.fC)))), (18, .c (wi v9)), (34, .c (.v (.bool y23)))] [(64, .var [.bs (U_ a0.fC) 4 (row G_ (eC U_ G_) a0.fC)])])) ?_ fun w29 => rz fun h => ?_
   ·intro y23 S hS h; cbv; revert h; refine rk0 (hfq9 _ _) fun y30 h => ?_; cbv; revert h; refine fk ?_ ?_ <;> intro h <;> cbv
    ·exact dn
    revert h; refine rk0 (hfq24 _ _) fun y32 h => ?_; cbv; exact dn
   cbv; revert h; refine fk ?_ ?_ <;> intro h <;> cbv
   ·exact dy
   exact dm
  exact dy
 intro y11 h e20 s21 q19 hne; rcases y11 with y11k0 | y11m0
 ·replace h := h; obtain ⟨rfl, q19⟩ := q19; revert h; refine rz fun h => ?_; cbv; injection h with h; subst h; exact ⟨_, q19, lR _, zo, rfl⟩
 ·obtain ⟨rfl, q19⟩ := q19; cbv; refine ⟨_, q19, ?_⟩; cbv; exact df

/-- impl.IsValidEdit -/
def Fq99 (a0 : TE) : Option (Bool) :=
 ((
 (Fq4 a0.fc 0 8).bind fun y8 =>
 br (!(y8))
 (some true)
 ((Fq4 a0.fx 0 24).bind fun y10 =>
 some (!(y10)))
 ) : Option (Bool)).bind fun y1 =>
 letO y1 fun w7 =>
 br w7
 (some false)
 (br (std.eq a0.fk_ 1)
 (((
 br (std.band (std.eq a0.fk_ a0.fk_) (std.band (std.eq a0.fc a0.fc) (std.band (std.eq a0.fx a0.fx) (std.band (std.seq (ByteArray.mk #[]) a0.fN) (std.band (std.band (std.eq a0.fs_.fy a0.fs_.fy) (std.band (std.band (std.eq a0.fs_.fb.fX0 a0.fs_.fb.fX0) (std.band (std.eq a0.fs_.fb.fY0 a0.fs_.fb.fY0) (std.band (std.eq a0.fs_.fb.fX1 a0.fs_.fb.fX1) (std.band (std.eq a0.fs_.fb.fY1 a0.fs_.fb.fY1) (true))))) (true))) (std.band (std.band (std.eq 0 a0.fl_.fy) (std.band (std.band (std.eq 0 a0.fl_.fa.fX) (std.band (std.eq 0 a0.fl_.fa.fY) (true))) (std.band (std.seq (ByteArray.mk #[]) a0.fl_.fN) (true)))) (std.band (std.band (std.eq 0 a0.fi_.fc) (std.band (std.band (std.eq 0 a0.fi_.fp.fo) (std.band (std.eq 0 a0.fi_.fp.fX) (std.band (std.eq 0 a0.fi_.fp.fY) (true)))) (std.band (std.eq 0 a0.fi_.fK) (std.band (std.eq 0 a0.fi_.fR) (std.band (std.eq 0 a0.fi_.fu) (std.band (std.eq 0 a0.fi_.fv) (true))))))) (true))))))))
 ((Fq101 a0.fs_).bind fun y20 =>
 some y20)
 (some false)
 ) : Option (Bool)).bind fun y13 =>
 letO y13 fun w19 =>
 some w19)
 (br (std.eq a0.fk_ 3)
 (((
 br (std.band (std.eq a0.fk_ a0.fk_) (std.band (std.eq a0.fc a0.fc) (std.band (std.eq a0.fx a0.fx) (std.band (std.seq (ByteArray.mk #[]) a0.fN) (std.band (std.band (std.eq 0 a0.fs_.fy) (std.band (std.band (std.eq 0 a0.fs_.fb.fX0) (std.band (std.eq 0 a0.fs_.fb.fY0) (std.band (std.eq 0 a0.fs_.fb.fX1) (std.band (std.eq 0 a0.fs_.fb.fY1) (true))))) (true))) (std.band (std.band (std.eq a0.fl_.fy a0.fl_.fy) (std.band (std.band (std.eq a0.fl_.fa.fX a0.fl_.fa.fX) (std.band (std.eq a0.fl_.fa.fY a0.fl_.fa.fY) (true))) (std.band (std.seq a0.fl_.fN a0.fl_.fN) (true)))) (std.band (std.band (std.eq 0 a0.fi_.fc) (std.band (std.band (std.eq 0 a0.fi_.fp.fo) (std.band (std.eq 0 a0.fi_.fp.fX) (std.band (std.eq 0 a0.fi_.fp.fY) (true)))) (std.band (std.eq 0 a0.fi_.fK) (std.band (std.eq 0 a0.fi_.fR) (std.band (std.eq 0 a0.fi_.fu) (std.band (std.eq 0 a0.fi_.fv) (true))))))) (true))))))))
 ((Fq84 a0.fl_).bind fun y30 =>
 some y30)
 (some false)
 ) : Option (Bool)).bind fun y23 =>
 letO y23 fun w29 =>
 some w29)
 (br (std.eq a0.fk_ 5)
 (((
 br (std.band (std.eq a0.fk_ a0.fk_) (std.band (std.eq a0.fc a0.fc) (std.band (std.eq a0.fx a0.fx) (std.band (std.seq (ByteArray.mk #[]) a0.fN) (std.band (std.band (std.eq 0 a0.fs_.fy) (std.band (std.band (std.eq 0 a0.fs_.fb.fX0) (std.band (std.eq 0 a0.fs_.fb.fY0) (std.band (std.eq 0 a0.fs_.fb.fX1) (std.band (std.eq 0 a0.fs_.fb.fY1) (true))))) (true))) (std.band (std.band (std.eq 0 a0.fl_.fy) (std.band (std.band (std.eq 0 a0.fl_.fa.fX) (std.band (std.eq 0 a0.fl_.fa.fY) (true))) (std.band (std.seq (ByteArray.mk #[]) a0.fl_.fN) (true)))) (std.band (std.band (std.eq a0.fi_.fc a0.fi_.fc) (std.band (std.band (std.eq a0.fi_.fp.fo a0.fi_.fp.fo) (std.band (std.eq a0.fi_.fp.fX a0.fi_.fp.fX) (std.band (std.eq a0.fi_.fp.fY a0.fi_.fp.fY) (true)))) (std.band (std.eq a0.fi_.fK a0.fi_.fK) (std.band (std.eq a0.fi_.fR a0.fi_.fR) (std.band (std.eq a0.fi_.fu a0.fi_.fu) (std.band (std.eq a0.fi_.fv a0.fi_.fv) (true))))))) (true))))))))
 ((Fq98 a0.fi_ 8).bind fun y40 =>
 some y40)
 (some false)
 ) : Option (Bool)).bind fun y33 =>
 letO y33 fun w39 =>
 some w39)
 (((
 br (std.eq a0.fk_ 2)
 (some true)
 (((
 br (std.eq a0.fk_ 4)
 (some true)
 (some (std.eq a0.fk_ 6))
 ) : Option (Bool)).bind fun y50 =>
 letO y50 fun w56 =>
 some w56)
 ) : Option (Bool)).bind fun y43 =>
 letO y43 fun w49 =>
 ((
 br w49
 ((some (std.band (std.eq a0.fk_ a0.fk_) (std.band (std.eq a0.fc a0.fc) (std.band (std.eq a0.fx a0.fx) (std.band (std.seq (ByteArray.mk #[]) a0.fN) (std.band (std.band (std.eq 0 a0.fs_.fy) (std.band (std.band (std.eq 0 a0.fs_.fb.fX0) (std.band (std.eq 0 a0.fs_.fb.fY0) (std.band (std.eq 0 a0.fs_.fb.fX1) (std.band (std.eq 0 a0.fs_.fb.fY1) (true))))) (true))) (std.band (std.band (std.eq 0 a0.fl_.fy) (std.band (std.band (std.eq 0 a0.fl_.fa.fX) (std.band (std.eq 0 a0.fl_.fa.fY) (true))) (std.band (std.seq (ByteArray.mk #[]) a0.fl_.fN) (true)))) (std.band (std.band (std.eq 0 a0.fi_.fc) (std.band (std.band (std.eq 0 a0.fi_.fp.fo) (std.band (std.eq 0 a0.fi_.fp.fX) (std.band (std.eq 0 a0.fi_.fp.fY) (true)))) (std.band (std.eq 0 a0.fi_.fK) (std.band (std.eq 0 a0.fi_.fR) (std.band (std.eq 0 a0.fi_.fu) (std.band (std.eq 0 a0.fi_.fv) (true))))))) (true))))))))).bind fun r65 => some (.inl r65))
 (((
 br (std.eq a0.fk_ 7)
 (some true)
 (some (std.eq a0.fk_ 8))
 ) : Option (Bool)).bind fun y68 =>
 letO y68 fun w74 =>
 ((
 br w74
 (((
 br (std.band (std.eq a0.fk_ a0.fk_) (std.band (std.eq a0.fc a0.fc) (std.band (std.eq 0 a0.fx) (std.band (std.seq a0.fN a0.fN) (std.band (std.band (std.eq 0 a0.fs_.fy) (std.band (std.band (std.eq 0 a0.fs_.fb.fX0) (std.band (std.eq 0 a0.fs_.fb.fY0) (std.band (std.eq 0 a0.fs_.fb.fX1) (std.band (std.eq 0 a0.fs_.fb.fY1) (true))))) (true))) (std.band (std.band (std.eq 0 a0.fl_.fy) (std.band (std.band (std.eq 0 a0.fl_.fa.fX) (std.band (std.eq 0 a0.fl_.fa.fY) (true))) (std.band (std.seq (ByteArray.mk #[]) a0.fl_.fN) (true)))) (std.band (std.band (std.eq 0 a0.fi_.fc) (std.band (std.band (std.eq 0 a0.fi_.fp.fo) (std.band (std.eq 0 a0.fi_.fp.fX) (std.band (std.eq 0 a0.fi_.fp.fY) (true)))) (std.band (std.eq 0 a0.fi_.fK) (std.band (std.eq 0 a0.fi_.fR) (std.band (std.eq 0 a0.fi_.fu) (std.band (std.eq 0 a0.fi_.fv) (true))))))) (true))))))))
 ((Fq33 a0.fN).bind fun y89 =>
 some y89)
 (some false)
 ) : Option (Bool)).bind fun y82 =>
 letO y82 fun w88 =>
 ((some w88).bind fun r92 => some (.inl r92)).bind fun r95 => some (.inl r95))
 (br (std.eq a0.fk_ 9)
 (((some (std.band (std.eq a0.fk_ a0.fk_) (std.band (std.eq a0.fc a0.fc) (std.band (std.eq 0 a0.fx) (std.band (std.seq (ByteArray.mk #[]) a0.fN) (std.band (std.band (std.eq 0 a0.fs_.fy) (std.band (std.band (std.eq 0 a0.fs_.fb.fX0) (std.band (std.eq 0 a0.fs_.fb.fY0) (std.band (std.eq 0 a0.fs_.fb.fX1) (std.band (std.eq 0 a0.fs_.fb.fY1) (true))))) (true))) (std.band (std.band (std.eq 0 a0.fl_.fy) (std.band (std.band (std.eq 0 a0.fl_.fa.fX) (std.band (std.eq 0 a0.fl_.fa.fY) (true))) (std.band (std.seq (ByteArray.mk #[]) a0.fl_.fN) (true)))) (std.band (std.band (std.eq 0 a0.fi_.fc) (std.band (std.band (std.eq 0 a0.fi_.fp.fo) (std.band (std.eq 0 a0.fi_.fp.fX) (std.band (std.eq 0 a0.fi_.fp.fY) (true)))) (std.band (std.eq 0 a0.fi_.fK) (std.band (std.eq 0 a0.fi_.fR) (std.band (std.eq 0 a0.fi_.fu) (std.band (std.eq 0 a0.fi_.fv) (true))))))) (true))))))))).bind fun r98 => some (.inl r98)).bind fun r101 => some (.inl r101))
 (some (.inr ())))
 ) : Option (_ ⊕ Unit)).bind fun z78 => (match z78 with
 | .inl r => some r
 | .inr y76 =>
 some (.inr ())))
 ) : Option (_ ⊕ Unit)).bind fun z61 => (match z61 with
 | .inl r => some r
 | .inr y59 =>
 some false)))))
theorem runq99 (a0 : TE) (r : Bool) (h : Fq99 a0 = some r) : Fun prog 114 [.agg (cE a0)] [] (.c (.v (.bool r))) [] true := by
 refine ow [1, 7, 10, 13, 22, 100069, 100079] func114 ntmps114 ?_; unfold Fq99 at h; have hfq33 := @runq33; have hfq98 := @runq98; have hfq84 := @runq84; have hfq101 := @runq101; have hfq4 := @runq4
 generalize hU_ : @len = U_, hG_ : @gd = G_, hA : std = A, hP : prog = P at *; cbv
 revert h; refine cu (fun y1 => (sp 98 [(1, .c (.ptr 64 0)), (13, .c (.v (.bool y1)))] [(64, .var (cE a0))])) ?_ fun w7 => rz fun h => ?_
 ·intro y1 S hS h; cbv; revert h; refine rk0 (hfq4 _ _ _) fun y8 h => ?_; cbv; revert h; refine fk ?_ ?_ <;> intro h <;> cbv
  ·exact dn
  revert h; refine rk0 (hfq4 _ _ _) fun y10 h => ?_; cbv; exact dn
 cbv; revert h; refine fk ?_ ?_ <;> intro h <;> cbv
 ·exact df
 revert h; refine fk ?_ ?_ <;> intro h <;> cbv
 ·revert h; refine cu (fun y13 => (sp 98 [(2, .c (.v (.bool y13)))] [])) ?_ fun w19 => rz fun h => ?_
  ·intro y13 S hS h; cbv; revert h; refine fk ?_ ?_ <;> intro h <;> cbv
   ·revert h; refine rk0 (hfq101 _) fun y20 h => ?_; cbv; exact dn
   exact dn
  cbv; exact df
 revert h; refine fk ?_ ?_ <;> intro h <;> cbv
 ·revert h; refine cu (fun y23 => (sp 98 [(2, .c (.v (.bool y23)))] [])) ?_ fun w29 => rz fun h => ?_
  ·intro y23 S hS h; cbv; revert h; refine fk ?_ ?_ <;> intro h <;> cbv
   ·revert h; refine rk0 (hfq84 _) fun y30 h => ?_; cbv; exact dn
   exact dn
  cbv; exact df
 revert h; refine fk ?_ ?_ <;> intro h <;> cbv
 ·revert h; refine cu (fun y33 => (sp 98 [(2, .c (.v (.bool y33)))] [])) ?_ fun w39 => rz fun h => ?_
  ·intro y33 S hS h; cbv; revert h; refine fk ?_ ?_ <;> intro h <;> cbv
   ·revert h; refine rk0 (hfq98 _ _) fun y40 h => ?_; cbv; exact dn
   exact dn
  cbv; exact df
 revert h; refine cu (fun y43 => some (sp 98 [(1, .c (.ptr 64 0)), (3, .c (.ptr 192 0)), (20, .c (wi a0.fk_)), (69, .c (.v (.bool y43)))] [(64, .var (cE a0)), (192, .var [wi a0.fk_, wi a0.fc, wi 0, ws (ByteArray.mk #[]), wi 0, wi 0, wi 0, wi 0, wi 0, wi 0, wi 0, wi 0, ws (ByteArray.mk #[]), wi 0, wi 0, wi 0, wi 0, wi 0, wi 0, wi 0, wi 0])])) ?_ fun w49 => rz fun h => ?_
 ·intro y43 S hS h; cbv; revert h; refine fk ?_ ?_ <;> intro h <;> cbv
  ·exact dn
  revert h; refine cu (fun y50 => some (sp 98 [(1, .c (.ptr 64 0)), (3, .c (.ptr 192 0)), (20, .c (wi a0.fk_)), (69, .c (.v (.bool y50)))] [(64, .var (cE a0)), (192, .var [wi a0.fk_, wi a0.fc, wi 0, ws (ByteArray.mk #[]), wi 0, wi 0, wi 0, wi 0, wi 0, wi 0, wi 0, wi 0, ws (ByteArray.mk #[]), wi 0, wi 0, wi 0, wi 0, wi 0, wi 0, wi 0, wi 0])])) (fun y50 S hS h => rg) fun w56 => rz fun h => ?_
  cbv; exact dn
 cbv; obtain ⟨z61, hy60, hz62⟩ := ob_ h; obtain ⟨S, hS⟩ : ∃ S, S = (match z61 with | .inl _ => none | .inr y59 => some (sp 98 [] [])) := ⟨_, rfl⟩; refine ⟨S, ?_, ?_⟩
 ·have h := hy60; clear hy60; cbv; revert h; refine fk ?_ ?_ <;> intro h <;> cbv
  ·obtain ⟨r65, h66, he67⟩ := ob_ h; injection he67 with he67; subst he67; injection hz62 with hz62; subst hz62; have h := h66; exact df
  revert h; refine cu (fun y68 => some (sp 98 [(1, .c (.ptr 64 0)), (3, .c (.ptr 192 0)), (20, .c (wi a0.fk_)), (79, .c (.v (.bool y68)))] [(64, .var (cE a0)), (192, .var [wi a0.fk_, wi a0.fc, wi 0, ws (ByteArray.mk #[]), wi 0, wi 0, wi 0, wi 0, wi 0, wi 0, wi 0, wi 0, ws (ByteArray.mk #[]), wi 0, wi 0, wi 0, wi 0, wi 0, wi 0, wi 0, wi 0])])) (fun y68 S hS h => rg) fun w74 => rz fun h => ?_
  cbv; obtain ⟨z78, hy77, hz79⟩ := ob_ h; obtain ⟨S, hS⟩ : ∃ S, S = (match z78 with | .inl _ => none | .inr y76 => some (sp 98 [] [])) := ⟨_, rfl⟩; refine ⟨S, ?_, ?_⟩
  ·have h := hy77; clear hy77; cbv; revert h; refine fk ?_ ?_ <;> intro h <;> cbv
   ·revert h; refine cu (fun y82 => (sp 98 [(2, .c (.v (.bool y82)))] [])) ?_ fun w88 => rz fun h => ?_
    ·intro y82 S hS h; cbv; revert h; refine fk ?_ ?_ <;> intro h <;> cbv
     ·revert h; refine rk0 (hfq33 _) fun y89 h => ?_; cbv; exact dn
     exact dn
    cbv; obtain ⟨r95, h96, he97⟩ := ob_ h; injection he97 with he97; subst he97; injection hz79 with hz79; subst hz79; have h := h96; obtain ⟨r92, h93, he94⟩ := ob_ h; injection he94 with he94; subst he94; injection hz62 with hz62; subst hz62; have h := h93; exact df
   revert h; refine fk ?_ ?_ <;> intro h <;> cbv
   ·obtain ⟨r101, h102, he103⟩ := ob_ h; injection he103 with he103; subst he103; injection hz79 with hz79; subst hz79; have h := h102; obtain ⟨r98, h99, he100⟩ := ob_ h; injection he100 with he100; subst he100; injection hz62 with hz62; subst hz62; have h := h99; exact df
   exact dn
  ·clear hy77; subst hS; rcases z78 with _ | y76
   ·trivial
   ·have h := hz79; clear hz79; cbv; exact dn
 ·clear hy60; subst hS; rcases z61 with _ | y59
  ·trivial
  ·have h := hz62; clear hz62; cbv; exact df

/-- impl.isTransaction$1 -/
def Fq162 (a0 : TE) : Option (Bool) :=
 (Fq99 a0).bind fun y1 =>
 some (!(y1))
theorem runq162 (a0 : TE) (r : Bool) (h : Fq162 a0 = some r) : Fun prog 178 [.agg (cE a0)] [] (.c (.v (.bool r))) [] true := by
 refine ow [] func178 ntmps178 ?_; unfold Fq162 at h; have hfq99 := @runq99; generalize hU_ : @len = U_, hG_ : @gd = G_, hA : std = A, hP : prog = P at *; cbv; revert h; refine rk0 (hfq99 _) fun y1 h => ?_; cbv; exact df

def Lq83_x2 (a0 : List TE) : (Int) -> Option ((Int) ⊕ ((Int) ⊕ (Unit))) := fun x2 =>
 letO x2 fun v1 =>
 br (std.lt v1 (std.ofN (len a0)))
 (req (std.inR v1 (len a0)) <|
 (Fq162 (gd a0 (std.toN v1))).bind fun y15 =>
 br y15
 (some (.inr (.inl v1)))
 (some (.inl (std.add .i64 v1 1))))
 (some (.inr (.inr ())))
/-- impl.Edit] -/
def Fq83 (a0 : List TE) : Option (Int) :=
 (whileP (σ := Int) (ρ := (Int) ⊕ (Unit)) (Lq83_x2 a0) 0).bind fun y3 =>
 (match y3 with
 | .inl y3k0 => (
 letO y3k0 fun w19 =>
 some w19)
 | .inr y3m0 =>
 some (-1))
theorem runq83 (a0 : List TE) (r : Int) (h : Fq83 a0 = some r) : Fun prog 244 [.c (.bs (len a0) 21 (row gd (eE) a0)), .c (.fn 178 0 fun _ => .junk)] [] (.c (wi r)) [] true := by
 refine ow [] func244 ntmps244 ?_; unfold Fq83 at h; unfold Lq83_x2 at h; have hfq162 := @runq162; generalize hU_ : @len = U_, hG_ : @gd = G_, hA : std = A, hP : prog = P at *; cbv
 revert h; refine lc (fun x => (sp 19 [(0, .c (.bs (U_ a0) 21 (row G_ (eE) a0))), (1, .c (.fn 178 0 fun _ => .junk)), (7, .c (wi (A.ofN (U_ a0)))), (8, .c (wi x))] [])) (fun y e s => (match y with | .inl w => e = .ret /\ s.le (sp 19 [(4, .c (wi w))] []) | .inr w0 => (fun (w : Unit) => e = .exit 0 /\ s.le (sp 19 [] [])) w0)) zb ?_ ?_
 ·intro v1 z h K hK hY; replace h := oz h; cbv; revert h; refine fk ?_ ?_ <;> intro h <;> cbv
  ·revert h; refine ra fun c14 h => ?_; revert h; refine rk0 (hfq162 _) fun y15 h => ?_; cbv; revert h; refine fk ?_ ?_ <;> intro h <;> cbv
   ·exact dy
   exact dm
  exact dy
 intro y3 h e12 s13 q11 hne; rcases y3 with y3k0 | y3m0
 ·replace h := h; obtain ⟨rfl, q11⟩ := q11; revert h; refine rz fun h => ?_; cbv; injection h with h; subst h; exact ⟨_, q11, lR _, zo, rfl⟩
 ·obtain ⟨rfl, q11⟩ := q11; cbv; refine ⟨_, q11, ?_⟩; cbv; exact df
set_option maxHeartbeats 4000000
/-- impl.Edit] -/
def Fq115 (a0 : List TE) : Option (Bool) :=
 (Fq83 a0).bind fun y1 =>
 some (std.le 0 y1)
theorem runq115 (a0 : List TE) (r : Bool) (h : Fq115 a0 = some r) : Fun prog 177 [.c (.bs (len a0) 21 (row gd (eE) a0)), .c (.fn 178 0 fun _ => .junk)] [] (.c (.v (.bool r))) [] true := by
 refine ow [] func177 ntmps177 ?_; unfold Fq115 at h; have hfq83 := @runq83; generalize hU_ : @len = U_, hG_ : @gd = G_, hA : std = A, hP : prog = P at *; cbv
 revert h; refine rk0 (hfq83 _) fun y1 h => ?_; cbv; exact df

/-- impl.isTransaction -/
def Fq48 (a0 : List TE) : Option (Bool) :=
 ((
 br (std.le 1 (std.ofN (len a0)))
 (br (std.le (std.ofN (len a0)) 8)
 ((Fq115 a0).bind fun y8 =>
 some (!(y8)))
 (some false))
 (some false)
 ) : Option (Bool)).bind fun y1 =>
 letO y1 fun w7 =>
 some w7
theorem runq48 (a0 : List TE) (r : Bool) (h : Fq48 a0 = some r) : Fun prog 100 [.c (.bs (len a0) 21 (row gd (eE) a0))] [] (.c (.v (.bool r))) [] true := by
 refine ow [1] func100 ntmps100 ?_; unfold Fq48 at h; have hfq115 := @runq115; generalize hU_ : @len = U_, hG_ : @gd = G_, hA : std = A, hP : prog = P at *; cbv
 revert h; refine cu (fun y1 => (sp 16 [(2, .c (.v (.bool y1)))] [])) ?_ fun w7 => rz fun h => ?_
 ·intro y1 S hS h; cbv; revert h; refine fk ?_ ?_ <;> intro h <;> cbv
  ·revert h; refine fk ?_ ?_ <;> intro h <;> cbv
   ·revert h; refine rk0 (hfq115 _) fun y8 h => ?_; cbv; exact dn
   exact dn
  exact dn
 cbv; exact df

/-- impl.validHistory$1 -/
def Fq161 (a0 : List TE) : Option (Bool) :=
 (Fq48 a0).bind fun y1 =>
 some (!(y1))
theorem runq161 (a0 : List TE) (r : Bool) (h : Fq161 a0 = some r) : Fun prog 216 [.c (.bs (len a0) 21 (row gd (eE) a0))] [] (.c (.v (.bool r))) [] true := by
 refine ow [] func216 ntmps216 ?_; unfold Fq161 at h; have hfq48 := @runq48; generalize hU_ : @len = U_, hG_ : @gd = G_, hA : std = A, hP : prog = P at *; cbv; revert h; refine rk0 (hfq48 _) fun y1 h => ?_; cbv; exact df

def Lq90_x2 (a0 : List (List TE)) : (Int) -> Option ((Int) ⊕ ((Int) ⊕ (Unit))) := fun x2 =>
 letO x2 fun v1 =>
 br (std.lt v1 (std.ofN (len a0)))
 (req (std.inR v1 (len a0)) <|
 (Fq161 (gd a0 (std.toN v1))).bind fun y15 =>
 br y15
 (some (.inr (.inl v1)))
 (some (.inl (std.add .i64 v1 1))))
 (some (.inr (.inr ())))
/-- impl.Edit] -/
def Fq90 (a0 : List (List TE)) : Option (Int) :=
 (whileP (σ := Int) (ρ := (Int) ⊕ (Unit)) (Lq90_x2 a0) 0).bind fun y3 =>
 (match y3 with
 | .inl y3k0 => (
 letO y3k0 fun w19 =>
 some w19)
 | .inr y3m0 =>
 some (-1))
theorem runq90 (a0 : List (List TE)) (r : Int) (h : Fq90 a0 = some r) : Fun prog 251 [.c (.bs (len a0) 1 (row gd (eN len gd 21 (eE)) a0)), .c (.fn 216 0 fun _ => .junk)] [] (.c (wi r)) [] true := by
 refine ow [] func251 ntmps251 ?_; unfold Fq90 at h; unfold Lq90_x2 at h; have hfq161 := @runq161; generalize hU_ : @len = U_, hG_ : @gd = G_, hA : std = A, hP : prog = P at *; cbv
 revert h; refine lc (fun x => (sp 19 [(0, .c (.bs (U_ a0) 1 (row G_ (eN U_ G_ 21 (eE)) a0))), (1, .c (.fn 216 0 fun _ => .junk)), (7, .c (wi (A.ofN (U_ a0)))), (8, .c (wi x))] [])) (fun y e s => (match y with | .inl w => e = .ret /\ s.le (sp 19 [(4, .c (wi w))] []) | .inr w0 => (fun (w : Unit) => e = .exit 0 /\ s.le (sp 19 [] [])) w0)) zb ?_ ?_
 ·intro v1 z h K hK hY; replace h := oz h; cbv; revert h; refine fk ?_ ?_ <;> intro h <;> cbv
  ·revert h; refine ra fun c14 h => ?_; revert h; refine rk0 (hfq161 _) fun y15 h => ?_; cbv; revert h; refine fk ?_ ?_ <;> intro h <;> cbv
   ·exact dy
   exact dm
  exact dy
 intro y3 h e12 s13 q11 hne; rcases y3 with y3k0 | y3m0
 ·replace h := h; obtain ⟨rfl, q11⟩ := q11; revert h; refine rz fun h => ?_; cbv; injection h with h; subst h; exact ⟨_, q11, lR _, zo, rfl⟩
 ·obtain ⟨rfl, q11⟩ := q11; cbv; refine ⟨_, q11, ?_⟩; cbv; exact df

/-- impl.Edit] -/
def Fq127 (a0 : List (List TE)) : Option (Bool) :=
 (Fq90 a0).bind fun y1 =>
 some (std.le 0 y1)
theorem runq127 (a0 : List (List TE)) (r : Bool) (h : Fq127 a0 = some r) : Fun prog 215 [.c (.bs (len a0) 1 (row gd (eN len gd 21 (eE)) a0)), .c (.fn 216 0 fun _ => .junk)] [] (.c (.v (.bool r))) [] true := by
 refine ow [] func215 ntmps215 ?_; unfold Fq127 at h; have hfq90 := @runq90; generalize hU_ : @len = U_, hG_ : @gd = G_, hA : std = A, hP : prog = P at *; cbv
 revert h; refine rk0 (hfq90 _) fun y1 h => ?_; cbv; exact df

/-- impl.validHistory -/
def Fq41 (a0 : List (List TE)) : Option (Bool) :=
 ((
 br (std.le (std.ofN (len a0)) 6)
 ((Fq127 a0).bind fun y8 =>
 some (!(y8)))
 (some false)
 ) : Option (Bool)).bind fun y1 =>
 letO y1 fun w7 =>
 some w7
theorem runq41 (a0 : List (List TE)) (r : Bool) (h : Fq41 a0 = some r) : Fun prog 142 [.c (.bs (len a0) 1 (row gd (eN len gd 21 (eE)) a0))] [] (.c (.v (.bool r))) [] true := by
 refine ow [1] func142 ntmps142 ?_; unfold Fq41 at h; have hfq127 := @runq127; generalize hU_ : @len = U_, hG_ : @gd = G_, hA : std = A, hP : prog = P at *; cbv
 revert h; refine cu (fun y1 => (sp 11 [(2, .c (.v (.bool y1)))] [])) ?_ fun w7 => rz fun h => ?_
 ·intro y1 S hS h; cbv; revert h; refine fk ?_ ?_ <;> intro h <;> cbv
  ·revert h; refine rk0 (hfq127 _) fun y8 h => ?_; cbv; exact dn
  exact dn
 cbv; exact df
set_option maxHeartbeats 4000000
/-- impl.validEditor -/
def Fq55 (a0 : TD_) : Option (Bool) :=
 ((
 (Fq21 a0.fr_).bind fun y8 =>
 br y8
 ((Fq41 a0.fU).bind fun y10 =>
 br y10
 ((Fq41 a0.fD).bind fun y12 =>
 some y12)
 (some false))
 (some false)
 ) : Option (Bool)).bind fun y1 =>
 letO y1 fun w7 =>
 some w7
theorem runq55 (a0 : TD_) (r : Bool) (h : Fq55 a0 = some r) : Fun prog 77 [.agg [.bs (len a0.fr_.fC) 4 (row gd (eC len gd) a0.fr_.fC), .bs (len a0.fU) 1 (row gd (eN len gd 21 (eE)) a0.fU), .bs (len a0.fD) 1 (row gd (eN len gd 21 (eE)) a0.fD)]] [] (.c (.v (.bool r))) [] true := by
 refine ow [1] func77 ntmps77 ?_; unfold Fq55 at h; have hfq21 := @runq21; have hfq41 := @runq41; generalize hU_ : @len = U_, hG_ : @gd = G_, hA : std = A, hP : prog = P at *; cbv; revert h; refine cu (fun y1 => (sp 16 [(2, .c (.v (.bool y1)))] [])) ?_ fun w7 => rz fun h => ?_
 ·intro y1 S hS h; cbv; revert h; refine rk0 (hfq21 _) fun y8 h => ?_; cbv; revert h; refine fk ?_ ?_ <;> intro h <;> cbv
  ·revert h; refine rk0 (hfq41 _) fun y10 h => ?_; cbv; revert h; refine fk ?_ ?_ <;> intro h <;> cbv
   ·revert h; refine rk0 (hfq41 _) fun y12 h => ?_; cbv; exact dn
   exact dn
  exact dn
 cbv; exact df

/-- impl.Shape] -/
def Fq120 (a0 : List TS) : Option (List TS) :=
 nilB (len a0)
 (some ([] : List TS))
 (letO ([] : List TS) fun l1 =>
 req (std.room (std.nadd (len l1) (len a0)) 40) <|
 letO (l1 ++ a0) fun l3 =>
 some l3)
theorem runq120 (a0 : List TS) (r : List TS) (h : Fq120 a0 = some r) : Fun prog 226 [.c (.bs (len a0) 5 (row gd (eS) a0))] [] (.c (.os 64000 0 (len r))) [(64000, .arr .rw [] (len r) 5 (row gd (eS) r))] true := by
 refine ow [] func226 ntmps226 ?_ (hv := (fun _ => ⟨trivial, ⟨fun i _ j _ => val_flat (vl_encShape _ _), tv⟩⟩)); unfold Fq120 at h; generalize hU_ : @len = U_, hG_ : @gd = G_, hA : std = A, hP : prog = P at *; cbv; obtain ⟨h, hz7⟩ := of_nilB h; refine And.intro (fun hn6 => ?_) ?_
 ·have h := hz7 hn6; clear hz7; cbv; injection h with h; subst h; refine ⟨(sp 8 [(2, .c (.os 64000 0 (U_ ([] : List TS))))] [(64000, .arr .rw [] (U_ ([] : List TS)) 5 (row G_ (eS) ([] : List TS)))]), ?_, ?_⟩
  ·refine St.le_trans (le_nilT 2 64000 5 (row G_ (eS) ([] : List TS)) (by decide) rfl) ?_; subst hU_; exact zb
  ·subst hU_; exact ⟨lR _, zo, rfl⟩
 ·clear hz7; cbv; revert h; refine rl fun l1 hl1 h => ?_; have e2 : 0 = U_ l1 := by subst hl1 hU_; rfl
  refine ⟨_, (co e2), _, row G_ (eS) l1, e2, wO ?_, ?_⟩
  ·intro i hi j hj; rw [<- e2] at hi; subst hl1; subst hG_; omega
  cbv; revert h; refine rq fun c5 => rl fun l3 hl3 h => ?_; have e4 := nl hA hU_ hl3; refine ⟨c5, _, (co e4), _, row G_ (eS) l3, e4, wO ?_, ?_⟩
  ·subst hG_ hU_ hA; exact app_bs (pl_encShape) hl3 (Nat.le_refl _)
  cbv; injection h with h; subst h; exact ⟨_, le_ren 320 64000 (by decide) rfl, lR _, zo, rfl⟩

/-- impl.Label] -/
def Fq121 (a0 : List TB) : Option (List TB) :=
 nilB (len a0)
 (some ([] : List TB))
 (letO ([] : List TB) fun l1 =>
 req (std.room (std.nadd (len l1) (len a0)) 40) <|
 letO (l1 ++ a0) fun l3 =>
 some l3)
theorem runq121 (a0 : List TB) (r : List TB) (h : Fq121 a0 = some r) : Fun prog 227 [.c (.bs (len a0) 4 (row gd (eL) a0))] [] (.c (.os 64000 0 (len r))) [(64000, .arr .rw [] (len r) 4 (row gd (eL) r))] true := by
 refine ow [] func227 ntmps227 ?_ (hv := (fun _ => ⟨trivial, ⟨fun i _ j _ => val_flat (vl_encLabel _ _), tv⟩⟩)); unfold Fq121 at h; generalize hU_ : @len = U_, hG_ : @gd = G_, hA : std = A, hP : prog = P at *; cbv; obtain ⟨h, hz7⟩ := of_nilB h; refine And.intro (fun hn6 => ?_) ?_
 ·have h := hz7 hn6; clear hz7; cbv; injection h with h; subst h; refine ⟨(sp 8 [(2, .c (.os 64000 0 (U_ ([] : List TB))))] [(64000, .arr .rw [] (U_ ([] : List TB)) 4 (row G_ (eL) ([] : List TB)))]), ?_, ?_⟩
  ·refine St.le_trans (le_nilT 2 64000 4 (row G_ (eL) ([] : List TB)) (by decide) rfl) ?_; subst hU_; exact zb
  ·subst hU_; exact ⟨lR _, zo, rfl⟩
 ·clear hz7; cbv; revert h; refine rl fun l1 hl1 h => ?_; have e2 : 0 = U_ l1 := by subst hl1 hU_; rfl
  refine ⟨_, (co e2), _, row G_ (eL) l1, e2, wO ?_, ?_⟩
  ·intro i hi j hj; rw [<- e2] at hi; subst hl1; subst hG_; omega
  cbv; revert h; refine rq fun c5 => rl fun l3 hl3 h => ?_; have e4 := nl hA hU_ hl3; refine ⟨c5, _, (co e4), _, row G_ (eL) l3, e4, wO ?_, ?_⟩
  ·subst hG_ hU_ hA; exact app_bs (pl_encLabel) hl3 (Nat.le_refl _)
  cbv; injection h with h; subst h; exact ⟨_, le_ren 320 64000 (by decide) rfl, lR _, zo, rfl⟩

/-- impl.Instance] -/
def Fq126 (a0 : List TI) : Option (List TI) :=
 nilB (len a0)
 (some ([] : List TI))
 (letO ([] : List TI) fun l1 =>
 req (std.room (std.nadd (len l1) (len a0)) 64) <|
 letO (l1 ++ a0) fun l3 =>
 some l3)
theorem runq126 (a0 : List TI) (r : List TI) (h : Fq126 a0 = some r) : Fun prog 228 [.c (.bs (len a0) 8 (row gd (eI) a0))] [] (.c (.os 64000 0 (len r))) [(64000, .arr .rw [] (len r) 8 (row gd (eI) r))] true := by
 refine ow [] func228 ntmps228 ?_ (hv := (fun _ => ⟨trivial, ⟨fun i _ j _ => val_flat (vl_encInstance _ _), tv⟩⟩)); unfold Fq126 at h; generalize hU_ : @len = U_, hG_ : @gd = G_, hA : std = A, hP : prog = P at *; cbv; obtain ⟨h, hz7⟩ := of_nilB h; refine And.intro (fun hn6 => ?_) ?_
 ·have h := hz7 hn6; clear hz7; cbv; injection h with h; subst h; refine ⟨(sp 8 [(2, .c (.os 64000 0 (U_ ([] : List TI))))] [(64000, .arr .rw [] (U_ ([] : List TI)) 8 (row G_ (eI) ([] : List TI)))]), ?_, ?_⟩
  ·refine St.le_trans (le_nilT 2 64000 8 (row G_ (eI) ([] : List TI)) (by decide) rfl) ?_; subst hU_; exact zb
  ·subst hU_; exact ⟨lR _, zo, rfl⟩
 ·clear hz7; cbv; revert h; refine rl fun l1 hl1 h => ?_; have e2 : 0 = U_ l1 := by subst hl1 hU_; rfl
  refine ⟨_, (co e2), _, row G_ (eI) l1, e2, wO ?_, ?_⟩
  ·intro i hi j hj; rw [<- e2] at hi; subst hl1; subst hG_; omega
  cbv; revert h; refine rq fun c5 => rl fun l3 hl3 h => ?_; have e4 := nl hA hU_ hl3; refine ⟨c5, _, (co e4), _, row G_ (eI) l3, e4, wO ?_, ?_⟩
  ·subst hG_ hU_ hA; exact app_bs (pl_encInstance) hl3 (Nat.le_refl _)
  cbv; injection h with h; subst h; exact ⟨_, le_ren 320 64000 (by decide) rfl, lR _, zo, rfl⟩

/-- impl.copyCell -/
def Fq132 (a0 : TC) : Option (TC) :=
 (Fq120 a0.fS).bind fun y1 =>
 (Fq121 a0.fL).bind fun y3 =>
 (Fq126 a0.fI).bind fun y5 =>
 some (TC.mk a0.fN y1 y3 y5)
theorem runq132 (a0 : TC) (r : TC) (h : Fq132 a0 = some r) : Fun prog 149 [.agg [ws a0.fN, .bs (len a0.fS) 5 (row gd (eS) a0.fS), .bs (len a0.fL) 4 (row gd (eL) a0.fL), .bs (len a0.fI) 8 (row gd (eI) a0.fI)]] [] (.agg [ws r.fN, .os 64000 0 (len r.fS), .os 64002 0 (len r.fL), .os 64004 0 (len r.fI)]) [(64000, .arr .rw [] (len r.fS) 5 (row gd (eS) r.fS)), (64002, .arr .rw [] (len r.fL) 4 (row gd (eL) r.fL)), (64004, .arr .rw [] (len r.fI) 8 (row gd (eI) r.fI))] true := by
 refine ow [] func149 ntmps149 ?_ (hv := (fun _ => ⟨(by simp [AV.flat, AV.flat1, AC.flat]), ⟨fun i _ j _ => val_flat (vl_encShape _ _), fun i _ j _ => val_flat (vl_encLabel _ _), fun i _ j _ => val_flat (vl_encInstance _ _), tv⟩⟩)); unfold Fq132 at h; have hfq126 := @runq126
 have hfq121 := @runq121; have hfq120 := @runq120; generalize hU_ : @len = U_, hG_ : @gd = G_, hA : std = A, hP : prog = P at *; cbv
 revert h; refine rk [] [(64000, 448)] (hfq120 _) (fun _ => zf) fun y1 h => ⟨_, rfl, _, _, rfl, fun _ _ _ _ => .refl _, ?_⟩
 cbv; revert h; refine rk [] [(64000, 640)] (hfq121 _) (fun _ => zf) fun y3 h => ⟨_, rfl, _, _, rfl, fun _ _ _ _ => .refl _, ?_⟩
 cbv; revert h; refine rk [] [(64000, 832)] (hfq126 _) (fun _ => zf) fun y5 h => ⟨_, rfl, _, _, rfl, fun _ _ _ _ => .refl _, ?_⟩
 cbv; injection h with h; subst h; exact ⟨_, St.le_trans (le_ren 448 64000 (by decide) rfl) (St.le_trans (le_ren 640 64002 (by decide) rfl) ((le_ren 832 64004 (by decide) rfl))), lR _, zo, rfl⟩

def Lq43_x3 (a0 : TL) : (Int × (List TC)) -> Option ((Int × (List TC)) ⊕ (((List TC)))) := fun x3 =>
 letO x3.1 fun v1 =>
 letO x3.2 fun v2 =>
 br (std.lt v1 (std.ofN (len a0.fC)))
 (req (std.inR v1 (len a0.fC)) <|
 ((
 (Fq132 (gd a0.fC (std.toN v1))).bind fun y23 =>
 letO ([y23] : List TC) fun l25 =>
 req (std.room (std.nadd (len v2) (len l25)) 88) <|
 letO (v2 ++ l25) fun l27 =>
 some l27
 ) : Option ((List TC))).bind fun y16 =>
 letO y16 fun w22 =>
 some (.inl (std.add .i64 v1 1, w22)))
 (some (.inr v2))
/-- impl.copyLibrary -/
def Fq43 (a0 : TL) : Option (TL) :=
 (whileP (σ := Int × (List TC)) (ρ := ((List TC))) (Lq43_x3 a0) (0, ([] : List TC))).bind fun y4 =>
 letO y4 fun y4k0 =>
 letO y4k0 fun w31 =>
 some (TL.mk w31)
theorem runq43 (a0 : TL) (r : TL) (h : Fq43 a0 = some r) : Fun prog 85 [.agg [.bs (len a0.fC) 4 (row gd (eC len gd) a0.fC)]] [] (.agg [.os 64000 0 (len r.fC)]) [(64000, .arr .rw [] (len r.fC) 4 (row gd (oC len gd) r.fC))] true := by
 refine ow [5] func85 ntmps85 ?_ (hv := (fun _ => ⟨(by simp [AV.flat, AV.flat1, AC.flat]), ⟨fun i _ j _ => fl_oncCell _ _, tv⟩⟩)); unfold Fq43 at h; unfold Lq43_x3 at h; have hfq132 := @runq132; generalize hU_ : @len = U_, hG_ : @gd = G_, hA : std = A, hP : prog = P at *; cbv
 revert h; refine ln (.exit 0) (fun x => (sp 23 [(2, .c (.ptr 128 0)), (3, .c (.ptr 192 0)), (8, .c (.bs (U_ a0.fC) 4 (row G_ (eC U_ G_) a0.fC))), (9, .c (wi (A.ofN (U_ a0.fC)))), (10, .c (wi x.1))] [(128, .var [.v (.slice none 0 0)]), (192, .var [.os 1216 0 (U_ x.2)]), (1216, .arr .rw [] (U_ x.2) 4 (row G_ (oC U_ G_) x.2))])) (fun w => (sp 23 [(2, .c (.ptr 128 0)), (3, .c (.ptr 192 0))] [(128, .var [.v (.slice none 0 0)]), (192, .var [.os 1216 0 (U_ w)]), (1216, .arr .rw [] (U_ w) 4 (row G_ (oC U_ G_) w))])) ?_ ?_ ?_
 ·show St.le _ _; refine St.le_trans (le_nilV 192 0 1216 4 (row G_ (oC U_ G_) ([] : List TC)) (by decide) (by decide) rfl rfl) ?_; subst hU_; exact zb
 ·rintro ⟨v1, v2⟩ z h K hK hY; replace h := oz (oz h); dsimp only at h; cbv; revert h; refine fk ?_ ?_ <;> intro h <;> cbv
  ·revert h; refine ra fun c15 h => ?_
   revert h; refine cu (fun y16 => (sp 23 [(2, .c (.ptr 128 0)), (3, .c (.ptr 192 0)), (8, .c (.bs (U_ a0.fC) 4 (row G_ (eC U_ G_) a0.fC))), (9, .c (wi (A.ofN (U_ a0.fC)))), (10, .c (wi v1))] [(128, .var [.v (.slice none 0 0)]), (192, .var [.os 1216 0 (U_ y16)]), (1216, .arr .rw [] (U_ y16) 4 (row G_ (oC U_ G_) y16))])) ?_ fun w22 => rz fun h => ?_
   ·intro y16 S hS h; cbv; revert h; refine rk [] [(64000, 1088), (64002, 1090), (64004, 1092)] (hfq132 _) (fun _ => zf) fun y23 h => ⟨_, rfl, _, _, rfl, fun _ _ _ _ => .refl _, _, _, rfl, fun _ _ _ _ => .refl _, _, _, rfl, fun _ _ _ _ => .refl _, ?_⟩
    cbv; revert h; refine rl fun l25 hl25 h => ?_; have e26 : 1 = U_ l25 := by subst hl25 hU_; rfl
    refine ⟨_, (co e26), _, (pC (fun _ _ => AC.junk) 0 [ws y23.fN, .os 1088 0 (U_ y23.fS), .os 1090 0 (U_ y23.fL), .os 1092 0 (U_ y23.fI)]), e26, wO ?_, ?_⟩
    ·refine patch_one (by subst hl25 hU_; rfl) ?_; exact zr
    cbv; revert h; refine rq fun c29 => rl fun l27 hl27 h => ?_; have e28 := nl hA hU_ hl27; refine ⟨c29, _, (co e28), _, (pC (row G_ (oC U_ G_) v2) (U_ v2) [ws y23.fN, .os 1088 0 (U_ y23.fS), .os 1090 0 (U_ y23.fL), .os 1092 0 (U_ y23.fI)]), e28, wO ?_, ?_⟩
    ·subst hU_ hA; refine patch_joinG (by first | (rw [hl27]; simp [len]; done) | (rw [hl27]; simp [len]; omega) | (subst_vars; simp [len])) ?_; exact zr
    cbv; rw [hl25] at hl27; injection h with h; subst h; subst hS; show St.le _ _; refine St.le_trans (le_foldP 1216 1 1088 rfl rfl rfl (by decide) (by subst hU_; exact app_lt hl27) (by decide) rfl (fun _ _ => rC _ _)) ?_; refine St.le_trans (le_foldP 1216 2 1090 rfl rfl rfl (by decide) (by subst hU_; exact app_lt hl27) (by decide) rfl (fun _ _ => rC _ _)) ?_
    refine St.le_trans (le_foldP 1216 3 1092 rfl rfl rfl (by decide) (by subst hU_; exact app_lt hl27) (by decide) rfl (fun _ _ => rC _ _)) ?_; exact lsp rfl zl ⟨rfl, rfl, oP (fun _ _ => rC _ _) (by subst hG_ hU_ hA; exact patch_app hl27 (Nat.le_refl _) zr), tv⟩ rfl
   cbv; exact dm
  exact dx
 intro w31 h s q12; replace h := oz (oz h); cbv; refine ⟨_, q12, ?_⟩; cbv; injection h with h; subst h; exact ⟨_, le_ren 1216 64000 (by decide) rfl, lR _, zo, rfl⟩
set_option maxHeartbeats 4000000
/-- impl.insertCode -/
def Fq103 (a0 : Int) (a1 : Int) (a2 : Int) : Option (Int) :=
 br (std.lt a1 a0)
 (some 2)
 (br (std.eq a1 a2)
 (some 3)
 (some 0))
theorem runq103 (a0 : Int) (a1 : Int) (a2 : Int) (r : Int) (h : Fq103 a0 a1 a2 = some r) : Fun prog 115 [.c (wi a0), .c (wi a1), .c (wi a2)] [] (.c (wi r)) [] true := by
 refine ow [] func115 ntmps115 ?_; unfold Fq103 at h; generalize hU_ : @len = U_, hG_ : @gd = G_, hA : std = A, hP : prog = P at *; cbv; revert h; refine fk ?_ ?_ <;> intro h <;> cbv
 ·exact df
 revert h; refine fk ?_ ?_ <;> intro h <;> cbv
 ·exact df
 exact df

/-- impl.deleteCode -/
def Fq104 (a0 : Int) (a1 : Int) : Option (Int) :=
 br (std.le a1 a0)
 (some 5)
 (some 0)
theorem runq104 (a0 : Int) (a1 : Int) (r : Int) (h : Fq104 a0 a1 = some r) : Fun prog 116 [.c (wi a0), .c (wi a1)] [] (.c (wi r)) [] true := by
 refine ow [] func116 ntmps116 ?_; unfold Fq104 at h; generalize hU_ : @len = U_, hG_ : @gd = G_, hA : std = A, hP : prog = P at *; cbv; revert h; refine fk ?_ ?_ <;> intro h <;> cbv
 ·exact df
 exact df

/-- impl.hasCell -/
def Fq138 (a0 : TL) (a1 : Int) : Option (Bool) :=
 ((
 (Fq21 a0).bind fun y8 =>
 br y8
 ((Fq4 a1 0 (std.sub .i64 (std.ofN (len a0.fC)) 1)).bind fun y10 =>
 some y10)
 (some false)
 ) : Option (Bool)).bind fun y1 =>
 letO y1 fun w7 =>
 some w7
theorem runq138 (a0 : TL) (a1 : Int) (r : Bool) (h : Fq138 a0 a1 = some r) : Fun prog 194 [.agg [.bs (len a0.fC) 4 (row gd (eC len gd) a0.fC)], .c (wi a1)] [] (.c (.v (.bool r))) [] true := by
 refine ow [1] func194 ntmps194 ?_; unfold Fq138 at h; have hfq21 := @runq21; have hfq4 := @runq4; generalize hU_ : @len = U_, hG_ : @gd = G_, hA : std = A, hP : prog = P at *; cbv; revert h; refine cu (fun y1 => (sp 15 [(4, .c (.v (.bool y1)))] [])) ?_ fun w7 => rz fun h => ?_
 ·intro y1 S hS h; cbv; revert h; refine rk0 (hfq21 _) fun y8 h => ?_; cbv; revert h; refine fk ?_ ?_ <;> intro h <;> cbv
  ·revert h; refine rk0 (hfq4 _ _ _) fun y10 h => ?_; cbv; exact dn
  exact dn
 cbv; exact df

/-- impl.UsersOf$1 -/
def Fq159 (a0 : TI) (a1 : Int) : Option (Bool) :=
 some (std.eq a0.fc a1)
theorem runq159 (a0 : TI) (a1 : Int) (r : Bool) (h : Fq159 a0 a1 = some r) : Fun prog 195 [.agg [wi a0.fc, wi a0.fp.fo, wi a0.fp.fX, wi a0.fp.fY, wi a0.fK, wi a0.fR, wi a0.fu, wi a0.fv], .c (.bp 1 (encI .i64 a1))] [] (.c (.v (.bool r))) [] true := by
 refine ow [] func195 ntmps195 ?_; unfold Fq159 at h; generalize hU_ : @len = U_, hG_ : @gd = G_, hA : std = A, hP : prog = P at *; cbv; exact df

def Lq86_x2 (a0 : List TI) (a1_0 : Int) : (Int) -> Option ((Int) ⊕ ((Int) ⊕ (Unit))) := fun x2 =>
 letO x2 fun v1 =>
 br (std.lt v1 (std.ofN (len a0)))
 (req (std.inR v1 (len a0)) <|
 (Fq159 (gd a0 (std.toN v1)) a1_0).bind fun y15 =>
 br y15
 (some (.inr (.inl v1)))
 (some (.inl (std.add .i64 v1 1))))
 (some (.inr (.inr ())))
/-- impl.Instance] -/
def Fq86 (a0 : List TI) (a1_0 : Int) : Option (Int) :=
 (whileP (σ := Int) (ρ := (Int) ⊕ (Unit)) (Lq86_x2 a0 a1_0) 0).bind fun y3 =>
 (match y3 with
 | .inl y3k0 => (
 letO y3k0 fun w19 =>
 some w19)
 | .inr y3m0 =>
 some (-1))
theorem runq86 (a0 : List TI) (a1_0 : Int) (r : Int) (h : Fq86 a0 a1_0 = some r) : Fun prog 238 [.c (.bs (len a0) 8 (row gd (eI) a0)), .c (.fn 195 1 fun j => ([.bp 1 (encI .i64 a1_0)] : List AC).getD j .junk)] [] (.c (wi r)) [] true := by
 refine ow [] func238 ntmps238 ?_; unfold Fq86 at h; unfold Lq86_x2 at h; have hfq159 := @runq159; generalize hU_ : @len = U_, hG_ : @gd = G_, hA : std = A, hP : prog = P at *; cbv
 revert h; refine lc (fun x => (sp 19 [(0, .c (.bs (U_ a0) 8 (row G_ (eI) a0))), (1, .c (.fn 195 1 fun j => ([.bp 1 (encI .i64 a1_0)] : List AC).getD j .junk)), (7, .c (wi (A.ofN (U_ a0)))), (8, .c (wi x))] [])) (fun y e s => (match y with | .inl w => e = .ret /\ s.le (sp 19 [(4, .c (wi w))] []) | .inr w0 => (fun (w : Unit) => e = .exit 0 /\ s.le (sp 19 [] [])) w0)) zb ?_ ?_
 ·intro v1 z h K hK hY; replace h := oz h; cbv; revert h; refine fk ?_ ?_ <;> intro h <;> cbv
  ·revert h; refine ra fun c14 h => ?_; revert h; refine rk [] [] (hfq159 _ _) (fun _ => zg (lc_ (lR _) (lc_ (le_bp (show 1 <= 1 from by decide) (by intro j hj; match j, hj with | 0, _ => exact rle_refl _ | (j_ + 1), h_ => omega)) (ln_)))) fun y15 h => ?_; cbv; revert h; refine fk ?_ ?_ <;> intro h <;> cbv
   ·exact dy
   exact dm
  exact dy
 intro y3 h e12 s13 q11 hne; rcases y3 with y3k0 | y3m0
 ·replace h := h; obtain ⟨rfl, q11⟩ := q11; revert h; refine rz fun h => ?_; cbv; injection h with h; subst h; exact ⟨_, q11, lR _, zo, rfl⟩
 ·obtain ⟨rfl, q11⟩ := q11; cbv; refine ⟨_, q11, ?_⟩; cbv; exact df

/-- impl.Instance] -/
def Fq148 (a0 : List TI) (a1_0 : Int) : Option (Bool) :=
 (Fq86 a0 a1_0).bind fun y1 =>
 some (std.le 0 y1)
theorem runq148 (a0 : List TI) (a1_0 : Int) (r : Bool) (h : Fq148 a0 a1_0 = some r) : Fun prog 168 [.c (.bs (len a0) 8 (row gd (eI) a0)), .c (.fn 195 1 fun j => ([.bp 1 (encI .i64 a1_0)] : List AC).getD j .junk)] [] (.c (.v (.bool r))) [] true := by
 refine ow [] func168 ntmps168 ?_; unfold Fq148 at h; have hfq86 := @runq86; generalize hU_ : @len = U_, hG_ : @gd = G_, hA : std = A, hP : prog = P at *; cbv
 revert h; refine rk [] [] (hfq86 _ _) (fun _ => zg (lc_ (lR _) (lc_ (le_fn (by intro j hj; match j, hj with | 0, _ => exact le_bp (show 1 <= 1 from by decide) (by intro j hj; match j, hj with | 0, _ => exact rle_refl _ | (j_ + 1), h_ => omega) | (j_ + 1), h_ => omega)) (ln_)))) fun y1 h => ?_
 cbv; exact df
end
end Go.Proofs.YtohgghncmkiicaaGreat.AM
