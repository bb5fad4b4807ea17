/-
  What the functions that the law reaches compute, and that they do. No condition.
-/
import Derived.Test.YtfoefnkbiofejaaGreatAqSW
namespace Go.Proofs.YtfoefnkbiofejaaGreat.AM
noncomputable section
open Go Go.Proofs Go.RowKit Go.Proofs.Tryz
set_option linter.unusedVariables false
set_option linter.unusedSimpArgs false
set_option maxRecDepth 100000

set_option maxHeartbeats 40000000
def Lq48_x2 (a0 : List TB) : (Int) -> Option ((Int) ⊕ ((Int) ⊕ (Unit))) := fun x2 =>
 letO x2 fun v1 =>
 br (std.lt v1 (std.ofN (len a0)))
 (req (std.inR v1 (len a0)) <|
 (Fq110 (gd a0 (std.toN v1))).bind fun y15 =>
 br y15
 (some (.inr (.inl v1)))
 (some (.inl (std.add .i64 v1 1))))
 (some (.inr (.inr ())))
/-- impl.Label] -/
def Fq48 (a0 : List TB) : Option (Int) :=
  (whileP (σ := Int) (ρ := (Int) ⊕ (Unit)) (Lq48_x2 a0) 0).bind fun y3 =>
  (match y3 with
 | .inl y3k0 => (
  letO y3k0 fun w19 =>
  some w19)
 | .inr y3m0 =>
  some (-1))
theorem runq48 (a0 : List TB) (r : Int) (h : Fq48 a0 = some r) : Fun prog 145 [.c (.bs (len a0) 4 (row gd (eL) a0)), .c (.fn 91 0 fun _ => .junk)] [] (.c (wi r)) [] true := by
 refine ow [] func145 ntmps145 ?_; unfold Fq48 at h; unfold Lq48_x2 at h; have hfq110 := @runq110; generalize hU : @len = U_, hG_ : @gd = G_, hA : std = A, hP : prog = P at *; cbv
 revert h; refine lc (fun x => (sp 19 [(0, .c (.bs (U_ a0) 4 (row G_ (eL) a0))), (1, .c (.fn 91 0 fun _ => .junk)), (7, .c (wi (A.ofN (U_ a0)))), (8, .c (wi x))] [])) (fun y e s => (match y with | .inl w => e = .ret /\ s.le (sp 19 [(4, .c (wi w))] []) | .inr w0 => (fun (w : Unit) => e = .exit 0 /\ s.le (sp 19 [] [])) w0)) zb ?_ ?_
 ·intro v1 z h K hK hY; replace h := oz h; cbv; revert h; refine fk ?_ ?_ <;> intro h <;> cbv
  ·revert h; refine ra fun c14 h => ?_; revert h; refine rk0 (hfq110 _) fun y15 h => ?_; cbv; revert h; refine fk ?_ ?_ <;> intro h <;> cbv
   ·exact dy
   exact dm
  exact dy
 intro y3 h e12 s13 q11 hne; rcases y3 with y3k0 | y3m0
 ·replace h := h; obtain ⟨rfl, q11⟩ := q11; revert h; refine rz fun h => ?_; cbv; injection h with h; subst h; exact ⟨_, q11, lR _, zo, rfl⟩
 ·obtain ⟨rfl, q11⟩ := q11; cbv; refine ⟨_, q11, ?_⟩; cbv; exact df

/-- impl.Label] -/
def Fq98 (a0 : List TB) : Option (Bool) :=
 (Fq48 a0).bind fun y1 =>
 some (std.le 0 y1)
theorem runq98 (a0 : List TB) (r : Bool) (h : Fq98 a0 = some r) : Fun prog 90 [.c (.bs (len a0) 4 (row gd (eL) a0)), .c (.fn 91 0 fun _ => .junk)] [] (.c (.v (.bool r))) [] true := by
 refine ow [] func90 ntmps90 ?_; unfold Fq98 at h; have hfq48 := @runq48; generalize hU : @len = U_, hG_ : @gd = G_, hA : std = A, hP : prog = P at *; cbv
 revert h; refine rk0 (hfq48 _) fun y1 h => ?_; cbv; exact df

/-- impl.IsValidTransform -/
def Fq100 (a0 : TM) : Option (Bool) :=
 ((
 (Fq2 a0.fo 0 7).bind fun y8 =>
 br y8
 ((Fq2 a0.fX (-80) 80).bind fun y10 =>
 br y10
 ((Fq2 a0.fY (-80) 80).bind fun y12 =>
 some y12)
 (some false))
 (some false)
 ) : Option (Bool)).bind fun y1 =>
 letO y1 fun w7 =>
 some w7
theorem runq100 (a0 : TM) (r : Bool) (h : Fq100 a0 = some r) : Fun prog 148 [.agg [wi a0.fo, wi a0.fX, wi a0.fY]] [] (.c (.v (.bool r))) [] true := by
 refine ow [1] func148 ntmps148 ?_; unfold Fq100 at h; have hfq2 := @runq2; generalize hU : @len = U_, hG_ : @gd = G_, hA : std = A, hP : prog = P at *; cbv; revert h; refine cu (fun y1 => (sp 16 [(2, .c (.v (.bool y1)))] [])) ?_ fun w7 => rz fun h => ?_
 ·intro y1 S hS h; cbv; revert h; refine rk0 (hfq2 _ _ _) fun y8 h => ?_; cbv; revert h; refine fk ?_ ?_ <;> intro h <;> cbv
  ·revert h; refine rk0 (hfq2 _ _ _) fun y10 h => ?_; cbv; revert h; refine fk ?_ ?_ <;> intro h <;> cbv
   ·revert h; refine rk0 (hfq2 _ _ _) fun y12 h => ?_; cbv; exact dn
   exact dn
  exact dn
 cbv; exact df

/-- impl.validInstance -/
def Fq38 (a0 : TI) (a1 : Int) : Option (Bool) :=
 ((
 (Fq2 a0.fc 0 (std.sub .i64 a1 1)).bind fun y8 =>
 br y8
 ((Fq100 a0.fp).bind fun y10 =>
 br y10
 ((Fq2 a0.fK 1 4).bind fun y12 =>
 br y12
 ((Fq2 a0.fR 1 4).bind fun y14 =>
 br y14
 ((Fq2 a0.fu (-80) 80).bind fun y16 =>
 br y16
 ((Fq2 a0.fv (-80) 80).bind fun y18 =>
 br y18
 (br (std.eq a0.fu 0)
 (br (std.eq a0.fv 0)
 (some true)
 (some (std.lt 1 a0.fR)))
 (br (std.lt 1 a0.fK)
 (br (std.eq a0.fv 0)
 (some true)
 (some (std.lt 1 a0.fR)))
 (some false)))
 (some false))
 (some false))
 (some false))
 (some false))
 (some false))
 (some false)
 ) : Option (Bool)).bind fun y1 =>
 letO y1 fun w7 =>
 some w7
theorem runq38 (a0 : TI) (a1 : Int) (r : Bool) (h : Fq38 a0 a1 = some r) : Fun prog 95 [.agg [wi a0.fc, wi a0.fp.fo, wi a0.fp.fX, wi a0.fp.fY, wi a0.fK, wi a0.fR, wi a0.fu, wi a0.fv], .c (wi a1)] [] (.c (.v (.bool r))) [] true := by
 refine ow [1] func95 ntmps95 ?_; unfold Fq38 at h; have hfq100 := @runq100; have hfq2 := @runq2; generalize hU : @len = U_, hG_ : @gd = G_, hA : std = A, hP : prog = P at *; cbv; revert h; refine cu (fun y1 => (sp 55 [(4, .c (.v (.bool y1)))] [])) ?_ fun w7 => rz fun h => ?_
 ·intro y1 S hS h; cbv; revert h; refine rk0 (hfq2 _ _ _) fun y8 h => ?_; cbv; revert h; refine fk ?_ ?_ <;> intro h <;> cbv
  ·revert h; refine rk0 (hfq100 _) fun y10 h => ?_; cbv; revert h; refine fk ?_ ?_ <;> intro h <;> cbv
   ·revert h; refine rk0 (hfq2 _ _ _) fun y12 h => ?_; cbv; revert h; refine fk ?_ ?_ <;> intro h <;> cbv
    ·revert h; refine rk0 (hfq2 _ _ _) fun y14 h => ?_; cbv; revert h; refine fk ?_ ?_ <;> intro h <;> cbv
     ·revert h; refine rk0 (hfq2 _ _ _) fun y16 h => ?_; cbv; revert h; refine fk ?_ ?_ <;> intro h <;> cbv
      ·revert h; refine rk0 (hfq2 _ _ _) fun y18 h => ?_; cbv; revert h; refine fk ?_ ?_ <;> intro h <;> cbv
       ·revert h; refine fk ?_ ?_ <;> intro h <;> cbv
        ·revert h; refine fk ?_ ?_ <;> intro h <;> cbv
         ·exact dn
         exact dn
        revert h; refine fk ?_ ?_ <;> intro h <;> cbv
        ·revert h; refine fk ?_ ?_ <;> intro h <;> cbv
         ·exact dn
         exact dn
        exact dn
       exact dn
      exact dn
     exact dn
    exact dn
   exact dn
  exact dn
 cbv; exact df

/-- impl.validCell$3 -/
def Fq112 (a0 : TI) (a1 : Int) : Option (Bool) :=
 (Fq38 (TI.mk a0.fc a0.fp a0.fK a0.fR a0.fu a0.fv) a1).bind fun y1 =>
 some (!(y1))
theorem runq112 (a0 : TI) (a1 : Int) (r : Bool) (h : Fq112 a0 a1 = some r) : Fun prog 94 [.agg [wi a0.fc, wi a0.fp.fo, wi a0.fp.fX, wi a0.fp.fY, wi a0.fK, wi a0.fR, wi a0.fu, wi a0.fv], .c (.bp 1 (encI .i64 a1))] [] (.c (.v (.bool r))) [] true := by
 refine ow [] func94 ntmps94 ?_; unfold Fq112 at h; have hfq38 := @runq38; generalize hU : @len = U_, hG_ : @gd = G_, hA : std = A, hP : prog = P at *; cbv; revert h; refine rk0 (hfq38 _ _) fun y1 h => ?_; cbv; exact df

def Lq45_x2 (a0 : List TI) (a1_0 : Int) : (Int) -> Option ((Int) ⊕ ((Int) ⊕ (Unit))) := fun x2 =>
 letO x2 fun v1 =>
 br (std.lt v1 (std.ofN (len a0)))
 (req (std.inR v1 (len a0)) <|
 (Fq112 (gd a0 (std.toN v1)) a1_0).bind fun y15 =>
 br y15
 (some (.inr (.inl v1)))
 (some (.inl (std.add .i64 v1 1))))
 (some (.inr (.inr ())))
/-- impl.Instance] -/
def Fq45 (a0 : List TI) (a1_0 : Int) : Option (Int) :=
  (whileP (σ := Int) (ρ := (Int) ⊕ (Unit)) (Lq45_x2 a0 a1_0) 0).bind fun y3 =>
  (match y3 with
 | .inl y3k0 => (
  letO y3k0 fun w19 =>
  some w19)
 | .inr y3m0 =>
  some (-1))
theorem runq45 (a0 : List TI) (a1_0 : Int) (r : Int) (h : Fq45 a0 a1_0 = some r) : Fun prog 147 [.c (.bs (len a0) 8 (row gd (eI) a0)), .c (.fn 94 1 fun j => ([.bp 1 (encI .i64 a1_0)] : List AC).getD j .junk)] [] (.c (wi r)) [] true := by
 refine ow [] func147 ntmps147 ?_; unfold Fq45 at h; unfold Lq45_x2 at h; have hfq112 := @runq112; generalize hU : @len = U_, hG_ : @gd = G_, hA : std = A, hP : prog = P at *; cbv
 revert h; refine lc (fun x => (sp 19 [(0, .c (.bs (U_ a0) 8 (row G_ (eI) a0))), (1, .c (.fn 94 1 fun j => ([.bp 1 (encI .i64 a1_0)] : List AC).getD j .junk)), (7, .c (wi (A.ofN (U_ a0)))), (8, .c (wi x))] [])) (fun y e s => (match y with | .inl w => e = .ret /\ s.le (sp 19 [(4, .c (wi w))] []) | .inr w0 => (fun (w : Unit) => e = .exit 0 /\ s.le (sp 19 [] [])) w0)) zb ?_ ?_
 ·intro v1 z h K hK hY; replace h := oz h; cbv; revert h; refine fk ?_ ?_ <;> intro h <;> cbv
  ·revert h; refine ra fun c14 h => ?_; revert h; refine rk [] [] (hfq112 _ _) (fun _ => zg (lc_ (lR _) (lc_ (le_bp (show 1 <= 1 from by decide) (by intro j hj; match j, hj with | 0, _ => exact rle_refl _ | (j_ + 1), h_ => omega)) (ln_)))) fun y15 h => ?_; cbv; revert h; refine fk ?_ ?_ <;> intro h <;> cbv
   ·exact dy
   exact dm
  exact dy
 intro y3 h e12 s13 q11 hne; rcases y3 with y3k0 | y3m0
 ·replace h := h; obtain ⟨rfl, q11⟩ := q11; revert h; refine rz fun h => ?_; cbv; injection h with h; subst h; exact ⟨_, q11, lR _, zo, rfl⟩
 ·obtain ⟨rfl, q11⟩ := q11; cbv; refine ⟨_, q11, ?_⟩; cbv; exact df
set_option maxHeartbeats 40000000
/-- impl.Instance] -/
def Fq102 (a0 : List TI) (a1_0 : Int) : Option (Bool) :=
 (Fq45 a0 a1_0).bind fun y1 =>
 some (std.le 0 y1)
theorem runq102 (a0 : List TI) (a1_0 : Int) (r : Bool) (h : Fq102 a0 a1_0 = some r) : Fun prog 93 [.c (.bs (len a0) 8 (row gd (eI) a0)), .c (.fn 94 1 fun j => ([.bp 1 (encI .i64 a1_0)] : List AC).getD j .junk)] [] (.c (.v (.bool r))) [] true := by
 refine ow [] func93 ntmps93 ?_; unfold Fq102 at h; have hfq45 := @runq45; generalize hU : @len = U_, hG_ : @gd = G_, hA : std = A, hP : prog = P at *; cbv
 revert h; refine rk [] [] (hfq45 _ _) (fun _ => zg (lc_ (lR _) (lc_ (le_fn (by intro j hj; match j, hj with | 0, _ => exact le_bp (show 1 <= 1 from by decide) (by intro j hj; match j, hj with | 0, _ => exact rle_refl _ | (j_ + 1), h_ => omega) | (j_ + 1), h_ => omega)) (ln_)))) fun y1 h => ?_
 cbv; exact df

/-- impl.validCell -/
def Fq4 (a0 : TC) (a1 : Int) : Option (Bool) :=
 ((
 (Fq17 a0.fN).bind fun y8 =>
 br (!(y8))
 (some true)
 (br (std.lt 24 (std.ofN (len a0.fS)))
 (some true)
 (br (std.lt 8 (std.ofN (len a0.fL)))
 (some true)
 (some (std.lt 8 (std.ofN (len a0.fI))))))
 ) : Option (Bool)).bind fun y1 =>
 letO y1 fun w7 =>
 br w7
 (some false)
 (((
 (Fq93 a0.fS).bind fun y20 =>
 br (!(y20))
 ((Fq98 a0.fL).bind fun y22 =>
 br (!(y22))
 ((Fq102 a0.fI a1).bind fun y24 =>
 some (!(y24)))
 (some false))
 (some false)
 ) : Option (Bool)).bind fun y13 =>
 letO y13 fun w19 =>
 some w19)
theorem runq4 (a0 : TC) (a1 : Int) (r : Bool) (h : Fq4 a0 a1 = some r) : Fun prog 40 [.agg [ws a0.fN, .bs (len a0.fS) 5 (row gd (eS) a0.fS), .bs (len a0.fL) 4 (row gd (eL) a0.fL), .bs (len a0.fI) 8 (row gd (eI) a0.fI)], .c (wi a1)] [] (.c (.v (.bool r))) [] true := by
 refine ow [1, 3] func40 ntmps40 ?_; unfold Fq4 at h; have hfq17 := @runq17; have hfq102 := @runq102
 have hfq98 := @runq98; have hfq93 := @runq93; generalize hU : @len = U_, hG_ : @gd = G_, hA : std = A, hP : prog = P at *; cbv
 revert h; refine cu (fun y1 => (sp 44 [(2, .c (.ptr 128 0)), (3, .c (.ptr 192 0)), (26, .c (.v (.bool y1)))] [(128, .var [ws a0.fN, .bs (U_ a0.fS) 5 (row G_ (eS) a0.fS), .bs (U_ a0.fL) 4 (row G_ (eL) a0.fL), .bs (U_ a0.fI) 8 (row G_ (eI) a0.fI)]), (192, .var [wi a1])])) ?_ fun w7 => rz fun h => ?_
 ·intro y1 S hS h; cbv; revert h; refine rk0 (hfq17 _) fun y8 h => ?_; cbv; revert h; refine fk ?_ ?_ <;> intro h <;> cbv
  ·exact dn
  revert h; refine fk ?_ ?_ <;> intro h <;> cbv
  ·exact dn
  revert h; refine fk ?_ ?_ <;> intro h <;> cbv
  ·exact dn
  exact dn
 cbv; revert h; refine fk ?_ ?_ <;> intro h <;> cbv
 ·exact df
 revert h; refine cu (fun y13 => (sp 44 [(4, .c (.v (.bool y13)))] [])) ?_ fun w19 => rz fun h => ?_
 ·intro y13 S hS h; cbv; revert h; refine rk0 (hfq93 _) fun y20 h => ?_; cbv; revert h; refine fk ?_ ?_ <;> intro h <;> cbv
  ·revert h; refine rk0 (hfq98 _) fun y22 h => ?_; cbv; revert h; refine fk ?_ ?_ <;> intro h <;> cbv
   ·revert h; refine rk [] [] (hfq102 _ _) (fun _ => zg (lc_ (lR _) (lc_ (le_fn (by intro j hj; match j, hj with | 0, _ => exact le_bp (show 1 <= 1 from by decide) (by intro j hj; match j, hj with | 0, _ => exact rle_refl _ | (j_ + 1), h_ => omega) | (j_ + 1), h_ => omega)) (ln_)))) fun y24 h => ?_
    cbv; exact dn
   exact dn
  exact dn
 cbv; exact df

/-- impl.named$1 -/
def Fq109 (a0 : TC) (a1 : ByteArray) : Option (Bool) :=
 some (std.seq a0.fN a1)
theorem runq109 (a0 : TC) (a1 : ByteArray) (r : Bool) (h : Fq109 a0 a1 = some r) : Fun prog 97 [.agg [ws a0.fN, .bs (len a0.fS) 5 (row gd (eS) a0.fS), .bs (len a0.fL) 4 (row gd (eL) a0.fL), .bs (len a0.fI) 8 (row gd (eI) a0.fI)], .c (.bp 1 (encS a1))] [] (.c (.v (.bool r))) [] true := by
 refine ow [] func97 ntmps97 ?_; unfold Fq109 at h; generalize hU : @len = U_, hG_ : @gd = G_, hA : std = A, hP : prog = P at *; cbv; exact df

def Lq43_x2 (a0 : List TC) (a1_0 : ByteArray) : (Int) -> Option ((Int) ⊕ ((Int) ⊕ (Unit))) := fun x2 =>
 letO x2 fun v1 =>
 br (std.lt v1 (std.ofN (len a0)))
 (req (std.inR v1 (len a0)) <|
 (Fq109 (gd a0 (std.toN v1)) a1_0).bind fun y15 =>
 br y15
 (some (.inr (.inl v1)))
 (some (.inl (std.add .i64 v1 1))))
 (some (.inr (.inr ())))
/-- impl.Cell] -/
def Fq43 (a0 : List TC) (a1_0 : ByteArray) : Option (Int) :=
  (whileP (σ := Int) (ρ := (Int) ⊕ (Unit)) (Lq43_x2 a0 a1_0) 0).bind fun y3 =>
  (match y3 with
 | .inl y3k0 => (
  letO y3k0 fun w19 =>
  some w19)
 | .inr y3m0 =>
  some (-1))
theorem runq43 (a0 : List TC) (a1_0 : ByteArray) (r : Int) (h : Fq43 a0 a1_0 = some r) : Fun prog 96 [.c (.bs (len a0) 4 (row gd (eC len gd) a0)), .c (.fn 97 1 fun j => ([.bp 1 (encS a1_0)] : List AC).getD j .junk)] [] (.c (wi r)) [] true := by
 refine ow [] func96 ntmps96 ?_; unfold Fq43 at h; unfold Lq43_x2 at h; have hfq109 := @runq109; generalize hU : @len = U_, hG_ : @gd = G_, hA : std = A, hP : prog = P at *; cbv
 revert h; refine lc (fun x => (sp 19 [(0, .c (.bs (U_ a0) 4 (row G_ (eC U_ G_) a0))), (1, .c (.fn 97 1 fun j => ([.bp 1 (encS a1_0)] : List AC).getD j .junk)), (7, .c (wi (A.ofN (U_ a0)))), (8, .c (wi x))] [])) (fun y e s => (match y with | .inl w => e = .ret /\ s.le (sp 19 [(4, .c (wi w))] []) | .inr w0 => (fun (w : Unit) => e = .exit 0 /\ s.le (sp 19 [] [])) w0)) zb ?_ ?_
 ·intro v1 z h K hK hY; replace h := oz h; cbv; revert h; refine fk ?_ ?_ <;> intro h <;> cbv
  ·revert h; refine ra fun c14 h => ?_; revert h; refine rk [] [] (hfq109 _ _) (fun _ => zg (lc_ (lR _) (lc_ (le_bp (show 1 <= 1 from by decide) (by intro j hj; match j, hj with | 0, _ => exact rle_refl _ | (j_ + 1), h_ => omega)) (ln_)))) fun y15 h => ?_; cbv; revert h; refine fk ?_ ?_ <;> intro h <;> cbv
   ·exact dy
   exact dm
  exact dy
 intro y3 h e12 s13 q11 hne; rcases y3 with y3k0 | y3m0
 ·replace h := h; obtain ⟨rfl, q11⟩ := q11; revert h; refine rz fun h => ?_; cbv; injection h with h; subst h; exact ⟨_, q11, lR _, zo, rfl⟩
 ·obtain ⟨rfl, q11⟩ := q11; cbv; refine ⟨_, q11, ?_⟩; cbv; exact df

/-- impl.named -/
def Fq7 (a0 : TL) (a1 : ByteArray) : Option (Int) :=
 (Fq43 a0.fC a1).bind fun y1 =>
 some y1
theorem runq7 (a0 : TL) (a1 : ByteArray) (r : Int) (h : Fq7 a0 a1 = some r) : Fun prog 41 [.agg [.bs (len a0.fC) 4 (row gd (eC len gd) a0.fC)], .c (ws a1)] [] (.c (wi r)) [] true := by
 refine ow [] func41 ntmps41 ?_; unfold Fq7 at h; have hfq43 := @runq43; generalize hU : @len = U_, hG_ : @gd = G_, hA : std = A, hP : prog = P at *; cbv
 revert h; refine rk [] [] (hfq43 _ _) (fun _ => zg (lc_ (lR _) (lc_ (le_fn (by intro j hj; match j, hj with | 0, _ => exact le_bp (show 1 <= 1 from by decide) (by intro j hj; match j, hj with | 0, _ => exact rle_refl _ | (j_ + 1), h_ => omega) | (j_ + 1), h_ => omega)) (ln_)))) fun y1 h => ?_
 cbv; exact df

def Lq3_x10 (a0 : TL) : (Int) -> Option ((Int) ⊕ ((Bool) ⊕ (Unit))) := fun x10 =>
 letO x10 fun v9 =>
 br (std.lt v9 (std.ofN (len a0.fC)))
 (req (std.inR v9 (len a0.fC)) <|
 ((
 (Fq4 (gd a0.fC (std.toN v9)) v9).bind fun y30 =>
 br (!(y30))
 (some true)
 ((Fq7 (TL.mk a0.fC) (gd a0.fC (std.toN v9)).fN).bind fun y32 =>
 some (std.not (std.eq y32 v9)))
 ) : Option (Bool)).bind fun y23 =>
 letO y23 fun w29 =>
 br w29
 (some (.inr (.inl false)))
 (some (.inl (std.add .i64 v9 1))))
 (some (.inr (.inr ())))
/-- impl.IsValidLibrary -/
def Fq3 (a0 : TL) : Option (Bool) :=
  ((
  br (std.lt (std.ofN (len a0.fC)) 1)
  (some true)
  (some (std.lt 8 (std.ofN (len a0.fC))))
  ) : Option (Bool)).bind fun y1 =>
  letO y1 fun w7 =>
  br w7
  (some false)
  ((whileP (σ := Int) (ρ := (Bool) ⊕ (Unit)) (Lq3_x10 a0) 0).bind fun y11 =>
  (match y11 with
 | .inl y11k0 => (
  letO y11k0 fun w37 =>
  some w37)
 | .inr y11m0 =>
  some true))
theorem runq3 (a0 : TL) (r : Bool) (h : Fq3 a0 = some r) : Fun prog 19 [.agg [.bs (len a0.fC) 4 (row gd (eC len gd) a0.fC)]] [] (.c (.v (.bool r))) [] true := by
 refine ow [1, 6] func19 ntmps19 ?_; unfold Fq3 at h; unfold Lq3_x10 at h; have hfq7 := @runq7; have hfq4 := @runq4; generalize hU : @len = U_, hG_ : @gd = G_, hA : std = A, hP : prog = P at *; cbv
 revert h; refine cu (fun y1 => (sp 36 [(1, .c (.ptr 64 0)), (14, .c (.v (.bool y1)))] [(64, .var [.bs (U_ a0.fC) 4 (row G_ (eC U_ G_) a0.fC)])])) (fun y1 S hS h => rg) fun w7 => rz fun h => ?_; cbv; revert h; refine fk ?_ ?_ <;> intro h <;> cbv
 ·exact df
 revert h; refine lc (fun x => (sp 36 [(1, .c (.ptr 64 0)), (16, .c (.bs (U_ a0.fC) 4 (row G_ (eC U_ G_) a0.fC))), (17, .c (wi (A.ofN (U_ a0.fC)))), (18, .c (wi x))] [(64, .var [.bs (U_ a0.fC) 4 (row G_ (eC U_ G_) a0.fC)])])) (fun y e s => (match y with | .inl w => e = .ret /\ s.le (sp 36 [(2, .c (.v (.bool w)))] []) | .inr w0 => (fun (w : Unit) => e = .exit 0 /\ s.le (sp 36 [] [])) w0)) zb ?_ ?_
 ·intro v9 z h K hK hY; replace h := oz h; cbv; revert h; refine fk ?_ ?_ <;> intro h <;> cbv
  ·revert h; refine ra fun c22 h => ?_; revert h; refine cu (fun y23 => (sp 36 [(1, .c (.ptr 64 0)), (16, .c (.bs (U_ a0.fC) 4 (row G_ (eC U_ G_) a0.fC))), (17, .c (wi (A.ofN (U_ a0.fC)))), (18, .c (wi v9)), (34, .c (.v (.bool y23)))] [(64, .var [.bs (U_ a0.fC) 4 (row G_ (eC U_ G_) a0.fC)])])) ?_ fun w29 => rz fun h => ?_
   ·intro y23 S hS h; cbv; revert h; refine rk0 (hfq4 _ _) fun y30 h => ?_; cbv; revert h; refine fk ?_ ?_ <;> intro h <;> cbv
    ·exact dn
    revert h; refine rk0 (hfq7 _ _) fun y32 h => ?_; cbv; exact dn
   cbv; revert h; refine fk ?_ ?_ <;> intro h <;> cbv
   ·exact dy
   exact dm
  exact dy
 intro y11 h e20 s21 q19 hne; rcases y11 with y11k0 | y11m0
 ·replace h := h; obtain ⟨rfl, q19⟩ := q19; revert h; refine rz fun h => ?_; cbv; injection h with h; subst h; exact ⟨_, q19, lR _, zo, rfl⟩
 ·obtain ⟨rfl, q19⟩ := q19; cbv; refine ⟨_, q19, ?_⟩; cbv; exact df
set_option maxHeartbeats 40000000
/-- impl.Shape] -/
def Fq92 (a0 : List TS) : Option (List TS) :=
 nilB (len a0)
 (some ([] : List TS))
 (letO ([] : List TS) fun l1 =>
 req (std.room (std.nadd (len l1) (len a0)) 40) <|
 letO (l1 ++ a0) fun l3 =>
 some l3)
theorem runq92 (a0 : List TS) (r : List TS) (h : Fq92 a0 = some r) : Fun prog 134 [.c (.bs (len a0) 5 (row gd (eS) a0))] [] (.c (.os 64000 0 (len r))) [(64000, .arr .rw [] (len r) 5 (row gd (eS) r))] true := by
 refine ow [] func134 ntmps134 ?_ (hv := (fun _ => ⟨trivial, ⟨fun i _ j _ => val_flat (vl_encShape _ _), tv⟩⟩)); unfold Fq92 at h; generalize hU : @len = U_, hG_ : @gd = G_, hA : std = A, hP : prog = P at *; cbv; obtain ⟨h, hz7⟩ := of_nilB h; refine And.intro (fun hn6 => ?_) ?_
 ·have h := hz7 hn6; clear hz7; cbv; injection h with h; subst h; refine ⟨(sp 8 [(2, .c (.os 64000 0 (U_ ([] : List TS))))] [(64000, .arr .rw [] (U_ ([] : List TS)) 5 (row G_ (eS) ([] : List TS)))]), ?_, ?_⟩
  ·refine St.le_trans (le_nilT 2 64000 5 (row G_ (eS) ([] : List TS)) (by decide) rfl) ?_; subst hU; exact zb
  ·subst hU; exact ⟨lR _, zo, rfl⟩
 ·clear hz7; cbv; revert h; refine rl fun l1 hl1 h => ?_; have e2 : 0 = U_ l1 := by subst hl1 hU; rfl
  refine ⟨_, (co e2), _, row G_ (eS) l1, e2, wO ?_, ?_⟩
  ·intro i hi j hj; rw [<- e2] at hi; subst hl1; subst hG_; omega
  cbv; revert h; refine rq fun c5 => rl fun l3 hl3 h => ?_; have e4 := nl hA hU hl3; refine ⟨c5, _, (co e4), _, row G_ (eS) l3, e4, wO ?_, ?_⟩
  ·subst hG_ hU hA; exact app_bs (pl_encShape) hl3 (Nat.le_refl _)
  cbv; injection h with h; subst h; exact ⟨_, le_ren 320 64000 (by decide) rfl, lR _, zo, rfl⟩

/-- impl.Label] -/
def Fq88 (a0 : List TB) : Option (List TB) :=
 nilB (len a0)
 (some ([] : List TB))
 (letO ([] : List TB) fun l1 =>
 req (std.room (std.nadd (len l1) (len a0)) 40) <|
 letO (l1 ++ a0) fun l3 =>
 some l3)
theorem runq88 (a0 : List TB) (r : List TB) (h : Fq88 a0 = some r) : Fun prog 135 [.c (.bs (len a0) 4 (row gd (eL) a0))] [] (.c (.os 64000 0 (len r))) [(64000, .arr .rw [] (len r) 4 (row gd (eL) r))] true := by
 refine ow [] func135 ntmps135 ?_ (hv := (fun _ => ⟨trivial, ⟨fun i _ j _ => val_flat (vl_encLabel _ _), tv⟩⟩)); unfold Fq88 at h; generalize hU : @len = U_, hG_ : @gd = G_, hA : std = A, hP : prog = P at *; cbv; obtain ⟨h, hz7⟩ := of_nilB h; refine And.intro (fun hn6 => ?_) ?_
 ·have h := hz7 hn6; clear hz7; cbv; injection h with h; subst h; refine ⟨(sp 8 [(2, .c (.os 64000 0 (U_ ([] : List TB))))] [(64000, .arr .rw [] (U_ ([] : List TB)) 4 (row G_ (eL) ([] : List TB)))]), ?_, ?_⟩
  ·refine St.le_trans (le_nilT 2 64000 4 (row G_ (eL) ([] : List TB)) (by decide) rfl) ?_; subst hU; exact zb
  ·subst hU; exact ⟨lR _, zo, rfl⟩
 ·clear hz7; cbv; revert h; refine rl fun l1 hl1 h => ?_; have e2 : 0 = U_ l1 := by subst hl1 hU; rfl
  refine ⟨_, (co e2), _, row G_ (eL) l1, e2, wO ?_, ?_⟩
  ·intro i hi j hj; rw [<- e2] at hi; subst hl1; subst hG_; omega
  cbv; revert h; refine rq fun c5 => rl fun l3 hl3 h => ?_; have e4 := nl hA hU hl3; refine ⟨c5, _, (co e4), _, row G_ (eL) l3, e4, wO ?_, ?_⟩
  ·subst hG_ hU hA; exact app_bs (pl_encLabel) hl3 (Nat.le_refl _)
  cbv; injection h with h; subst h; exact ⟨_, le_ren 320 64000 (by decide) rfl, lR _, zo, rfl⟩

/-- impl.Instance] -/
def Fq99 (a0 : List TI) : Option (List TI) :=
 nilB (len a0)
 (some ([] : List TI))
 (letO ([] : List TI) fun l1 =>
 req (std.room (std.nadd (len l1) (len a0)) 64) <|
 letO (l1 ++ a0) fun l3 =>
 some l3)
theorem runq99 (a0 : List TI) (r : List TI) (h : Fq99 a0 = some r) : Fun prog 136 [.c (.bs (len a0) 8 (row gd (eI) a0))] [] (.c (.os 64000 0 (len r))) [(64000, .arr .rw [] (len r) 8 (row gd (eI) r))] true := by
 refine ow [] func136 ntmps136 ?_ (hv := (fun _ => ⟨trivial, ⟨fun i _ j _ => val_flat (vl_encInstance _ _), tv⟩⟩)); unfold Fq99 at h; generalize hU : @len = U_, hG_ : @gd = G_, hA : std = A, hP : prog = P at *; cbv; obtain ⟨h, hz7⟩ := of_nilB h; refine And.intro (fun hn6 => ?_) ?_
 ·have h := hz7 hn6; clear hz7; cbv; injection h with h; subst h; refine ⟨(sp 8 [(2, .c (.os 64000 0 (U_ ([] : List TI))))] [(64000, .arr .rw [] (U_ ([] : List TI)) 8 (row G_ (eI) ([] : List TI)))]), ?_, ?_⟩
  ·refine St.le_trans (le_nilT 2 64000 8 (row G_ (eI) ([] : List TI)) (by decide) rfl) ?_; subst hU; exact zb
  ·subst hU; exact ⟨lR _, zo, rfl⟩
 ·clear hz7; cbv; revert h; refine rl fun l1 hl1 h => ?_; have e2 : 0 = U_ l1 := by subst hl1 hU; rfl
  refine ⟨_, (co e2), _, row G_ (eI) l1, e2, wO ?_, ?_⟩
  ·intro i hi j hj; rw [<- e2] at hi; subst hl1; subst hG_; omega
  cbv; revert h; refine rq fun c5 => rl fun l3 hl3 h => ?_; have e4 := nl hA hU hl3; refine ⟨c5, _, (co e4), _, row G_ (eI) l3, e4, wO ?_, ?_⟩
  ·subst hG_ hU hA; exact app_bs (pl_encInstance) hl3 (Nat.le_refl _)
  cbv; injection h with h; subst h; exact ⟨_, le_ren 320 64000 (by decide) rfl, lR _, zo, rfl⟩

/-- impl.copyCell -/
def Fq81 (a0 : TC) : Option (TC) :=
 (Fq92 a0.fS).bind fun y1 =>
 (Fq88 a0.fL).bind fun y3 =>
 (Fq99 a0.fI).bind fun y5 =>
 some (TC.mk a0.fN y1 y3 y5)
theorem runq81 (a0 : TC) (r : TC) (h : Fq81 a0 = some r) : Fun prog 78 [.agg [ws a0.fN, .bs (len a0.fS) 5 (row gd (eS) a0.fS), .bs (len a0.fL) 4 (row gd (eL) a0.fL), .bs (len a0.fI) 8 (row gd (eI) a0.fI)]] [] (.agg [ws r.fN, .os 64000 0 (len r.fS), .os 64002 0 (len r.fL), .os 64004 0 (len r.fI)]) [(64000, .arr .rw [] (len r.fS) 5 (row gd (eS) r.fS)), (64002, .arr .rw [] (len r.fL) 4 (row gd (eL) r.fL)), (64004, .arr .rw [] (len r.fI) 8 (row gd (eI) r.fI))] true := by
 refine ow [] func78 ntmps78 ?_ (hv := (fun _ => ⟨(by simp [AV.flat, AV.flat1, AC.flat]), ⟨fun i _ j _ => val_flat (vl_encShape _ _), fun i _ j _ => val_flat (vl_encLabel _ _), fun i _ j _ => val_flat (vl_encInstance _ _), tv⟩⟩)); unfold Fq81 at h; have hfq99 := @runq99
 have hfq88 := @runq88; have hfq92 := @runq92; generalize hU : @len = U_, hG_ : @gd = G_, hA : std = A, hP : prog = P at *; cbv
 revert h; refine rk [] [(64000, 448)] (hfq92 _) (fun _ => zf) fun y1 h => ⟨_, rfl, _, _, rfl, fun _ _ _ _ => .refl _, ?_⟩
 cbv; revert h; refine rk [] [(64000, 640)] (hfq88 _) (fun _ => zf) fun y3 h => ⟨_, rfl, _, _, rfl, fun _ _ _ _ => .refl _, ?_⟩
 cbv; revert h; refine rk [] [(64000, 832)] (hfq99 _) (fun _ => zf) fun y5 h => ⟨_, rfl, _, _, rfl, fun _ _ _ _ => .refl _, ?_⟩
 cbv; injection h with h; subst h; exact ⟨_, St.le_trans (le_ren 448 64000 (by decide) rfl) (St.le_trans (le_ren 640 64002 (by decide) rfl) ((le_ren 832 64004 (by decide) rfl))), lR _, zo, rfl⟩

def Lq12_x3 (a0 : TL) : (Int × (List TC)) -> Option ((Int × (List TC)) ⊕ (((List TC)))) := fun x3 =>
 letO x3.1 fun v1 =>
 letO x3.2 fun v2 =>
 br (std.lt v1 (std.ofN (len a0.fC)))
 (req (std.inR v1 (len a0.fC)) <|
 ((
 (Fq81 (gd a0.fC (std.toN v1))).bind fun y23 =>
 letO ([y23] : List TC) fun l25 =>
 req (std.room (std.nadd (len v2) (len l25)) 88) <|
 letO (v2 ++ l25) fun l27 =>
 some l27
 ) : Option ((List TC))).bind fun y16 =>
 letO y16 fun w22 =>
 some (.inl (std.add .i64 v1 1, w22)))
 (some (.inr v2))
/-- impl.copyLibrary -/
def Fq12 (a0 : TL) : Option (TL) :=
 (whileP (σ := Int × (List TC)) (ρ := ((List TC))) (Lq12_x3 a0) (0, ([] : List TC))).bind fun y4 =>
 letO y4 fun y4k0 =>
 letO y4k0 fun w31 =>
 some (TL.mk w31)
theorem runq12 (a0 : TL) (r : TL) (h : Fq12 a0 = some r) : Fun prog 35 [.agg [.bs (len a0.fC) 4 (row gd (eC len gd) a0.fC)]] [] (.agg [.os 64000 0 (len r.fC)]) [(64000, .arr .rw [] (len r.fC) 4 (row gd (oC len gd) r.fC))] true := by
 refine ow [5] func35 ntmps35 ?_ (hv := (fun _ => ⟨(by simp [AV.flat, AV.flat1, AC.flat]), ⟨fun i _ j _ => fl_oncCell _ _, tv⟩⟩)); unfold Fq12 at h; unfold Lq12_x3 at h; have hfq81 := @runq81; generalize hU : @len = U_, hG_ : @gd = G_, hA : std = A, hP : prog = P at *; cbv
 revert h; refine ln (.exit 0) (fun x => (sp 23 [(2, .c (.ptr 128 0)), (3, .c (.ptr 192 0)), (8, .c (.bs (U_ a0.fC) 4 (row G_ (eC U_ G_) a0.fC))), (9, .c (wi (A.ofN (U_ a0.fC)))), (10, .c (wi x.1))] [(128, .var [.v (.slice none 0 0)]), (192, .var [.os 1216 0 (U_ x.2)]), (1216, .arr .rw [] (U_ x.2) 4 (row G_ (oC U_ G_) x.2))])) (fun w => (sp 23 [(2, .c (.ptr 128 0)), (3, .c (.ptr 192 0))] [(128, .var [.v (.slice none 0 0)]), (192, .var [.os 1216 0 (U_ w)]), (1216, .arr .rw [] (U_ w) 4 (row G_ (oC U_ G_) w))])) ?_ ?_ ?_
 ·show St.le _ _; refine St.le_trans (le_nilV 192 0 1216 4 (row G_ (oC U_ G_) ([] : List TC)) (by decide) (by decide) rfl rfl) ?_; subst hU; exact zb
 ·rintro ⟨v1, v2⟩ z h K hK hY; replace h := oz (oz h); dsimp only at h; cbv; revert h; refine fk ?_ ?_ <;> intro h <;> cbv
  ·revert h; refine ra fun c15 h => ?_
   revert h; refine cu (fun y16 => (sp 23 [(2, .c (.ptr 128 0)), (3, .c (.ptr 192 0)), (8, .c (.bs (U_ a0.fC) 4 (row G_ (eC U_ G_) a0.fC))), (9, .c (wi (A.ofN (U_ a0.fC)))), (10, .c (wi v1))] [(128, .var [.v (.slice none 0 0)]), (192, .var [.os 1216 0 (U_ y16)]), (1216, .arr .rw [] (U_ y16) 4 (row G_ (oC U_ G_) y16))])) ?_ fun w22 => rz fun h => ?_
   ·intro y16 S hS h; cbv; revert h; refine rk [] [(64000, 1088), (64002, 1090), (64004, 1092)] (hfq81 _) (fun _ => zf) fun y23 h => ⟨_, rfl, _, _, rfl, fun _ _ _ _ => .refl _, _, _, rfl, fun _ _ _ _ => .refl _, _, _, rfl, fun _ _ _ _ => .refl _, ?_⟩
    cbv; revert h; refine rl fun l25 hl25 h => ?_; have e26 : 1 = U_ l25 := by subst hl25 hU; rfl
    refine ⟨_, (co e26), _, (pC (fun _ _ => AC.junk) 0 [ws y23.fN, .os 1088 0 (U_ y23.fS), .os 1090 0 (U_ y23.fL), .os 1092 0 (U_ y23.fI)]), e26, wO ?_, ?_⟩
    ·refine patch_one (by subst hl25 hU; rfl) ?_; exact zr
    cbv; revert h; refine rq fun c29 => rl fun l27 hl27 h => ?_; have e28 := nl hA hU hl27; refine ⟨c29, _, (co e28), _, (pC (row G_ (oC U_ G_) v2) (U_ v2) [ws y23.fN, .os 1088 0 (U_ y23.fS), .os 1090 0 (U_ y23.fL), .os 1092 0 (U_ y23.fI)]), e28, wO ?_, ?_⟩
    ·subst hU hA; refine patch_joinG (by first | (rw [hl27]; simp [len]; done) | (rw [hl27]; simp [len]; omega) | (subst_vars; simp [len])) ?_; exact zr
    cbv; rw [hl25] at hl27; injection h with h; subst h; subst hS; show St.le _ _; refine St.le_trans (le_foldP 1216 1 1088 rfl rfl rfl (by decide) (by subst hU; exact app_lt hl27) (by decide) rfl (fun _ _ => rC _ _)) ?_; refine St.le_trans (le_foldP 1216 2 1090 rfl rfl rfl (by decide) (by subst hU; exact app_lt hl27) (by decide) rfl (fun _ _ => rC _ _)) ?_
    refine St.le_trans (le_foldP 1216 3 1092 rfl rfl rfl (by decide) (by subst hU; exact app_lt hl27) (by decide) rfl (fun _ _ => rC _ _)) ?_; exact lsp rfl zl ⟨rfl, rfl, oP (fun _ _ => rC _ _) (by subst hG_ hU hA; exact patch_app hl27 (Nat.le_refl _) zr), tv⟩ rfl
   cbv; exact dm
  exact dx
 intro w31 h s q12; replace h := oz (oz h); cbv; refine ⟨_, q12, ?_⟩; cbv; injection h with h; subst h; exact ⟨_, le_ren 1216 64000 (by decide) rfl, lR _, zo, rfl⟩

/-- impl.NewEditor -/
def Fq76 (a0 : TL) : Option (TD_ × Bool) :=
 (Fq3 (TL.mk a0.fC)).bind fun y1 =>
 br (!(y1))
 (some ((TD_.mk (TL.mk ([] : List TC)) ([] : List (List TE)) ([] : List (List TE))), false))
 ((Fq12 (TL.mk a0.fC)).bind fun y3 =>
 some ((TD_.mk y3 ([] : List (List TE)) ([] : List (List TE))), true))
theorem runq76 (a0 : TL) (r : TD_ × Bool) (h : Fq76 a0 = some r) : Fun prog 14 [.agg [.bs (len a0.fC) 4 (row gd (eC len gd) a0.fC)]] [] (.tup [.agg [.os 64000 0 (len r.1.fr_.fC), .v (.slice none 0 0), .v (.slice none 0 0)], .c (.v (.bool r.2))]) [(64000, .arr .rw [] (len r.1.fr_.fC) 4 (row gd (oC len gd) r.1.fr_.fC))] true := by
 refine ow [] func14 ntmps14 ?_ (hv := (fun _ => ⟨(by simp [AV.flat, AV.flat1, AC.flat]), ⟨fun i _ j _ => fl_oncCell _ _, tv⟩⟩)); unfold Fq76 at h; have hfq3 := @runq3; have hfq12 := @runq12; generalize hU : @len = U_, hG_ : @gd = G_, hA : std = A, hP : prog = P at *; cbv
 revert h; refine rk0 (hfq3 _) fun y1 h => ?_; cbv; revert h; refine fk ?_ ?_ <;> intro h <;> cbv
 ·injection h with h; subst h; refine ⟨(sp 11 [(2, .c (.ptr 128 0)), (3, .c (.v (.bool false)))] [(128, .var [.os 64000 0 (U_ ([] : List TC)), .v (.slice none 0 0), .v (.slice none 0 0)]), (64000, .arr .rw [] (U_ ([] : List TC)) 4 (row G_ (oC U_ G_) ([] : List TC)))]), ?_, ?_⟩
  ·refine St.le_trans (le_nilV 128 0 64000 4 (row G_ (oC U_ G_) ([] : List TC)) (by decide) (by decide) rfl rfl) ?_; subst hU; exact zb
  ·subst hU; exact ⟨lR _, zo, rfl⟩
 revert h; refine rk [] [(64000, 576)] (hfq12 _) (fun _ => zf) fun y3 h => ⟨_, rfl, _, _, rfl, fun _ _ _ _ => .refl _, ?_⟩
 cbv; injection h with h; subst h; exact ⟨_, le_ren 576 64000 (by decide) rfl, lR _, zo, rfl⟩
set_option maxHeartbeats 40000000
/-- impl.IsValidEdit -/
def Fq47 (a0 : TE) : Option (Bool) :=
  ((
  (Fq2 a0.fc 0 8).bind fun y8 =>
  br (!(y8))
  (some true)
  ((Fq2 a0.fx 0 24).bind fun y10 =>
  some (!(y10)))
  ) : Option (Bool)).bind fun y1 =>
  letO y1 fun w7 =>
  br w7
  (some false)
  (br (std.eq a0.fk_ 1)
  (((
  br (std.band (std.eq a0.fk_ a0.fk_) (std.band (std.eq a0.fc a0.fc) (std.band (std.eq a0.fx a0.fx) (std.band (std.seq (ByteArray.mk #[]) a0.fN) (std.band (std.band (std.eq a0.fs_.fy a0.fs_.fy) (std.band (std.band (std.eq a0.fs_.fb.fX0 a0.fs_.fb.fX0) (std.band (std.eq a0.fs_.fb.fY0 a0.fs_.fb.fY0) (std.band (std.eq a0.fs_.fb.fX1 a0.fs_.fb.fX1) (std.band (std.eq a0.fs_.fb.fY1 a0.fs_.fb.fY1) (true))))) (true))) (std.band (std.band (std.eq 0 a0.fl_.fy) (std.band (std.band (std.eq 0 a0.fl_.fa.fX) (std.band (std.eq 0 a0.fl_.fa.fY) (true))) (std.band (std.seq (ByteArray.mk #[]) a0.fl_.fN) (true)))) (std.band (std.band (std.eq 0 a0.fi_.fc) (std.band (std.band (std.eq 0 a0.fi_.fp.fo) (std.band (std.eq 0 a0.fi_.fp.fX) (std.band (std.eq 0 a0.fi_.fp.fY) (true)))) (std.band (std.eq 0 a0.fi_.fK) (std.band (std.eq 0 a0.fi_.fR) (std.band (std.eq 0 a0.fi_.fu) (std.band (std.eq 0 a0.fi_.fv) (true))))))) (true))))))))
  ((Fq55 a0.fs_).bind fun y20 =>
  some y20)
  (some false)
  ) : Option (Bool)).bind fun y13 =>
  letO y13 fun w19 =>
  some w19)
  (br (std.eq a0.fk_ 3)
  (((
  br (std.band (std.eq a0.fk_ a0.fk_) (std.band (std.eq a0.fc a0.fc) (std.band (std.eq a0.fx a0.fx) (std.band (std.seq (ByteArray.mk #[]) a0.fN) (std.band (std.band (std.eq 0 a0.fs_.fy) (std.band (std.band (std.eq 0 a0.fs_.fb.fX0) (std.band (std.eq 0 a0.fs_.fb.fY0) (std.band (std.eq 0 a0.fs_.fb.fX1) (std.band (std.eq 0 a0.fs_.fb.fY1) (true))))) (true))) (std.band (std.band (std.eq a0.fl_.fy a0.fl_.fy) (std.band (std.band (std.eq a0.fl_.fa.fX a0.fl_.fa.fX) (std.band (std.eq a0.fl_.fa.fY a0.fl_.fa.fY) (true))) (std.band (std.seq a0.fl_.fN a0.fl_.fN) (true)))) (std.band (std.band (std.eq 0 a0.fi_.fc) (std.band (std.band (std.eq 0 a0.fi_.fp.fo) (std.band (std.eq 0 a0.fi_.fp.fX) (std.band (std.eq 0 a0.fi_.fp.fY) (true)))) (std.band (std.eq 0 a0.fi_.fK) (std.band (std.eq 0 a0.fi_.fR) (std.band (std.eq 0 a0.fi_.fu) (std.band (std.eq 0 a0.fi_.fv) (true))))))) (true))))))))
  ((Fq57 a0.fl_).bind fun y30 =>
  some y30)
  (some false)
  ) : Option (Bool)).bind fun y23 =>
  letO y23 fun w29 =>
  some w29)
  (br (std.eq a0.fk_ 5)
  (((
  br (std.band (std.eq a0.fk_ a0.fk_) (std.band (std.eq a0.fc a0.fc) (std.band (std.eq a0.fx a0.fx) (std.band (std.seq (ByteArray.mk #[]) a0.fN) (std.band (std.band (std.eq 0 a0.fs_.fy) (std.band (std.band (std.eq 0 a0.fs_.fb.fX0) (std.band (std.eq 0 a0.fs_.fb.fY0) (std.band (std.eq 0 a0.fs_.fb.fX1) (std.band (std.eq 0 a0.fs_.fb.fY1) (true))))) (true))) (std.band (std.band (std.eq 0 a0.fl_.fy) (std.band (std.band (std.eq 0 a0.fl_.fa.fX) (std.band (std.eq 0 a0.fl_.fa.fY) (true))) (std.band (std.seq (ByteArray.mk #[]) a0.fl_.fN) (true)))) (std.band (std.band (std.eq a0.fi_.fc a0.fi_.fc) (std.band (std.band (std.eq a0.fi_.fp.fo a0.fi_.fp.fo) (std.band (std.eq a0.fi_.fp.fX a0.fi_.fp.fX) (std.band (std.eq a0.fi_.fp.fY a0.fi_.fp.fY) (true)))) (std.band (std.eq a0.fi_.fK a0.fi_.fK) (std.band (std.eq a0.fi_.fR a0.fi_.fR) (std.band (std.eq a0.fi_.fu a0.fi_.fu) (std.band (std.eq a0.fi_.fv a0.fi_.fv) (true))))))) (true))))))))
  ((Fq38 a0.fi_ 8).bind fun y40 =>
  some y40)
  (some false)
  ) : Option (Bool)).bind fun y33 =>
  letO y33 fun w39 =>
  some w39)
  (((
  br (std.eq a0.fk_ 2)
  (some true)
  (((
  br (std.eq a0.fk_ 4)
  (some true)
  (some (std.eq a0.fk_ 6))
  ) : Option (Bool)).bind fun y50 =>
  letO y50 fun w56 =>
  some w56)
  ) : Option (Bool)).bind fun y43 =>
  letO y43 fun w49 =>
  ((
  br w49
  ((some (std.band (std.eq a0.fk_ a0.fk_) (std.band (std.eq a0.fc a0.fc) (std.band (std.eq a0.fx a0.fx) (std.band (std.seq (ByteArray.mk #[]) a0.fN) (std.band (std.band (std.eq 0 a0.fs_.fy) (std.band (std.band (std.eq 0 a0.fs_.fb.fX0) (std.band (std.eq 0 a0.fs_.fb.fY0) (std.band (std.eq 0 a0.fs_.fb.fX1) (std.band (std.eq 0 a0.fs_.fb.fY1) (true))))) (true))) (std.band (std.band (std.eq 0 a0.fl_.fy) (std.band (std.band (std.eq 0 a0.fl_.fa.fX) (std.band (std.eq 0 a0.fl_.fa.fY) (true))) (std.band (std.seq (ByteArray.mk #[]) a0.fl_.fN) (true)))) (std.band (std.band (std.eq 0 a0.fi_.fc) (std.band (std.band (std.eq 0 a0.fi_.fp.fo) (std.band (std.eq 0 a0.fi_.fp.fX) (std.band (std.eq 0 a0.fi_.fp.fY) (true)))) (std.band (std.eq 0 a0.fi_.fK) (std.band (std.eq 0 a0.fi_.fR) (std.band (std.eq 0 a0.fi_.fu) (std.band (std.eq 0 a0.fi_.fv) (true))))))) (true))))))))).bind fun r65 => some (.inl r65))
  (((
  br (std.eq a0.fk_ 7)
  (some true)
  (some (std.eq a0.fk_ 8))
  ) : Option (Bool)).bind fun y68 =>
  letO y68 fun w74 =>
  ((
  br w74
  (((
  br (std.band (std.eq a0.fk_ a0.fk_) (std.band (std.eq a0.fc a0.fc) (std.band (std.eq 0 a0.fx) (std.band (std.seq a0.fN a0.fN) (std.band (std.band (std.eq 0 a0.fs_.fy) (std.band (std.band (std.eq 0 a0.fs_.fb.fX0) (std.band (std.eq 0 a0.fs_.fb.fY0) (std.band (std.eq 0 a0.fs_.fb.fX1) (std.band (std.eq 0 a0.fs_.fb.fY1) (true))))) (true))) (std.band (std.band (std.eq 0 a0.fl_.fy) (std.band (std.band (std.eq 0 a0.fl_.fa.fX) (std.band (std.eq 0 a0.fl_.fa.fY) (true))) (std.band (std.seq (ByteArray.mk #[]) a0.fl_.fN) (true)))) (std.band (std.band (std.eq 0 a0.fi_.fc) (std.band (std.band (std.eq 0 a0.fi_.fp.fo) (std.band (std.eq 0 a0.fi_.fp.fX) (std.band (std.eq 0 a0.fi_.fp.fY) (true)))) (std.band (std.eq 0 a0.fi_.fK) (std.band (std.eq 0 a0.fi_.fR) (std.band (std.eq 0 a0.fi_.fu) (std.band (std.eq 0 a0.fi_.fv) (true))))))) (true))))))))
  ((Fq17 a0.fN).bind fun y89 =>
  some y89)
  (some false)
  ) : Option (Bool)).bind fun y82 =>
  letO y82 fun w88 =>
  ((some w88).bind fun r92 => some (.inl r92)).bind fun r95 => some (.inl r95))
  (br (std.eq a0.fk_ 9)
  (((some (std.band (std.eq a0.fk_ a0.fk_) (std.band (std.eq a0.fc a0.fc) (std.band (std.eq 0 a0.fx) (std.band (std.seq (ByteArray.mk #[]) a0.fN) (std.band (std.band (std.eq 0 a0.fs_.fy) (std.band (std.band (std.eq 0 a0.fs_.fb.fX0) (std.band (std.eq 0 a0.fs_.fb.fY0) (std.band (std.eq 0 a0.fs_.fb.fX1) (std.band (std.eq 0 a0.fs_.fb.fY1) (true))))) (true))) (std.band (std.band (std.eq 0 a0.fl_.fy) (std.band (std.band (std.eq 0 a0.fl_.fa.fX) (std.band (std.eq 0 a0.fl_.fa.fY) (true))) (std.band (std.seq (ByteArray.mk #[]) a0.fl_.fN) (true)))) (std.band (std.band (std.eq 0 a0.fi_.fc) (std.band (std.band (std.eq 0 a0.fi_.fp.fo) (std.band (std.eq 0 a0.fi_.fp.fX) (std.band (std.eq 0 a0.fi_.fp.fY) (true)))) (std.band (std.eq 0 a0.fi_.fK) (std.band (std.eq 0 a0.fi_.fR) (std.band (std.eq 0 a0.fi_.fu) (std.band (std.eq 0 a0.fi_.fv) (true))))))) (true))))))))).bind fun r98 => some (.inl r98)).bind fun r101 => some (.inl r101))
  (some (.inr ())))
  ) : Option (_ ⊕ Unit)).bind fun z78 => (match z78 with
 | .inl r => some r
 | .inr y76 =>
  some (.inr ())))
  ) : Option (_ ⊕ Unit)).bind fun z61 => (match z61 with
 | .inl r => some r
 | .inr y59 =>
  some false)))))
theorem runq47 (a0 : TE) (r : Bool) (h : Fq47 a0 = some r) : Fun prog 62 [.agg (cE a0)] [] (.c (.v (.bool r))) [] true := by
 refine ow [1, 7, 10, 13, 22, 100069, 100079] func62 ntmps62 ?_; unfold Fq47 at h; have hfq17 := @runq17; have hfq38 := @runq38; have hfq57 := @runq57; have hfq55 := @runq55; have hfq2 := @runq2
 generalize hU : @len = U_, hG_ : @gd = G_, hA : std = A, hP : prog = P at *; cbv
 revert h; refine cu (fun y1 => (sp 98 [(1, .c (.ptr 64 0)), (13, .c (.v (.bool y1)))] [(64, .var (cE a0))])) ?_ fun w7 => rz fun h => ?_
 ·intro y1 S hS h; cbv; revert h; refine rk0 (hfq2 _ _ _) fun y8 h => ?_; cbv; revert h; refine fk ?_ ?_ <;> intro h <;> cbv
  ·exact dn
  revert h; refine rk0 (hfq2 _ _ _) fun y10 h => ?_; cbv; exact dn
 cbv; revert h; refine fk ?_ ?_ <;> intro h <;> cbv
 ·exact df
 revert h; refine fk ?_ ?_ <;> intro h <;> cbv
 ·revert h; refine cu (fun y13 => (sp 98 [(2, .c (.v (.bool y13)))] [])) ?_ fun w19 => rz fun h => ?_
  ·intro y13 S hS h; cbv; revert h; refine fk ?_ ?_ <;> intro h <;> cbv
   ·revert h; refine rk0 (hfq55 _) fun y20 h => ?_; cbv; exact dn
   exact dn
  cbv; exact df
 revert h; refine fk ?_ ?_ <;> intro h <;> cbv
 ·revert h; refine cu (fun y23 => (sp 98 [(2, .c (.v (.bool y23)))] [])) ?_ fun w29 => rz fun h => ?_
  ·intro y23 S hS h; cbv; revert h; refine fk ?_ ?_ <;> intro h <;> cbv
   ·revert h; refine rk0 (hfq57 _) fun y30 h => ?_; cbv; exact dn
   exact dn
  cbv; exact df
 revert h; refine fk ?_ ?_ <;> intro h <;> cbv
 ·revert h; refine cu (fun y33 => (sp 98 [(2, .c (.v (.bool y33)))] [])) ?_ fun w39 => rz fun h => ?_
  ·intro y33 S hS h; cbv; revert h; refine fk ?_ ?_ <;> intro h <;> cbv
   ·revert h; refine rk0 (hfq38 _ _) fun y40 h => ?_; cbv; exact dn
   exact dn
  cbv; exact df
 revert h; refine cu (fun y43 => some (sp 98 [(1, .c (.ptr 64 0)), (3, .c (.ptr 192 0)), (20, .c (wi a0.fk_)), (69, .c (.v (.bool y43)))] [(64, .var (cE a0)), (192, .var [wi a0.fk_, wi a0.fc, wi 0, ws (ByteArray.mk #[]), wi 0, wi 0, wi 0, wi 0, wi 0, wi 0, wi 0, wi 0, ws (ByteArray.mk #[]), wi 0, wi 0, wi 0, wi 0, wi 0, wi 0, wi 0, wi 0])])) ?_ fun w49 => rz fun h => ?_
 ·intro y43 S hS h; cbv; revert h; refine fk ?_ ?_ <;> intro h <;> cbv
  ·exact dn
  revert h; refine cu (fun y50 => some (sp 98 [(1, .c (.ptr 64 0)), (3, .c (.ptr 192 0)), (20, .c (wi a0.fk_)), (69, .c (.v (.bool y50)))] [(64, .var (cE a0)), (192, .var [wi a0.fk_, wi a0.fc, wi 0, ws (ByteArray.mk #[]), wi 0, wi 0, wi 0, wi 0, wi 0, wi 0, wi 0, wi 0, ws (ByteArray.mk #[]), wi 0, wi 0, wi 0, wi 0, wi 0, wi 0, wi 0, wi 0])])) (fun y50 S hS h => rg) fun w56 => rz fun h => ?_
  cbv; exact dn
 cbv; obtain ⟨z61, hy60, hz62⟩ := ob_ h; obtain ⟨S, hS⟩ : ∃ S, S = (match z61 with | .inl _ => none | .inr y59 => some (sp 98 [] [])) := ⟨_, rfl⟩; refine ⟨S, ?_, ?_⟩
 ·have h := hy60; clear hy60; cbv; revert h; refine fk ?_ ?_ <;> intro h <;> cbv
  ·obtain ⟨r65, h66, he67⟩ := ob_ h; injection he67 with he67; subst he67; injection hz62 with hz62; subst hz62; have h := h66; exact df
  revert h; refine cu (fun y68 => some (sp 98 [(1, .c (.ptr 64 0)), (3, .c (.ptr 192 0)), (20, .c (wi a0.fk_)), (79, .c (.v (.bool y68)))] [(64, .var (cE a0)), (192, .var [wi a0.fk_, wi a0.fc, wi 0, ws (ByteArray.mk #[]), wi 0, wi 0, wi 0, wi 0, wi 0, wi 0, wi 0, wi 0, ws (ByteArray.mk #[]), wi 0, wi 0, wi 0, wi 0, wi 0, wi 0, wi 0, wi 0])])) (fun y68 S hS h => rg) fun w74 => rz fun h => ?_
  cbv; obtain ⟨z78, hy77, hz79⟩ := ob_ h; obtain ⟨S, hS⟩ : ∃ S, S = (match z78 with | .inl _ => none | .inr y76 => some (sp 98 [] [])) := ⟨_, rfl⟩; refine ⟨S, ?_, ?_⟩
  ·have h := hy77; clear hy77; cbv; revert h; refine fk ?_ ?_ <;> intro h <;> cbv
   ·revert h; refine cu (fun y82 => (sp 98 [(2, .c (.v (.bool y82)))] [])) ?_ fun w88 => rz fun h => ?_
    ·intro y82 S hS h; cbv; revert h; refine fk ?_ ?_ <;> intro h <;> cbv
     ·revert h; refine rk0 (hfq17 _) fun y89 h => ?_; cbv; exact dn
     exact dn
    cbv; obtain ⟨r95, h96, he97⟩ := ob_ h; injection he97 with he97; subst he97; injection hz79 with hz79; subst hz79; have h := h96; obtain ⟨r92, h93, he94⟩ := ob_ h; injection he94 with he94; subst he94; injection hz62 with hz62; subst hz62; have h := h93; exact df
   revert h; refine fk ?_ ?_ <;> intro h <;> cbv
   ·obtain ⟨r101, h102, he103⟩ := ob_ h; injection he103 with he103; subst he103; injection hz79 with hz79; subst hz79; have h := h102; obtain ⟨r98, h99, he100⟩ := ob_ h; injection he100 with he100; subst he100; injection hz62 with hz62; subst hz62; have h := h99; exact df
   exact dn
  ·clear hy77; subst hS; rcases z78 with _ | y76
   ·trivial
   ·have h := hz79; clear hz79; cbv; exact dn
 ·clear hy60; subst hS; rcases z61 with _ | y59
  ·trivial
  ·have h := hz62; clear hz62; cbv; exact df

/-- impl.isTransaction$1 -/
def Fq111 (a0 : TE) : Option (Bool) :=
 (Fq47 a0).bind fun y1 =>
 some (!(y1))
theorem runq111 (a0 : TE) (r : Bool) (h : Fq111 a0 = some r) : Fun prog 105 [.agg (cE a0)] [] (.c (.v (.bool r))) [] true := by
 refine ow [] func105 ntmps105 ?_; unfold Fq111 at h; have hfq47 := @runq47; generalize hU : @len = U_, hG_ : @gd = G_, hA : std = A, hP : prog = P at *; cbv; revert h; refine rk0 (hfq47 _) fun y1 h => ?_; cbv; exact df

def Lq35_x2 (a0 : List TE) : (Int) -> Option ((Int) ⊕ ((Int) ⊕ (Unit))) := fun x2 =>
 letO x2 fun v1 =>
 br (std.lt v1 (std.ofN (len a0)))
 (req (std.inR v1 (len a0)) <|
 (Fq111 (gd a0 (std.toN v1))).bind fun y15 =>
 br y15
 (some (.inr (.inl v1)))
 (some (.inl (std.add .i64 v1 1))))
 (some (.inr (.inr ())))
/-- impl.Edit] -/
def Fq35 (a0 : List TE) : Option (Int) :=
  (whileP (σ := Int) (ρ := (Int) ⊕ (Unit)) (Lq35_x2 a0) 0).bind fun y3 =>
  (match y3 with
 | .inl y3k0 => (
  letO y3k0 fun w19 =>
  some w19)
 | .inr y3m0 =>
  some (-1))
theorem runq35 (a0 : List TE) (r : Int) (h : Fq35 a0 = some r) : Fun prog 153 [.c (.bs (len a0) 21 (row gd (eE) a0)), .c (.fn 105 0 fun _ => .junk)] [] (.c (wi r)) [] true := by
 refine ow [] func153 ntmps153 ?_; unfold Fq35 at h; unfold Lq35_x2 at h; have hfq111 := @runq111; generalize hU : @len = U_, hG_ : @gd = G_, hA : std = A, hP : prog = P at *; cbv
 revert h; refine lc (fun x => (sp 19 [(0, .c (.bs (U_ a0) 21 (row G_ (eE) a0))), (1, .c (.fn 105 0 fun _ => .junk)), (7, .c (wi (A.ofN (U_ a0)))), (8, .c (wi x))] [])) (fun y e s => (match y with | .inl w => e = .ret /\ s.le (sp 19 [(4, .c (wi w))] []) | .inr w0 => (fun (w : Unit) => e = .exit 0 /\ s.le (sp 19 [] [])) w0)) zb ?_ ?_
 ·intro v1 z h K hK hY; replace h := oz h; cbv; revert h; refine fk ?_ ?_ <;> intro h <;> cbv
  ·revert h; refine ra fun c14 h => ?_; revert h; refine rk0 (hfq111 _) fun y15 h => ?_; cbv; revert h; refine fk ?_ ?_ <;> intro h <;> cbv
   ·exact dy
   exact dm
  exact dy
 intro y3 h e12 s13 q11 hne; rcases y3 with y3k0 | y3m0
 ·replace h := h; obtain ⟨rfl, q11⟩ := q11; revert h; refine rz fun h => ?_; cbv; injection h with h; subst h; exact ⟨_, q11, lR _, zo, rfl⟩
 ·obtain ⟨rfl, q11⟩ := q11; cbv; refine ⟨_, q11, ?_⟩; cbv; exact df

/-- impl.Edit] -/
def Fq84 (a0 : List TE) : Option (Bool) :=
 (Fq35 a0).bind fun y1 =>
 some (std.le 0 y1)
theorem runq84 (a0 : List TE) (r : Bool) (h : Fq84 a0 = some r) : Fun prog 104 [.c (.bs (len a0) 21 (row gd (eE) a0)), .c (.fn 105 0 fun _ => .junk)] [] (.c (.v (.bool r))) [] true := by
 refine ow [] func104 ntmps104 ?_; unfold Fq84 at h; have hfq35 := @runq35; generalize hU : @len = U_, hG_ : @gd = G_, hA : std = A, hP : prog = P at *; cbv
 revert h; refine rk0 (hfq35 _) fun y1 h => ?_; cbv; exact df

/-- impl.isTransaction -/
def Fq26 (a0 : List TE) : Option (Bool) :=
 ((
 br (std.le 1 (std.ofN (len a0)))
 (br (std.le (std.ofN (len a0)) 8)
 ((Fq84 a0).bind fun y8 =>
 some (!(y8)))
 (some false))
 (some false)
 ) : Option (Bool)).bind fun y1 =>
 letO y1 fun w7 =>
 some w7
theorem runq26 (a0 : List TE) (r : Bool) (h : Fq26 a0 = some r) : Fun prog 44 [.c (.bs (len a0) 21 (row gd (eE) a0))] [] (.c (.v (.bool r))) [] true := by
 refine ow [1] func44 ntmps44 ?_; unfold Fq26 at h; have hfq84 := @runq84; generalize hU : @len = U_, hG_ : @gd = G_, hA : std = A, hP : prog = P at *; cbv
 revert h; refine cu (fun y1 => (sp 16 [(2, .c (.v (.bool y1)))] [])) ?_ fun w7 => rz fun h => ?_
 ·intro y1 S hS h; cbv; revert h; refine fk ?_ ?_ <;> intro h <;> cbv
  ·revert h; refine fk ?_ ?_ <;> intro h <;> cbv
   ·revert h; refine rk0 (hfq84 _) fun y8 h => ?_; cbv; exact dn
   exact dn
  exact dn
 cbv; exact df

/-- impl.validHistory$1 -/
def Fq114 (a0 : List TE) : Option (Bool) :=
 (Fq26 a0).bind fun y1 =>
 some (!(y1))
theorem runq114 (a0 : List TE) (r : Bool) (h : Fq114 a0 = some r) : Fun prog 138 [.c (.bs (len a0) 21 (row gd (eE) a0))] [] (.c (.v (.bool r))) [] true := by
 refine ow [] func138 ntmps138 ?_; unfold Fq114 at h; have hfq26 := @runq26; generalize hU : @len = U_, hG_ : @gd = G_, hA : std = A, hP : prog = P at *; cbv; revert h; refine rk0 (hfq26 _) fun y1 h => ?_; cbv; exact df
set_option maxHeartbeats 40000000
def Lq51_x2 (a0 : List (List TE)) : (Int) -> Option ((Int) ⊕ ((Int) ⊕ (Unit))) := fun x2 =>
 letO x2 fun v1 =>
 br (std.lt v1 (std.ofN (len a0)))
 (req (std.inR v1 (len a0)) <|
 (Fq114 (gd a0 (std.toN v1))).bind fun y15 =>
 br y15
 (some (.inr (.inl v1)))
 (some (.inl (std.add .i64 v1 1))))
 (some (.inr (.inr ())))
/-- impl.Edit] -/
def Fq51 (a0 : List (List TE)) : Option (Int) :=
  (whileP (σ := Int) (ρ := (Int) ⊕ (Unit)) (Lq51_x2 a0) 0).bind fun y3 =>
  (match y3 with
 | .inl y3k0 => (
  letO y3k0 fun w19 =>
  some w19)
 | .inr y3m0 =>
  some (-1))
theorem runq51 (a0 : List (List TE)) (r : Int) (h : Fq51 a0 = some r) : Fun prog 164 [.c (.bs (len a0) 1 (row gd (eN len gd 21 (eE)) a0)), .c (.fn 138 0 fun _ => .junk)] [] (.c (wi r)) [] true := by
 refine ow [] func164 ntmps164 ?_; unfold Fq51 at h; unfold Lq51_x2 at h; have hfq114 := @runq114; generalize hU : @len = U_, hG_ : @gd = G_, hA : std = A, hP : prog = P at *; cbv
 revert h; refine lc (fun x => (sp 19 [(0, .c (.bs (U_ a0) 1 (row G_ (eN U_ G_ 21 (eE)) a0))), (1, .c (.fn 138 0 fun _ => .junk)), (7, .c (wi (A.ofN (U_ a0)))), (8, .c (wi x))] [])) (fun y e s => (match y with | .inl w => e = .ret /\ s.le (sp 19 [(4, .c (wi w))] []) | .inr w0 => (fun (w : Unit) => e = .exit 0 /\ s.le (sp 19 [] [])) w0)) zb ?_ ?_
 ·intro v1 z h K hK hY; replace h := oz h; cbv; revert h; refine fk ?_ ?_ <;> intro h <;> cbv
  ·revert h; refine ra fun c14 h => ?_; revert h; refine rk0 (hfq114 _) fun y15 h => ?_; cbv; revert h; refine fk ?_ ?_ <;> intro h <;> cbv
   ·exact dy
   exact dm
  exact dy
 intro y3 h e12 s13 q11 hne; rcases y3 with y3k0 | y3m0
 ·replace h := h; obtain ⟨rfl, q11⟩ := q11; revert h; refine rz fun h => ?_; cbv; injection h with h; subst h; exact ⟨_, q11, lR _, zo, rfl⟩
 ·obtain ⟨rfl, q11⟩ := q11; cbv; refine ⟨_, q11, ?_⟩; cbv; exact df

/-- impl.Edit] -/
def Fq97 (a0 : List (List TE)) : Option (Bool) :=
 (Fq51 a0).bind fun y1 =>
 some (std.le 0 y1)
theorem runq97 (a0 : List (List TE)) (r : Bool) (h : Fq97 a0 = some r) : Fun prog 137 [.c (.bs (len a0) 1 (row gd (eN len gd 21 (eE)) a0)), .c (.fn 138 0 fun _ => .junk)] [] (.c (.v (.bool r))) [] true := by
 refine ow [] func137 ntmps137 ?_; unfold Fq97 at h; have hfq51 := @runq51; generalize hU : @len = U_, hG_ : @gd = G_, hA : std = A, hP : prog = P at *; cbv
 revert h; refine rk0 (hfq51 _) fun y1 h => ?_; cbv; exact df

/-- impl.validHistory -/
def Fq18 (a0 : List (List TE)) : Option (Bool) :=
 ((
 br (std.le (std.ofN (len a0)) 6)
 ((Fq97 a0).bind fun y8 =>
 some (!(y8)))
 (some false)
 ) : Option (Bool)).bind fun y1 =>
 letO y1 fun w7 =>
 some w7
theorem runq18 (a0 : List (List TE)) (r : Bool) (h : Fq18 a0 = some r) : Fun prog 79 [.c (.bs (len a0) 1 (row gd (eN len gd 21 (eE)) a0))] [] (.c (.v (.bool r))) [] true := by
 refine ow [1] func79 ntmps79 ?_; unfold Fq18 at h; have hfq97 := @runq97; generalize hU : @len = U_, hG_ : @gd = G_, hA : std = A, hP : prog = P at *; cbv
 revert h; refine cu (fun y1 => (sp 11 [(2, .c (.v (.bool y1)))] [])) ?_ fun w7 => rz fun h => ?_
 ·intro y1 S hS h; cbv; revert h; refine fk ?_ ?_ <;> intro h <;> cbv
  ·revert h; refine rk0 (hfq97 _) fun y8 h => ?_; cbv; exact dn
  exact dn
 cbv; exact df

/-- impl.validEditor -/
def Fq20 (a0 : TD_) : Option (Bool) :=
 ((
 (Fq3 a0.fr_).bind fun y8 =>
 br y8
 ((Fq18 a0.fU).bind fun y10 =>
 br y10
 ((Fq18 a0.fD).bind fun y12 =>
 some y12)
 (some false))
 (some false)
 ) : Option (Bool)).bind fun y1 =>
 letO y1 fun w7 =>
 some w7
theorem runq20 (a0 : TD_) (r : Bool) (h : Fq20 a0 = some r) : Fun prog 36 [.agg [.bs (len a0.fr_.fC) 4 (row gd (eC len gd) a0.fr_.fC), .bs (len a0.fU) 1 (row gd (eN len gd 21 (eE)) a0.fU), .bs (len a0.fD) 1 (row gd (eN len gd 21 (eE)) a0.fD)]] [] (.c (.v (.bool r))) [] true := by
 refine ow [1] func36 ntmps36 ?_; unfold Fq20 at h; have hfq3 := @runq3; have hfq18 := @runq18; generalize hU : @len = U_, hG_ : @gd = G_, hA : std = A, hP : prog = P at *; cbv; revert h; refine cu (fun y1 => (sp 16 [(2, .c (.v (.bool y1)))] [])) ?_ fun w7 => rz fun h => ?_
 ·intro y1 S hS h; cbv; revert h; refine rk0 (hfq3 _) fun y8 h => ?_; cbv; revert h; refine fk ?_ ?_ <;> intro h <;> cbv
  ·revert h; refine rk0 (hfq18 _) fun y10 h => ?_; cbv; revert h; refine fk ?_ ?_ <;> intro h <;> cbv
   ·revert h; refine rk0 (hfq18 _) fun y12 h => ?_; cbv; exact dn
   exact dn
  exact dn
 cbv; exact df

/-- impl.insertCode -/
def Fq58 (a0 : Int) (a1 : Int) (a2 : Int) : Option (Int) :=
 br (std.lt a1 a0)
 (some 2)
 (br (std.eq a1 a2)
 (some 3)
 (some 0))
theorem runq58 (a0 : Int) (a1 : Int) (a2 : Int) (r : Int) (h : Fq58 a0 a1 a2 = some r) : Fun prog 63 [.c (wi a0), .c (wi a1), .c (wi a2)] [] (.c (wi r)) [] true := by
 refine ow [] func63 ntmps63 ?_; unfold Fq58 at h; generalize hU : @len = U_, hG_ : @gd = G_, hA : std = A, hP : prog = P at *; cbv; revert h; refine fk ?_ ?_ <;> intro h <;> cbv
 ·exact df
 revert h; refine fk ?_ ?_ <;> intro h <;> cbv
 ·exact df
 exact df

/-- impl.deleteCode -/
def Fq60 (a0 : Int) (a1 : Int) : Option (Int) :=
 br (std.le a1 a0)
 (some 5)
 (some 0)
theorem runq60 (a0 : Int) (a1 : Int) (r : Int) (h : Fq60 a0 a1 = some r) : Fun prog 64 [.c (wi a0), .c (wi a1)] [] (.c (wi r)) [] true := by
 refine ow [] func64 ntmps64 ?_; unfold Fq60 at h; generalize hU : @len = U_, hG_ : @gd = G_, hA : std = A, hP : prog = P at *; cbv; revert h; refine fk ?_ ?_ <;> intro h <;> cbv
 ·exact df
 exact df
end
end Go.Proofs.YtfoefnkbiofejaaGreat.AM
