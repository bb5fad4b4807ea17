/-
  What the functions that the law reaches compute, and that they do. No condition.
-/
import Derived.Test.YtfoefnkbiofejaaGreatArSW
namespace Go.Proofs.YtfoefnkbiofejaaGreat.AM
noncomputable section
open Go Go.Proofs Go.RowKit Go.Proofs.Tryz
set_option linter.unusedVariables false
set_option linter.unusedSimpArgs false
set_option maxRecDepth 100000

set_option maxHeartbeats 40000000
/-- impl.Label] -/
def Fq89 (a0 : List TB) : Option (Bool) :=
 (Fq59 a0).bind fun y1 =>
 some (std.le 0 y1)
theorem runq89 (a0 : List TB) (r : Bool) (h : Fq89 a0 = some r) : Fun prog 90 [.c (.bs (len a0) 4 (row gd (eL_0) a0)), .c (.fn 91 0 fun _ => .junk)] [] (.c (.v (.bool r))) [] true := by
 refine ow [] func90 ntmps90 ?_; unfold Fq89 at h; have hfq59 := @runq59; generalize hU : @len = U_, hG_ : @gd = G_, hA : std = A, hP : prog = P at *; cbv
 revert h; refine rk0 (hfq59 _) fun y1 h => ?_; cbv; exact df

/-- impl.IsValidTransform -/
def Fq86 (a0 : TM) : Option (Bool) :=
 ((
 (Fq3 a0.fo 0 7).bind fun y8 =>
 br y8
 ((Fq3 a0.fX (-80) 80).bind fun y10 =>
 br y10
 ((Fq3 a0.fY (-80) 80).bind fun y12 =>
 some y12)
 (some false))
 (some false)
 ) : Option (Bool)).bind fun y1 =>
 letO y1 fun w7 =>
 some w7
theorem runq86 (a0 : TM) (r : Bool) (h : Fq86 a0 = some r) : Fun prog 148 [.agg [wi a0.fo, wi a0.fX, wi a0.fY]] [] (.c (.v (.bool r))) [] true := by
 refine ow [1] func148 ntmps148 ?_; unfold Fq86 at h; have hfq3 := @runq3; generalize hU : @len = U_, hG_ : @gd = G_, hA : std = A, hP : prog = P at *; cbv; revert h; refine cu (fun y1 => (sp 16 [(2, .c (.v (.bool y1)))] [])) ?_ fun w7 => rz fun h => ?_
 ·intro y1 S hS h; cbv; revert h; refine rk0 (hfq3 _ _ _) fun y8 h => ?_; cbv; revert h; refine fk ?_ ?_ <;> intro h <;> cbv
  ·revert h; refine rk0 (hfq3 _ _ _) fun y10 h => ?_; cbv; revert h; refine fk ?_ ?_ <;> intro h <;> cbv
   ·revert h; refine rk0 (hfq3 _ _ _) fun y12 h => ?_; cbv; exact dn
   exact dn
  exact dn
 cbv; exact df

/-- impl.validInstance -/
def Fq54 (a0 : TI) (a1 : Int) : Option (Bool) :=
 ((
 (Fq3 a0.fc 0 (std.sub .i64 a1 1)).bind fun y8 =>
 br y8
 ((Fq86 a0.fp).bind fun y10 =>
 br y10
 ((Fq3 a0.fK 1 4).bind fun y12 =>
 br y12
 ((Fq3 a0.fR 1 4).bind fun y14 =>
 br y14
 ((Fq3 a0.fu (-80) 80).bind fun y16 =>
 br y16
 ((Fq3 a0.fv (-80) 80).bind fun y18 =>
 br y18
 (br (std.eq a0.fu 0)
 (br (std.eq a0.fv 0)
 (some true)
 (some (std.lt 1 a0.fR)))
 (br (std.lt 1 a0.fK)
 (br (std.eq a0.fv 0)
 (some true)
 (some (std.lt 1 a0.fR)))
 (some false)))
 (some false))
 (some false))
 (some false))
 (some false))
 (some false))
 (some false)
 ) : Option (Bool)).bind fun y1 =>
 letO y1 fun w7 =>
 some w7
theorem runq54 (a0 : TI) (a1 : Int) (r : Bool) (h : Fq54 a0 a1 = some r) : Fun prog 95 [.agg [wi a0.fc, wi a0.fp.fo, wi a0.fp.fX, wi a0.fp.fY, wi a0.fK, wi a0.fR, wi a0.fu, wi a0.fv], .c (wi a1)] [] (.c (.v (.bool r))) [] true := by
 refine ow [1] func95 ntmps95 ?_; unfold Fq54 at h; have hfq86 := @runq86; have hfq3 := @runq3; generalize hU : @len = U_, hG_ : @gd = G_, hA : std = A, hP : prog = P at *; cbv; revert h; refine cu (fun y1 => (sp 55 [(4, .c (.v (.bool y1)))] [])) ?_ fun w7 => rz fun h => ?_
 ·intro y1 S hS h; cbv; revert h; refine rk0 (hfq3 _ _ _) fun y8 h => ?_; cbv; revert h; refine fk ?_ ?_ <;> intro h <;> cbv
  ·revert h; refine rk0 (hfq86 _) fun y10 h => ?_; cbv; revert h; refine fk ?_ ?_ <;> intro h <;> cbv
   ·revert h; refine rk0 (hfq3 _ _ _) fun y12 h => ?_; cbv; revert h; refine fk ?_ ?_ <;> intro h <;> cbv
    ·revert h; refine rk0 (hfq3 _ _ _) fun y14 h => ?_; cbv; revert h; refine fk ?_ ?_ <;> intro h <;> cbv
     ·revert h; refine rk0 (hfq3 _ _ _) fun y16 h => ?_; cbv; revert h; refine fk ?_ ?_ <;> intro h <;> cbv
      ·revert h; refine rk0 (hfq3 _ _ _) fun y18 h => ?_; cbv; revert h; refine fk ?_ ?_ <;> intro h <;> cbv
       ·revert h; refine fk ?_ ?_ <;> intro h <;> cbv
        ·revert h; refine fk ?_ ?_ <;> intro h <;> cbv
         ·exact dn
         exact dn
        revert h; refine fk ?_ ?_ <;> intro h <;> cbv
        ·revert h; refine fk ?_ ?_ <;> intro h <;> cbv
         ·exact dn
         exact dn
        exact dn
       exact dn
      exact dn
     exact dn
    exact dn
   exact dn
  exact dn
 cbv; exact df

/-- impl.validCell$3 -/
def Fq126 (a0 : TI) (a1 : Int) : Option (Bool) :=
 (Fq54 (TI.mk a0.fc a0.fp a0.fK a0.fR a0.fu a0.fv) a1).bind fun y1 =>
 some (!(y1))
theorem runq126 (a0 : TI) (a1 : Int) (r : Bool) (h : Fq126 a0 a1 = some r) : Fun prog 94 [.agg [wi a0.fc, wi a0.fp.fo, wi a0.fp.fX, wi a0.fp.fY, wi a0.fK, wi a0.fR, wi a0.fu, wi a0.fv], .c (.bp 1 (encI .i64 a1))] [] (.c (.v (.bool r))) [] true := by
 refine ow [] func94 ntmps94 ?_; unfold Fq126 at h; have hfq54 := @runq54; generalize hU : @len = U_, hG_ : @gd = G_, hA : std = A, hP : prog = P at *; cbv; revert h; refine rk0 (hfq54 _ _) fun y1 h => ?_; cbv; exact df

def Lq56_x2 (a0 : List TI) (a1_0 : Int) : (Int) -> Option ((Int) ⊕ ((Int) ⊕ (Unit))) := fun x2 =>
 letO x2 fun v1 =>
 br (std.lt v1 (std.ofN (len a0)))
 (req (std.inR v1 (len a0)) <|
 (Fq126 (gd a0 (std.toN v1)) a1_0).bind fun y15 =>
 br y15
 (some (.inr (.inl v1)))
 (some (.inl (std.add .i64 v1 1))))
 (some (.inr (.inr ())))
/-- impl.Instance] -/
def Fq56 (a0 : List TI) (a1_0 : Int) : Option (Int) :=
  (whileP (σ := Int) (ρ := (Int) ⊕ (Unit)) (Lq56_x2 a0 a1_0) 0).bind fun y3 =>
  (match y3 with
 | .inl y3k0 => (
  letO y3k0 fun w19 =>
  some w19)
 | .inr y3m0 =>
  some (-1))
theorem runq56 (a0 : List TI) (a1_0 : Int) (r : Int) (h : Fq56 a0 a1_0 = some r) : Fun prog 147 [.c (.bs (len a0) 8 (row gd (eI) a0)), .c (.fn 94 1 fun j => ([.bp 1 (encI .i64 a1_0)] : List AC).getD j .junk)] [] (.c (wi r)) [] true := by
 refine ow [] func147 ntmps147 ?_; unfold Fq56 at h; unfold Lq56_x2 at h; have hfq126 := @runq126; generalize hU : @len = U_, hG_ : @gd = G_, hA : std = A, hP : prog = P at *; cbv
 revert h; refine lc (fun x => (sp 19 [(0, .c (.bs (U_ a0) 8 (row G_ (eI) a0))), (1, .c (.fn 94 1 fun j => ([.bp 1 (encI .i64 a1_0)] : List AC).getD j .junk)), (7, .c (wi (A.ofN (U_ a0)))), (8, .c (wi x))] [])) (fun y e s => (match y with | .inl w => e = .ret /\ s.le (sp 19 [(4, .c (wi w))] []) | .inr w0 => (fun (w : Unit) => e = .exit 0 /\ s.le (sp 19 [] [])) w0)) zb ?_ ?_
 ·intro v1 z h K hK hY; replace h := oz h; cbv; revert h; refine fk ?_ ?_ <;> intro h <;> cbv
  ·revert h; refine ra fun c14 h => ?_; revert h; refine rk [] [] (hfq126 _ _) (fun _ => zg (lc_ (lR _) (lc_ (le_bp (show 1 <= 1 from by decide) (by intro j hj; match j, hj with | 0, _ => exact rle_refl _ | (j_ + 1), h_ => omega)) (ln_)))) fun y15 h => ?_; cbv; revert h; refine fk ?_ ?_ <;> intro h <;> cbv
   ·exact dy
   exact dm
  exact dy
 intro y3 h e12 s13 q11 hne; rcases y3 with y3k0 | y3m0
 ·replace h := h; obtain ⟨rfl, q11⟩ := q11; revert h; refine rz fun h => ?_; cbv; injection h with h; subst h; exact ⟨_, q11, lR _, zo, rfl⟩
 ·obtain ⟨rfl, q11⟩ := q11; cbv; refine ⟨_, q11, ?_⟩; cbv; exact df

/-- impl.Instance] -/
def Fq115 (a0 : List TI) (a1_0 : Int) : Option (Bool) :=
 (Fq56 a0 a1_0).bind fun y1 =>
 some (std.le 0 y1)
theorem runq115 (a0 : List TI) (a1_0 : Int) (r : Bool) (h : Fq115 a0 a1_0 = some r) : Fun prog 93 [.c (.bs (len a0) 8 (row gd (eI) a0)), .c (.fn 94 1 fun j => ([.bp 1 (encI .i64 a1_0)] : List AC).getD j .junk)] [] (.c (.v (.bool r))) [] true := by
 refine ow [] func93 ntmps93 ?_; unfold Fq115 at h; have hfq56 := @runq56; generalize hU : @len = U_, hG_ : @gd = G_, hA : std = A, hP : prog = P at *; cbv
 revert h; refine rk [] [] (hfq56 _ _) (fun _ => zg (lc_ (lR _) (lc_ (le_fn (by intro j hj; match j, hj with | 0, _ => exact le_bp (show 1 <= 1 from by decide) (by intro j hj; match j, hj with | 0, _ => exact rle_refl _ | (j_ + 1), h_ => omega) | (j_ + 1), h_ => omega)) (ln_)))) fun y1 h => ?_
 cbv; exact df
set_option maxHeartbeats 40000000
/-- impl.validCell -/
def Fq4 (a0 : TC) (a1 : Int) : Option (Bool) :=
 ((
 (Fq17 a0.fN).bind fun y8 =>
 br (!(y8))
 (some true)
 (br (std.lt 24 (std.ofN (len a0.fS)))
 (some true)
 (br (std.lt 8 (std.ofN (len a0.fL)))
 (some true)
 (some (std.lt 8 (std.ofN (len a0.fI))))))
 ) : Option (Bool)).bind fun y1 =>
 letO y1 fun w7 =>
 br w7
 (some false)
 (((
 (Fq101 a0.fS).bind fun y20 =>
 br (!(y20))
 ((Fq89 a0.fL).bind fun y22 =>
 br (!(y22))
 ((Fq115 a0.fI a1).bind fun y24 =>
 some (!(y24)))
 (some false))
 (some false)
 ) : Option (Bool)).bind fun y13 =>
 letO y13 fun w19 =>
 some w19)
theorem runq4 (a0 : TC) (a1 : Int) (r : Bool) (h : Fq4 a0 a1 = some r) : Fun prog 40 [.agg [ws a0.fN, .bs (len a0.fS) 5 (row gd (eS) a0.fS), .bs (len a0.fL) 4 (row gd (eL_0) a0.fL), .bs (len a0.fI) 8 (row gd (eI) a0.fI)], .c (wi a1)] [] (.c (.v (.bool r))) [] true := by
 refine ow [1, 3] func40 ntmps40 ?_; unfold Fq4 at h; have hfq17 := @runq17; have hfq115 := @runq115
 have hfq89 := @runq89; have hfq101 := @runq101; generalize hU : @len = U_, hG_ : @gd = G_, hA : std = A, hP : prog = P at *; cbv
 revert h; refine cu (fun y1 => (sp 44 [(2, .c (.ptr 128 0)), (3, .c (.ptr 192 0)), (26, .c (.v (.bool y1)))] [(128, .var [ws a0.fN, .bs (U_ a0.fS) 5 (row G_ (eS) a0.fS), .bs (U_ a0.fL) 4 (row G_ (eL_0) a0.fL), .bs (U_ a0.fI) 8 (row G_ (eI) a0.fI)]), (192, .var [wi a1])])) ?_ fun w7 => rz fun h => ?_
 ·intro y1 S hS h; cbv; revert h; refine rk0 (hfq17 _) fun y8 h => ?_; cbv; revert h; refine fk ?_ ?_ <;> intro h <;> cbv
  ·exact dn
  revert h; refine fk ?_ ?_ <;> intro h <;> cbv
  ·exact dn
  revert h; refine fk ?_ ?_ <;> intro h <;> cbv
  ·exact dn
  exact dn
 cbv; revert h; refine fk ?_ ?_ <;> intro h <;> cbv
 ·exact df
 revert h; refine cu (fun y13 => (sp 44 [(4, .c (.v (.bool y13)))] [])) ?_ fun w19 => rz fun h => ?_
 ·intro y13 S hS h; cbv; revert h; refine rk0 (hfq101 _) fun y20 h => ?_; cbv; revert h; refine fk ?_ ?_ <;> intro h <;> cbv
  ·revert h; refine rk0 (hfq89 _) fun y22 h => ?_; cbv; revert h; refine fk ?_ ?_ <;> intro h <;> cbv
   ·revert h; refine rk [] [] (hfq115 _ _) (fun _ => zg (lc_ (lR _) (lc_ (le_fn (by intro j hj; match j, hj with | 0, _ => exact le_bp (show 1 <= 1 from by decide) (by intro j hj; match j, hj with | 0, _ => exact rle_refl _ | (j_ + 1), h_ => omega) | (j_ + 1), h_ => omega)) (ln_)))) fun y24 h => ?_
    cbv; exact dn
   exact dn
  exact dn
 cbv; exact df

/-- impl.named$1 -/
def Fq121 (a0 : TC) (a1 : ByteArray) : Option (Bool) :=
 some (std.seq a0.fN a1)
theorem runq121 (a0 : TC) (a1 : ByteArray) (r : Bool) (h : Fq121 a0 a1 = some r) : Fun prog 97 [.agg [ws a0.fN, .bs (len a0.fS) 5 (row gd (eS) a0.fS), .bs (len a0.fL) 4 (row gd (eL_0) a0.fL), .bs (len a0.fI) 8 (row gd (eI) a0.fI)], .c (.bp 1 (encS a1))] [] (.c (.v (.bool r))) [] true := by
 refine ow [] func97 ntmps97 ?_; unfold Fq121 at h; generalize hU : @len = U_, hG_ : @gd = G_, hA : std = A, hP : prog = P at *; cbv; exact df

def Lq55_x2 (a0 : List TC) (a1_0 : ByteArray) : (Int) -> Option ((Int) ⊕ ((Int) ⊕ (Unit))) := fun x2 =>
 letO x2 fun v1 =>
 br (std.lt v1 (std.ofN (len a0)))
 (req (std.inR v1 (len a0)) <|
 (Fq121 (gd a0 (std.toN v1)) a1_0).bind fun y15 =>
 br y15
 (some (.inr (.inl v1)))
 (some (.inl (std.add .i64 v1 1))))
 (some (.inr (.inr ())))
/-- impl.Cell] -/
def Fq55 (a0 : List TC) (a1_0 : ByteArray) : Option (Int) :=
  (whileP (σ := Int) (ρ := (Int) ⊕ (Unit)) (Lq55_x2 a0 a1_0) 0).bind fun y3 =>
  (match y3 with
 | .inl y3k0 => (
  letO y3k0 fun w19 =>
  some w19)
 | .inr y3m0 =>
  some (-1))
theorem runq55 (a0 : List TC) (a1_0 : ByteArray) (r : Int) (h : Fq55 a0 a1_0 = some r) : Fun prog 96 [.c (.bs (len a0) 4 (row gd (eC len gd) a0)), .c (.fn 97 1 fun j => ([.bp 1 (encS a1_0)] : List AC).getD j .junk)] [] (.c (wi r)) [] true := by
 refine ow [] func96 ntmps96 ?_; unfold Fq55 at h; unfold Lq55_x2 at h; have hfq121 := @runq121; generalize hU : @len = U_, hG_ : @gd = G_, hA : std = A, hP : prog = P at *; cbv
 revert h; refine lc (fun x => (sp 19 [(0, .c (.bs (U_ a0) 4 (row G_ (eC U_ G_) a0))), (1, .c (.fn 97 1 fun j => ([.bp 1 (encS a1_0)] : List AC).getD j .junk)), (7, .c (wi (A.ofN (U_ a0)))), (8, .c (wi x))] [])) (fun y e s => (match y with | .inl w => e = .ret /\ s.le (sp 19 [(4, .c (wi w))] []) | .inr w0 => (fun (w : Unit) => e = .exit 0 /\ s.le (sp 19 [] [])) w0)) zb ?_ ?_
 ·intro v1 z h K hK hY; replace h := oz h; cbv; revert h; refine fk ?_ ?_ <;> intro h <;> cbv
  ·revert h; refine ra fun c14 h => ?_; revert h; refine rk [] [] (hfq121 _ _) (fun _ => zg (lc_ (lR _) (lc_ (le_bp (show 1 <= 1 from by decide) (by intro j hj; match j, hj with | 0, _ => exact rle_refl _ | (j_ + 1), h_ => omega)) (ln_)))) fun y15 h => ?_; cbv; revert h; refine fk ?_ ?_ <;> intro h <;> cbv
   ·exact dy
   exact dm
  exact dy
 intro y3 h e12 s13 q11 hne; rcases y3 with y3k0 | y3m0
 ·replace h := h; obtain ⟨rfl, q11⟩ := q11; revert h; refine rz fun h => ?_; cbv; injection h with h; subst h; exact ⟨_, q11, lR _, zo, rfl⟩
 ·obtain ⟨rfl, q11⟩ := q11; cbv; refine ⟨_, q11, ?_⟩; cbv; exact df

/-- impl.named -/
def Fq11 (a0 : TL) (a1 : ByteArray) : Option (Int) :=
 (Fq55 a0.fC a1).bind fun y1 =>
 some y1
theorem runq11 (a0 : TL) (a1 : ByteArray) (r : Int) (h : Fq11 a0 a1 = some r) : Fun prog 41 [.agg [.bs (len a0.fC) 4 (row gd (eC len gd) a0.fC)], .c (ws a1)] [] (.c (wi r)) [] true := by
 refine ow [] func41 ntmps41 ?_; unfold Fq11 at h; have hfq55 := @runq55; generalize hU : @len = U_, hG_ : @gd = G_, hA : std = A, hP : prog = P at *; cbv
 revert h; refine rk [] [] (hfq55 _ _) (fun _ => zg (lc_ (lR _) (lc_ (le_fn (by intro j hj; match j, hj with | 0, _ => exact le_bp (show 1 <= 1 from by decide) (by intro j hj; match j, hj with | 0, _ => exact rle_refl _ | (j_ + 1), h_ => omega) | (j_ + 1), h_ => omega)) (ln_)))) fun y1 h => ?_
 cbv; exact df

def Lq6_x10 (a0 : TL) : (Int) -> Option ((Int) ⊕ ((Bool) ⊕ (Unit))) := fun x10 =>
 letO x10 fun v9 =>
 br (std.lt v9 (std.ofN (len a0.fC)))
 (req (std.inR v9 (len a0.fC)) <|
 ((
 (Fq4 (gd a0.fC (std.toN v9)) v9).bind fun y30 =>
 br (!(y30))
 (some true)
 ((Fq11 (TL.mk a0.fC) (gd a0.fC (std.toN v9)).fN).bind fun y32 =>
 some (std.not (std.eq y32 v9)))
 ) : Option (Bool)).bind fun y23 =>
 letO y23 fun w29 =>
 br w29
 (some (.inr (.inl false)))
 (some (.inl (std.add .i64 v9 1))))
 (some (.inr (.inr ())))
/-- impl.IsValidLibrary -/
def Fq6 (a0 : TL) : Option (Bool) :=
  ((
  br (std.lt (std.ofN (len a0.fC)) 1)
  (some true)
  (some (std.lt 8 (std.ofN (len a0.fC))))
  ) : Option (Bool)).bind fun y1 =>
  letO y1 fun w7 =>
  br w7
  (some false)
  ((whileP (σ := Int) (ρ := (Bool) ⊕ (Unit)) (Lq6_x10 a0) 0).bind fun y11 =>
  (match y11 with
 | .inl y11k0 => (
  letO y11k0 fun w37 =>
  some w37)
 | .inr y11m0 =>
  some true))
theorem runq6 (a0 : TL) (r : Bool) (h : Fq6 a0 = some r) : Fun prog 19 [.agg [.bs (len a0.fC) 4 (row gd (eC len gd) a0.fC)]] [] (.c (.v (.bool r))) [] true := by
 refine ow [1, 6] func19 ntmps19 ?_; unfold Fq6 at h; unfold Lq6_x10 at h; have hfq11 := @runq11; have hfq4 := @runq4; generalize hU : @len = U_, hG_ : @gd = G_, hA : std = A, hP : prog = P at *; cbv
 revert h; refine cu (fun y1 => (sp 36 [(1, .c (.ptr 64 0)), (14, .c (.v (.bool y1)))] [(64, .var [.bs (U_ a0.fC) 4 (row G_ (eC U_ G_) a0.fC)])])) (fun y1 S hS h => rg) fun w7 => rz fun h => ?_; cbv; revert h; refine fk ?_ ?_ <;> intro h <;> cbv
 ·exact df
 revert h; refine lc (fun x => (sp 36 [(1, .c (.ptr 64 0)), (16, .c (.bs (U_ a0.fC) 4 (row G_ (eC U_ G_) a0.fC))), (17, .c (wi (A.ofN (U_ a0.fC)))), (18, .c (wi x))] [(64, .var [.bs (U_ a0.fC) 4 (row G_ (eC U_ G_) a0.fC)])])) (fun y e s => (match y with | .inl w => e = .ret /\ s.le (sp 36 [(2, .c (.v (.bool w)))] []) | .inr w0 => (fun (w : Unit) => e = .exit 0 /\ s.le (sp 36 [] [])) w0)) zb ?_ ?_
 ·intro v9 z h K hK hY; replace h := oz h; cbv; revert h; refine fk ?_ ?_ <;> intro h <;> cbv
  ·revert h; refine ra fun c22 h => ?_; revert h; refine cu (fun y23 => (sp 36 [(1, .c (.ptr 64 0)), (16, .c (.bs (U_ a0.fC) 4 (row G_ (eC U_ G_) a0.fC))), (17, .c (wi (A.ofN (U_ a0.fC)))), (18, .c (wi v9)), (34, .c (.v (.bool y23)))] [(64, .var [.bs (U_ a0.fC) 4 (row G_ (eC U_ G_) a0.fC)])])) ?_ fun w29 => rz fun h => ?_
   ·intro y23 S hS h; cbv; revert h; refine rk0 (hfq4 _ _) fun y30 h => ?_; cbv; revert h; refine fk ?_ ?_ <;> intro h <;> cbv
    ·exact dn
    revert h; refine rk0 (hfq11 _ _) fun y32 h => ?_; cbv; exact dn
   cbv; revert h; refine fk ?_ ?_ <;> intro h <;> cbv
   ·exact dy
   exact dm
  exact dy
 intro y11 h e20 s21 q19 hne; rcases y11 with y11k0 | y11m0
 ·replace h := h; obtain ⟨rfl, q19⟩ := q19; revert h; refine rz fun h => ?_; cbv; injection h with h; subst h; exact ⟨_, q19, lR _, zo, rfl⟩
 ·obtain ⟨rfl, q19⟩ := q19; cbv; refine ⟨_, q19, ?_⟩; cbv; exact df

/-- impl.Shape] -/
def Fq91 (a0 : List TS) : Option (List TS) :=
 nilB (len a0)
 (some ([] : List TS))
 (letO ([] : List TS) fun l1 =>
 req (std.room (std.nadd (len l1) (len a0)) 40) <|
 letO (l1 ++ a0) fun l3 =>
 some l3)
theorem runq91 (a0 : List TS) (r : List TS) (h : Fq91 a0 = some r) : Fun prog 134 [.c (.bs (len a0) 5 (row gd (eS) a0))] [] (.c (.os 64000 0 (len r))) [(64000, .arr .rw [] (len r) 5 (row gd (eS) r))] true := by
 refine ow [] func134 ntmps134 ?_ (hv := (fun _ => ⟨trivial, ⟨fun i _ j _ => val_flat (vl_encShape _ _), tv⟩⟩)); unfold Fq91 at h; generalize hU : @len = U_, hG_ : @gd = G_, hA : std = A, hP : prog = P at *; cbv; obtain ⟨h, hz7⟩ := of_nilB h; refine And.intro (fun hn6 => ?_) ?_
 ·have h := hz7 hn6; clear hz7; cbv; injection h with h; subst h; refine ⟨(sp 8 [(2, .c (.os 64000 0 (U_ ([] : List TS))))] [(64000, .arr .rw [] (U_ ([] : List TS)) 5 (row G_ (eS) ([] : List TS)))]), ?_, ?_⟩
  ·refine St.le_trans (le_nilT 2 64000 5 (row G_ (eS) ([] : List TS)) (by decide) rfl) ?_; subst hU; exact zb
  ·subst hU; exact ⟨lR _, zo, rfl⟩
 ·clear hz7; cbv; revert h; refine rl fun l1 hl1 h => ?_; have e2 : 0 = U_ l1 := by subst hl1 hU; rfl
  refine ⟨_, (co e2), _, row G_ (eS) l1, e2, wO ?_, ?_⟩
  ·intro i hi j hj; rw [<- e2] at hi; subst hl1; subst hG_; omega
  cbv; revert h; refine rq fun c5 => rl fun l3 hl3 h => ?_; have e4 := nl hA hU hl3; refine ⟨c5, _, (co e4), _, row G_ (eS) l3, e4, wO ?_, ?_⟩
  ·subst hG_ hU hA; exact app_bs (pl_encShape) hl3 (Nat.le_refl _)
  cbv; injection h with h; subst h; exact ⟨_, le_ren 320 64000 (by decide) rfl, lR _, zo, rfl⟩
set_option maxHeartbeats 40000000
/-- impl.Label] -/
def Fq108 (a0 : List TB) : Option (List TB) :=
 nilB (len a0)
 (some ([] : List TB))
 (letO ([] : List TB) fun l1 =>
 req (std.room (std.nadd (len l1) (len a0)) 40) <|
 letO (l1 ++ a0) fun l3 =>
 some l3)
theorem runq108 (a0 : List TB) (r : List TB) (h : Fq108 a0 = some r) : Fun prog 135 [.c (.bs (len a0) 4 (row gd (eL_0) a0))] [] (.c (.os 64000 0 (len r))) [(64000, .arr .rw [] (len r) 4 (row gd (eL_0) r))] true := by
 refine ow [] func135 ntmps135 ?_ (hv := (fun _ => ⟨trivial, ⟨fun i _ j _ => val_flat (vl_encLabel _ _), tv⟩⟩)); unfold Fq108 at h; generalize hU : @len = U_, hG_ : @gd = G_, hA : std = A, hP : prog = P at *; cbv; obtain ⟨h, hz7⟩ := of_nilB h; refine And.intro (fun hn6 => ?_) ?_
 ·have h := hz7 hn6; clear hz7; cbv; injection h with h; subst h; refine ⟨(sp 8 [(2, .c (.os 64000 0 (U_ ([] : List TB))))] [(64000, .arr .rw [] (U_ ([] : List TB)) 4 (row G_ (eL_0) ([] : List TB)))]), ?_, ?_⟩
  ·refine St.le_trans (le_nilT 2 64000 4 (row G_ (eL_0) ([] : List TB)) (by decide) rfl) ?_; subst hU; exact zb
  ·subst hU; exact ⟨lR _, zo, rfl⟩
 ·clear hz7; cbv; revert h; refine rl fun l1 hl1 h => ?_; have e2 : 0 = U_ l1 := by subst hl1 hU; rfl
  refine ⟨_, (co e2), _, row G_ (eL_0) l1, e2, wO ?_, ?_⟩
  ·intro i hi j hj; rw [<- e2] at hi; subst hl1; subst hG_; omega
  cbv; revert h; refine rq fun c5 => rl fun l3 hl3 h => ?_; have e4 := nl hA hU hl3; refine ⟨c5, _, (co e4), _, row G_ (eL_0) l3, e4, wO ?_, ?_⟩
  ·subst hG_ hU hA; exact app_bs (pl_encLabel) hl3 (Nat.le_refl _)
  cbv; injection h with h; subst h; exact ⟨_, le_ren 320 64000 (by decide) rfl, lR _, zo, rfl⟩

/-- impl.Instance] -/
def Fq94 (a0 : List TI) : Option (List TI) :=
 nilB (len a0)
 (some ([] : List TI))
 (letO ([] : List TI) fun l1 =>
 req (std.room (std.nadd (len l1) (len a0)) 64) <|
 letO (l1 ++ a0) fun l3 =>
 some l3)
theorem runq94 (a0 : List TI) (r : List TI) (h : Fq94 a0 = some r) : Fun prog 136 [.c (.bs (len a0) 8 (row gd (eI) a0))] [] (.c (.os 64000 0 (len r))) [(64000, .arr .rw [] (len r) 8 (row gd (eI) r))] true := by
 refine ow [] func136 ntmps136 ?_ (hv := (fun _ => ⟨trivial, ⟨fun i _ j _ => val_flat (vl_encInstance _ _), tv⟩⟩)); unfold Fq94 at h; generalize hU : @len = U_, hG_ : @gd = G_, hA : std = A, hP : prog = P at *; cbv; obtain ⟨h, hz7⟩ := of_nilB h; refine And.intro (fun hn6 => ?_) ?_
 ·have h := hz7 hn6; clear hz7; cbv; injection h with h; subst h; refine ⟨(sp 8 [(2, .c (.os 64000 0 (U_ ([] : List TI))))] [(64000, .arr .rw [] (U_ ([] : List TI)) 8 (row G_ (eI) ([] : List TI)))]), ?_, ?_⟩
  ·refine St.le_trans (le_nilT 2 64000 8 (row G_ (eI) ([] : List TI)) (by decide) rfl) ?_; subst hU; exact zb
  ·subst hU; exact ⟨lR _, zo, rfl⟩
 ·clear hz7; cbv; revert h; refine rl fun l1 hl1 h => ?_; have e2 : 0 = U_ l1 := by subst hl1 hU; rfl
  refine ⟨_, (co e2), _, row G_ (eI) l1, e2, wO ?_, ?_⟩
  ·intro i hi j hj; rw [<- e2] at hi; subst hl1; subst hG_; omega
  cbv; revert h; refine rq fun c5 => rl fun l3 hl3 h => ?_; have e4 := nl hA hU hl3; refine ⟨c5, _, (co e4), _, row G_ (eI) l3, e4, wO ?_, ?_⟩
  ·subst hG_ hU hA; exact app_bs (pl_encInstance) hl3 (Nat.le_refl _)
  cbv; injection h with h; subst h; exact ⟨_, le_ren 320 64000 (by decide) rfl, lR _, zo, rfl⟩

/-- impl.copyCell -/
def Fq110 (a0 : TC) : Option (TC) :=
 (Fq91 a0.fS).bind fun y1 =>
 (Fq108 a0.fL).bind fun y3 =>
 (Fq94 a0.fI).bind fun y5 =>
 some (TC.mk a0.fN y1 y3 y5)
theorem runq110 (a0 : TC) (r : TC) (h : Fq110 a0 = some r) : Fun prog 78 [.agg [ws a0.fN, .bs (len a0.fS) 5 (row gd (eS) a0.fS), .bs (len a0.fL) 4 (row gd (eL_0) a0.fL), .bs (len a0.fI) 8 (row gd (eI) a0.fI)]] [] (.agg [ws r.fN, .os 64000 0 (len r.fS), .os 64002 0 (len r.fL), .os 64004 0 (len r.fI)]) [(64000, .arr .rw [] (len r.fS) 5 (row gd (eS) r.fS)), (64002, .arr .rw [] (len r.fL) 4 (row gd (eL_0) r.fL)), (64004, .arr .rw [] (len r.fI) 8 (row gd (eI) r.fI))] true := by
 refine ow [] func78 ntmps78 ?_ (hv := (fun _ => ⟨(by simp [AV.flat, AV.flat1, AC.flat]), ⟨fun i _ j _ => val_flat (vl_encShape _ _), fun i _ j _ => val_flat (vl_encLabel _ _), fun i _ j _ => val_flat (vl_encInstance _ _), tv⟩⟩)); unfold Fq110 at h; have hfq94 := @runq94
 have hfq108 := @runq108; have hfq91 := @runq91; generalize hU : @len = U_, hG_ : @gd = G_, hA : std = A, hP : prog = P at *; cbv
 revert h; refine rk [] [(64000, 448)] (hfq91 _) (fun _ => zf) fun y1 h => ⟨_, rfl, _, _, rfl, fun _ _ _ _ => .refl _, ?_⟩
 cbv; revert h; refine rk [] [(64000, 640)] (hfq108 _) (fun _ => zf) fun y3 h => ⟨_, rfl, _, _, rfl, fun _ _ _ _ => .refl _, ?_⟩
 cbv; revert h; refine rk [] [(64000, 832)] (hfq94 _) (fun _ => zf) fun y5 h => ⟨_, rfl, _, _, rfl, fun _ _ _ _ => .refl _, ?_⟩
 cbv; injection h with h; subst h; exact ⟨_, St.le_trans (le_ren 448 64000 (by decide) rfl) (St.le_trans (le_ren 640 64002 (by decide) rfl) ((le_ren 832 64004 (by decide) rfl))), lR _, zo, rfl⟩

def Lq16_x3 (a0 : TL) : (Int × (List TC)) -> Option ((Int × (List TC)) ⊕ (((List TC)))) := fun x3 =>
 letO x3.1 fun v1 =>
 letO x3.2 fun v2 =>
 br (std.lt v1 (std.ofN (len a0.fC)))
 (req (std.inR v1 (len a0.fC)) <|
 ((
 (Fq110 (gd a0.fC (std.toN v1))).bind fun y23 =>
 letO ([y23] : List TC) fun l25 =>
 req (std.room (std.nadd (len v2) (len l25)) 88) <|
 letO (v2 ++ l25) fun l27 =>
 some l27
 ) : Option ((List TC))).bind fun y16 =>
 letO y16 fun w22 =>
 some (.inl (std.add .i64 v1 1, w22)))
 (some (.inr v2))
/-- impl.copyLibrary -/
def Fq16 (a0 : TL) : Option (TL) :=
 (whileP (σ := Int × (List TC)) (ρ := ((List TC))) (Lq16_x3 a0) (0, ([] : List TC))).bind fun y4 =>
 letO y4 fun y4k0 =>
 letO y4k0 fun w31 =>
 some (TL.mk w31)
theorem runq16 (a0 : TL) (r : TL) (h : Fq16 a0 = some r) : Fun prog 35 [.agg [.bs (len a0.fC) 4 (row gd (eC len gd) a0.fC)]] [] (.agg [.os 64000 0 (len r.fC)]) [(64000, .arr .rw [] (len r.fC) 4 (row gd (oC len gd) r.fC))] true := by
 refine ow [5] func35 ntmps35 ?_ (hv := (fun _ => ⟨(by simp [AV.flat, AV.flat1, AC.flat]), ⟨fun i _ j _ => fl_oncCell _ _, tv⟩⟩)); unfold Fq16 at h; unfold Lq16_x3 at h; have hfq110 := @runq110; generalize hU : @len = U_, hG_ : @gd = G_, hA : std = A, hP : prog = P at *; cbv
 revert h; refine ln (.exit 0) (fun x => (sp 23 [(2, .c (.ptr 128 0)), (3, .c (.ptr 192 0)), (8, .c (.bs (U_ a0.fC) 4 (row G_ (eC U_ G_) a0.fC))), (9, .c (wi (A.ofN (U_ a0.fC)))), (10, .c (wi x.1))] [(128, .var [.v (.slice none 0 0)]), (192, .var [.os 1216 0 (U_ x.2)]), (1216, .arr .rw [] (U_ x.2) 4 (row G_ (oC U_ G_) x.2))])) (fun w => (sp 23 [(2, .c (.ptr 128 0)), (3, .c (.ptr 192 0))] [(128, .var [.v (.slice none 0 0)]), (192, .var [.os 1216 0 (U_ w)]), (1216, .arr .rw [] (U_ w) 4 (row G_ (oC U_ G_) w))])) ?_ ?_ ?_
 ·show St.le _ _; refine St.le_trans (le_nilV 192 0 1216 4 (row G_ (oC U_ G_) ([] : List TC)) (by decide) (by decide) rfl rfl) ?_; subst hU; exact zb
 ·rintro ⟨v1, v2⟩ z h K hK hY; replace h := oz (oz h); dsimp only at h; cbv; revert h; refine fk ?_ ?_ <;> intro h <;> cbv
  ·revert h; refine ra fun c15 h => ?_
   revert h; refine cu (fun y16 => (sp 23 [(2, .c (.ptr 128 0)), (3, .c (.ptr 192 0)), (8, .c (.bs (U_ a0.fC) 4 (row G_ (eC U_ G_) a0.fC))), (9, .c (wi (A.ofN (U_ a0.fC)))), (10, .c (wi v1))] [(128, .var [.v (.slice none 0 0)]), (192, .var [.os 1216 0 (U_ y16)]), (1216, .arr .rw [] (U_ y16) 4 (row G_ (oC U_ G_) y16))])) ?_ fun w22 => rz fun h => ?_
   ·intro y16 S hS h; cbv; revert h; refine rk [] [(64000, 1088), (64002, 1090), (64004, 1092)] (hfq110 _) (fun _ => zf) fun y23 h => ⟨_, rfl, _, _, rfl, fun _ _ _ _ => .refl _, _, _, rfl, fun _ _ _ _ => .refl _, _, _, rfl, fun _ _ _ _ => .refl _, ?_⟩
    cbv; revert h; refine rl fun l25 hl25 h => ?_; have e26 : 1 = U_ l25 := by subst hl25 hU; rfl
    refine ⟨_, (co e26), _, (pC (fun _ _ => AC.junk) 0 [ws y23.fN, .os 1088 0 (U_ y23.fS), .os 1090 0 (U_ y23.fL), .os 1092 0 (U_ y23.fI)]), e26, wO ?_, ?_⟩
    ·refine patch_one (by subst hl25 hU; rfl) ?_; exact zr
    cbv; revert h; refine rq fun c29 => rl fun l27 hl27 h => ?_; have e28 := nl hA hU hl27; refine ⟨c29, _, (co e28), _, (pC (row G_ (oC U_ G_) v2) (U_ v2) [ws y23.fN, .os 1088 0 (U_ y23.fS), .os 1090 0 (U_ y23.fL), .os 1092 0 (U_ y23.fI)]), e28, wO ?_, ?_⟩
    ·subst hU hA; refine patch_joinG (by first | (rw [hl27]; simp [len]; done) | (rw [hl27]; simp [len]; omega) | (subst_vars; simp [len])) ?_; exact zr
    cbv; rw [hl25] at hl27; injection h with h; subst h; subst hS; show St.le _ _; refine St.le_trans (le_foldP 1216 1 1088 rfl rfl rfl (by decide) (by subst hU; exact app_lt hl27) (by decide) rfl (fun _ _ => rC _ _)) ?_; refine St.le_trans (le_foldP 1216 2 1090 rfl rfl rfl (by decide) (by subst hU; exact app_lt hl27) (by decide) rfl (fun _ _ => rC _ _)) ?_
    refine St.le_trans (le_foldP 1216 3 1092 rfl rfl rfl (by decide) (by subst hU; exact app_lt hl27) (by decide) rfl (fun _ _ => rC _ _)) ?_; exact lsp rfl zl ⟨rfl, rfl, oP (fun _ _ => rC _ _) (by subst hG_ hU hA; exact patch_app hl27 (Nat.le_refl _) zr), tv⟩ rfl
   cbv; exact dm
  exact dx
 intro w31 h s q12; replace h := oz (oz h); cbv; refine ⟨_, q12, ?_⟩; cbv; injection h with h; subst h; exact ⟨_, le_ren 1216 64000 (by decide) rfl, lR _, zo, rfl⟩

/-- impl.byteReader).one -/
def Fq2 (a0 : TbyteReader) : Option (Int × TbyteReader) :=
 br (std.lt (std.ofN (std.slen a0.gs)) 1)
 (some ((0 : Int), (TbyteReader.mk a0.gs true)))
 (req (std.inR 0 (std.slen a0.gs)) <|
 req (std.upTo 1 (std.slen a0.gs)) <|
 some (std.conv .i64 (std.sat a0.gs (std.toN 0)), (TbyteReader.mk (std.ssub a0.gs (std.toN 1) (std.slen a0.gs)) a0.gbad)))
theorem runq2 (a0 : TbyteReader) (r : Int × TbyteReader) (h : Fq2 a0 = some r) : Fun prog 98 [.c (.ptr 5 0)] [(5, .var [ws a0.gs, .v (.bool a0.gbad)])] (.c (wi r.1)) [(5, .var [ws r.2.gs, .v (.bool r.2.gbad)])] true := by
 refine ow [] func98 ntmps98 ?_ (hv := (fun _ => ⟨trivial, ⟨(by simp [AO.flat, AC.flat]), tv⟩⟩)); unfold Fq2 at h; generalize hU : @len = U_, hG_ : @gd = G_, hA : std = A, hP : prog = P at *; cbv; revert h; refine fk ?_ ?_ <;> intro h <;> cbv
 ·exact df
 revert h; refine ra fun c1 h => ?_; revert h; refine ra fun c2 h => ?_; exact df

/-- impl.byteReader).two -/
def Fq25 (a0 : TbyteReader) : Option (Int × TbyteReader) :=
 (Fq2 a0).bind fun y1 =>
 req (std.nneg 8) <|
 (Fq2 y1.2).bind fun y4 =>
 some (std.add .i64 (std.shl .i64 y1.1 8) y4.1, y4.2)
theorem runq25 (a0 : TbyteReader) (r : Int × TbyteReader) (h : Fq25 a0 = some r) : Fun prog 99 [.c (.ptr 5 0)] [(5, .var [ws a0.gs, .v (.bool a0.gbad)])] (.c (wi r.1)) [(5, .var [ws r.2.gs, .v (.bool r.2.gbad)])] true := by
 refine ow [] func99 ntmps99 ?_ (hv := (fun _ => ⟨trivial, ⟨(by simp [AO.flat, AC.flat]), tv⟩⟩)); unfold Fq25 at h; have hfq2 := @runq2; generalize hU : @len = U_, hG_ : @gd = G_, hA : std = A, hP : prog = P at *; cbv
 revert h; refine rk [(5, 5)] [(5, 5)] (hfq2 _) (fun _ => yf) fun y1 h => ?_; cbv; revert h; refine ra fun c3 h => ?_; revert h; refine rk [(5, 5)] [(5, 5)] (hfq2 _) (fun _ => yf) fun y4 h => ?_; cbv; exact df
set_option maxHeartbeats 40000000
/-- impl.byteReader).coordinate -/
def Fq5 (a0 : TbyteReader) : Option (Int × TbyteReader) :=
 (Fq25 a0).bind fun y1 =>
 some (std.sub .i64 y1.1 32768, y1.2)
theorem runq5 (a0 : TbyteReader) (r : Int × TbyteReader) (h : Fq5 a0 = some r) : Fun prog 166 [.c (.ptr 5 0)] [(5, .var [ws a0.gs, .v (.bool a0.gbad)])] (.c (wi r.1)) [(5, .var [ws r.2.gs, .v (.bool r.2.gbad)])] true := by
 refine ow [] func166 ntmps166 ?_ (hv := (fun _ => ⟨trivial, ⟨(by simp [AO.flat, AC.flat]), tv⟩⟩)); unfold Fq5 at h; have hfq25 := @runq25; generalize hU : @len = U_, hG_ : @gd = G_, hA : std = A, hP : prog = P at *; cbv
 revert h; refine rk [(5, 5)] [(5, 5)] (hfq25 _) (fun _ => yf) fun y1 h => ?_; cbv; exact df

/-- impl.byteReader).shape -/
def Fq68 (a0 : TbyteReader) : Option (TS × TbyteReader) :=
 (Fq2 a0).bind fun y1 =>
 (Fq5 y1.2).bind fun y3 =>
 (Fq5 y3.2).bind fun y5 =>
 (Fq5 y5.2).bind fun y7 =>
 (Fq5 y7.2).bind fun y9 =>
 some ((TS.mk y1.1 (TRect.mk y3.1 y5.1 y7.1 y9.1)), y9.2)
theorem runq68 (a0 : TbyteReader) (r : TS × TbyteReader) (h : Fq68 a0 = some r) : Fun prog 149 [.c (.ptr 5 0)] [(5, .var [ws a0.gs, .v (.bool a0.gbad)])] (.agg [wi r.1.fy, wi r.1.fb.fX0, wi r.1.fb.fY0, wi r.1.fb.fX1, wi r.1.fb.fY1]) [(5, .var [ws r.2.gs, .v (.bool r.2.gbad)])] true := by
 refine ow [] func149 ntmps149 ?_ (hv := (fun _ => ⟨(by simp [AV.flat, AV.flat1, AC.flat]), ⟨(by simp [AO.flat, AC.flat]), tv⟩⟩)); unfold Fq68 at h; have hfq5 := @runq5; have hfq2 := @runq2
 generalize hU : @len = U_, hG_ : @gd = G_, hA : std = A, hP : prog = P at *; cbv; revert h; refine rk [(5, 5)] [(5, 5)] (hfq2 _) (fun _ => yf) fun y1 h => ?_; cbv; revert h; refine rk [(5, 5)] [(5, 5)] (hfq5 _) (fun _ => yf) fun y3 h => ?_; cbv
 revert h; refine rk [(5, 5)] [(5, 5)] (hfq5 _) (fun _ => yf) fun y5 h => ?_; cbv; revert h; refine rk [(5, 5)] [(5, 5)] (hfq5 _) (fun _ => yf) fun y7 h => ?_; cbv; revert h; refine rk [(5, 5)] [(5, 5)] (hfq5 _) (fun _ => yf) fun y9 h => ?_; cbv; exact df

/-- impl.byteReader).name -/
def Fq36 (a0 : TbyteReader) : Option (ByteArray × TbyteReader) :=
 (Fq2 a0).bind fun y1 =>
 br (std.lt (std.ofN (std.slen y1.2.gs)) y1.1)
 (some ((ByteArray.mk #[]), (TbyteReader.mk y1.2.gs true)))
 (req (std.upTo y1.1 (std.slen y1.2.gs)) <|
 req (std.upTo y1.1 (std.slen y1.2.gs)) <|
 some (std.ssub y1.2.gs 0 (std.toN y1.1), (TbyteReader.mk (std.ssub y1.2.gs (std.toN y1.1) (std.slen y1.2.gs)) y1.2.gbad)))
theorem runq36 (a0 : TbyteReader) (r : ByteArray × TbyteReader) (h : Fq36 a0 = some r) : Fun prog 152 [.c (.ptr 5 0)] [(5, .var [ws a0.gs, .v (.bool a0.gbad)])] (.c (ws r.1)) [(5, .var [ws r.2.gs, .v (.bool r.2.gbad)])] true := by
 refine ow [] func152 ntmps152 ?_ (hv := (fun _ => ⟨trivial, ⟨(by simp [AO.flat, AC.flat]), tv⟩⟩)); unfold Fq36 at h; have hfq2 := @runq2; generalize hU : @len = U_, hG_ : @gd = G_, hA : std = A, hP : prog = P at *; cbv
 revert h; refine rk [(5, 5)] [(5, 5)] (hfq2 _) (fun _ => yf) fun y1 h => ?_; cbv; revert h; refine fk ?_ ?_ <;> intro h <;> cbv
 ·exact df
 revert h; refine ra fun c3 h => ?_; revert h; refine ra fun c4 h => ?_; exact df

/-- impl.byteReader).label -/
def Fq72 (a0 : TbyteReader) : Option (TB × TbyteReader) :=
 (Fq2 a0).bind fun y1 =>
 (Fq5 y1.2).bind fun y3 =>
 (Fq5 y3.2).bind fun y5 =>
 (Fq36 y5.2).bind fun y7 =>
 some ((TB.mk y1.1 (TPoint.mk y3.1 y5.1) y7.1), y7.2)
theorem runq72 (a0 : TbyteReader) (r : TB × TbyteReader) (h : Fq72 a0 = some r) : Fun prog 150 [.c (.ptr 5 0)] [(5, .var [ws a0.gs, .v (.bool a0.gbad)])] (.agg [wi r.1.fy, wi r.1.fa.fX, wi r.1.fa.fY, ws r.1.fN]) [(5, .var [ws r.2.gs, .v (.bool r.2.gbad)])] true := by
 refine ow [] func150 ntmps150 ?_ (hv := (fun _ => ⟨(by simp [AV.flat, AV.flat1, AC.flat]), ⟨(by simp [AO.flat, AC.flat]), tv⟩⟩)); unfold Fq72 at h; have hfq5 := @runq5; have hfq36 := @runq36; have hfq2 := @runq2
 generalize hU : @len = U_, hG_ : @gd = G_, hA : std = A, hP : prog = P at *; cbv; revert h; refine rk [(5, 5)] [(5, 5)] (hfq2 _) (fun _ => yf) fun y1 h => ?_; cbv; revert h; refine rk [(5, 5)] [(5, 5)] (hfq5 _) (fun _ => yf) fun y3 h => ?_; cbv
 revert h; refine rk [(5, 5)] [(5, 5)] (hfq5 _) (fun _ => yf) fun y5 h => ?_; cbv; revert h; refine rk [(5, 5)] [(5, 5)] (hfq36 _) (fun _ => yf) fun y7 h => ?_; cbv; exact df

/-- impl.byteReader).instance -/
def Fq70 (a0 : TbyteReader) : Option (TI × TbyteReader) :=
 (Fq2 a0).bind fun y1 =>
 (Fq5 y1.2).bind fun y3 =>
 (Fq5 y3.2).bind fun y5 =>
 (Fq2 y5.2).bind fun y7 =>
 (Fq2 y7.2).bind fun y9 =>
 (Fq5 y9.2).bind fun y11 =>
 (Fq5 y11.2).bind fun y13 =>
 some ((TI.mk 0 (TM.mk y1.1 y3.1 y5.1) y7.1 y9.1 y11.1 y13.1), y13.2)
theorem runq70 (a0 : TbyteReader) (r : TI × TbyteReader) (h : Fq70 a0 = some r) : Fun prog 151 [.c (.ptr 5 0)] [(5, .var [ws a0.gs, .v (.bool a0.gbad)])] (.agg [wi r.1.fc, wi r.1.fp.fo, wi r.1.fp.fX, wi r.1.fp.fY, wi r.1.fK, wi r.1.fR, wi r.1.fu, wi r.1.fv]) [(5, .var [ws r.2.gs, .v (.bool r.2.gbad)])] true := by
 refine ow [] func151 ntmps151 ?_ (hv := (fun _ => ⟨(by simp [AV.flat, AV.flat1, AC.flat]), ⟨(by simp [AO.flat, AC.flat]), tv⟩⟩)); unfold Fq70 at h; have hfq5 := @runq5; have hfq2 := @runq2
 generalize hU : @len = U_, hG_ : @gd = G_, hA : std = A, hP : prog = P at *; cbv; revert h; refine rk [(5, 5)] [(5, 5)] (hfq2 _) (fun _ => yf) fun y1 h => ?_; cbv; revert h; refine rk [(5, 5)] [(5, 5)] (hfq5 _) (fun _ => yf) fun y3 h => ?_; cbv
 revert h; refine rk [(5, 5)] [(5, 5)] (hfq5 _) (fun _ => yf) fun y5 h => ?_; cbv; revert h; refine rk [(5, 5)] [(5, 5)] (hfq2 _) (fun _ => yf) fun y7 h => ?_; cbv; revert h; refine rk [(5, 5)] [(5, 5)] (hfq2 _) (fun _ => yf) fun y9 h => ?_; cbv
 revert h; refine rk [(5, 5)] [(5, 5)] (hfq5 _) (fun _ => yf) fun y11 h => ?_; cbv; revert h; refine rk [(5, 5)] [(5, 5)] (hfq5 _) (fun _ => yf) fun y13 h => ?_; cbv; exact df

/-- impl.byteReader).edit -/
def Fq69 (a0 : TbyteReader) : Option (TE × TbyteReader) :=
 (Fq2 a0).bind fun y1 =>
 (Fq2 y1.2).bind fun y3 =>
 (Fq2 y3.2).bind fun y5 =>
 ((
 br (std.eq y1.1 1)
 ((Fq68 y5.2).bind fun y33 =>
 some (y33.1.fy, y33.1.fb.fX0, y33.1.fb.fY0, y33.1.fb.fX1, y33.1.fb.fY1, y33.2.gs, y33.2.gbad, (ByteArray.mk #[]), 0, 0, 0, (ByteArray.mk #[]), 0, 0, 0, 0, 0, 0, 0, 0))
 (((
 br (std.eq y1.1 3)
 ((Fq72 y5.2).bind fun y56 =>
 some (y56.1.fy, y56.1.fa.fX, y56.1.fa.fY, y56.1.fN, y56.2.gs, y56.2.gbad, (ByteArray.mk #[]), 0, 0, 0, 0, 0, 0, 0, 0))
 (((
 br (std.eq y1.1 5)
 ((Fq2 y5.2).bind fun y75 =>
 (Fq70 y75.2).bind fun y77 =>
 some (y75.1, y77.1.fp.fo, y77.1.fp.fX, y77.1.fp.fY, y77.1.fK, y77.1.fR, y77.1.fu, y77.1.fv, y77.2.gs, y77.2.gbad, (ByteArray.mk #[])))
 (((
 br (std.eq y1.1 7)
 (some true)
 (some (std.eq y1.1 8))
 ) : Option (Bool)).bind fun y79 =>
 letO y79 fun w85 =>
 ((
 br w85
 ((Fq36 y5.2).bind fun y96 =>
 some (y96.1, y96.2.gs, y96.2.gbad))
 (some ((ByteArray.mk #[]), y5.2.gs, y5.2.gbad))
 ) : Option (ByteArray × ByteArray × Bool)).bind fun y87 =>
 letO y87.1 fun w93 =>
 letO y87.2.1 fun w94 =>
 letO y87.2.2 fun w95 =>
 some (0, 0, 0, 0, 0, 0, 0, 0, w94, w95, w93))
 ) : Option (Int × Int × Int × Int × Int × Int × Int × Int × ByteArray × Bool × ByteArray)).bind fun y58 =>
 letO y58.1 fun w64 =>
 letO y58.2.1 fun w65 =>
 letO y58.2.2.1 fun w66 =>
 letO y58.2.2.2.1 fun w67 =>
 letO y58.2.2.2.2.1 fun w68 =>
 letO y58.2.2.2.2.2.1 fun w69 =>
 letO y58.2.2.2.2.2.2.1 fun w70 =>
 letO y58.2.2.2.2.2.2.2.1 fun w71 =>
 letO y58.2.2.2.2.2.2.2.2.1 fun w72 =>
 letO y58.2.2.2.2.2.2.2.2.2.1 fun w73 =>
 letO y58.2.2.2.2.2.2.2.2.2.2 fun w74 =>
 some (0, 0, 0, (ByteArray.mk #[]), w72, w73, w74, w64, w65, w66, w67, w68, w69, w70, w71))
 ) : Option (Int × Int × Int × ByteArray × ByteArray × Bool × ByteArray × Int × Int × Int × Int × Int × Int × Int × Int)).bind fun y35 =>
 letO y35.1 fun w41 =>
 letO y35.2.1 fun w42 =>
 letO y35.2.2.1 fun w43 =>
 letO y35.2.2.2.1 fun w44 =>
 letO y35.2.2.2.2.1 fun w45 =>
 letO y35.2.2.2.2.2.1 fun w46 =>
 letO y35.2.2.2.2.2.2.1 fun w47 =>
 letO y35.2.2.2.2.2.2.2.1 fun w48 =>
 letO y35.2.2.2.2.2.2.2.2.1 fun w49 =>
 letO y35.2.2.2.2.2.2.2.2.2.1 fun w50 =>
 letO y35.2.2.2.2.2.2.2.2.2.2.1 fun w51 =>
 letO y35.2.2.2.2.2.2.2.2.2.2.2.1 fun w52 =>
 letO y35.2.2.2.2.2.2.2.2.2.2.2.2.1 fun w53 =>
 letO y35.2.2.2.2.2.2.2.2.2.2.2.2.2.1 fun w54 =>
 letO y35.2.2.2.2.2.2.2.2.2.2.2.2.2.2 fun w55 =>
 some (0, 0, 0, 0, 0, w45, w46, w47, w41, w42, w43, w44, w48, w49, w50, w51, w52, w53, w54, w55))
 ) : Option (Int × Int × Int × Int × Int × ByteArray × Bool × ByteArray × Int × Int × Int × ByteArray × Int × Int × Int × Int × Int × Int × Int × Int)).bind fun y7 =>
 letO y7.1 fun w13 =>
 letO y7.2.1 fun w14 =>
 letO y7.2.2.1 fun w15 =>
 letO y7.2.2.2.1 fun w16 =>
 letO y7.2.2.2.2.1 fun w17 =>
 letO y7.2.2.2.2.2.1 fun w18 =>
 letO y7.2.2.2.2.2.2.1 fun w19 =>
 letO y7.2.2.2.2.2.2.2.1 fun w20 =>
 letO y7.2.2.2.2.2.2.2.2.1 fun w21 =>
 letO y7.2.2.2.2.2.2.2.2.2.1 fun w22 =>
 letO y7.2.2.2.2.2.2.2.2.2.2.1 fun w23 =>
 letO y7.2.2.2.2.2.2.2.2.2.2.2.1 fun w24 =>
 letO y7.2.2.2.2.2.2.2.2.2.2.2.2.1 fun w25 =>
 letO y7.2.2.2.2.2.2.2.2.2.2.2.2.2.1 fun w26 =>
 letO y7.2.2.2.2.2.2.2.2.2.2.2.2.2.2.1 fun w27 =>
 letO y7.2.2.2.2.2.2.2.2.2.2.2.2.2.2.2.1 fun w28 =>
 letO y7.2.2.2.2.2.2.2.2.2.2.2.2.2.2.2.2.1 fun w29 =>
 letO y7.2.2.2.2.2.2.2.2.2.2.2.2.2.2.2.2.2.1 fun w30 =>
 letO y7.2.2.2.2.2.2.2.2.2.2.2.2.2.2.2.2.2.2.1 fun w31 =>
 letO y7.2.2.2.2.2.2.2.2.2.2.2.2.2.2.2.2.2.2.2 fun w32 =>
 some ((TE.mk y1.1 y3.1 y5.1 w20 (TS.mk w13 (TRect.mk w14 w15 w16 w17)) (TB.mk w21 (TPoint.mk w22 w23) w24) (TI.mk w25 (TM.mk w26 w27 w28) w29 w30 w31 w32)), (TbyteReader.mk w18 w19))
theorem runq69 (a0 : TbyteReader) (r : TE × TbyteReader) (h : Fq69 a0 = some r) : Fun prog 101 [.c (.ptr 5 0)] [(5, .var [ws a0.gs, .v (.bool a0.gbad)])] (.agg [wi r.1.fk_, wi r.1.fc, wi r.1.fx, ws r.1.fN, wi r.1.fs_.fy, wi r.1.fs_.fb.fX0, wi r.1.fs_.fb.fY0, wi r.1.fs_.fb.fX1, wi r.1.fs_.fb.fY1, wi r.1.fl_.fy, wi r.1.fl_.fa.fX, wi r.1.fl_.fa.fY, ws r.1.fl_.fN, wi r.1.fi_.fc, wi r.1.fi_.fp.fo, wi r.1.fi_.fp.fX, wi r.1.fi_.fp.fY, wi r.1.fi_.fK, wi r.1.fi_.fR, wi r.1.fi_.fu, wi r.1.fi_.fv]) [(5, .var [ws r.2.gs, .v (.bool r.2.gbad)])] true := by
 refine ow [100016, 100021, 100026, 100036] func101 ntmps101 ?_ (hv := (fun _ => ⟨(by simp [AV.flat, AV.flat1, AC.flat]), ⟨(by simp [AO.flat, AC.flat]), tv⟩⟩)); unfold Fq69 at h; have hfq70 := @runq70; have hfq72 := @runq72
 have hfq36 := @runq36; have hfq2 := @runq2; have hfq68 := @runq68; generalize hU : @len = U_, hG_ : @gd = G_, hA : std = A, hP : prog = P at *; cbv; revert h; refine rk [(5, 5)] [(5, 5)] (hfq2 _) (fun _ => yf) fun y1 h => ?_; cbv
 revert h; refine rk [(5, 5)] [(5, 5)] (hfq2 _) (fun _ => yf) fun y3 h => ?_; cbv; revert h; refine rk [(5, 5)] [(5, 5)] (hfq2 _) (fun _ => yf) fun y5 h => ?_; cbv
 revert h; refine cu (fun y7 => some (sp 43 [(2, .c (.ptr 128 0)), (3, .c (.ptr 192 0))] [(128, .var [wi 0, wi 0, wi 0, ws (ByteArray.mk #[]), wi 0, wi 0, wi 0, wi 0, wi 0, wi 0, wi 0, wi 0, ws (ByteArray.mk #[]), wi 0, wi 0, wi 0, wi 0, wi 0, wi 0, wi 0, wi 0]), (192, .var [wi y1.1, wi y3.1, wi y5.1, ws y7.2.2.2.2.2.2.2.1, wi y7.1, wi y7.2.1, wi y7.2.2.1, wi y7.2.2.2.1, wi y7.2.2.2.2.1, wi y7.2.2.2.2.2.2.2.2.1, wi y7.2.2.2.2.2.2.2.2.2.1, wi y7.2.2.2.2.2.2.2.2.2.2.1, ws y7.2.2.2.2.2.2.2.2.2.2.2.1, wi y7.2.2.2.2.2.2.2.2.2.2.2.2.1, wi y7.2.2.2.2.2.2.2.2.2.2.2.2.2.1, wi y7.2.2.2.2.2.2.2.2.2.2.2.2.2.2.1, wi y7.2.2.2.2.2.2.2.2.2.2.2.2.2.2.2.1, wi y7.2.2.2.2.2.2.2.2.2.2.2.2.2.2.2.2.1, wi y7.2.2.2.2.2.2.2.2.2.2.2.2.2.2.2.2.2.1, wi y7.2.2.2.2.2.2.2.2.2.2.2.2.2.2.2.2.2.2.1, wi y7.2.2.2.2.2.2.2.2.2.2.2.2.2.2.2.2.2.2.2]), (5, .var [ws y7.2.2.2.2.2.1, .v (.bool y7.2.2.2.2.2.2.1)])])) ?_ ?_
 ·intro y7 S hS h; cbv; revert h; refine fk ?_ ?_ <;> intro h <;> cbv
  ·revert h; refine rk [(5, 5)] [(5, 5)] (hfq68 _) (fun _ => yf) fun y33 h => ?_; cbv; exact dn
  revert h; refine cu (fun y35 => some (sp 43 [(2, .c (.ptr 128 0)), (3, .c (.ptr 192 0))] [(128, .var [wi 0, wi 0, wi 0, ws (ByteArray.mk #[]), wi 0, wi 0, wi 0, wi 0, wi 0, wi 0, wi 0, wi 0, ws (ByteArray.mk #[]), wi 0, wi 0, wi 0, wi 0, wi 0, wi 0, wi 0, wi 0]), (192, .var [wi y1.1, wi y3.1, wi y5.1, ws y35.2.2.2.2.2.2.1, wi 0, wi 0, wi 0, wi 0, wi 0, wi y35.1, wi y35.2.1, wi y35.2.2.1, ws y35.2.2.2.1, wi y35.2.2.2.2.2.2.2.1, wi y35.2.2.2.2.2.2.2.2.1, wi y35.2.2.2.2.2.2.2.2.2.1, wi y35.2.2.2.2.2.2.2.2.2.2.1, wi y35.2.2.2.2.2.2.2.2.2.2.2.1, wi y35.2.2.2.2.2.2.2.2.2.2.2.2.1, wi y35.2.2.2.2.2.2.2.2.2.2.2.2.2.1, wi y35.2.2.2.2.2.2.2.2.2.2.2.2.2.2]), (5, .var [ws y35.2.2.2.2.1, .v (.bool y35.2.2.2.2.2.1)])])) ?_ ?_
  ·intro y35 S hS h; cbv; revert h; refine fk ?_ ?_ <;> intro h <;> cbv
   ·revert h; refine rk [(5, 5)] [(5, 5)] (hfq72 _) (fun _ => yf) fun y56 h => ?_; cbv; exact dn
   revert h; refine cu (fun y58 => some (sp 43 [(2, .c (.ptr 128 0)), (3, .c (.ptr 192 0))] [(128, .var [wi 0, wi 0, wi 0, ws (ByteArray.mk #[]), wi 0, wi 0, wi 0, wi 0, wi 0, wi 0, wi 0, wi 0, ws (ByteArray.mk #[]), wi 0, wi 0, wi 0, wi 0, wi 0, wi 0, wi 0, wi 0]), (192, .var [wi y1.1, wi y3.1, wi y5.1, ws y58.2.2.2.2.2.2.2.2.2.2, wi 0, wi 0, wi 0, wi 0, wi 0, wi 0, wi 0, wi 0, ws (ByteArray.mk #[]), wi y58.1, wi y58.2.1, wi y58.2.2.1, wi y58.2.2.2.1, wi y58.2.2.2.2.1, wi y58.2.2.2.2.2.1, wi y58.2.2.2.2.2.2.1, wi y58.2.2.2.2.2.2.2.1]), (5, .var [ws y58.2.2.2.2.2.2.2.2.1, .v (.bool y58.2.2.2.2.2.2.2.2.2.1)])])) ?_ ?_
   ·intro y58 S hS h; cbv; revert h; refine fk ?_ ?_ <;> intro h <;> cbv
    ·revert h; refine rk [(5, 5)] [(5, 5)] (hfq2 _) (fun _ => yf) fun y75 h => ?_; cbv; revert h; refine rk [(5, 5)] [(5, 5)] (hfq70 _) (fun _ => yf) fun y77 h => ?_; cbv; exact dn
    revert h; refine cu (fun y79 => some (sp 43 [(0, .c (.ptr 5 0)), (2, .c (.ptr 128 0)), (3, .c (.ptr 192 0)), (36, .c (.v (.bool y79)))] [(5, .var [ws y5.2.gs, .v (.bool y5.2.gbad)]), (128, .var [wi 0, wi 0, wi 0, ws (ByteArray.mk #[]), wi 0, wi 0, wi 0, wi 0, wi 0, wi 0, wi 0, wi 0, ws (ByteArray.mk #[]), wi 0, wi 0, wi 0, wi 0, wi 0, wi 0, wi 0, wi 0]), (192, .var [wi y1.1, wi y3.1, wi y5.1, ws (ByteArray.mk #[]), wi 0, wi 0, wi 0, wi 0, wi 0, wi 0, wi 0, wi 0, ws (ByteArray.mk #[]), wi 0, wi 0, wi 0, wi 0, wi 0, wi 0, wi 0, wi 0])])) (fun y79 S hS h => rg) fun w85 => rz fun h => ?_
    cbv
    revert h; refine cu (fun y87 => some (sp 43 [(2, .c (.ptr 128 0)), (3, .c (.ptr 192 0))] [(128, .var [wi 0, wi 0, wi 0, ws (ByteArray.mk #[]), wi 0, wi 0, wi 0, wi 0, wi 0, wi 0, wi 0, wi 0, ws (ByteArray.mk #[]), wi 0, wi 0, wi 0, wi 0, wi 0, wi 0, wi 0, wi 0]), (192, .var [wi y1.1, wi y3.1, wi y5.1, ws y87.1, wi 0, wi 0, wi 0, wi 0, wi 0, wi 0, wi 0, wi 0, ws (ByteArray.mk #[]), wi 0, wi 0, wi 0, wi 0, wi 0, wi 0, wi 0, wi 0]), (5, .var [ws y87.2.1, .v (.bool y87.2.2)])])) ?_ ?_
    ·intro y87 S hS h; cbv; revert h; refine fk ?_ ?_ <;> intro h <;> cbv
     ·revert h; refine rk [(5, 5)] [(5, 5)] (hfq36 _) (fun _ => yf) fun y96 h => ?_; cbv; exact dn
     exact dn
    rintro ⟨w93, w94, w95⟩ h; replace h := oz (oz (oz h)); dsimp only at h; cbv; exact dn
   rintro ⟨w64, w65, w66, w67, w68, w69, w70, w71, w72, w73, w74⟩ h; replace h := oz (oz (oz (oz (oz (oz (oz (oz (oz (oz (oz h)))))))))); dsimp only at h; cbv; exact dn
  rintro ⟨w41, w42, w43, w44, w45, w46, w47, w48, w49, w50, w51, w52, w53, w54, w55⟩ h; replace h := oz (oz (oz (oz (oz (oz (oz (oz (oz (oz (oz (oz (oz (oz (oz h)))))))))))))); dsimp only at h; cbv; exact dn
 rintro ⟨w13, w14, w15, w16, w17, w18, w19, w20, w21, w22, w23, w24, w25, w26, w27, w28, w29, w30, w31, w32⟩ h; replace h := oz (oz (oz (oz (oz (oz (oz (oz (oz (oz (oz (oz (oz (oz (oz (oz (oz (oz (oz (oz h))))))))))))))))))); dsimp only at h; cbv; exact df
set_option maxHeartbeats 40000000
/-- impl.IsValidEdit -/
def Fq34 (a0 : TE) : Option (Bool) :=
  ((
  (Fq3 a0.fc 0 8).bind fun y8 =>
  br (!(y8))
  (some true)
  ((Fq3 a0.fx 0 24).bind fun y10 =>
  some (!(y10)))
  ) : Option (Bool)).bind fun y1 =>
  letO y1 fun w7 =>
  br w7
  (some false)
  (br (std.eq a0.fk_ 1)
  (((
  br (std.band (std.eq a0.fk_ a0.fk_) (std.band (std.eq a0.fc a0.fc) (std.band (std.eq a0.fx a0.fx) (std.band (std.seq (ByteArray.mk #[]) a0.fN) (std.band (std.band (std.eq a0.fs_.fy a0.fs_.fy) (std.band (std.band (std.eq a0.fs_.fb.fX0 a0.fs_.fb.fX0) (std.band (std.eq a0.fs_.fb.fY0 a0.fs_.fb.fY0) (std.band (std.eq a0.fs_.fb.fX1 a0.fs_.fb.fX1) (std.band (std.eq a0.fs_.fb.fY1 a0.fs_.fb.fY1) (true))))) (true))) (std.band (std.band (std.eq 0 a0.fl_.fy) (std.band (std.band (std.eq 0 a0.fl_.fa.fX) (std.band (std.eq 0 a0.fl_.fa.fY) (true))) (std.band (std.seq (ByteArray.mk #[]) a0.fl_.fN) (true)))) (std.band (std.band (std.eq 0 a0.fi_.fc) (std.band (std.band (std.eq 0 a0.fi_.fp.fo) (std.band (std.eq 0 a0.fi_.fp.fX) (std.band (std.eq 0 a0.fi_.fp.fY) (true)))) (std.band (std.eq 0 a0.fi_.fK) (std.band (std.eq 0 a0.fi_.fR) (std.band (std.eq 0 a0.fi_.fu) (std.band (std.eq 0 a0.fi_.fv) (true))))))) (true))))))))
  ((Fq58 a0.fs_).bind fun y20 =>
  some y20)
  (some false)
  ) : Option (Bool)).bind fun y13 =>
  letO y13 fun w19 =>
  some w19)
  (br (std.eq a0.fk_ 3)
  (((
  br (std.band (std.eq a0.fk_ a0.fk_) (std.band (std.eq a0.fc a0.fc) (std.band (std.eq a0.fx a0.fx) (std.band (std.seq (ByteArray.mk #[]) a0.fN) (std.band (std.band (std.eq 0 a0.fs_.fy) (std.band (std.band (std.eq 0 a0.fs_.fb.fX0) (std.band (std.eq 0 a0.fs_.fb.fY0) (std.band (std.eq 0 a0.fs_.fb.fX1) (std.band (std.eq 0 a0.fs_.fb.fY1) (true))))) (true))) (std.band (std.band (std.eq a0.fl_.fy a0.fl_.fy) (std.band (std.band (std.eq a0.fl_.fa.fX a0.fl_.fa.fX) (std.band (std.eq a0.fl_.fa.fY a0.fl_.fa.fY) (true))) (std.band (std.seq a0.fl_.fN a0.fl_.fN) (true)))) (std.band (std.band (std.eq 0 a0.fi_.fc) (std.band (std.band (std.eq 0 a0.fi_.fp.fo) (std.band (std.eq 0 a0.fi_.fp.fX) (std.band (std.eq 0 a0.fi_.fp.fY) (true)))) (std.band (std.eq 0 a0.fi_.fK) (std.band (std.eq 0 a0.fi_.fR) (std.band (std.eq 0 a0.fi_.fu) (std.band (std.eq 0 a0.fi_.fv) (true))))))) (true))))))))
  ((Fq66 a0.fl_).bind fun y30 =>
  some y30)
  (some false)
  ) : Option (Bool)).bind fun y23 =>
  letO y23 fun w29 =>
  some w29)
  (br (std.eq a0.fk_ 5)
  (((
  br (std.band (std.eq a0.fk_ a0.fk_) (std.band (std.eq a0.fc a0.fc) (std.band (std.eq a0.fx a0.fx) (std.band (std.seq (ByteArray.mk #[]) a0.fN) (std.band (std.band (std.eq 0 a0.fs_.fy) (std.band (std.band (std.eq 0 a0.fs_.fb.fX0) (std.band (std.eq 0 a0.fs_.fb.fY0) (std.band (std.eq 0 a0.fs_.fb.fX1) (std.band (std.eq 0 a0.fs_.fb.fY1) (true))))) (true))) (std.band (std.band (std.eq 0 a0.fl_.fy) (std.band (std.band (std.eq 0 a0.fl_.fa.fX) (std.band (std.eq 0 a0.fl_.fa.fY) (true))) (std.band (std.seq (ByteArray.mk #[]) a0.fl_.fN) (true)))) (std.band (std.band (std.eq a0.fi_.fc a0.fi_.fc) (std.band (std.band (std.eq a0.fi_.fp.fo a0.fi_.fp.fo) (std.band (std.eq a0.fi_.fp.fX a0.fi_.fp.fX) (std.band (std.eq a0.fi_.fp.fY a0.fi_.fp.fY) (true)))) (std.band (std.eq a0.fi_.fK a0.fi_.fK) (std.band (std.eq a0.fi_.fR a0.fi_.fR) (std.band (std.eq a0.fi_.fu a0.fi_.fu) (std.band (std.eq a0.fi_.fv a0.fi_.fv) (true))))))) (true))))))))
  ((Fq54 a0.fi_ 8).bind fun y40 =>
  some y40)
  (some false)
  ) : Option (Bool)).bind fun y33 =>
  letO y33 fun w39 =>
  some w39)
  (((
  br (std.eq a0.fk_ 2)
  (some true)
  (((
  br (std.eq a0.fk_ 4)
  (some true)
  (some (std.eq a0.fk_ 6))
  ) : Option (Bool)).bind fun y50 =>
  letO y50 fun w56 =>
  some w56)
  ) : Option (Bool)).bind fun y43 =>
  letO y43 fun w49 =>
  ((
  br w49
  ((some (std.band (std.eq a0.fk_ a0.fk_) (std.band (std.eq a0.fc a0.fc) (std.band (std.eq a0.fx a0.fx) (std.band (std.seq (ByteArray.mk #[]) a0.fN) (std.band (std.band (std.eq 0 a0.fs_.fy) (std.band (std.band (std.eq 0 a0.fs_.fb.fX0) (std.band (std.eq 0 a0.fs_.fb.fY0) (std.band (std.eq 0 a0.fs_.fb.fX1) (std.band (std.eq 0 a0.fs_.fb.fY1) (true))))) (true))) (std.band (std.band (std.eq 0 a0.fl_.fy) (std.band (std.band (std.eq 0 a0.fl_.fa.fX) (std.band (std.eq 0 a0.fl_.fa.fY) (true))) (std.band (std.seq (ByteArray.mk #[]) a0.fl_.fN) (true)))) (std.band (std.band (std.eq 0 a0.fi_.fc) (std.band (std.band (std.eq 0 a0.fi_.fp.fo) (std.band (std.eq 0 a0.fi_.fp.fX) (std.band (std.eq 0 a0.fi_.fp.fY) (true)))) (std.band (std.eq 0 a0.fi_.fK) (std.band (std.eq 0 a0.fi_.fR) (std.band (std.eq 0 a0.fi_.fu) (std.band (std.eq 0 a0.fi_.fv) (true))))))) (true))))))))).bind fun r65 => some (.inl r65))
  (((
  br (std.eq a0.fk_ 7)
  (some true)
  (some (std.eq a0.fk_ 8))
  ) : Option (Bool)).bind fun y68 =>
  letO y68 fun w74 =>
  ((
  br w74
  (((
  br (std.band (std.eq a0.fk_ a0.fk_) (std.band (std.eq a0.fc a0.fc) (std.band (std.eq 0 a0.fx) (std.band (std.seq a0.fN a0.fN) (std.band (std.band (std.eq 0 a0.fs_.fy) (std.band (std.band (std.eq 0 a0.fs_.fb.fX0) (std.band (std.eq 0 a0.fs_.fb.fY0) (std.band (std.eq 0 a0.fs_.fb.fX1) (std.band (std.eq 0 a0.fs_.fb.fY1) (true))))) (true))) (std.band (std.band (std.eq 0 a0.fl_.fy) (std.band (std.band (std.eq 0 a0.fl_.fa.fX) (std.band (std.eq 0 a0.fl_.fa.fY) (true))) (std.band (std.seq (ByteArray.mk #[]) a0.fl_.fN) (true)))) (std.band (std.band (std.eq 0 a0.fi_.fc) (std.band (std.band (std.eq 0 a0.fi_.fp.fo) (std.band (std.eq 0 a0.fi_.fp.fX) (std.band (std.eq 0 a0.fi_.fp.fY) (true)))) (std.band (std.eq 0 a0.fi_.fK) (std.band (std.eq 0 a0.fi_.fR) (std.band (std.eq 0 a0.fi_.fu) (std.band (std.eq 0 a0.fi_.fv) (true))))))) (true))))))))
  ((Fq17 a0.fN).bind fun y89 =>
  some y89)
  (some false)
  ) : Option (Bool)).bind fun y82 =>
  letO y82 fun w88 =>
  ((some w88).bind fun r92 => some (.inl r92)).bind fun r95 => some (.inl r95))
  (br (std.eq a0.fk_ 9)
  (((some (std.band (std.eq a0.fk_ a0.fk_) (std.band (std.eq a0.fc a0.fc) (std.band (std.eq 0 a0.fx) (std.band (std.seq (ByteArray.mk #[]) a0.fN) (std.band (std.band (std.eq 0 a0.fs_.fy) (std.band (std.band (std.eq 0 a0.fs_.fb.fX0) (std.band (std.eq 0 a0.fs_.fb.fY0) (std.band (std.eq 0 a0.fs_.fb.fX1) (std.band (std.eq 0 a0.fs_.fb.fY1) (true))))) (true))) (std.band (std.band (std.eq 0 a0.fl_.fy) (std.band (std.band (std.eq 0 a0.fl_.fa.fX) (std.band (std.eq 0 a0.fl_.fa.fY) (true))) (std.band (std.seq (ByteArray.mk #[]) a0.fl_.fN) (true)))) (std.band (std.band (std.eq 0 a0.fi_.fc) (std.band (std.band (std.eq 0 a0.fi_.fp.fo) (std.band (std.eq 0 a0.fi_.fp.fX) (std.band (std.eq 0 a0.fi_.fp.fY) (true)))) (std.band (std.eq 0 a0.fi_.fK) (std.band (std.eq 0 a0.fi_.fR) (std.band (std.eq 0 a0.fi_.fu) (std.band (std.eq 0 a0.fi_.fv) (true))))))) (true))))))))).bind fun r98 => some (.inl r98)).bind fun r101 => some (.inl r101))
  (some (.inr ())))
  ) : Option (_ ⊕ Unit)).bind fun z78 => (match z78 with
 | .inl r => some r
 | .inr y76 =>
  some (.inr ())))
  ) : Option (_ ⊕ Unit)).bind fun z61 => (match z61 with
 | .inl r => some r
 | .inr y59 =>
  some false)))))
theorem runq34 (a0 : TE) (r : Bool) (h : Fq34 a0 = some r) : Fun prog 62 [.agg (cE a0)] [] (.c (.v (.bool r))) [] true := by
 refine ow [1, 7, 10, 13, 22, 100069, 100079] func62 ntmps62 ?_; unfold Fq34 at h; have hfq17 := @runq17; have hfq54 := @runq54; have hfq66 := @runq66; have hfq58 := @runq58; have hfq3 := @runq3
 generalize hU : @len = U_, hG_ : @gd = G_, hA : std = A, hP : prog = P at *; cbv
 revert h; refine cu (fun y1 => (sp 98 [(1, .c (.ptr 64 0)), (13, .c (.v (.bool y1)))] [(64, .var (cE a0))])) ?_ fun w7 => rz fun h => ?_
 ·intro y1 S hS h; cbv; revert h; refine rk0 (hfq3 _ _ _) fun y8 h => ?_; cbv; revert h; refine fk ?_ ?_ <;> intro h <;> cbv
  ·exact dn
  revert h; refine rk0 (hfq3 _ _ _) fun y10 h => ?_; cbv; exact dn
 cbv; revert h; refine fk ?_ ?_ <;> intro h <;> cbv
 ·exact df
 revert h; refine fk ?_ ?_ <;> intro h <;> cbv
 ·revert h; refine cu (fun y13 => (sp 98 [(2, .c (.v (.bool y13)))] [])) ?_ fun w19 => rz fun h => ?_
  ·intro y13 S hS h; cbv; revert h; refine fk ?_ ?_ <;> intro h <;> cbv
   ·revert h; refine rk0 (hfq58 _) fun y20 h => ?_; cbv; exact dn
   exact dn
  cbv; exact df
 revert h; refine fk ?_ ?_ <;> intro h <;> cbv
 ·revert h; refine cu (fun y23 => (sp 98 [(2, .c (.v (.bool y23)))] [])) ?_ fun w29 => rz fun h => ?_
  ·intro y23 S hS h; cbv; revert h; refine fk ?_ ?_ <;> intro h <;> cbv
   ·revert h; refine rk0 (hfq66 _) fun y30 h => ?_; cbv; exact dn
   exact dn
  cbv; exact df
 revert h; refine fk ?_ ?_ <;> intro h <;> cbv
 ·revert h; refine cu (fun y33 => (sp 98 [(2, .c (.v (.bool y33)))] [])) ?_ fun w39 => rz fun h => ?_
  ·intro y33 S hS h; cbv; revert h; refine fk ?_ ?_ <;> intro h <;> cbv
   ·revert h; refine rk0 (hfq54 _ _) fun y40 h => ?_; cbv; exact dn
   exact dn
  cbv; exact df
 revert h; refine cu (fun y43 => some (sp 98 [(1, .c (.ptr 64 0)), (3, .c (.ptr 192 0)), (20, .c (wi a0.fk_)), (69, .c (.v (.bool y43)))] [(64, .var (cE a0)), (192, .var [wi a0.fk_, wi a0.fc, wi 0, ws (ByteArray.mk #[]), wi 0, wi 0, wi 0, wi 0, wi 0, wi 0, wi 0, wi 0, ws (ByteArray.mk #[]), wi 0, wi 0, wi 0, wi 0, wi 0, wi 0, wi 0, wi 0])])) ?_ fun w49 => rz fun h => ?_
 ·intro y43 S hS h; cbv; revert h; refine fk ?_ ?_ <;> intro h <;> cbv
  ·exact dn
  revert h; refine cu (fun y50 => some (sp 98 [(1, .c (.ptr 64 0)), (3, .c (.ptr 192 0)), (20, .c (wi a0.fk_)), (69, .c (.v (.bool y50)))] [(64, .var (cE a0)), (192, .var [wi a0.fk_, wi a0.fc, wi 0, ws (ByteArray.mk #[]), wi 0, wi 0, wi 0, wi 0, wi 0, wi 0, wi 0, wi 0, ws (ByteArray.mk #[]), wi 0, wi 0, wi 0, wi 0, wi 0, wi 0, wi 0, wi 0])])) (fun y50 S hS h => rg) fun w56 => rz fun h => ?_
  cbv; exact dn
 cbv; obtain ⟨z61, hy60, hz62⟩ := ob_ h; obtain ⟨S, hS⟩ : ∃ S, S = (match z61 with | .inl _ => none | .inr y59 => some (sp 98 [] [])) := ⟨_, rfl⟩; refine ⟨S, ?_, ?_⟩
 ·have h := hy60; clear hy60; cbv; revert h; refine fk ?_ ?_ <;> intro h <;> cbv
  ·obtain ⟨r65, h66, he67⟩ := ob_ h; injection he67 with he67; subst he67; injection hz62 with hz62; subst hz62; have h := h66; exact df
  revert h; refine cu (fun y68 => some (sp 98 [(1, .c (.ptr 64 0)), (3, .c (.ptr 192 0)), (20, .c (wi a0.fk_)), (79, .c (.v (.bool y68)))] [(64, .var (cE a0)), (192, .var [wi a0.fk_, wi a0.fc, wi 0, ws (ByteArray.mk #[]), wi 0, wi 0, wi 0, wi 0, wi 0, wi 0, wi 0, wi 0, ws (ByteArray.mk #[]), wi 0, wi 0, wi 0, wi 0, wi 0, wi 0, wi 0, wi 0])])) (fun y68 S hS h => rg) fun w74 => rz fun h => ?_
  cbv; obtain ⟨z78, hy77, hz79⟩ := ob_ h; obtain ⟨S, hS⟩ : ∃ S, S = (match z78 with | .inl _ => none | .inr y76 => some (sp 98 [] [])) := ⟨_, rfl⟩; refine ⟨S, ?_, ?_⟩
  ·have h := hy77; clear hy77; cbv; revert h; refine fk ?_ ?_ <;> intro h <;> cbv
   ·revert h; refine cu (fun y82 => (sp 98 [(2, .c (.v (.bool y82)))] [])) ?_ fun w88 => rz fun h => ?_
    ·intro y82 S hS h; cbv; revert h; refine fk ?_ ?_ <;> intro h <;> cbv
     ·revert h; refine rk0 (hfq17 _) fun y89 h => ?_; cbv; exact dn
     exact dn
    cbv; obtain ⟨r95, h96, he97⟩ := ob_ h; injection he97 with he97; subst he97; injection hz79 with hz79; subst hz79; have h := h96; obtain ⟨r92, h93, he94⟩ := ob_ h; injection he94 with he94; subst he94; injection hz62 with hz62; subst hz62; have h := h93; exact df
   revert h; refine fk ?_ ?_ <;> intro h <;> cbv
   ·obtain ⟨r101, h102, he103⟩ := ob_ h; injection he103 with he103; subst he103; injection hz79 with hz79; subst hz79; have h := h102; obtain ⟨r98, h99, he100⟩ := ob_ h; injection he100 with he100; subst he100; injection hz62 with hz62; subst hz62; have h := h99; exact df
   exact dn
  ·clear hy77; subst hS; rcases z78 with _ | y76
   ·trivial
   ·have h := hz79; clear hz79; cbv; exact dn
 ·clear hy60; subst hS; rcases z61 with _ | y59
  ·trivial
  ·have h := hz62; clear hz62; cbv; exact df

/-- impl.isTransaction$1 -/
def Fq119 (a0 : TE) : Option (Bool) :=
 (Fq34 a0).bind fun y1 =>
 some (!(y1))
theorem runq119 (a0 : TE) (r : Bool) (h : Fq119 a0 = some r) : Fun prog 105 [.agg (cE a0)] [] (.c (.v (.bool r))) [] true := by
 refine ow [] func105 ntmps105 ?_; unfold Fq119 at h; have hfq34 := @runq34; generalize hU : @len = U_, hG_ : @gd = G_, hA : std = A, hP : prog = P at *; cbv; revert h; refine rk0 (hfq34 _) fun y1 h => ?_; cbv; exact df

def Lq60_x2 (a0 : List TE) : (Int) -> Option ((Int) ⊕ ((Int) ⊕ (Unit))) := fun x2 =>
 letO x2 fun v1 =>
 br (std.lt v1 (std.ofN (len a0)))
 (req (std.inR v1 (len a0)) <|
 (Fq119 (gd a0 (std.toN v1))).bind fun y15 =>
 br y15
 (some (.inr (.inl v1)))
 (some (.inl (std.add .i64 v1 1))))
 (some (.inr (.inr ())))
/-- impl.Edit] -/
def Fq60 (a0 : List TE) : Option (Int) :=
  (whileP (σ := Int) (ρ := (Int) ⊕ (Unit)) (Lq60_x2 a0) 0).bind fun y3 =>
  (match y3 with
 | .inl y3k0 => (
  letO y3k0 fun w19 =>
  some w19)
 | .inr y3m0 =>
  some (-1))
theorem runq60 (a0 : List TE) (r : Int) (h : Fq60 a0 = some r) : Fun prog 153 [.c (.bs (len a0) 21 (row gd (eE) a0)), .c (.fn 105 0 fun _ => .junk)] [] (.c (wi r)) [] true := by
 refine ow [] func153 ntmps153 ?_; unfold Fq60 at h; unfold Lq60_x2 at h; have hfq119 := @runq119; generalize hU : @len = U_, hG_ : @gd = G_, hA : std = A, hP : prog = P at *; cbv
 revert h; refine lc (fun x => (sp 19 [(0, .c (.bs (U_ a0) 21 (row G_ (eE) a0))), (1, .c (.fn 105 0 fun _ => .junk)), (7, .c (wi (A.ofN (U_ a0)))), (8, .c (wi x))] [])) (fun y e s => (match y with | .inl w => e = .ret /\ s.le (sp 19 [(4, .c (wi w))] []) | .inr w0 => (fun (w : Unit) => e = .exit 0 /\ s.le (sp 19 [] [])) w0)) zb ?_ ?_
 ·intro v1 z h K hK hY; replace h := oz h; cbv; revert h; refine fk ?_ ?_ <;> intro h <;> cbv
  ·revert h; refine ra fun c14 h => ?_; revert h; refine rk0 (hfq119 _) fun y15 h => ?_; cbv; revert h; refine fk ?_ ?_ <;> intro h <;> cbv
   ·exact dy
   exact dm
  exact dy
 intro y3 h e12 s13 q11 hne; rcases y3 with y3k0 | y3m0
 ·replace h := h; obtain ⟨rfl, q11⟩ := q11; revert h; refine rz fun h => ?_; cbv; injection h with h; subst h; exact ⟨_, q11, lR _, zo, rfl⟩
 ·obtain ⟨rfl, q11⟩ := q11; cbv; refine ⟨_, q11, ?_⟩; cbv; exact df

/-- impl.Edit] -/
def Fq105 (a0 : List TE) : Option (Bool) :=
 (Fq60 a0).bind fun y1 =>
 some (std.le 0 y1)
theorem runq105 (a0 : List TE) (r : Bool) (h : Fq105 a0 = some r) : Fun prog 104 [.c (.bs (len a0) 21 (row gd (eE) a0)), .c (.fn 105 0 fun _ => .junk)] [] (.c (.v (.bool r))) [] true := by
 refine ow [] func104 ntmps104 ?_; unfold Fq105 at h; have hfq60 := @runq60; generalize hU : @len = U_, hG_ : @gd = G_, hA : std = A, hP : prog = P at *; cbv
 revert h; refine rk0 (hfq60 _) fun y1 h => ?_; cbv; exact df

/-- impl.isTransaction -/
def Fq31 (a0 : List TE) : Option (Bool) :=
 ((
 br (std.le 1 (std.ofN (len a0)))
 (br (std.le (std.ofN (len a0)) 8)
 ((Fq105 a0).bind fun y8 =>
 some (!(y8)))
 (some false))
 (some false)
 ) : Option (Bool)).bind fun y1 =>
 letO y1 fun w7 =>
 some w7
theorem runq31 (a0 : List TE) (r : Bool) (h : Fq31 a0 = some r) : Fun prog 44 [.c (.bs (len a0) 21 (row gd (eE) a0))] [] (.c (.v (.bool r))) [] true := by
 refine ow [1] func44 ntmps44 ?_; unfold Fq31 at h; have hfq105 := @runq105; generalize hU : @len = U_, hG_ : @gd = G_, hA : std = A, hP : prog = P at *; cbv
 revert h; refine cu (fun y1 => (sp 16 [(2, .c (.v (.bool y1)))] [])) ?_ fun w7 => rz fun h => ?_
 ·intro y1 S hS h; cbv; revert h; refine fk ?_ ?_ <;> intro h <;> cbv
  ·revert h; refine fk ?_ ?_ <;> intro h <;> cbv
   ·revert h; refine rk0 (hfq105 _) fun y8 h => ?_; cbv; exact dn
   exact dn
  exact dn
 cbv; exact df

/-- impl.two -/
def Fq40 (a0 : List Int) (a1 : Int) : Option (List Int) :=
 req (std.nneg 8) <|
 letO ([std.conv .u8 (std.shr .i64 a1 8), std.conv .u8 a1] : List Int) fun l2 =>
 req (std.room (std.nadd (len a0) (len l2)) 1) <|
 letO (a0 ++ l2) fun l4 =>
 some l4
theorem runq40 (a0 : List Int) (a1 : Int) (r : List Int) (h : Fq40 a0 a1 = some r) : Fun prog 46 [.c (.os 5 0 (len a0)), .c (wi a1)] [(5, .arr .rw [] (len a0) 1 (row gd (encI .u8) a0))] (.c (.os 64000 0 (len r))) [(64000, .arr .rw [] (len r) 1 (row gd (encI .u8) r))] true := by
 refine ow [] func46 ntmps46 ?_ (hw := ⟨fun i _ j _ k hk => (noref (plain_nil (rfl)) hk).elim, tv⟩) (hv := (fun _ => ⟨trivial, ⟨fun i _ j _ => val_flat (rfl), tv⟩⟩)); unfold Fq40 at h; generalize hU : @len = U_, hG_ : @gd = G_, hA : std = A, hP : prog = P at *; cbv; revert h; refine ra fun c1 h => ?_; revert h; refine rl fun l2 hl2 h => ?_
 have e3 : 2 = U_ l2 := by subst hl2 hU; rfl
 refine ⟨_, (co e3), _, row G_ (encI .u8) l2, e3, wO ?_, ?_⟩
 ·intro i hi j hj; rw [<- e3] at hi; subst hl2; subst hG_; obtain rfl | rfl : i = 0 \/ i = 1 := (by omega); all_goals obtain rfl : j = 0 := by omega
  all_goals rfl
 cbv; revert h; refine rq fun c6 => rl fun l4 hl4 h => ?_; have e5 := nl hA hU hl4; refine ⟨c6, _, (co e5), _, row G_ (encI .u8) l4, e5, wO ?_, ?_⟩
 ·subst hG_ hU hA; exact app_os (off := 0) (fun _ _ => rfl) hl4 (Nat.le_refl _)
 cbv; injection h with h; subst h; exact ⟨_, le_ren 768 64000 (by decide) rfl, lR _, zo, rfl⟩
set_option maxHeartbeats 40000000
def Lq12_x3 (a1 : List Int) : (Int × (List Int)) -> Option ((Int × (List Int)) ⊕ (((List Int)))) := fun x3 =>
 letO x3.1 fun v1 =>
 letO x3.2 fun v2 =>
 br (std.lt v1 (std.ofN (len a1)))
 (req (std.inR v1 (len a1)) <|
 (Fq40 v2 (std.add .i64 (gd a1 (std.toN v1)) 32768)).bind fun y16 =>
 some (.inl (std.add .i64 v1 1, y16)))
 (some (.inr v2))
/-- impl.coordinates -/
def Fq12 (a0 : List Int) (a1 : List Int) : Option (List Int) :=
 (whileP (σ := Int × (List Int)) (ρ := ((List Int))) (Lq12_x3 a1) (0, a0)).bind fun y4 =>
 letO y4 fun y4k0 =>
 letO y4k0 fun w19 =>
 some w19
theorem runq12 (a0 : List Int) (a1 : List Int) (r : List Int) (h : Fq12 a0 a1 = some r) : Fun prog 154 [.c (.os 5 0 (len a0)), .c (.bs (len a1) 1 (row gd (encI .i64) a1))] [(5, .arr .rw [] (len a0) 1 (row gd (encI .u8) a0))] (.c (.os 64000 0 (len r))) [(64000, .arr .rw [] (len r) 1 (row gd (encI .u8) r))] true := by
 refine ow [] func154 ntmps154 ?_ (hw := ⟨fun i _ j _ k hk => (noref (plain_nil (rfl)) hk).elim, tv⟩) (hv := (fun _ => ⟨trivial, ⟨fun i _ j _ => val_flat (rfl), tv⟩⟩)); unfold Fq12 at h; unfold Lq12_x3 at h; have hfq40 := @runq40; generalize hU : @len = U_, hG_ : @gd = G_, hA : std = A, hP : prog = P at *; cbv
 revert h; refine ln (.exit 0) (fun x => (sp 19 [(0, .c (.os 62000 0 (U_ x.2))), (7, .c (.bs (U_ a1) 1 (row G_ (encI .i64) a1))), (8, .c (wi (A.ofN (U_ a1)))), (9, .c (wi x.1))] [(62000, .arr .rw [] (U_ x.2) 1 (row G_ (encI .u8) x.2))])) (fun w => (sp 19 [(0, .c (.os 62000 0 (U_ w)))] [(62000, .arr .rw [] (U_ w) 1 (row G_ (encI .u8) w))])) ?_ ?_ ?_
 ·show St.le _ _; refine St.le_trans (le_ren 5 62000 (by decide) rfl) ?_; exact zb
 ·rintro ⟨v1, v2⟩ z h K hK hY; replace h := oz (oz h); dsimp only at h; cbv; revert h; refine fk ?_ ?_ <;> intro h <;> cbv
  ·revert h; refine ra fun c15 h => ?_; revert h; refine rk [(5, 62000)] [(64000, 1024)] (hfq40 _ _) (fun _ => zf) fun y16 h => ⟨_, rfl, _, _, rfl, fun _ _ _ _ => .refl _, ?_⟩
   cbv; injection h with h; refine hK _ h.symm _ ?_; refine St.le_trans (le_ren 1024 62000 (by decide) rfl) ?_; exact zb
  exact dx
 intro w19 h s q12; replace h := oz (oz h); cbv; refine ⟨_, q12, ?_⟩; cbv; injection h with h; subst h; exact ⟨_, le_ren 62000 64000 (by decide) rfl, lR _, zo, rfl⟩

/-- impl.shapeBytes -/
def Fq96 (a0 : List Int) (a1 : TS) : Option (List Int) :=
 letO ([std.conv .u8 a1.fy] : List Int) fun l1 =>
 req (std.room (std.nadd (len a0) (len l1)) 1) <|
 letO (a0 ++ l1) fun l3 =>
 letO ([a1.fb.fX0, a1.fb.fY0, a1.fb.fX1, a1.fb.fY1] : List Int) fun l6 =>
 (Fq12 l3 l6).bind fun y8 =>
 some y8
theorem runq96 (a0 : List Int) (a1 : TS) (r : List Int) (h : Fq96 a0 a1 = some r) : Fun prog 106 [.c (.os 5 0 (len a0)), .agg [wi a1.fy, wi a1.fb.fX0, wi a1.fb.fY0, wi a1.fb.fX1, wi a1.fb.fY1]] [(5, .arr .rw [] (len a0) 1 (row gd (encI .u8) a0))] (.c (.os 64000 0 (len r))) [(64000, .arr .rw [] (len r) 1 (row gd (encI .u8) r))] true := by
 refine ow [] func106 ntmps106 ?_ (hw := ⟨fun i _ j _ k hk => (noref (plain_nil (rfl)) hk).elim, tv⟩) (hv := (fun _ => ⟨trivial, ⟨fun i _ j _ => val_flat (rfl), tv⟩⟩)); unfold Fq96 at h; have hfq12 := @runq12; generalize hU : @len = U_, hG_ : @gd = G_, hA : std = A, hP : prog = P at *; cbv
 revert h; refine rl fun l1 hl1 h => ?_; have e2 : 1 = U_ l1 := by subst hl1 hU; rfl
 refine ⟨_, (co e2), _, row G_ (encI .u8) l1, e2, wO ?_, ?_⟩
 ·intro i hi j hj; rw [<- e2] at hi; subst hl1; subst hG_; obtain rfl : i = 0 := (by omega); all_goals obtain rfl : j = 0 := by omega
  all_goals rfl
 cbv; revert h; refine rq fun c5 => rl fun l3 hl3 h => ?_; have e4 := nl hA hU hl3; refine ⟨c5, _, (co e4), _, row G_ (encI .u8) l3, e4, wO ?_, ?_⟩
 ·subst hG_ hU hA; exact app_os (off := 0) (fun _ _ => rfl) hl3 (Nat.le_refl _)
 cbv; revert h; refine rl fun l6 hl6 h => ?_; have e7 : 4 = U_ l6 := by subst hl6 hU; rfl
 refine ⟨_, (co e7), _, row G_ (encI .i64) l6, e7, wO ?_, ?_⟩
 ·intro i hi j hj; rw [<- e7] at hi; subst hl6; subst hG_; obtain rfl | rfl | rfl | rfl : i = 0 \/ i = 1 \/ i = 2 \/ i = 3 := (by omega); all_goals obtain rfl : j = 0 := by omega
  all_goals rfl
 cbv; revert h; refine rk [(5, 640)] [(64000, 1536)] (hfq12 _ _) (fun _ => zg (lc_ (lR _) (lc_ (give_os (fun _ _ => rfl) rfl rfl rfl) (ln_)))) fun y8 h => ⟨_, rfl, _, _, rfl, fun _ _ _ _ => .refl _, ?_⟩
 cbv; injection h with h; subst h; exact ⟨_, le_ren 1536 64000 (by decide) rfl, lR _, zo, rfl⟩

/-- impl.nameBytes -/
def Fq52 (a0 : List Int) (a1 : ByteArray) : Option (List Int) :=
 letO ([std.conv .u8 (std.ofN (std.slen a1))] : List Int) fun l1 =>
 req (std.room (std.nadd (len a0) (len l1)) 1) <|
 letO (a0 ++ l1) fun l3 =>
 req (std.room (std.nadd (len l3) (std.slen a1)) 1) <|
 letO (l3 ++ strL a1) fun l6 =>
 some l6
theorem runq52 (a0 : List Int) (a1 : ByteArray) (r : List Int) (h : Fq52 a0 a1 = some r) : Fun prog 109 [.c (.os 5 0 (len a0)), .c (ws a1)] [(5, .arr .rw [] (len a0) 1 (row gd (encI .u8) a0))] (.c (.os 64000 0 (len r))) [(64000, .arr .rw [] (len r) 1 (row gd (encI .u8) r))] true := by
 refine ow [] func109 ntmps109 ?_ (hw := ⟨fun i _ j _ k hk => (noref (plain_nil (rfl)) hk).elim, tv⟩) (hv := (fun _ => ⟨trivial, ⟨fun i _ j _ => val_flat (rfl), tv⟩⟩)); unfold Fq52 at h; generalize hU : @len = U_, hG_ : @gd = G_, hA : std = A, hP : prog = P at *; cbv; revert h; refine rl fun l1 hl1 h => ?_; have e2 : 1 = U_ l1 := by subst hl1 hU; rfl
 refine ⟨_, (co e2), _, row G_ (encI .u8) l1, e2, wO ?_, ?_⟩
 ·intro i hi j hj; rw [<- e2] at hi; subst hl1; subst hG_; obtain rfl : i = 0 := (by omega); all_goals obtain rfl : j = 0 := by omega
  all_goals rfl
 cbv; revert h; refine rq fun c5 => rl fun l3 hl3 h => ?_; have e4 := nl hA hU hl3; refine ⟨c5, _, (co e4), _, row G_ (encI .u8) l3, e4, wO ?_, ?_⟩
 ·subst hG_ hU hA; exact app_os (off := 0) (fun _ _ => rfl) hl3 (Nat.le_refl _)
 cbv; revert h; refine rq fun c8 => rl fun l6 hl6 h => ?_; have e7 : A.nadd (U_ l3) (A.slen a1) = U_ l6 := by subst hl6 hU hA; exact (strapp_len _ _).symm
 refine ⟨c8, _, (co e7), _, row G_ (encI .u8) l6, e7, wO ?_, ?_⟩
 ·subst hG_ hU hA; exact app_str hl6 (Nat.le_refl _)
 cbv; injection h with h; subst h; exact ⟨_, le_ren 640 64000 (by decide) rfl, lR _, zo, rfl⟩

/-- impl.labelBytes -/
def Fq95 (a0 : List Int) (a1 : TB) : Option (List Int) :=
 letO ([std.conv .u8 a1.fy] : List Int) fun l1 =>
 req (std.room (std.nadd (len a0) (len l1)) 1) <|
 letO (a0 ++ l1) fun l3 =>
 letO ([a1.fa.fX, a1.fa.fY] : List Int) fun l6 =>
 (Fq12 l3 l6).bind fun y8 =>
 (Fq52 y8 a1.fN).bind fun y10 =>
 some y10
theorem runq95 (a0 : List Int) (a1 : TB) (r : List Int) (h : Fq95 a0 a1 = some r) : Fun prog 107 [.c (.os 5 0 (len a0)), .agg [wi a1.fy, wi a1.fa.fX, wi a1.fa.fY, ws a1.fN]] [(5, .arr .rw [] (len a0) 1 (row gd (encI .u8) a0))] (.c (.os 64000 0 (len r))) [(64000, .arr .rw [] (len r) 1 (row gd (encI .u8) r))] true := by
 refine ow [] func107 ntmps107 ?_ (hw := ⟨fun i _ j _ k hk => (noref (plain_nil (rfl)) hk).elim, tv⟩) (hv := (fun _ => ⟨trivial, ⟨fun i _ j _ => val_flat (rfl), tv⟩⟩)); unfold Fq95 at h; have hfq12 := @runq12; have hfq52 := @runq52
 generalize hU : @len = U_, hG_ : @gd = G_, hA : std = A, hP : prog = P at *; cbv; revert h; refine rl fun l1 hl1 h => ?_; have e2 : 1 = U_ l1 := by subst hl1 hU; rfl
 refine ⟨_, (co e2), _, row G_ (encI .u8) l1, e2, wO ?_, ?_⟩
 ·intro i hi j hj; rw [<- e2] at hi; subst hl1; subst hG_; obtain rfl : i = 0 := (by omega); all_goals obtain rfl : j = 0 := by omega
  all_goals rfl
 cbv; revert h; refine rq fun c5 => rl fun l3 hl3 h => ?_; have e4 := nl hA hU hl3; refine ⟨c5, _, (co e4), _, row G_ (encI .u8) l3, e4, wO ?_, ?_⟩
 ·subst hG_ hU hA; exact app_os (off := 0) (fun _ _ => rfl) hl3 (Nat.le_refl _)
 cbv; revert h; refine rl fun l6 hl6 h => ?_; have e7 : 2 = U_ l6 := by subst hl6 hU; rfl
 refine ⟨_, (co e7), _, row G_ (encI .i64) l6, e7, wO ?_, ?_⟩
 ·intro i hi j hj; rw [<- e7] at hi; subst hl6; subst hG_; obtain rfl | rfl : i = 0 \/ i = 1 := (by omega); all_goals obtain rfl : j = 0 := by omega
  all_goals rfl
 cbv; revert h; refine rk [(5, 640)] [(64000, 1152)] (hfq12 _ _) (fun _ => zg (lc_ (lR _) (lc_ (give_os (fun _ _ => rfl) rfl rfl rfl) (ln_)))) fun y8 h => ⟨_, rfl, _, _, rfl, fun _ _ _ _ => .refl _, ?_⟩
 cbv; revert h; refine rk [(5, 1152)] [(64000, 1344)] (hfq52 _ _) (fun _ => zf) fun y10 h => ⟨_, rfl, _, _, rfl, fun _ _ _ _ => .refl _, ?_⟩
 cbv; injection h with h; subst h; exact ⟨_, le_ren 1344 64000 (by decide) rfl, lR _, zo, rfl⟩

/-- impl.placeBytes -/
def Fq83 (a0 : List Int) (a1 : TI) : Option (List Int) :=
 letO ([std.conv .u8 a1.fp.fo] : List Int) fun l1 =>
 req (std.room (std.nadd (len a0) (len l1)) 1) <|
 letO (a0 ++ l1) fun l3 =>
 letO ([a1.fp.fX, a1.fp.fY] : List Int) fun l6 =>
 (Fq12 l3 l6).bind fun y8 =>
 letO ([std.conv .u8 a1.fK, std.conv .u8 a1.fR] : List Int) fun l10 =>
 req (std.room (std.nadd (len y8) (len l10)) 1) <|
 letO (y8 ++ l10) fun l12 =>
 letO ([a1.fu, a1.fv] : List Int) fun l15 =>
 (Fq12 l12 l15).bind fun y17 =>
 some y17
theorem runq83 (a0 : List Int) (a1 : TI) (r : List Int) (h : Fq83 a0 a1 = some r) : Fun prog 108 [.c (.os 5 0 (len a0)), .agg [wi a1.fc, wi a1.fp.fo, wi a1.fp.fX, wi a1.fp.fY, wi a1.fK, wi a1.fR, wi a1.fu, wi a1.fv]] [(5, .arr .rw [] (len a0) 1 (row gd (encI .u8) a0))] (.c (.os 64000 0 (len r))) [(64000, .arr .rw [] (len r) 1 (row gd (encI .u8) r))] true := by
 refine ow [] func108 ntmps108 ?_ (hw := ⟨fun i _ j _ k hk => (noref (plain_nil (rfl)) hk).elim, tv⟩) (hv := (fun _ => ⟨trivial, ⟨fun i _ j _ => val_flat (rfl), tv⟩⟩)); unfold Fq83 at h; have hfq12 := @runq12; generalize hU : @len = U_, hG_ : @gd = G_, hA : std = A, hP : prog = P at *; cbv
 revert h; refine rl fun l1 hl1 h => ?_; have e2 : 1 = U_ l1 := by subst hl1 hU; rfl
 refine ⟨_, (co e2), _, row G_ (encI .u8) l1, e2, wO ?_, ?_⟩
 ·intro i hi j hj; rw [<- e2] at hi; subst hl1; subst hG_; obtain rfl : i = 0 := (by omega); all_goals obtain rfl : j = 0 := by omega
  all_goals rfl
 cbv; revert h; refine rq fun c5 => rl fun l3 hl3 h => ?_; have e4 := nl hA hU hl3; refine ⟨c5, _, (co e4), _, row G_ (encI .u8) l3, e4, wO ?_, ?_⟩
 ·subst hG_ hU hA; exact app_os (off := 0) (fun _ _ => rfl) hl3 (Nat.le_refl _)
 cbv; revert h; refine rl fun l6 hl6 h => ?_; have e7 : 2 = U_ l6 := by subst hl6 hU; rfl
 refine ⟨_, (co e7), _, row G_ (encI .i64) l6, e7, wO ?_, ?_⟩
 ·intro i hi j hj; rw [<- e7] at hi; subst hl6; subst hG_; obtain rfl | rfl : i = 0 \/ i = 1 := (by omega); all_goals obtain rfl : j = 0 := by omega
  all_goals rfl
 cbv; revert h; refine rk [(5, 704)] [(64000, 1216)] (hfq12 _ _) (fun _ => zg (lc_ (lR _) (lc_ (give_os (fun _ _ => rfl) rfl rfl rfl) (ln_)))) fun y8 h => ⟨_, rfl, _, _, rfl, fun _ _ _ _ => .refl _, ?_⟩
 cbv; revert h; refine rl fun l10 hl10 h => ?_; have e11 : 2 = U_ l10 := by subst hl10 hU; rfl
 refine ⟨_, (co e11), _, row G_ (encI .u8) l10, e11, wO ?_, ?_⟩
 ·intro i hi j hj; rw [<- e11] at hi; subst hl10; subst hG_; obtain rfl | rfl : i = 0 \/ i = 1 := (by omega); all_goals obtain rfl : j = 0 := by omega
  all_goals rfl
 cbv; revert h; refine rq fun c14 => rl fun l12 hl12 h => ?_; have e13 := nl hA hU hl12; refine ⟨c14, _, (co e13), _, row G_ (encI .u8) l12, e13, wO ?_, ?_⟩
 ·subst hG_ hU hA; exact app_os (off := 0) (fun _ _ => rfl) hl12 (Nat.le_refl _)
 cbv; revert h; refine rl fun l15 hl15 h => ?_; have e16 : 2 = U_ l15 := by subst hl15 hU; rfl
 refine ⟨_, (co e16), _, row G_ (encI .i64) l15, e16, wO ?_, ?_⟩
 ·intro i hi j hj; rw [<- e16] at hi; subst hl15; subst hG_; obtain rfl | rfl : i = 0 \/ i = 1 := (by omega); all_goals obtain rfl : j = 0 := by omega
  all_goals rfl
 cbv; revert h; refine rk [(5, 1216)] [(64000, 2176)] (hfq12 _ _) (fun _ => zg (lc_ (lR _) (lc_ (give_os (fun _ _ => rfl) rfl rfl rfl) (ln_)))) fun y17 h => ⟨_, rfl, _, _, rfl, fun _ _ _ _ => .refl _, ?_⟩
 cbv; injection h with h; subst h; exact ⟨_, le_ren 2176 64000 (by decide) rfl, lR _, zo, rfl⟩

/-- impl.EditBytes -/
def Fq90 (a0 : TE) : Option (ByteArray) :=
 (Fq34 a0).bind fun y1 =>
 br (!(y1))
 (some (ByteArray.mk #[]))
 (letO ([std.conv .u8 a0.fk_, std.conv .u8 a0.fc, std.conv .u8 a0.fx] : List Int) fun l3 =>
 ((
 br (std.eq a0.fk_ 1)
 ((Fq96 l3 a0.fs_).bind fun y12 =>
 some y12)
 (((
 br (std.eq a0.fk_ 3)
 ((Fq95 l3 a0.fl_).bind fun y21 =>
 some y21)
 (((
 br (std.eq a0.fk_ 5)
 (letO ([std.conv .u8 a0.fi_.fc] : List Int) fun l30 =>
 req (std.room (std.nadd (len l3) (len l30)) 1) <|
 letO (l3 ++ l30) fun l32 =>
 (Fq83 l32 a0.fi_).bind fun y35 =>
 some y35)
 (((
 br (std.eq a0.fk_ 7)
 (some true)
 (some (std.eq a0.fk_ 8))
 ) : Option (Bool)).bind fun y37 =>
 letO y37 fun w43 =>
 ((
 br w43
 ((Fq52 l3 a0.fN).bind fun y52 =>
 some y52)
 (some l3)
 ) : Option ((List Int))).bind fun y45 =>
 letO y45 fun w51 =>
 some w51)
 ) : Option ((List Int))).bind fun y23 =>
 letO y23 fun w29 =>
 some w29)
 ) : Option ((List Int))).bind fun y14 =>
 letO y14 fun w20 =>
 some w20)
 ) : Option ((List Int))).bind fun y5 =>
 letO y5 fun w11 =>
 some (std.ofBytes (len w11) (fun i => gd w11 (0 + i))))
theorem runq90 (a0 : TE) (r : ByteArray) (h : Fq90 a0 = some r) : Fun prog 45 [.agg (cE a0)] [] (.c (ws r)) [] true := by
 refine ow [100019, 100025, 100031, 100043] func45 ntmps45 ?_; unfold Fq90 at h; have hfq34 := @runq34; have hfq95 := @runq95; have hfq52 := @runq52; have hfq83 := @runq83; have hfq96 := @runq96
 generalize hU : @len = U_, hG_ : @gd = G_, hA : std = A, hP : prog = P at *; cbv; revert h; refine rk0 (hfq34 _) fun y1 h => ?_; cbv; revert h; refine fk ?_ ?_ <;> intro h <;> cbv
 ·exact df
 revert h; refine rl fun l3 hl3 h => ?_; have e4 : 3 = U_ l3 := by subst hl3 hU; rfl
 refine ⟨_, (co e4), _, row G_ (encI .u8) l3, e4, wO ?_, ?_⟩
 ·intro i hi j hj; rw [<- e4] at hi; subst hl3; subst hG_; obtain rfl | rfl | rfl : i = 0 \/ i = 1 \/ i = 2 := (by omega); all_goals obtain rfl : j = 0 := by omega
  all_goals rfl
 cbv; revert h; refine cu (fun y5 => some (sp 52 [(3, .c (.os 1536 0 (U_ y5)))] [(1536, .arr .rw [] (U_ y5) 1 (row G_ (encI .u8) y5))])) ?_ fun w11 => rz fun h => ?_
 ·intro y5 S hS h; cbv; revert h; refine fk ?_ ?_ <;> intro h <;> cbv
  ·revert h; refine rk [(5, 1024)] [(64000, 1536)] (hfq96 _ _) (fun _ => zf) fun y12 h => ⟨_, rfl, _, _, rfl, fun _ _ _ _ => .refl _, ?_⟩
   cbv; exact dn
  revert h; refine cu (fun y14 => some (sp 52 [(3, .c (.os 1920 0 (U_ y14)))] [(1920, .arr .rw [] (U_ y14) 1 (row G_ (encI .u8) y14))])) ?_ fun w20 => rz fun h => ?_
  ·intro y14 S hS h; cbv; revert h; refine fk ?_ ?_ <;> intro h <;> cbv
   ·revert h; refine rk [(5, 1024)] [(64000, 1920)] (hfq95 _ _) (fun _ => zf) fun y21 h => ⟨_, rfl, _, _, rfl, fun _ _ _ _ => .refl _, ?_⟩
    cbv; exact dn
   revert h; refine cu (fun y23 => some (sp 52 [(3, .c (.os 2688 0 (U_ y23)))] [(2688, .arr .rw [] (U_ y23) 1 (row G_ (encI .u8) y23))])) ?_ fun w29 => rz fun h => ?_
   ·intro y23 S hS h; cbv; revert h; refine fk ?_ ?_ <;> intro h <;> cbv
    ·revert h; refine rl fun l30 hl30 h => ?_; have e31 : 1 = U_ l30 := by subst hl30 hU; rfl
     refine ⟨_, (co e31), _, row G_ (encI .u8) l30, e31, wO ?_, ?_⟩
     ·intro i hi j hj; rw [<- e31] at hi; subst hl30; subst hG_; obtain rfl : i = 0 := (by omega); all_goals obtain rfl : j = 0 := by omega
      all_goals rfl
     cbv; revert h; refine rq fun c34 => rl fun l32 hl32 h => ?_; have e33 := nl hA hU hl32; refine ⟨c34, _, (co e33), _, row G_ (encI .u8) l32, e33, wO ?_, ?_⟩
     ·subst hG_ hU hA; exact app_os (off := 0) (fun _ _ => rfl) hl32 (Nat.le_refl _)
     cbv; revert h; refine rk [(5, 1024)] [(64000, 2688)] (hfq83 _ _) (fun _ => zf) fun y35 h => ⟨_, rfl, _, _, rfl, fun _ _ _ _ => .refl _, ?_⟩
     cbv; exact dn
    revert h; refine cu (fun y37 => some (sp 52 [(1, .c (.ptr 64 0)), (3, .c (.os 1024 0 (U_ l3))), (43, .c (.v (.bool y37)))] [(64, .var (cE a0)), (1024, .arr .rw [] (U_ l3) 1 (row G_ (encI .u8) l3))])) (fun y37 S hS h => rg) fun w43 => rz fun h => ?_
    cbv; revert h; refine cu (fun y45 => some (sp 52 [(3, .c (.os 3136 0 (U_ y45)))] [(3136, .arr .rw [] (U_ y45) 1 (row G_ (encI .u8) y45))])) ?_ fun w51 => rz fun h => ?_
    ·intro y45 S hS h; cbv; revert h; refine fk ?_ ?_ <;> intro h <;> cbv
     ·revert h; refine rk [(5, 1024)] [(64000, 3136)] (hfq52 _ _) (fun _ => zf) fun y52 h => ⟨_, rfl, _, _, rfl, fun _ _ _ _ => .refl _, ?_⟩
      cbv; exact dn
     injection h with h; subst h; subst hS; show St.le _ _; refine St.le_trans (le_ren 1024 3136 (by decide) rfl) ?_; exact zb
    cbv; injection h with h; subst h; subst hS; show St.le _ _; refine St.le_trans (le_ren 3136 2688 (by decide) rfl) ?_; exact zb
   cbv; injection h with h; subst h; subst hS; show St.le _ _; refine St.le_trans (le_ren 2688 1920 (by decide) rfl) ?_; exact zb
  cbv; injection h with h; subst h; subst hS; show St.le _ _; refine St.le_trans (le_ren 1920 1536 (by decide) rfl) ?_; exact zb
 cbv; refine ⟨fun _ _ => rfl, ?_⟩; exact df
end
end Go.Proofs.YtfoefnkbiofejaaGreat.AM
