/-
  What the functions that the law reaches compute, and that they do. No condition.
-/
import Derived.Test.YtohgghncmkiicaaGreatAmSW
namespace Go.Proofs.YtohgghncmkiicaaGreat.AM
noncomputable section
open Go Go.Proofs Go.RowKit
set_option linter.unusedVariables false
set_option linter.unusedSimpArgs false
set_option maxRecDepth 100000

set_option maxHeartbeats 4000000
/-- impl.validCell$2 -/
def Fq127 (a0 : TB) : Option (Bool) :=
 (Fq67 (TB.mk a0.fy a0.fa a0.fN)).bind fun y1 =>
 some (!(y1))
theorem runq127 (a0 : TB) (r : Bool) (h : Fq127 a0 = some r) : Fun Tryz.prog 166 [.agg [wi a0.fy, wi a0.fa.fX, wi a0.fa.fY, ws a0.fN]] [] (.c (.v (.bool r))) [] true := by
 refine Fun.of_wp (oneOf []) tok mixed Tryz.func166 (by kernel_rfl) rfl Tryz.ntmps166 rfl trivial (fun _ => ⟨trivial, tv⟩) ?_; unfold Fq127 at h; have hfq67 := @runq67; generalize hLEN : @len = LEN, hGD : @gd = GD, hA : std = A, hP : Tryz.prog = P at *; cbv; revert h; refine rb fun y1 hy2 h => ?_; refine rc [] [] (hfq67 _ _ hy2) zf ?_; cbv
 exact df

def Lq71_x2 (a0 : List TB) : (Int) -> Option ((Int) ⊕ ((Int) ⊕ (Unit))) := fun x2 =>
 letO x2 fun v1 =>
 br (std.lt v1 (std.ofN (len a0)))
 (req (std.inR v1 (len a0)) <|
 (Fq127 (gd a0 (std.toN v1))).bind fun y15 =>
 br y15
 (some (.inr (.inl v1)))
 (some (.inl (std.add .i64 v1 1))))
 (some (.inr (.inr ())))
/-- impl.Label] -/
def Fq71 (a0 : List TB) : Option (Int) :=
 (whileP (σ := Int) (ρ := (Int) ⊕ (Unit)) (Lq71_x2 a0) 0).bind fun y3 =>
 (match y3 with
 | .inl y3k0 => (
 letO y3k0 fun w19 =>
 some w19)
 | .inr y3m0 =>
 some (-1))
theorem runq71 (a0 : List TB) (r : Int) (h : Fq71 a0 = some r) : Fun Tryz.prog 236 [.c (.bs (len a0) 4 (row gd (eL) a0)), .c (.fn 166 0 fun _ => .junk)] [] (.c (wi r)) [] true := by
 refine Fun.of_wp (oneOf []) tok mixed Tryz.func236 (by kernel_rfl) rfl Tryz.ntmps236 rfl trivial (fun _ => ⟨trivial, tv⟩) ?_; unfold Fq71 at h; unfold Lq71_x2 at h; have hfq127 := @runq127
 generalize hLEN : @len = LEN, hGD : @gd = GD, hA : std = A, hP : Tryz.prog = P at *; cbv
 revert h; refine lc (fun x => (sp 19 [(0, .c (.bs (LEN a0) 4 (row GD (eL) a0))), (1, .c (.fn 166 0 fun _ => .junk)), (7, .c (wi (A.ofN (LEN a0)))), (8, .c (wi x))] [])) (fun y e s => (match y with | .inl w => e = .ret /\ s.le (sp 19 [(4, .c (wi w))] []) | .inr w0 => (fun (w : Unit) => e = .exit 0 /\ s.le (sp 19 [] [])) w0)) zb ?_ ?_
 ·intro v1 z h K hK hY; replace h := oz h; cbv; revert h; refine fk ?_ ?_ <;> intro h <;> cbv
  ·revert h; refine ra fun c14 h => ?_; revert h; refine rb fun y15 hy16 h => ?_; refine rc [] [] (hfq127 _ _ hy16) zf ?_; cbv; revert h; refine fk ?_ ?_ <;> intro h <;> cbv
   ·exact dy
   exact dm
  exact dy
 intro y3 h e12 s13 q11 hne; rcases y3 with y3k0 | y3m0
 ·replace h := h; obtain ⟨rfl, q11⟩ := q11; revert h; refine rz fun h => ?_; cbv; injection h with h; subst h; exact ⟨_, q11, lR _, zo, rfl⟩
 ·obtain ⟨rfl, q11⟩ := q11; cbv; refine ⟨_, q11, ?_⟩; cbv; exact df

/-- impl.Label] -/
def Fq102 (a0 : List TB) : Option (Bool) :=
 (Fq71 a0).bind fun y1 =>
 some (std.le 0 y1)
theorem runq102 (a0 : List TB) (r : Bool) (h : Fq102 a0 = some r) : Fun Tryz.prog 165 [.c (.bs (len a0) 4 (row gd (eL) a0)), .c (.fn 166 0 fun _ => .junk)] [] (.c (.v (.bool r))) [] true := by
 refine Fun.of_wp (oneOf []) tok mixed Tryz.func165 (by kernel_rfl) rfl Tryz.ntmps165 rfl trivial (fun _ => ⟨trivial, tv⟩) ?_; unfold Fq102 at h; have hfq71 := @runq71
 generalize hLEN : @len = LEN, hGD : @gd = GD, hA : std = A, hP : Tryz.prog = P at *; cbv; revert h; refine rb fun y1 hy2 h => ?_; refine rc [] [] (hfq71 _ _ hy2) zf ?_; cbv; exact df

/-- impl.IsValidTransform -/
def Fq95 (a0 : TM) : Option (Bool) :=
 ((
 (Fq1 a0.fo 0 7).bind fun y8 =>
 br y8
 ((Fq1 a0.fX (-80) 80).bind fun y10 =>
 br y10
 ((Fq1 a0.fY (-80) 80).bind fun y12 =>
 some y12)
 (some false))
 (some false)
 ) : Option (Bool)).bind fun y1 =>
 letO y1 fun w7 =>
 some w7
theorem runq95 (a0 : TM) (r : Bool) (h : Fq95 a0 = some r) : Fun Tryz.prog 239 [.agg [wi a0.fo, wi a0.fX, wi a0.fY]] [] (.c (.v (.bool r))) [] true := by
 refine Fun.of_wp (oneOf [1]) tok mixed Tryz.func239 (by kernel_rfl) rfl Tryz.ntmps239 rfl trivial (fun _ => ⟨trivial, tv⟩) ?_; unfold Fq95 at h; have hfq1 := @runq1; generalize hLEN : @len = LEN, hGD : @gd = GD, hA : std = A, hP : Tryz.prog = P at *; cbv; revert h; refine cu (fun y1 => (sp 16 [(2, .c (.v (.bool y1)))] [])) ?_ fun w7 => rz fun h => ?_
 ·intro y1 S hS h; cbv; revert h; refine rb fun y8 hy9 h => ?_; refine rc [] [] (hfq1 _ _ _ _ hy9) zf ?_; cbv; revert h; refine fk ?_ ?_ <;> intro h <;> cbv
  ·revert h; refine rb fun y10 hy11 h => ?_; refine rc [] [] (hfq1 _ _ _ _ hy11) zf ?_; cbv; revert h; refine fk ?_ ?_ <;> intro h <;> cbv
   ·revert h; refine rb fun y12 hy13 h => ?_; refine rc [] [] (hfq1 _ _ _ _ hy13) zf ?_; cbv; exact dn
   exact dn
  exact dn
 cbv; exact df

/-- impl.validInstance -/
def Fq68 (a0 : TI) (a1 : Int) : Option (Bool) :=
 ((
 (Fq1 a0.fc 0 (std.sub .i64 a1 1)).bind fun y8 =>
 br y8
 ((Fq95 a0.fp).bind fun y10 =>
 br y10
 ((Fq1 a0.fK 1 4).bind fun y12 =>
 br y12
 ((Fq1 a0.fR 1 4).bind fun y14 =>
 br y14
 ((Fq1 a0.fu (-80) 80).bind fun y16 =>
 br y16
 ((Fq1 a0.fv (-80) 80).bind fun y18 =>
 br y18
 (br (std.eq a0.fu 0)
 (br (std.eq a0.fv 0)
 (some true)
 (some (std.lt 1 a0.fR)))
 (br (std.lt 1 a0.fK)
 (br (std.eq a0.fv 0)
 (some true)
 (some (std.lt 1 a0.fR)))
 (some false)))
 (some false))
 (some false))
 (some false))
 (some false))
 (some false))
 (some false)
 ) : Option (Bool)).bind fun y1 =>
 letO y1 fun w7 =>
 some w7
theorem runq68 (a0 : TI) (a1 : Int) (r : Bool) (h : Fq68 a0 a1 = some r) : Fun Tryz.prog 170 [.agg [wi a0.fc, wi a0.fp.fo, wi a0.fp.fX, wi a0.fp.fY, wi a0.fK, wi a0.fR, wi a0.fu, wi a0.fv], .c (wi a1)] [] (.c (.v (.bool r))) [] true := by
 refine Fun.of_wp (oneOf [1]) tok mixed Tryz.func170 (by kernel_rfl) rfl Tryz.ntmps170 rfl trivial (fun _ => ⟨trivial, tv⟩) ?_; unfold Fq68 at h; have hfq95 := @runq95; have hfq1 := @runq1; generalize hLEN : @len = LEN, hGD : @gd = GD, hA : std = A, hP : Tryz.prog = P at *; cbv
 revert h; refine cu (fun y1 => (sp 55 [(4, .c (.v (.bool y1)))] [])) ?_ fun w7 => rz fun h => ?_
 ·intro y1 S hS h; cbv; revert h; refine rb fun y8 hy9 h => ?_; refine rc [] [] (hfq1 _ _ _ _ hy9) zf ?_; cbv; revert h; refine fk ?_ ?_ <;> intro h <;> cbv
  ·revert h; refine rb fun y10 hy11 h => ?_; refine rc [] [] (hfq95 _ _ hy11) zf ?_; cbv; revert h; refine fk ?_ ?_ <;> intro h <;> cbv
   ·revert h; refine rb fun y12 hy13 h => ?_; refine rc [] [] (hfq1 _ _ _ _ hy13) zf ?_; cbv; revert h; refine fk ?_ ?_ <;> intro h <;> cbv
    ·revert h; refine rb fun y14 hy15 h => ?_; refine rc [] [] (hfq1 _ _ _ _ hy15) zf ?_; cbv; revert h; refine fk ?_ ?_ <;> intro h <;> cbv
     ·revert h; refine rb fun y16 hy17 h => ?_; refine rc [] [] (hfq1 _ _ _ _ hy17) zf ?_; cbv; revert h; refine fk ?_ ?_ <;> intro h <;> cbv
      ·revert h; refine rb fun y18 hy19 h => ?_; refine rc [] [] (hfq1 _ _ _ _ hy19) zf ?_; cbv; revert h; refine fk ?_ ?_ <;> intro h <;> cbv
       ·revert h; refine fk ?_ ?_ <;> intro h <;> cbv
        ·revert h; refine fk ?_ ?_ <;> intro h <;> cbv
         ·exact dn
         exact dn
        revert h; refine fk ?_ ?_ <;> intro h <;> cbv
        ·revert h; refine fk ?_ ?_ <;> intro h <;> cbv
         ·exact dn
         exact dn
        exact dn
       exact dn
      exact dn
     exact dn
    exact dn
   exact dn
  exact dn
 cbv; exact df

/-- impl.validCell$3 -/
def Fq125 (a0 : TI) (a1 : Int) : Option (Bool) :=
 (Fq68 (TI.mk a0.fc a0.fp a0.fK a0.fR a0.fu a0.fv) a1).bind fun y1 =>
 some (!(y1))
theorem runq125 (a0 : TI) (a1 : Int) (r : Bool) (h : Fq125 a0 a1 = some r) : Fun Tryz.prog 169 [.agg [wi a0.fc, wi a0.fp.fo, wi a0.fp.fX, wi a0.fp.fY, wi a0.fK, wi a0.fR, wi a0.fu, wi a0.fv], .c (.bp 1 (encI .i64 a1))] [] (.c (.v (.bool r))) [] true := by
 refine Fun.of_wp (oneOf []) tok mixed Tryz.func169 (by kernel_rfl) rfl Tryz.ntmps169 rfl trivial (fun _ => ⟨trivial, tv⟩) ?_; unfold Fq125 at h; have hfq68 := @runq68; generalize hLEN : @len = LEN, hGD : @gd = GD, hA : std = A, hP : Tryz.prog = P at *; cbv; revert h; refine rb fun y1 hy2 h => ?_
 refine rc [] [] (hfq68 _ _ _ hy2) zf ?_; cbv; exact df
set_option maxHeartbeats 4000000
def Lq66_x2 (a0 : List TI) (a1_0 : Int) : (Int) -> Option ((Int) ⊕ ((Int) ⊕ (Unit))) := fun x2 =>
 letO x2 fun v1 =>
 br (std.lt v1 (std.ofN (len a0)))
 (req (std.inR v1 (len a0)) <|
 (Fq125 (gd a0 (std.toN v1)) a1_0).bind fun y15 =>
 br y15
 (some (.inr (.inl v1)))
 (some (.inl (std.add .i64 v1 1))))
 (some (.inr (.inr ())))
/-- impl.Instance] -/
def Fq66 (a0 : List TI) (a1_0 : Int) : Option (Int) :=
 (whileP (σ := Int) (ρ := (Int) ⊕ (Unit)) (Lq66_x2 a0 a1_0) 0).bind fun y3 =>
 (match y3 with
 | .inl y3k0 => (
 letO y3k0 fun w19 =>
 some w19)
 | .inr y3m0 =>
 some (-1))
theorem runq66 (a0 : List TI) (a1_0 : Int) (r : Int) (h : Fq66 a0 a1_0 = some r) : Fun Tryz.prog 238 [.c (.bs (len a0) 8 (row gd (eI) a0)), .c (.fn 169 1 fun j => ([.bp 1 (encI .i64 a1_0)] : List AC).getD j .junk)] [] (.c (wi r)) [] true := by
 refine Fun.of_wp (oneOf []) tok mixed Tryz.func238 (by kernel_rfl) rfl Tryz.ntmps238 rfl trivial (fun _ => ⟨trivial, tv⟩) ?_; unfold Fq66 at h; unfold Lq66_x2 at h; have hfq125 := @runq125
 generalize hLEN : @len = LEN, hGD : @gd = GD, hA : std = A, hP : Tryz.prog = P at *; cbv
 revert h; refine lc (fun x => (sp 19 [(0, .c (.bs (LEN a0) 8 (row GD (eI) a0))), (1, .c (.fn 169 1 fun j => ([.bp 1 (encI .i64 a1_0)] : List AC).getD j .junk)), (7, .c (wi (A.ofN (LEN a0)))), (8, .c (wi x))] [])) (fun y e s => (match y with | .inl w => e = .ret /\ s.le (sp 19 [(4, .c (wi w))] []) | .inr w0 => (fun (w : Unit) => e = .exit 0 /\ s.le (sp 19 [] [])) w0)) zb ?_ ?_
 ·intro v1 z h K hK hY; replace h := oz h; cbv; revert h; refine fk ?_ ?_ <;> intro h <;> cbv
  ·revert h; refine ra fun c14 h => ?_; revert h; refine rb fun y15 hy16 h => ?_; refine rc [] [] (hfq125 _ _ _ hy16) (zg (lc_ (lR _) (lc_ (le_bp (show 1 <= 1 from by decide) (by intro j hj; match j, hj with | 0, _ => exact rle_refl _ | (j_ + 1), h_ => omega)) (ln_)))) ?_; cbv; revert h; refine fk ?_ ?_ <;> intro h <;> cbv
   ·exact dy
   exact dm
  exact dy
 intro y3 h e12 s13 q11 hne; rcases y3 with y3k0 | y3m0
 ·replace h := h; obtain ⟨rfl, q11⟩ := q11; revert h; refine rz fun h => ?_; cbv; injection h with h; subst h; exact ⟨_, q11, lR _, zo, rfl⟩
 ·obtain ⟨rfl, q11⟩ := q11; cbv; refine ⟨_, q11, ?_⟩; cbv; exact df

/-- impl.Instance] -/
def Fq89 (a0 : List TI) (a1_0 : Int) : Option (Bool) :=
 (Fq66 a0 a1_0).bind fun y1 =>
 some (std.le 0 y1)
theorem runq89 (a0 : List TI) (a1_0 : Int) (r : Bool) (h : Fq89 a0 a1_0 = some r) : Fun Tryz.prog 168 [.c (.bs (len a0) 8 (row gd (eI) a0)), .c (.fn 169 1 fun j => ([.bp 1 (encI .i64 a1_0)] : List AC).getD j .junk)] [] (.c (.v (.bool r))) [] true := by
 refine Fun.of_wp (oneOf []) tok mixed Tryz.func168 (by kernel_rfl) rfl Tryz.ntmps168 rfl trivial (fun _ => ⟨trivial, tv⟩) ?_; unfold Fq89 at h; have hfq66 := @runq66
 generalize hLEN : @len = LEN, hGD : @gd = GD, hA : std = A, hP : Tryz.prog = P at *; cbv; revert h; refine rb fun y1 hy2 h => ?_
 refine rc [] [] (hfq66 _ _ _ hy2) (zg (lc_ (lR _) (lc_ (le_fn (by intro j hj; match j, hj with | 0, _ => exact le_bp (show 1 <= 1 from by decide) (by intro j hj; match j, hj with | 0, _ => exact rle_refl _ | (j_ + 1), h_ => omega) | (j_ + 1), h_ => omega)) (ln_)))) ?_; cbv
 exact df

/-- impl.validCell -/
def Fq3 (a0 : TC) (a1 : Int) : Option (Bool) :=
 ((
 (Fq24 a0.fN).bind fun y8 =>
 br (!(y8))
 (some true)
 (br (std.lt 24 (std.ofN (len a0.fS)))
 (some true)
 (br (std.lt 8 (std.ofN (len a0.fL)))
 (some true)
 (some (std.lt 8 (std.ofN (len a0.fI))))))
 ) : Option (Bool)).bind fun y1 =>
 letO y1 fun w7 =>
 br w7
 (some false)
 (((
 (Fq99 a0.fS).bind fun y20 =>
 br (!(y20))
 ((Fq102 a0.fL).bind fun y22 =>
 br (!(y22))
 ((Fq89 a0.fI a1).bind fun y24 =>
 some (!(y24)))
 (some false))
 (some false)
 ) : Option (Bool)).bind fun y13 =>
 letO y13 fun w19 =>
 some w19)
theorem runq3 (a0 : TC) (a1 : Int) (r : Bool) (h : Fq3 a0 a1 = some r) : Fun Tryz.prog 95 [.agg [ws a0.fN, .bs (len a0.fS) 5 (row gd (eS) a0.fS), .bs (len a0.fL) 4 (row gd (eL) a0.fL), .bs (len a0.fI) 8 (row gd (eI) a0.fI)], .c (wi a1)] [] (.c (.v (.bool r))) [] true := by
 refine Fun.of_wp (oneOf [1, 3]) tok mixed Tryz.func95 (by kernel_rfl) rfl Tryz.ntmps95 rfl trivial (fun _ => ⟨trivial, tv⟩) ?_; unfold Fq3 at h; have hfq24 := @runq24; have hfq89 := @runq89
 have hfq102 := @runq102; have hfq99 := @runq99; generalize hLEN : @len = LEN, hGD : @gd = GD, hA : std = A, hP : Tryz.prog = P at *; cbv
 revert h; refine cu (fun y1 => (sp 44 [(2, .c (.ptr 128 0)), (3, .c (.ptr 192 0)), (26, .c (.v (.bool y1)))] [(128, .var [ws a0.fN, .bs (LEN a0.fS) 5 (row GD (eS) a0.fS), .bs (LEN a0.fL) 4 (row GD (eL) a0.fL), .bs (LEN a0.fI) 8 (row GD (eI) a0.fI)]), (192, .var [wi a1])])) ?_ fun w7 => rz fun h => ?_
 ·intro y1 S hS h; cbv; revert h; refine rb fun y8 hy9 h => ?_; refine rc [] [] (hfq24 _ _ hy9) zf ?_; cbv; revert h; refine fk ?_ ?_ <;> intro h <;> cbv
  ·exact dn
  revert h; refine fk ?_ ?_ <;> intro h <;> cbv
  ·exact dn
  revert h; refine fk ?_ ?_ <;> intro h <;> cbv
  ·exact dn
  exact dn
 cbv; revert h; refine fk ?_ ?_ <;> intro h <;> cbv
 ·exact df
 revert h; refine cu (fun y13 => (sp 44 [(4, .c (.v (.bool y13)))] [])) ?_ fun w19 => rz fun h => ?_
 ·intro y13 S hS h; cbv; revert h; refine rb fun y20 hy21 h => ?_; refine rc [] [] (hfq99 _ _ hy21) zf ?_; cbv; revert h; refine fk ?_ ?_ <;> intro h <;> cbv
  ·revert h; refine rb fun y22 hy23 h => ?_; refine rc [] [] (hfq102 _ _ hy23) zf ?_; cbv; revert h; refine fk ?_ ?_ <;> intro h <;> cbv
   ·revert h; refine rb fun y24 hy25 h => ?_
    refine rc [] [] (hfq89 _ _ _ hy25) (zg (lc_ (lR _) (lc_ (le_fn (by intro j hj; match j, hj with | 0, _ => exact le_bp (show 1 <= 1 from by decide) (by intro j hj; match j, hj with | 0, _ => exact rle_refl _ | (j_ + 1), h_ => omega) | (j_ + 1), h_ => omega)) (ln_)))) ?_
    cbv; exact dn
   exact dn
  exact dn
 cbv; exact df

/-- impl.named$1 -/
def Fq123 (a0 : TC) (a1 : ByteArray) : Option (Bool) :=
 some (std.seq a0.fN a1)
theorem runq123 (a0 : TC) (a1 : ByteArray) (r : Bool) (h : Fq123 a0 a1 = some r) : Fun Tryz.prog 172 [.agg [ws a0.fN, .bs (len a0.fS) 5 (row gd (eS) a0.fS), .bs (len a0.fL) 4 (row gd (eL) a0.fL), .bs (len a0.fI) 8 (row gd (eI) a0.fI)], .c (.bp 1 (encS a1))] [] (.c (.v (.bool r))) [] true := by
 refine Fun.of_wp (oneOf []) tok mixed Tryz.func172 (by kernel_rfl) rfl Tryz.ntmps172 rfl trivial (fun _ => ⟨trivial, tv⟩) ?_; unfold Fq123 at h; generalize hLEN : @len = LEN, hGD : @gd = GD, hA : std = A, hP : Tryz.prog = P at *; cbv; exact df

def Lq65_x2 (a0 : List TC) (a1_0 : ByteArray) : (Int) -> Option ((Int) ⊕ ((Int) ⊕ (Unit))) := fun x2 =>
 letO x2 fun v1 =>
 br (std.lt v1 (std.ofN (len a0)))
 (req (std.inR v1 (len a0)) <|
 (Fq123 (gd a0 (std.toN v1)) a1_0).bind fun y15 =>
 br y15
 (some (.inr (.inl v1)))
 (some (.inl (std.add .i64 v1 1))))
 (some (.inr (.inr ())))
/-- impl.Cell] -/
def Fq65 (a0 : List TC) (a1_0 : ByteArray) : Option (Int) :=
 (whileP (σ := Int) (ρ := (Int) ⊕ (Unit)) (Lq65_x2 a0 a1_0) 0).bind fun y3 =>
 (match y3 with
 | .inl y3k0 => (
 letO y3k0 fun w19 =>
 some w19)
 | .inr y3m0 =>
 some (-1))
theorem runq65 (a0 : List TC) (a1_0 : ByteArray) (r : Int) (h : Fq65 a0 a1_0 = some r) : Fun Tryz.prog 171 [.c (.bs (len a0) 4 (row gd (eC len gd) a0)), .c (.fn 172 1 fun j => ([.bp 1 (encS a1_0)] : List AC).getD j .junk)] [] (.c (wi r)) [] true := by
 refine Fun.of_wp (oneOf []) tok mixed Tryz.func171 (by kernel_rfl) rfl Tryz.ntmps171 rfl trivial (fun _ => ⟨trivial, tv⟩) ?_; unfold Fq65 at h; unfold Lq65_x2 at h; have hfq123 := @runq123
 generalize hLEN : @len = LEN, hGD : @gd = GD, hA : std = A, hP : Tryz.prog = P at *; cbv
 revert h; refine lc (fun x => (sp 19 [(0, .c (.bs (LEN a0) 4 (row GD (eC LEN GD) a0))), (1, .c (.fn 172 1 fun j => ([.bp 1 (encS a1_0)] : List AC).getD j .junk)), (7, .c (wi (A.ofN (LEN a0)))), (8, .c (wi x))] [])) (fun y e s => (match y with | .inl w => e = .ret /\ s.le (sp 19 [(4, .c (wi w))] []) | .inr w0 => (fun (w : Unit) => e = .exit 0 /\ s.le (sp 19 [] [])) w0)) zb ?_ ?_
 ·intro v1 z h K hK hY; replace h := oz h; cbv; revert h; refine fk ?_ ?_ <;> intro h <;> cbv
  ·revert h; refine ra fun c14 h => ?_; revert h; refine rb fun y15 hy16 h => ?_; refine rc [] [] (hfq123 _ _ _ hy16) (zg (lc_ (lR _) (lc_ (le_bp (show 1 <= 1 from by decide) (by intro j hj; match j, hj with | 0, _ => exact rle_refl _ | (j_ + 1), h_ => omega)) (ln_)))) ?_; cbv; revert h; refine fk ?_ ?_ <;> intro h <;> cbv
   ·exact dy
   exact dm
  exact dy
 intro y3 h e12 s13 q11 hne; rcases y3 with y3k0 | y3m0
 ·replace h := h; obtain ⟨rfl, q11⟩ := q11; revert h; refine rz fun h => ?_; cbv; injection h with h; subst h; exact ⟨_, q11, lR _, zo, rfl⟩
 ·obtain ⟨rfl, q11⟩ := q11; cbv; refine ⟨_, q11, ?_⟩; cbv; exact df

/-- impl.named -/
def Fq18 (a0 : TL) (a1 : ByteArray) : Option (Int) :=
 (Fq65 a0.fC a1).bind fun y1 =>
 some y1
theorem runq18 (a0 : TL) (a1 : ByteArray) (r : Int) (h : Fq18 a0 a1 = some r) : Fun Tryz.prog 96 [.agg [.bs (len a0.fC) 4 (row gd (eC len gd) a0.fC)], .c (ws a1)] [] (.c (wi r)) [] true := by
 refine Fun.of_wp (oneOf []) tok mixed Tryz.func96 (by kernel_rfl) rfl Tryz.ntmps96 rfl trivial (fun _ => ⟨trivial, tv⟩) ?_; unfold Fq18 at h; have hfq65 := @runq65; generalize hLEN : @len = LEN, hGD : @gd = GD, hA : std = A, hP : Tryz.prog = P at *; cbv
 revert h; refine rb fun y1 hy2 h => ?_
 refine rc [] [] (hfq65 _ _ _ hy2) (zg (lc_ (lR _) (lc_ (le_fn (by intro j hj; match j, hj with | 0, _ => exact le_bp (show 1 <= 1 from by decide) (by intro j hj; match j, hj with | 0, _ => exact rle_refl _ | (j_ + 1), h_ => omega) | (j_ + 1), h_ => omega)) (ln_)))) ?_; cbv; exact df
set_option maxHeartbeats 4000000
def Lq26_x10 (a0 : TL) : (Int) -> Option ((Int) ⊕ ((Bool) ⊕ (Unit))) := fun x10 =>
 letO x10 fun v9 =>
 br (std.lt v9 (std.ofN (len a0.fC)))
 (req (std.inR v9 (len a0.fC)) <|
 ((
 (Fq3 (gd a0.fC (std.toN v9)) v9).bind fun y30 =>
 br (!(y30))
 (some true)
 ((Fq18 (TL.mk a0.fC) (gd a0.fC (std.toN v9)).fN).bind fun y32 =>
 some (std.not (std.eq y32 v9)))
 ) : Option (Bool)).bind fun y23 =>
 letO y23 fun w29 =>
 br w29
 (some (.inr (.inl false)))
 (some (.inl (std.add .i64 v9 1))))
 (some (.inr (.inr ())))
/-- impl.IsValidLibrary -/
def Fq26 (a0 : TL) : Option (Bool) :=
 ((
 br (std.lt (std.ofN (len a0.fC)) 1)
 (some true)
 (some (std.lt 8 (std.ofN (len a0.fC))))
 ) : Option (Bool)).bind fun y1 =>
 letO y1 fun w7 =>
 br w7
 (some false)
 ((whileP (σ := Int) (ρ := (Bool) ⊕ (Unit)) (Lq26_x10 a0) 0).bind fun y11 =>
 (match y11 with
 | .inl y11k0 => (
 letO y11k0 fun w37 =>
 some w37)
 | .inr y11m0 =>
 some true))
theorem runq26 (a0 : TL) (r : Bool) (h : Fq26 a0 = some r) : Fun Tryz.prog 46 [.agg [.bs (len a0.fC) 4 (row gd (eC len gd) a0.fC)]] [] (.c (.v (.bool r))) [] true := by
 refine Fun.of_wp (oneOf [1, 6]) tok mixed Tryz.func46 (by kernel_rfl) rfl Tryz.ntmps46 rfl trivial (fun _ => ⟨trivial, tv⟩) ?_; unfold Fq26 at h; unfold Lq26_x10 at h; have hfq18 := @runq18; have hfq3 := @runq3; generalize hLEN : @len = LEN, hGD : @gd = GD, hA : std = A, hP : Tryz.prog = P at *; cbv
 revert h; refine cu (fun y1 => (sp 36 [(1, .c (.ptr 64 0)), (14, .c (.v (.bool y1)))] [(64, .var [.bs (LEN a0.fC) 4 (row GD (eC LEN GD) a0.fC)])])) (fun y1 S hS h => rg) fun w7 => rz fun h => ?_; cbv; revert h; refine fk ?_ ?_ <;> intro h <;> cbv
 ·exact df
 revert h; refine lc (fun x => (sp 36 [(1, .c (.ptr 64 0)), (16, .c (.bs (LEN a0.fC) 4 (row GD (eC LEN GD) a0.fC))), (17, .c (wi (A.ofN (LEN a0.fC)))), (18, .c (wi x))] [(64, .var [.bs (LEN a0.fC) 4 (row GD (eC LEN GD) a0.fC)])])) (fun y e s => (match y with | .inl w => e = .ret /\ s.le (sp 36 [(2, .c (.v (.bool w)))] []) | .inr w0 => (fun (w : Unit) => e = .exit 0 /\ s.le (sp 36 [] [])) w0)) zb ?_ ?_
 ·intro v9 z h K hK hY; replace h := oz h; cbv; revert h; refine fk ?_ ?_ <;> intro h <;> cbv
  ·revert h; refine ra fun c22 h => ?_; revert h; refine cu (fun y23 => (sp 36 [(1, .c (.ptr 64 0)), (16, .c (.bs (LEN a0.fC) 4 (row GD (eC LEN GD) a0.fC))), (17, .c (wi (A.ofN (LEN a0.fC)))), (18, .c (wi v9)), (34, .c (.v (.bool y23)))] [(64, .var [.bs (LEN a0.fC) 4 (row GD (eC LEN GD) a0.fC)])])) ?_ fun w29 => rz fun h => ?_
   ·intro y23 S hS h; cbv; revert h; refine rb fun y30 hy31 h => ?_; refine rc [] [] (hfq3 _ _ _ hy31) zf ?_; cbv; revert h; refine fk ?_ ?_ <;> intro h <;> cbv
    ·exact dn
    revert h; refine rb fun y32 hy33 h => ?_; refine rc [] [] (hfq18 _ _ _ hy33) zf ?_; cbv; exact dn
   cbv; revert h; refine fk ?_ ?_ <;> intro h <;> cbv
   ·exact dy
   exact dm
  exact dy
 intro y11 h e20 s21 q19 hne; rcases y11 with y11k0 | y11m0
 ·replace h := h; obtain ⟨rfl, q19⟩ := q19; revert h; refine rz fun h => ?_; cbv; injection h with h; subst h; exact ⟨_, q19, lR _, zo, rfl⟩
 ·obtain ⟨rfl, q19⟩ := q19; cbv; refine ⟨_, q19, ?_⟩; cbv; exact df

/-- impl.Shape] -/
def Fq115 (a0 : List TS) : Option (List TS) :=
 nilB (len a0)
 (some ([] : List TS))
 (letO ([] : List TS) fun l1 =>
 req (std.room (std.nadd (len l1) (len a0)) 40) <|
 letO (l1 ++ a0) fun l3 =>
 some l3)
theorem runq115 (a0 : List TS) (r : List TS) (h : Fq115 a0 = some r) : Fun Tryz.prog 226 [.c (.bs (len a0) 5 (row gd (eS) a0))] [] (.c (.os 64000 0 (len r))) [(64000, .arr .rw [] (len r) 5 (row gd (eS) r))] true := by
 refine Fun.of_wp (oneOf []) tok mixed Tryz.func226 (by kernel_rfl) rfl Tryz.ntmps226 rfl trivial (fun _ => ⟨trivial, ⟨fun i _ j _ => val_flat (vl_encShape _ _), tv⟩⟩) ?_; unfold Fq115 at h; generalize hLEN : @len = LEN, hGD : @gd = GD, hA : std = A, hP : Tryz.prog = P at *; cbv; obtain ⟨h, hz7⟩ := of_nilB h; refine And.intro (fun hn6 => ?_) ?_
 ·have h := hz7 hn6; clear hz7; cbv; injection h with h; subst h; refine ⟨(sp 8 [(2, .c (.os 64000 0 (LEN ([] : List TS))))] [(64000, .arr .rw [] (LEN ([] : List TS)) 5 (row GD (eS) ([] : List TS)))]), ?_, ?_⟩
  ·refine St.le_trans (le_nilT 2 64000 5 (row GD (eS) ([] : List TS)) (by decide) rfl) ?_; subst hLEN; exact zb
  ·subst hLEN; exact ⟨lR _, ⟨oS, tv⟩, rfl⟩
 ·clear hz7; cbv; revert h; refine rl fun l1 hl1 h => ?_; have e2 : 0 = LEN l1 := by subst hl1 hLEN; rfl
  refine ⟨_, (co e2), _, row GD (eS) l1, e2, wkOf ?_, ?_⟩
  ·intro i hi j hj; rw [<- e2] at hi; subst hl1; subst hGD; omega
  cbv; revert h; refine rq fun c5 => rl fun l3 hl3 h => ?_; have e4 := nl hA hLEN hl3; refine ⟨c5, _, (co e4), _, row GD (eS) l3, e4, wkOf ?_, ?_⟩
  ·subst hGD hLEN hA; exact app_bs (pl_encShape) hl3 (Nat.le_refl _)
  cbv; injection h with h; subst h; refine ⟨(sp 8 [(2, .c (.os 64000 0 (LEN l3)))] [(64000, .arr .rw [] (LEN l3) 5 (row GD (eS) l3))]), ?_, ?_⟩
  ·refine St.le_trans (le_ren 320 64000 (by decide) rfl) ?_; exact zb
  ·exact ⟨lR _, ⟨oS, tv⟩, rfl⟩

/-- impl.Label] -/
def Fq119 (a0 : List TB) : Option (List TB) :=
 nilB (len a0)
 (some ([] : List TB))
 (letO ([] : List TB) fun l1 =>
 req (std.room (std.nadd (len l1) (len a0)) 40) <|
 letO (l1 ++ a0) fun l3 =>
 some l3)
theorem runq119 (a0 : List TB) (r : List TB) (h : Fq119 a0 = some r) : Fun Tryz.prog 227 [.c (.bs (len a0) 4 (row gd (eL) a0))] [] (.c (.os 64000 0 (len r))) [(64000, .arr .rw [] (len r) 4 (row gd (eL) r))] true := by
 refine Fun.of_wp (oneOf []) tok mixed Tryz.func227 (by kernel_rfl) rfl Tryz.ntmps227 rfl trivial (fun _ => ⟨trivial, ⟨fun i _ j _ => val_flat (vl_encLabel _ _), tv⟩⟩) ?_; unfold Fq119 at h; generalize hLEN : @len = LEN, hGD : @gd = GD, hA : std = A, hP : Tryz.prog = P at *; cbv; obtain ⟨h, hz7⟩ := of_nilB h; refine And.intro (fun hn6 => ?_) ?_
 ·have h := hz7 hn6; clear hz7; cbv; injection h with h; subst h; refine ⟨(sp 8 [(2, .c (.os 64000 0 (LEN ([] : List TB))))] [(64000, .arr .rw [] (LEN ([] : List TB)) 4 (row GD (eL) ([] : List TB)))]), ?_, ?_⟩
  ·refine St.le_trans (le_nilT 2 64000 4 (row GD (eL) ([] : List TB)) (by decide) rfl) ?_; subst hLEN; exact zb
  ·subst hLEN; exact ⟨lR _, ⟨oS, tv⟩, rfl⟩
 ·clear hz7; cbv; revert h; refine rl fun l1 hl1 h => ?_; have e2 : 0 = LEN l1 := by subst hl1 hLEN; rfl
  refine ⟨_, (co e2), _, row GD (eL) l1, e2, wkOf ?_, ?_⟩
  ·intro i hi j hj; rw [<- e2] at hi; subst hl1; subst hGD; omega
  cbv; revert h; refine rq fun c5 => rl fun l3 hl3 h => ?_; have e4 := nl hA hLEN hl3; refine ⟨c5, _, (co e4), _, row GD (eL) l3, e4, wkOf ?_, ?_⟩
  ·subst hGD hLEN hA; exact app_bs (pl_encLabel) hl3 (Nat.le_refl _)
  cbv; injection h with h; subst h; refine ⟨(sp 8 [(2, .c (.os 64000 0 (LEN l3)))] [(64000, .arr .rw [] (LEN l3) 4 (row GD (eL) l3))]), ?_, ?_⟩
  ·refine St.le_trans (le_ren 320 64000 (by decide) rfl) ?_; exact zb
  ·exact ⟨lR _, ⟨oS, tv⟩, rfl⟩

/-- impl.Instance] -/
def Fq118 (a0 : List TI) : Option (List TI) :=
 nilB (len a0)
 (some ([] : List TI))
 (letO ([] : List TI) fun l1 =>
 req (std.room (std.nadd (len l1) (len a0)) 64) <|
 letO (l1 ++ a0) fun l3 =>
 some l3)
theorem runq118 (a0 : List TI) (r : List TI) (h : Fq118 a0 = some r) : Fun Tryz.prog 228 [.c (.bs (len a0) 8 (row gd (eI) a0))] [] (.c (.os 64000 0 (len r))) [(64000, .arr .rw [] (len r) 8 (row gd (eI) r))] true := by
 refine Fun.of_wp (oneOf []) tok mixed Tryz.func228 (by kernel_rfl) rfl Tryz.ntmps228 rfl trivial (fun _ => ⟨trivial, ⟨fun i _ j _ => val_flat (vl_encInstance _ _), tv⟩⟩) ?_; unfold Fq118 at h; generalize hLEN : @len = LEN, hGD : @gd = GD, hA : std = A, hP : Tryz.prog = P at *; cbv; obtain ⟨h, hz7⟩ := of_nilB h; refine And.intro (fun hn6 => ?_) ?_
 ·have h := hz7 hn6; clear hz7; cbv; injection h with h; subst h; refine ⟨(sp 8 [(2, .c (.os 64000 0 (LEN ([] : List TI))))] [(64000, .arr .rw [] (LEN ([] : List TI)) 8 (row GD (eI) ([] : List TI)))]), ?_, ?_⟩
  ·refine St.le_trans (le_nilT 2 64000 8 (row GD (eI) ([] : List TI)) (by decide) rfl) ?_; subst hLEN; exact zb
  ·subst hLEN; exact ⟨lR _, ⟨oS, tv⟩, rfl⟩
 ·clear hz7; cbv; revert h; refine rl fun l1 hl1 h => ?_; have e2 : 0 = LEN l1 := by subst hl1 hLEN; rfl
  refine ⟨_, (co e2), _, row GD (eI) l1, e2, wkOf ?_, ?_⟩
  ·intro i hi j hj; rw [<- e2] at hi; subst hl1; subst hGD; omega
  cbv; revert h; refine rq fun c5 => rl fun l3 hl3 h => ?_; have e4 := nl hA hLEN hl3; refine ⟨c5, _, (co e4), _, row GD (eI) l3, e4, wkOf ?_, ?_⟩
  ·subst hGD hLEN hA; exact app_bs (pl_encInstance) hl3 (Nat.le_refl _)
  cbv; injection h with h; subst h; refine ⟨(sp 8 [(2, .c (.os 64000 0 (LEN l3)))] [(64000, .arr .rw [] (LEN l3) 8 (row GD (eI) l3))]), ?_, ?_⟩
  ·refine St.le_trans (le_ren 320 64000 (by decide) rfl) ?_; exact zb
  ·exact ⟨lR _, ⟨oS, tv⟩, rfl⟩

/-- impl.copyCell -/
def Fq92 (a0 : TC) : Option (TC) :=
 (Fq115 a0.fS).bind fun y1 =>
 (Fq119 a0.fL).bind fun y3 =>
 (Fq118 a0.fI).bind fun y5 =>
 some (TC.mk a0.fN y1 y3 y5)
theorem runq92 (a0 : TC) (r : TC) (h : Fq92 a0 = some r) : Fun Tryz.prog 149 [.agg [ws a0.fN, .bs (len a0.fS) 5 (row gd (eS) a0.fS), .bs (len a0.fL) 4 (row gd (eL) a0.fL), .bs (len a0.fI) 8 (row gd (eI) a0.fI)]] [] (.agg [ws r.fN, .os 64000 0 (len r.fS), .os 64002 0 (len r.fL), .os 64004 0 (len r.fI)]) [(64000, .arr .rw [] (len r.fS) 5 (row gd (eS) r.fS)), (64002, .arr .rw [] (len r.fL) 4 (row gd (eL) r.fL)), (64004, .arr .rw [] (len r.fI) 8 (row gd (eI) r.fI))] true := by
 refine Fun.of_wp (oneOf []) tok mixed Tryz.func149 (by kernel_rfl) rfl Tryz.ntmps149 rfl trivial (fun _ => ⟨(by simp [AV.flat, AV.flat1, AC.flat]), ⟨fun i _ j _ => val_flat (vl_encShape _ _), fun i _ j _ => val_flat (vl_encLabel _ _), fun i _ j _ => val_flat (vl_encInstance _ _), tv⟩⟩) ?_; unfold Fq92 at h
 have hfq118 := @runq118; have hfq119 := @runq119; have hfq115 := @runq115; generalize hLEN : @len = LEN, hGD : @gd = GD, hA : std = A, hP : Tryz.prog = P at *; cbv
 revert h; refine rb fun y1 hy2 h => ?_; refine rc [] [(64000, 448)] (hfq115 _ _ hy2) zf ⟨_, rfl, _, _, rfl, fun _ _ _ _ => .refl _, ?_⟩; cbv; revert h; refine rb fun y3 hy4 h => ?_; refine rc [] [(64000, 640)] (hfq119 _ _ hy4) zf ⟨_, rfl, _, _, rfl, fun _ _ _ _ => .refl _, ?_⟩; cbv; revert h; refine rb fun y5 hy6 h => ?_
 refine rc [] [(64000, 832)] (hfq118 _ _ hy6) zf ⟨_, rfl, _, _, rfl, fun _ _ _ _ => .refl _, ?_⟩; cbv; injection h with h; subst h
 refine ⟨(sp 15 [(2, .c (.ptr 128 0))] [(128, .var [ws a0.fN, .os 64000 0 (LEN y1), .os 64002 0 (LEN y3), .os 64004 0 (LEN y5)]), (64000, .arr .rw [] (LEN y1) 5 (row GD (eS) y1)), (64002, .arr .rw [] (LEN y3) 4 (row GD (eL) y3)), (64004, .arr .rw [] (LEN y5) 8 (row GD (eI) y5))]), ?_, ?_⟩
 ·refine St.le_trans (le_ren 448 64000 (by decide) rfl) ?_; refine St.le_trans (le_ren 640 64002 (by decide) rfl) ?_; refine St.le_trans (le_ren 832 64004 (by decide) rfl) ?_; exact zb
 ·exact ⟨lR _, ⟨oS, oS, oS, tv⟩, rfl⟩

def Lq34_x3 (a0 : TL) : (Int × (List TC)) -> Option ((Int × (List TC)) ⊕ (((List TC)))) := fun x3 =>
 letO x3.1 fun v1 =>
 letO x3.2 fun v2 =>
 br (std.lt v1 (std.ofN (len a0.fC)))
 (req (std.inR v1 (len a0.fC)) <|
 ((
 (Fq92 (gd a0.fC (std.toN v1))).bind fun y23 =>
 letO ([y23] : List TC) fun l25 =>
 req (std.room (std.nadd (len v2) (len l25)) 88) <|
 letO (v2 ++ l25) fun l27 =>
 some l27
 ) : Option ((List TC))).bind fun y16 =>
 letO y16 fun w22 =>
 some (.inl (std.add .i64 v1 1, w22)))
 (some (.inr v2))
/-- impl.copyLibrary -/
def Fq34 (a0 : TL) : Option (TL) :=
 (whileP (σ := Int × (List TC)) (ρ := ((List TC))) (Lq34_x3 a0) (0, ([] : List TC))).bind fun y4 =>
 letO y4 fun y4k0 =>
 letO y4k0 fun w31 =>
 some (TL.mk w31)
theorem runq34 (a0 : TL) (r : TL) (h : Fq34 a0 = some r) : Fun Tryz.prog 85 [.agg [.bs (len a0.fC) 4 (row gd (eC len gd) a0.fC)]] [] (.agg [.os 64000 0 (len r.fC)]) [(64000, .arr .rw [] (len r.fC) 4 (row gd (oC len gd) r.fC))] true := by
 refine Fun.of_wp (oneOf [5]) tok mixed Tryz.func85 (by kernel_rfl) rfl Tryz.ntmps85 rfl trivial (fun _ => ⟨(by simp [AV.flat, AV.flat1, AC.flat]), ⟨fun i _ j _ => fl_oncCell _ _, tv⟩⟩) ?_; unfold Fq34 at h; unfold Lq34_x3 at h; have hfq92 := @runq92; generalize hLEN : @len = LEN, hGD : @gd = GD, hA : std = A, hP : Tryz.prog = P at *; cbv
 revert h; refine ln (.exit 0) (fun x => (sp 23 [(2, .c (.ptr 128 0)), (3, .c (.ptr 192 0)), (8, .c (.bs (LEN a0.fC) 4 (row GD (eC LEN GD) a0.fC))), (9, .c (wi (A.ofN (LEN a0.fC)))), (10, .c (wi x.1))] [(128, .var [.v (.slice none 0 0)]), (192, .var [.os 1216 0 (LEN x.2)]), (1216, .arr .rw [] (LEN x.2) 4 (row GD (oC LEN GD) x.2))])) (fun w => (sp 23 [(2, .c (.ptr 128 0)), (3, .c (.ptr 192 0))] [(128, .var [.v (.slice none 0 0)]), (192, .var [.os 1216 0 (LEN w)]), (1216, .arr .rw [] (LEN w) 4 (row GD (oC LEN GD) w))])) ?_ ?_ ?_
 ·show St.le _ _; refine St.le_trans (le_nilV 192 0 1216 4 (row GD (oC LEN GD) ([] : List TC)) (by decide) (by decide) rfl rfl) ?_; subst hLEN; exact zb
 ·rintro ⟨v1, v2⟩ z h K hK hY; replace h := oz (oz h); dsimp only at h; cbv; revert h; refine fk ?_ ?_ <;> intro h <;> cbv
  ·revert h; refine ra fun c15 h => ?_
   revert h; refine cu (fun y16 => (sp 23 [(2, .c (.ptr 128 0)), (3, .c (.ptr 192 0)), (8, .c (.bs (LEN a0.fC) 4 (row GD (eC LEN GD) a0.fC))), (9, .c (wi (A.ofN (LEN a0.fC)))), (10, .c (wi v1))] [(128, .var [.v (.slice none 0 0)]), (192, .var [.os 1216 0 (LEN y16)]), (1216, .arr .rw [] (LEN y16) 4 (row GD (oC LEN GD) y16))])) ?_ fun w22 => rz fun h => ?_
   ·intro y16 S hS h; cbv; revert h; refine rb fun y23 hy24 h => ?_; refine rc [] [(64000, 1088), (64002, 1090), (64004, 1092)] (hfq92 _ _ hy24) zf ⟨_, rfl, _, _, rfl, fun _ _ _ _ => .refl _, _, _, rfl, fun _ _ _ _ => .refl _, _, _, rfl, fun _ _ _ _ => .refl _, ?_⟩; cbv; revert h; refine rl fun l25 hl25 h => ?_; have e26 : 1 = LEN l25 := by subst hl25 hLEN; rfl
    refine ⟨_, (co e26), _, (pC (fun _ _ => AC.junk) 0 [ws y23.fN, .os 1088 0 (LEN y23.fS), .os 1090 0 (LEN y23.fL), .os 1092 0 (LEN y23.fI)]), e26, wkOf ?_, ?_⟩
    ·refine patch_one (by subst hl25 hLEN; rfl) ?_; intro j hj; match j, hj with | 0, _ => (rfl) | 1, _ => (rfl) | 2, _ => (rfl) | 3, _ => (rfl) | (j_ + 4), h_ => omega
    cbv; revert h; refine rq fun c29 => rl fun l27 hl27 h => ?_; have e28 := nl hA hLEN hl27; refine ⟨c29, _, (co e28), _, (pC (row GD (oC LEN GD) v2) (LEN v2) [ws y23.fN, .os 1088 0 (LEN y23.fS), .os 1090 0 (LEN y23.fL), .os 1092 0 (LEN y23.fI)]), e28, wkOf ?_, ?_⟩
    ·subst hLEN hA; refine patch_joinG (by first | (rw [hl27]; simp [len]; done) | (rw [hl27]; simp [len]; omega) | (subst_vars; simp [len])) ?_; intro j hj; match j, hj with | 0, _ => (rfl) | 1, _ => (rfl) | 2, _ => (rfl) | 3, _ => (rfl) | (j_ + 4), h_ => omega
    cbv; rw [hl25] at hl27; injection h with h; subst h; subst hS; show St.le _ _; refine St.le_trans (le_foldP 1216 1 1088 rfl rfl rfl (by decide) (by subst hLEN; exact app_lt hl27) (by decide) rfl (fun _ _ => rC _ _)) ?_; refine St.le_trans (le_foldP 1216 2 1090 rfl rfl rfl (by decide) (by subst hLEN; exact app_lt hl27) (by decide) rfl (fun _ _ => rC _ _)) ?_
    refine St.le_trans (le_foldP 1216 3 1092 rfl rfl rfl (by decide) (by subst hLEN; exact app_lt hl27) (by decide) rfl (fun _ _ => rC _ _)) ?_
    exact lsp rfl zl ⟨rfl, rfl, ⟨fun hw => hw, fun c hc => (by cases hc), .inr (fun i _ j _ z hz => (noref (rC _ _) hz).elim), rfl, rfl, (by subst hGD hLEN hA; exact patch_app hl27 (Nat.le_refl _) (by intro j hj; match j, hj with | 0, _ => rfl | 1, _ => rfl | 2, _ => rfl | 3, _ => rfl | (j_ + 4), h_ => omega))⟩, tv⟩ rfl
   cbv; exact dm
  exact dx
 intro w31 h s q12; replace h := oz (oz h); cbv; refine ⟨_, q12, ?_⟩; cbv; injection h with h; subst h; refine ⟨(sp 23 [(2, .c (.ptr 128 0))] [(128, .var [.os 64000 0 (LEN w31)]), (64000, .arr .rw [] (LEN w31) 4 (row GD (oC LEN GD) w31))]), ?_, ?_⟩
 ·refine St.le_trans (le_ren 1216 64000 (by decide) rfl) ?_; exact zb
 ·exact ⟨lR _, ⟨oS, tv⟩, rfl⟩
set_option maxHeartbeats 4000000
/-- impl.IsValidEdit -/
def Fq113 (a0 : TE) : Option (Bool) :=
 ((
 (Fq1 a0.fc 0 8).bind fun y8 =>
 br (!(y8))
 (some true)
 ((Fq1 a0.fx 0 24).bind fun y10 =>
 some (!(y10)))
 ) : Option (Bool)).bind fun y1 =>
 letO y1 fun w7 =>
 br w7
 (some false)
 (br (std.eq a0.fk_ 1)
 (((
 br (std.band (std.eq a0.fk_ a0.fk_) (std.band (std.eq a0.fc a0.fc) (std.band (std.eq a0.fx a0.fx) (std.band (std.seq (ByteArray.mk #[]) a0.fN) (std.band (std.band (std.eq a0.fs_.fy a0.fs_.fy) (std.band (std.band (std.eq a0.fs_.fb.fX0 a0.fs_.fb.fX0) (std.band (std.eq a0.fs_.fb.fY0 a0.fs_.fb.fY0) (std.band (std.eq a0.fs_.fb.fX1 a0.fs_.fb.fX1) (std.band (std.eq a0.fs_.fb.fY1 a0.fs_.fb.fY1) (true))))) (true))) (std.band (std.band (std.eq 0 a0.fl_.fy) (std.band (std.band (std.eq 0 a0.fl_.fa.fX) (std.band (std.eq 0 a0.fl_.fa.fY) (true))) (std.band (std.seq (ByteArray.mk #[]) a0.fl_.fN) (true)))) (std.band (std.band (std.eq 0 a0.fi_.fc) (std.band (std.band (std.eq 0 a0.fi_.fp.fo) (std.band (std.eq 0 a0.fi_.fp.fX) (std.band (std.eq 0 a0.fi_.fp.fY) (true)))) (std.band (std.eq 0 a0.fi_.fK) (std.band (std.eq 0 a0.fi_.fR) (std.band (std.eq 0 a0.fi_.fu) (std.band (std.eq 0 a0.fi_.fv) (true))))))) (true))))))))
 ((Fq69 a0.fs_).bind fun y20 =>
 some y20)
 (some false)
 ) : Option (Bool)).bind fun y13 =>
 letO y13 fun w19 =>
 some w19)
 (br (std.eq a0.fk_ 3)
 (((
 br (std.band (std.eq a0.fk_ a0.fk_) (std.band (std.eq a0.fc a0.fc) (std.band (std.eq a0.fx a0.fx) (std.band (std.seq (ByteArray.mk #[]) a0.fN) (std.band (std.band (std.eq 0 a0.fs_.fy) (std.band (std.band (std.eq 0 a0.fs_.fb.fX0) (std.band (std.eq 0 a0.fs_.fb.fY0) (std.band (std.eq 0 a0.fs_.fb.fX1) (std.band (std.eq 0 a0.fs_.fb.fY1) (true))))) (true))) (std.band (std.band (std.eq a0.fl_.fy a0.fl_.fy) (std.band (std.band (std.eq a0.fl_.fa.fX a0.fl_.fa.fX) (std.band (std.eq a0.fl_.fa.fY a0.fl_.fa.fY) (true))) (std.band (std.seq a0.fl_.fN a0.fl_.fN) (true)))) (std.band (std.band (std.eq 0 a0.fi_.fc) (std.band (std.band (std.eq 0 a0.fi_.fp.fo) (std.band (std.eq 0 a0.fi_.fp.fX) (std.band (std.eq 0 a0.fi_.fp.fY) (true)))) (std.band (std.eq 0 a0.fi_.fK) (std.band (std.eq 0 a0.fi_.fR) (std.band (std.eq 0 a0.fi_.fu) (std.band (std.eq 0 a0.fi_.fv) (true))))))) (true))))))))
 ((Fq67 a0.fl_).bind fun y30 =>
 some y30)
 (some false)
 ) : Option (Bool)).bind fun y23 =>
 letO y23 fun w29 =>
 some w29)
 (br (std.eq a0.fk_ 5)
 (((
 br (std.band (std.eq a0.fk_ a0.fk_) (std.band (std.eq a0.fc a0.fc) (std.band (std.eq a0.fx a0.fx) (std.band (std.seq (ByteArray.mk #[]) a0.fN) (std.band (std.band (std.eq 0 a0.fs_.fy) (std.band (std.band (std.eq 0 a0.fs_.fb.fX0) (std.band (std.eq 0 a0.fs_.fb.fY0) (std.band (std.eq 0 a0.fs_.fb.fX1) (std.band (std.eq 0 a0.fs_.fb.fY1) (true))))) (true))) (std.band (std.band (std.eq 0 a0.fl_.fy) (std.band (std.band (std.eq 0 a0.fl_.fa.fX) (std.band (std.eq 0 a0.fl_.fa.fY) (true))) (std.band (std.seq (ByteArray.mk #[]) a0.fl_.fN) (true)))) (std.band (std.band (std.eq a0.fi_.fc a0.fi_.fc) (std.band (std.band (std.eq a0.fi_.fp.fo a0.fi_.fp.fo) (std.band (std.eq a0.fi_.fp.fX a0.fi_.fp.fX) (std.band (std.eq a0.fi_.fp.fY a0.fi_.fp.fY) (true)))) (std.band (std.eq a0.fi_.fK a0.fi_.fK) (std.band (std.eq a0.fi_.fR a0.fi_.fR) (std.band (std.eq a0.fi_.fu a0.fi_.fu) (std.band (std.eq a0.fi_.fv a0.fi_.fv) (true))))))) (true))))))))
 ((Fq68 a0.fi_ 8).bind fun y40 =>
 some y40)
 (some false)
 ) : Option (Bool)).bind fun y33 =>
 letO y33 fun w39 =>
 some w39)
 (((
 br (std.eq a0.fk_ 2)
 (some true)
 (((
 br (std.eq a0.fk_ 4)
 (some true)
 (some (std.eq a0.fk_ 6))
 ) : Option (Bool)).bind fun y50 =>
 letO y50 fun w56 =>
 some w56)
 ) : Option (Bool)).bind fun y43 =>
 letO y43 fun w49 =>
 ((
 br w49
 ((some (std.band (std.eq a0.fk_ a0.fk_) (std.band (std.eq a0.fc a0.fc) (std.band (std.eq a0.fx a0.fx) (std.band (std.seq (ByteArray.mk #[]) a0.fN) (std.band (std.band (std.eq 0 a0.fs_.fy) (std.band (std.band (std.eq 0 a0.fs_.fb.fX0) (std.band (std.eq 0 a0.fs_.fb.fY0) (std.band (std.eq 0 a0.fs_.fb.fX1) (std.band (std.eq 0 a0.fs_.fb.fY1) (true))))) (true))) (std.band (std.band (std.eq 0 a0.fl_.fy) (std.band (std.band (std.eq 0 a0.fl_.fa.fX) (std.band (std.eq 0 a0.fl_.fa.fY) (true))) (std.band (std.seq (ByteArray.mk #[]) a0.fl_.fN) (true)))) (std.band (std.band (std.eq 0 a0.fi_.fc) (std.band (std.band (std.eq 0 a0.fi_.fp.fo) (std.band (std.eq 0 a0.fi_.fp.fX) (std.band (std.eq 0 a0.fi_.fp.fY) (true)))) (std.band (std.eq 0 a0.fi_.fK) (std.band (std.eq 0 a0.fi_.fR) (std.band (std.eq 0 a0.fi_.fu) (std.band (std.eq 0 a0.fi_.fv) (true))))))) (true))))))))).bind fun r65 => some (.inl r65))
 (((
 br (std.eq a0.fk_ 7)
 (some true)
 (some (std.eq a0.fk_ 8))
 ) : Option (Bool)).bind fun y68 =>
 letO y68 fun w74 =>
 ((
 br w74
 (((
 br (std.band (std.eq a0.fk_ a0.fk_) (std.band (std.eq a0.fc a0.fc) (std.band (std.eq 0 a0.fx) (std.band (std.seq a0.fN a0.fN) (std.band (std.band (std.eq 0 a0.fs_.fy) (std.band (std.band (std.eq 0 a0.fs_.fb.fX0) (std.band (std.eq 0 a0.fs_.fb.fY0) (std.band (std.eq 0 a0.fs_.fb.fX1) (std.band (std.eq 0 a0.fs_.fb.fY1) (true))))) (true))) (std.band (std.band (std.eq 0 a0.fl_.fy) (std.band (std.band (std.eq 0 a0.fl_.fa.fX) (std.band (std.eq 0 a0.fl_.fa.fY) (true))) (std.band (std.seq (ByteArray.mk #[]) a0.fl_.fN) (true)))) (std.band (std.band (std.eq 0 a0.fi_.fc) (std.band (std.band (std.eq 0 a0.fi_.fp.fo) (std.band (std.eq 0 a0.fi_.fp.fX) (std.band (std.eq 0 a0.fi_.fp.fY) (true)))) (std.band (std.eq 0 a0.fi_.fK) (std.band (std.eq 0 a0.fi_.fR) (std.band (std.eq 0 a0.fi_.fu) (std.band (std.eq 0 a0.fi_.fv) (true))))))) (true))))))))
 ((Fq24 a0.fN).bind fun y89 =>
 some y89)
 (some false)
 ) : Option (Bool)).bind fun y82 =>
 letO y82 fun w88 =>
 ((some w88).bind fun r92 => some (.inl r92)).bind fun r95 => some (.inl r95))
 (br (std.eq a0.fk_ 9)
 (((some (std.band (std.eq a0.fk_ a0.fk_) (std.band (std.eq a0.fc a0.fc) (std.band (std.eq 0 a0.fx) (std.band (std.seq (ByteArray.mk #[]) a0.fN) (std.band (std.band (std.eq 0 a0.fs_.fy) (std.band (std.band (std.eq 0 a0.fs_.fb.fX0) (std.band (std.eq 0 a0.fs_.fb.fY0) (std.band (std.eq 0 a0.fs_.fb.fX1) (std.band (std.eq 0 a0.fs_.fb.fY1) (true))))) (true))) (std.band (std.band (std.eq 0 a0.fl_.fy) (std.band (std.band (std.eq 0 a0.fl_.fa.fX) (std.band (std.eq 0 a0.fl_.fa.fY) (true))) (std.band (std.seq (ByteArray.mk #[]) a0.fl_.fN) (true)))) (std.band (std.band (std.eq 0 a0.fi_.fc) (std.band (std.band (std.eq 0 a0.fi_.fp.fo) (std.band (std.eq 0 a0.fi_.fp.fX) (std.band (std.eq 0 a0.fi_.fp.fY) (true)))) (std.band (std.eq 0 a0.fi_.fK) (std.band (std.eq 0 a0.fi_.fR) (std.band (std.eq 0 a0.fi_.fu) (std.band (std.eq 0 a0.fi_.fv) (true))))))) (true))))))))).bind fun r98 => some (.inl r98)).bind fun r101 => some (.inl r101))
 (some (.inr ())))
 ) : Option (_ ⊕ Unit)).bind fun z78 => (match z78 with
 | .inl r => some r
 | .inr y76 =>
 some (.inr ())))
 ) : Option (_ ⊕ Unit)).bind fun z61 => (match z61 with
 | .inl r => some r
 | .inr y59 =>
 some false)))))
theorem runq113 (a0 : TE) (r : Bool) (h : Fq113 a0 = some r) : Fun Tryz.prog 114 [.agg (cE a0)] [] (.c (.v (.bool r))) [] true := by
 refine Fun.of_wp (oneOf [1, 7, 10, 13, 22, 100069, 100079]) tok mixed Tryz.func114 (by kernel_rfl) rfl Tryz.ntmps114 rfl trivial (fun _ => ⟨trivial, tv⟩) ?_; unfold Fq113 at h; have hfq24 := @runq24; have hfq68 := @runq68; have hfq67 := @runq67; have hfq69 := @runq69
 have hfq1 := @runq1; generalize hLEN : @len = LEN, hGD : @gd = GD, hA : std = A, hP : Tryz.prog = P at *; cbv
 revert h; refine cu (fun y1 => (sp 98 [(1, .c (.ptr 64 0)), (13, .c (.v (.bool y1)))] [(64, .var (cE a0))])) ?_ fun w7 => rz fun h => ?_
 ·intro y1 S hS h; cbv; revert h; refine rb fun y8 hy9 h => ?_; refine rc [] [] (hfq1 _ _ _ _ hy9) zf ?_; cbv; revert h; refine fk ?_ ?_ <;> intro h <;> cbv
  ·exact dn
  revert h; refine rb fun y10 hy11 h => ?_; refine rc [] [] (hfq1 _ _ _ _ hy11) zf ?_; cbv; exact dn
 cbv; revert h; refine fk ?_ ?_ <;> intro h <;> cbv
 ·exact df
 revert h; refine fk ?_ ?_ <;> intro h <;> cbv
 ·revert h; refine cu (fun y13 => (sp 98 [(2, .c (.v (.bool y13)))] [])) ?_ fun w19 => rz fun h => ?_
  ·intro y13 S hS h; cbv; revert h; refine fk ?_ ?_ <;> intro h <;> cbv
   ·revert h; refine rb fun y20 hy21 h => ?_; refine rc [] [] (hfq69 _ _ hy21) zf ?_; cbv; exact dn
   exact dn
  cbv; exact df
 revert h; refine fk ?_ ?_ <;> intro h <;> cbv
 ·revert h; refine cu (fun y23 => (sp 98 [(2, .c (.v (.bool y23)))] [])) ?_ fun w29 => rz fun h => ?_
  ·intro y23 S hS h; cbv; revert h; refine fk ?_ ?_ <;> intro h <;> cbv
   ·revert h; refine rb fun y30 hy31 h => ?_; refine rc [] [] (hfq67 _ _ hy31) zf ?_; cbv; exact dn
   exact dn
  cbv; exact df
 revert h; refine fk ?_ ?_ <;> intro h <;> cbv
 ·revert h; refine cu (fun y33 => (sp 98 [(2, .c (.v (.bool y33)))] [])) ?_ fun w39 => rz fun h => ?_
  ·intro y33 S hS h; cbv; revert h; refine fk ?_ ?_ <;> intro h <;> cbv
   ·revert h; refine rb fun y40 hy41 h => ?_; refine rc [] [] (hfq68 _ _ _ hy41) zf ?_; cbv; exact dn
   exact dn
  cbv; exact df
 revert h; refine cu (fun y43 => some (sp 98 [(1, .c (.ptr 64 0)), (3, .c (.ptr 192 0)), (20, .c (wi a0.fk_)), (69, .c (.v (.bool y43)))] [(64, .var (cE a0)), (192, .var [wi a0.fk_, wi a0.fc, wi 0, ws (ByteArray.mk #[]), wi 0, wi 0, wi 0, wi 0, wi 0, wi 0, wi 0, wi 0, ws (ByteArray.mk #[]), wi 0, wi 0, wi 0, wi 0, wi 0, wi 0, wi 0, wi 0])])) ?_ fun w49 => rz fun h => ?_
 ·intro y43 S hS h; cbv; revert h; refine fk ?_ ?_ <;> intro h <;> cbv
  ·exact dn
  revert h; refine cu (fun y50 => some (sp 98 [(1, .c (.ptr 64 0)), (3, .c (.ptr 192 0)), (20, .c (wi a0.fk_)), (69, .c (.v (.bool y50)))] [(64, .var (cE a0)), (192, .var [wi a0.fk_, wi a0.fc, wi 0, ws (ByteArray.mk #[]), wi 0, wi 0, wi 0, wi 0, wi 0, wi 0, wi 0, wi 0, ws (ByteArray.mk #[]), wi 0, wi 0, wi 0, wi 0, wi 0, wi 0, wi 0, wi 0])])) (fun y50 S hS h => rg) fun w56 => rz fun h => ?_
  cbv; exact dn
 cbv; obtain ⟨z61, hy60, hz62⟩ := ob_ h; obtain ⟨S, hS⟩ : ∃ S, S = (match z61 with | .inl _ => none | .inr y59 => some (sp 98 [] [])) := ⟨_, rfl⟩; refine ⟨S, ?_, ?_⟩
 ·have h := hy60; clear hy60; cbv; revert h; refine fk ?_ ?_ <;> intro h <;> cbv
  ·obtain ⟨r65, h66, he67⟩ := ob_ h; injection he67 with he67; subst he67; injection hz62 with hz62; subst hz62; have h := h66; exact df
  revert h; refine cu (fun y68 => some (sp 98 [(1, .c (.ptr 64 0)), (3, .c (.ptr 192 0)), (20, .c (wi a0.fk_)), (79, .c (.v (.bool y68)))] [(64, .var (cE a0)), (192, .var [wi a0.fk_, wi a0.fc, wi 0, ws (ByteArray.mk #[]), wi 0, wi 0, wi 0, wi 0, wi 0, wi 0, wi 0, wi 0, ws (ByteArray.mk #[]), wi 0, wi 0, wi 0, wi 0, wi 0, wi 0, wi 0, wi 0])])) (fun y68 S hS h => rg) fun w74 => rz fun h => ?_
  cbv; obtain ⟨z78, hy77, hz79⟩ := ob_ h; obtain ⟨S, hS⟩ : ∃ S, S = (match z78 with | .inl _ => none | .inr y76 => some (sp 98 [] [])) := ⟨_, rfl⟩; refine ⟨S, ?_, ?_⟩
  ·have h := hy77; clear hy77; cbv; revert h; refine fk ?_ ?_ <;> intro h <;> cbv
   ·revert h; refine cu (fun y82 => (sp 98 [(2, .c (.v (.bool y82)))] [])) ?_ fun w88 => rz fun h => ?_
    ·intro y82 S hS h; cbv; revert h; refine fk ?_ ?_ <;> intro h <;> cbv
     ·revert h; refine rb fun y89 hy90 h => ?_; refine rc [] [] (hfq24 _ _ hy90) zf ?_; cbv; exact dn
     exact dn
    cbv; obtain ⟨r95, h96, he97⟩ := ob_ h; injection he97 with he97; subst he97; injection hz79 with hz79; subst hz79; have h := h96; obtain ⟨r92, h93, he94⟩ := ob_ h; injection he94 with he94; subst he94; injection hz62 with hz62; subst hz62; have h := h93; exact df
   revert h; refine fk ?_ ?_ <;> intro h <;> cbv
   ·obtain ⟨r101, h102, he103⟩ := ob_ h; injection he103 with he103; subst he103; injection hz79 with hz79; subst hz79; have h := h102; obtain ⟨r98, h99, he100⟩ := ob_ h; injection he100 with he100; subst he100; injection hz62 with hz62; subst hz62; have h := h99; exact df
   exact dn
  ·clear hy77; subst hS; rcases z78 with _ | y76
   ·trivial
   ·have h := hz79; clear hz79; cbv; exact dn
 ·clear hy60; subst hS; rcases z61 with _ | y59
  ·trivial
  ·have h := hz62; clear hz62; cbv; exact df

/-- impl.insertCode -/
def Fq76 (a0 : Int) (a1 : Int) (a2 : Int) : Option (Int) :=
 br (std.lt a1 a0)
 (some 2)
 (br (std.eq a1 a2)
 (some 3)
 (some 0))
theorem runq76 (a0 : Int) (a1 : Int) (a2 : Int) (r : Int) (h : Fq76 a0 a1 a2 = some r) : Fun Tryz.prog 115 [.c (wi a0), .c (wi a1), .c (wi a2)] [] (.c (wi r)) [] true := by
 refine Fun.of_wp (oneOf []) tok mixed Tryz.func115 (by kernel_rfl) rfl Tryz.ntmps115 rfl trivial (fun _ => ⟨trivial, tv⟩) ?_; unfold Fq76 at h; generalize hLEN : @len = LEN, hGD : @gd = GD, hA : std = A, hP : Tryz.prog = P at *; cbv; revert h; refine fk ?_ ?_ <;> intro h <;> cbv
 ·exact df
 revert h; refine fk ?_ ?_ <;> intro h <;> cbv
 ·exact df
 exact df

/-- impl.deleteCode -/
def Fq77 (a0 : Int) (a1 : Int) : Option (Int) :=
 br (std.le a1 a0)
 (some 5)
 (some 0)
theorem runq77 (a0 : Int) (a1 : Int) (r : Int) (h : Fq77 a0 a1 = some r) : Fun Tryz.prog 116 [.c (wi a0), .c (wi a1)] [] (.c (wi r)) [] true := by
 refine Fun.of_wp (oneOf []) tok mixed Tryz.func116 (by kernel_rfl) rfl Tryz.ntmps116 rfl trivial (fun _ => ⟨trivial, tv⟩) ?_; unfold Fq77 at h; generalize hLEN : @len = LEN, hGD : @gd = GD, hA : std = A, hP : Tryz.prog = P at *; cbv; revert h; refine fk ?_ ?_ <;> intro h <;> cbv
 ·exact df
 exact df

/-- impl.hasCell -/
def Fq97 (a0 : TL) (a1 : Int) : Option (Bool) :=
 ((
 (Fq26 a0).bind fun y8 =>
 br y8
 ((Fq1 a1 0 (std.sub .i64 (std.ofN (len a0.fC)) 1)).bind fun y10 =>
 some y10)
 (some false)
 ) : Option (Bool)).bind fun y1 =>
 letO y1 fun w7 =>
 some w7
theorem runq97 (a0 : TL) (a1 : Int) (r : Bool) (h : Fq97 a0 a1 = some r) : Fun Tryz.prog 194 [.agg [.bs (len a0.fC) 4 (row gd (eC len gd) a0.fC)], .c (wi a1)] [] (.c (.v (.bool r))) [] true := by
 refine Fun.of_wp (oneOf [1]) tok mixed Tryz.func194 (by kernel_rfl) rfl Tryz.ntmps194 rfl trivial (fun _ => ⟨trivial, tv⟩) ?_; unfold Fq97 at h; have hfq26 := @runq26; have hfq1 := @runq1; generalize hLEN : @len = LEN, hGD : @gd = GD, hA : std = A, hP : Tryz.prog = P at *; cbv
 revert h; refine cu (fun y1 => (sp 15 [(4, .c (.v (.bool y1)))] [])) ?_ fun w7 => rz fun h => ?_
 ·intro y1 S hS h; cbv; revert h; refine rb fun y8 hy9 h => ?_; refine rc [] [] (hfq26 _ _ hy9) zf ?_; cbv; revert h; refine fk ?_ ?_ <;> intro h <;> cbv
  ·revert h; refine rb fun y10 hy11 h => ?_; refine rc [] [] (hfq1 _ _ _ _ hy11) zf ?_; cbv; exact dn
  exact dn
 cbv; exact df

/-- impl.UsersOf$1 -/
def Fq122 (a0 : TI) (a1 : Int) : Option (Bool) :=
 some (std.eq a0.fc a1)
theorem runq122 (a0 : TI) (a1 : Int) (r : Bool) (h : Fq122 a0 a1 = some r) : Fun Tryz.prog 195 [.agg [wi a0.fc, wi a0.fp.fo, wi a0.fp.fX, wi a0.fp.fY, wi a0.fK, wi a0.fR, wi a0.fu, wi a0.fv], .c (.bp 1 (encI .i64 a1))] [] (.c (.v (.bool r))) [] true := by
 refine Fun.of_wp (oneOf []) tok mixed Tryz.func195 (by kernel_rfl) rfl Tryz.ntmps195 rfl trivial (fun _ => ⟨trivial, tv⟩) ?_; unfold Fq122 at h; generalize hLEN : @len = LEN, hGD : @gd = GD, hA : std = A, hP : Tryz.prog = P at *; cbv; exact df

def Lq72_x2 (a0 : List TI) (a1_0 : Int) : (Int) -> Option ((Int) ⊕ ((Int) ⊕ (Unit))) := fun x2 =>
 letO x2 fun v1 =>
 br (std.lt v1 (std.ofN (len a0)))
 (req (std.inR v1 (len a0)) <|
 (Fq122 (gd a0 (std.toN v1)) a1_0).bind fun y15 =>
 br y15
 (some (.inr (.inl v1)))
 (some (.inl (std.add .i64 v1 1))))
 (some (.inr (.inr ())))
/-- impl.Instance] -/
def Fq72 (a0 : List TI) (a1_0 : Int) : Option (Int) :=
 (whileP (σ := Int) (ρ := (Int) ⊕ (Unit)) (Lq72_x2 a0 a1_0) 0).bind fun y3 =>
 (match y3 with
 | .inl y3k0 => (
 letO y3k0 fun w19 =>
 some w19)
 | .inr y3m0 =>
 some (-1))
theorem runq72 (a0 : List TI) (a1_0 : Int) (r : Int) (h : Fq72 a0 a1_0 = some r) : Fun Tryz.prog 238 [.c (.bs (len a0) 8 (row gd (eI) a0)), .c (.fn 195 1 fun j => ([.bp 1 (encI .i64 a1_0)] : List AC).getD j .junk)] [] (.c (wi r)) [] true := by
 refine Fun.of_wp (oneOf []) tok mixed Tryz.func238 (by kernel_rfl) rfl Tryz.ntmps238 rfl trivial (fun _ => ⟨trivial, tv⟩) ?_; unfold Fq72 at h; unfold Lq72_x2 at h; have hfq122 := @runq122
 generalize hLEN : @len = LEN, hGD : @gd = GD, hA : std = A, hP : Tryz.prog = P at *; cbv
 revert h; refine lc (fun x => (sp 19 [(0, .c (.bs (LEN a0) 8 (row GD (eI) a0))), (1, .c (.fn 195 1 fun j => ([.bp 1 (encI .i64 a1_0)] : List AC).getD j .junk)), (7, .c (wi (A.ofN (LEN a0)))), (8, .c (wi x))] [])) (fun y e s => (match y with | .inl w => e = .ret /\ s.le (sp 19 [(4, .c (wi w))] []) | .inr w0 => (fun (w : Unit) => e = .exit 0 /\ s.le (sp 19 [] [])) w0)) zb ?_ ?_
 ·intro v1 z h K hK hY; replace h := oz h; cbv; revert h; refine fk ?_ ?_ <;> intro h <;> cbv
  ·revert h; refine ra fun c14 h => ?_; revert h; refine rb fun y15 hy16 h => ?_; refine rc [] [] (hfq122 _ _ _ hy16) (zg (lc_ (lR _) (lc_ (le_bp (show 1 <= 1 from by decide) (by intro j hj; match j, hj with | 0, _ => exact rle_refl _ | (j_ + 1), h_ => omega)) (ln_)))) ?_; cbv; revert h; refine fk ?_ ?_ <;> intro h <;> cbv
   ·exact dy
   exact dm
  exact dy
 intro y3 h e12 s13 q11 hne; rcases y3 with y3k0 | y3m0
 ·replace h := h; obtain ⟨rfl, q11⟩ := q11; revert h; refine rz fun h => ?_; cbv; injection h with h; subst h; exact ⟨_, q11, lR _, zo, rfl⟩
 ·obtain ⟨rfl, q11⟩ := q11; cbv; refine ⟨_, q11, ?_⟩; cbv; exact df
set_option maxHeartbeats 4000000
/-- impl.Instance] -/
def Fq96 (a0 : List TI) (a1_0 : Int) : Option (Bool) :=
 (Fq72 a0 a1_0).bind fun y1 =>
 some (std.le 0 y1)
theorem runq96 (a0 : List TI) (a1_0 : Int) (r : Bool) (h : Fq96 a0 a1_0 = some r) : Fun Tryz.prog 168 [.c (.bs (len a0) 8 (row gd (eI) a0)), .c (.fn 195 1 fun j => ([.bp 1 (encI .i64 a1_0)] : List AC).getD j .junk)] [] (.c (.v (.bool r))) [] true := by
 refine Fun.of_wp (oneOf []) tok mixed Tryz.func168 (by kernel_rfl) rfl Tryz.ntmps168 rfl trivial (fun _ => ⟨trivial, tv⟩) ?_; unfold Fq96 at h; have hfq72 := @runq72
 generalize hLEN : @len = LEN, hGD : @gd = GD, hA : std = A, hP : Tryz.prog = P at *; cbv; revert h; refine rb fun y1 hy2 h => ?_
 refine rc [] [] (hfq72 _ _ _ hy2) (zg (lc_ (lR _) (lc_ (le_fn (by intro j hj; match j, hj with | 0, _ => exact le_bp (show 1 <= 1 from by decide) (by intro j hj; match j, hj with | 0, _ => exact rle_refl _ | (j_ + 1), h_ => omega) | (j_ + 1), h_ => omega)) (ln_)))) ?_; cbv
 exact df

def Lq20_x7 (a0 : TL) (a1 : Int) : (Int × (List Int)) -> Option ((Int × (List Int)) ⊕ (((List Int)))) := fun x7 =>
 letO x7.1 fun v5 =>
 letO x7.2 fun v6 =>
 br (std.lt v5 (std.ofN (len a0.fC)))
 (req (std.inR v5 (len a0.fC)) <|
 (Fq96 (gd a0.fC (std.toN v5)).fI a1).bind fun y20 =>
 ((
 br y20
 (letO ([v5] : List Int) fun l29 =>
 req (std.room (std.nadd (len v6) (len l29)) 8) <|
 letO (v6 ++ l29) fun l31 =>
 some l31)
 (some v6)
 ) : Option ((List Int))).bind fun y22 =>
 letO y22 fun w28 =>
 some (.inl (std.add .i64 v5 1, w28)))
 (some (.inr v6))
/-- impl.UsersOf -/
def Fq20 (a0 : TL) (a1 : Int) : Option (List Int) :=
 (Fq97 (TL.mk a0.fC) a1).bind fun y1 =>
 br (!(y1))
 (some ([] : List Int))
 (letO ([] : List Int) fun l3 =>
 (whileP (σ := Int × (List Int)) (ρ := ((List Int))) (Lq20_x7 a0 a1) (0, l3)).bind fun y8 =>
 letO y8 fun y8k0 =>
 letO y8k0 fun w36 =>
 some w36)
theorem runq20 (a0 : TL) (a1 : Int) (r : List Int) (h : Fq20 a0 a1 = some r) : Fun Tryz.prog 117 [.agg [.bs (len a0.fC) 4 (row gd (eC len gd) a0.fC)], .c (wi a1)] [] (.c (.os 64000 0 (len r))) [(64000, .arr .rw [] (len r) 1 (row gd (encI .i64) r))] true := by
 refine Fun.of_wp (oneOf [100024]) tok mixed Tryz.func117 (by kernel_rfl) rfl Tryz.ntmps117 rfl trivial (fun _ => ⟨trivial, ⟨fun i _ j _ => val_flat (rfl), tv⟩⟩) ?_; unfold Fq20 at h; unfold Lq20_x7 at h; have hfq97 := @runq97
 have hfq96 := @runq96; generalize hLEN : @len = LEN, hGD : @gd = GD, hA : std = A, hP : Tryz.prog = P at *; cbv; revert h; refine rb fun y1 hy2 h => ?_; refine rc [] [] (hfq97 _ _ _ hy2) zf ?_; cbv; revert h; refine fk ?_ ?_ <;> intro h <;> cbv
 ·injection h with h; subst h; refine ⟨(sp 31 [(4, .c (.os 64000 0 (LEN ([] : List Int))))] [(64000, .arr .rw [] (LEN ([] : List Int)) 1 (row GD (encI .i64) ([] : List Int)))]), ?_, ?_⟩
  ·refine St.le_trans (le_nilT 4 64000 1 (row GD (encI .i64) ([] : List Int)) (by decide) rfl) ?_; subst hLEN; exact zb
  ·subst hLEN; exact ⟨lR _, ⟨oS, tv⟩, rfl⟩
 revert h; refine rl fun l3 hl3 h => ?_; have e4 : 0 = LEN l3 := by subst hl3 hLEN; rfl
 refine ⟨_, (co e4), _, row GD (encI .i64) l3, e4, wkOf ?_, ?_⟩
 ·intro i hi j hj; rw [<- e4] at hi; subst hl3; subst hGD; omega
 cbv
 revert h; refine ln (.exit 0) (fun x => (sp 31 [(3, .c (.ptr 192 0)), (5, .c (.os 768 0 (LEN x.2))), (14, .c (.bs (LEN a0.fC) 4 (row GD (eC LEN GD) a0.fC))), (15, .c (wi (A.ofN (LEN a0.fC)))), (16, .c (wi x.1))] [(192, .var [wi a1]), (768, .arr .rw [] (LEN x.2) 1 (row GD (encI .i64) x.2))])) (fun w => (sp 31 [(5, .c (.os 768 0 (LEN w)))] [(768, .arr .rw [] (LEN w) 1 (row GD (encI .i64) w))])) zb ?_ ?_
 ·rintro ⟨v5, v6⟩ z h K hK hY; replace h := oz (oz h); dsimp only at h; cbv; revert h; refine fk ?_ ?_ <;> intro h <;> cbv
  ·revert h; refine ra fun c19 h => ?_; revert h; refine rb fun y20 hy21 h => ?_
   refine rc [] [] (hfq96 _ _ _ hy21) (zg (lc_ (lR _) (lc_ (le_fn (by intro j hj; match j, hj with | 0, _ => exact le_bp (show 1 <= 1 from by decide) (by intro j hj; match j, hj with | 0, _ => exact rle_refl _ | (j_ + 1), h_ => omega) | (j_ + 1), h_ => omega)) (ln_)))) ?_
   cbv; revert h; refine cu (fun y22 => some (sp 31 [(3, .c (.ptr 192 0)), (5, .c (.os 768 0 (LEN y22))), (14, .c (.bs (LEN a0.fC) 4 (row GD (eC LEN GD) a0.fC))), (15, .c (wi (A.ofN (LEN a0.fC)))), (16, .c (wi v5))] [(192, .var [wi a1]), (768, .arr .rw [] (LEN y22) 1 (row GD (encI .i64) y22))])) ?_ fun w28 => rz fun h => ?_
   ·intro y22 S hS h; cbv; revert h; refine fk ?_ ?_ <;> intro h <;> cbv
    ·revert h; refine rl fun l29 hl29 h => ?_; have e30 : 1 = LEN l29 := by subst hl29 hLEN; rfl
     refine ⟨_, (co e30), _, row GD (encI .i64) l29, e30, wkOf ?_, ?_⟩
     ·intro i hi j hj; rw [<- e30] at hi; subst hl29; subst hGD; obtain rfl : i = 0 := (by omega); all_goals obtain rfl : j = 0 := by omega
      all_goals rfl
     cbv; revert h; refine rq fun c33 => rl fun l31 hl31 h => ?_; have e32 := nl hA hLEN hl31; refine ⟨c33, _, (co e32), _, row GD (encI .i64) l31, e32, wkOf ?_, ?_⟩
     ·subst hGD hLEN hA; exact app_os (off := 0) (fun _ _ => rfl) hl31 (Nat.le_refl _)
     cbv; exact dn
    exact dn
   cbv; exact dm
  exact dx
 intro w36 h s q16; replace h := oz (oz h); cbv; refine ⟨_, q16, ?_⟩; cbv; injection h with h; subst h; refine ⟨(sp 31 [(4, .c (.os 64000 0 (LEN w36)))] [(64000, .arr .rw [] (LEN w36) 1 (row GD (encI .i64) w36))]), ?_, ?_⟩
 ·refine St.le_trans (le_ren 768 64000 (by decide) rfl) ?_; exact zb
 ·exact ⟨lR _, ⟨oS, tv⟩, rfl⟩

/-- impl.editCode -/
def Fq91 (a0 : TL) (a1 : TE) : Option (Int) :=
 ((
 (Fq26 (TL.mk a0.fC)).bind fun y8 =>
 br (!(y8))
 (some true)
 ((Fq113 a1).bind fun y10 =>
 some (!(y10)))
 ) : Option (Bool)).bind fun y1 =>
 letO y1 fun w7 =>
 br w7
 (some 1)
 (br (std.eq a1.fk_ 8)
 (br (std.lt (std.ofN (len a0.fC)) a1.fc)
 (some 5)
 (br (std.eq (std.ofN (len a0.fC)) 8)
 (some 3)
 ((Fq18 (TL.mk a0.fC) a1.fN).bind fun y13 =>
 br (std.le 0 y13)
 (some 6)
 (some 0))))
 (br (std.le (std.ofN (len a0.fC)) a1.fc)
 (some 5)
 (req (std.inR a1.fc (len a0.fC)) <|
 br (std.eq a1.fk_ 1)
 ((Fq76 a1.fx (std.ofN (len (gd a0.fC (std.toN a1.fc)).fS)) 24).bind fun y19 =>
 some y19)
 (br (std.eq a1.fk_ 2)
 ((Fq77 a1.fx (std.ofN (len (gd a0.fC (std.toN a1.fc)).fS))).bind fun y21 =>
 some y21)
 (br (std.eq a1.fk_ 3)
 ((Fq76 a1.fx (std.ofN (len (gd a0.fC (std.toN a1.fc)).fL)) 8).bind fun y23 =>
 some y23)
 (br (std.eq a1.fk_ 4)
 ((Fq77 a1.fx (std.ofN (len (gd a0.fC (std.toN a1.fc)).fL))).bind fun y25 =>
 some y25)
 (br (std.eq a1.fk_ 5)
 ((Fq76 a1.fx (std.ofN (len (gd a0.fC (std.toN a1.fc)).fI)) 8).bind fun y27 =>
 ((
 br (std.eq y27 0)
 (some (std.le a1.fc a1.fi_.fc))
 (some false)
 ) : Option (Bool)).bind fun y29 =>
 letO y29 fun w35 =>
 ((
 br w35
 (some 6)
 (some y27)
 ) : Option (Int)).bind fun y37 =>
 letO y37 fun w43 =>
 some w43)
 (br (std.eq a1.fk_ 6)
 ((Fq77 a1.fx (std.ofN (len (gd a0.fC (std.toN a1.fc)).fI))).bind fun y45 =>
 some y45)
 (((
 br (std.eq a1.fk_ 7)
 ((Fq18 (TL.mk a0.fC) a1.fN).bind fun y53 =>
 ((
 br (std.le 0 y53)
 (some (std.not (std.eq y53 a1.fc)))
 (some false)
 ) : Option (Bool)).bind fun y55 =>
 letO y55 fun w61 =>
 br w61
 ((some 6).bind fun r63 => some (.inl r63))
 (some (.inr ())))
 (((
 br (std.eq a1.fk_ 9)
 (((
 br (std.eq (std.ofN (len a0.fC)) 1)
 (some true)
 (br (std.lt 0 (std.add .i64 (std.add .i64 (std.ofN (len (gd a0.fC (std.toN a1.fc)).fS)) (std.ofN (len (gd a0.fC (std.toN a1.fc)).fL))) (std.ofN (len (gd a0.fC (std.toN a1.fc)).fI))))
 (some true)
 ((Fq20 (TL.mk a0.fC) a1.fc).bind fun y80 =>
 some (std.lt 0 (std.ofN (len y80)))))
 ) : Option (Bool)).bind fun y73 =>
 letO y73 fun w79 =>
 br w79
 (((some 6).bind fun r84 => some (.inl r84)).bind fun r87 => some (.inl r87))
 (some (.inr ())))
 (some (.inr ()))
 ) : Option (_ ⊕ Unit)).bind fun z69 => (match z69 with
 | .inl r => some r
 | .inr y67 =>
 some (.inr ())))
 ) : Option (_ ⊕ Unit)).bind fun z49 => (match z49 with
 | .inl r => some r
 | .inr y47 =>
 some 0))))))))))
theorem runq91 (a0 : TL) (a1 : TE) (r : Int) (h : Fq91 a0 a1 = some r) : Fun Tryz.prog 64 [.agg [.bs (len a0.fC) 4 (row gd (eC len gd) a0.fC)], .agg (cE a1)] [] (.c (wi r)) [] true := by
 refine Fun.of_wp (oneOf [1, 27, 34, 37, 100100, 100108, 100122]) tok mixed Tryz.func64 (by kernel_rfl) rfl Tryz.ntmps64 rfl trivial (fun _ => ⟨trivial, tv⟩) ?_; unfold Fq91 at h; have hfq113 := @runq113; have hfq26 := @runq26; have hfq20 := @runq20; have hfq77 := @runq77
 have hfq76 := @runq76; have hfq18 := @runq18; generalize hLEN : @len = LEN, hGD : @gd = GD, hA : std = A, hP : Tryz.prog = P at *; cbv
 revert h; refine cu (fun y1 => (sp 142 [(2, .c (.ptr 128 0)), (3, .c (.ptr 192 0)), (19, .c (.v (.bool y1)))] [(128, .var [.bs (LEN a0.fC) 4 (row GD (eC LEN GD) a0.fC)]), (192, .var (cE a1))])) ?_ fun w7 => rz fun h => ?_
 ·intro y1 S hS h; cbv; revert h; refine rb fun y8 hy9 h => ?_; refine rc [] [] (hfq26 _ _ hy9) zf ?_; cbv; revert h; refine fk ?_ ?_ <;> intro h <;> cbv
  ·exact dn
  revert h; refine rb fun y10 hy11 h => ?_; refine rc [] [] (hfq113 _ _ hy11) zf ?_; cbv; exact dn
 cbv; revert h; refine fk ?_ ?_ <;> intro h <;> cbv
 ·exact df
 revert h; refine fk ?_ ?_ <;> intro h <;> cbv
 ·revert h; refine fk ?_ ?_ <;> intro h <;> cbv
  ·exact df
  revert h; refine fk ?_ ?_ <;> intro h <;> cbv
  ·exact df
  revert h; refine rb fun y13 hy14 h => ?_; refine rc [] [] (hfq18 _ _ _ hy14) zf ?_; cbv; revert h; refine fk ?_ ?_ <;> intro h <;> cbv
  ·exact df
  exact df
 revert h; refine fk ?_ ?_ <;> intro h <;> cbv
 ·exact df
 revert h; refine ra fun c18 h => ?_; revert h; refine fk ?_ ?_ <;> intro h <;> cbv
 ·revert h; refine rb fun y19 hy20 h => ?_; refine rc [] [] (hfq76 _ _ _ _ hy20) zf ?_; cbv; exact df
 revert h; refine fk ?_ ?_ <;> intro h <;> cbv
 ·revert h; refine rb fun y21 hy22 h => ?_; refine rc [] [] (hfq77 _ _ _ hy22) zf ?_; cbv; exact df
 revert h; refine fk ?_ ?_ <;> intro h <;> cbv
 ·revert h; refine rb fun y23 hy24 h => ?_; refine rc [] [] (hfq76 _ _ _ _ hy24) zf ?_; cbv; exact df
 revert h; refine fk ?_ ?_ <;> intro h <;> cbv
 ·revert h; refine rb fun y25 hy26 h => ?_; refine rc [] [] (hfq77 _ _ _ hy26) zf ?_; cbv; exact df
 revert h; refine fk ?_ ?_ <;> intro h <;> cbv
 ·revert h; refine rb fun y27 hy28 h => ?_; refine rc [] [] (hfq76 _ _ _ _ hy28) zf ?_; cbv; revert h; refine cu (fun y29 => (sp 142 [(10, .c (wi y27)), (100, .c (.v (.bool y29)))] [])) (fun y29 S hS h => rg) fun w35 => rz fun h => ?_; cbv
  revert h; refine cu (fun y37 => some (sp 142 [(10, .c (wi y37))] [])) (fun y37 S hS h => rg) fun w43 => rz fun h => ?_; cbv; exact df
 revert h; refine fk ?_ ?_ <;> intro h <;> cbv
 ·revert h; refine rb fun y45 hy46 h => ?_; refine rc [] [] (hfq77 _ _ _ hy46) zf ?_; cbv; exact df
 obtain ⟨z49, hy48, hz50⟩ := ob_ h; obtain ⟨S, hS⟩ : ∃ S, S = (match z49 with | .inl _ => none | .inr y47 => some (sp 142 [] [])) := ⟨_, rfl⟩; refine ⟨S, ?_, ?_⟩
 ·have h := hy48; clear hy48; cbv; revert h; refine fk ?_ ?_ <;> intro h <;> cbv
  ·revert h; refine rb fun y53 hy54 h => ?_; refine rc [] [] (hfq18 _ _ _ hy54) zf ?_; cbv; revert h; refine cu (fun y55 => (sp 142 [(121, .c (.v (.bool y55)))] [])) (fun y55 S hS h => rg) fun w61 => rz fun h => ?_; cbv; revert h; refine fk ?_ ?_ <;> intro h <;> cbv
   ·obtain ⟨r63, h64, he65⟩ := ob_ h; injection he65 with he65; subst he65; injection hz50 with hz50; subst hz50; have h := h64; exact df
   exact dn
  obtain ⟨z69, hy68, hz70⟩ := ob_ h; obtain ⟨S, hS⟩ : ∃ S, S = (match z69 with | .inl _ => none | .inr y67 => some (sp 142 [] [])) := ⟨_, rfl⟩; refine ⟨S, ?_, ?_⟩
  ·have h := hy68; clear hy68; cbv; revert h; refine fk ?_ ?_ <;> intro h <;> cbv
   ·revert h; refine cu (fun y73 => (sp 142 [(141, .c (.v (.bool y73)))] [])) ?_ fun w79 => rz fun h => ?_
    ·intro y73 S hS h; cbv; revert h; refine fk ?_ ?_ <;> intro h <;> cbv
     ·exact dn
     revert h; refine fk ?_ ?_ <;> intro h <;> cbv
     ·exact dn
     revert h; refine rb fun y80 hy81 h => ?_; refine rc [] [(64000, 8832)] (hfq20 _ _ _ hy81) zf ⟨_, rfl, _, _, rfl, fun _ _ _ _ => .refl _, ?_⟩; cbv; exact dn
    cbv; revert h; refine fk ?_ ?_ <;> intro h <;> cbv
    ·obtain ⟨r87, h88, he89⟩ := ob_ h; injection he89 with he89; subst he89; injection hz70 with hz70; subst hz70; have h := h88; obtain ⟨r84, h85, he86⟩ := ob_ h; injection he86 with he86; subst he86; injection hz50 with hz50; subst hz50; have h := h85; exact df
    exact dn
   exact dn
  ·clear hy68; subst hS; rcases z69 with _ | y67
   ·trivial
   ·have h := hz70; clear hz70; cbv; exact dn
 ·clear hy48; subst hS; rcases z49 with _ | y47
  ·trivial
  ·have h := hz50; clear hz50; cbv; exact df

/-- impl.inverse -/
def Fq29 (a0 : TL) (a1 : TE) : Option (TE) :=
 ((
 br (std.eq a1.fk_ 1)
 (some (2, (ByteArray.mk #[]), 0, 0, 0, 0, 0, 0, 0, 0, (ByteArray.mk #[]), 0, 0, 0, 0, 0, 0, 0, 0))
 (((
 br (std.eq a1.fk_ 2)
 (req (std.inR a1.fc (len a0.fC)) <|
 req (std.inR a1.fx (len (gd a0.fC (std.toN a1.fc)).fS)) <|
 some (1, (gd (gd a0.fC (std.toN a1.fc)).fS (std.toN a1.fx)).fy, (gd (gd a0.fC (std.toN a1.fc)).fS (std.toN a1.fx)).fb.fX0, (gd (gd a0.fC (std.toN a1.fc)).fS (std.toN a1.fx)).fb.fY0, (gd (gd a0.fC (std.toN a1.fc)).fS (std.toN a1.fx)).fb.fX1, (gd (gd a0.fC (std.toN a1.fc)).fS (std.toN a1.fx)).fb.fY1, (ByteArray.mk #[]), 0, 0, 0, (ByteArray.mk #[]), 0, 0, 0, 0, 0, 0, 0, 0))
 (((
 br (std.eq a1.fk_ 3)
 (some (4, (ByteArray.mk #[]), 0, 0, 0, (ByteArray.mk #[]), 0, 0, 0, 0, 0, 0, 0, 0))
 (((
 br (std.eq a1.fk_ 4)
 (req (std.inR a1.fc (len a0.fC)) <|
 req (std.inR a1.fx (len (gd a0.fC (std.toN a1.fc)).fL)) <|
 some (3, (gd (gd a0.fC (std.toN a1.fc)).fL (std.toN a1.fx)).fy, (gd (gd a0.fC (std.toN a1.fc)).fL (std.toN a1.fx)).fa.fX, (gd (gd a0.fC (std.toN a1.fc)).fL (std.toN a1.fx)).fa.fY, (gd (gd a0.fC (std.toN a1.fc)).fL (std.toN a1.fx)).fN, (ByteArray.mk #[]), 0, 0, 0, 0, 0, 0, 0, 0))
 (((
 br (std.eq a1.fk_ 5)
 (some (6, (ByteArray.mk #[]), 0, 0, 0, 0, 0, 0, 0, 0))
 (((
 br (std.eq a1.fk_ 6)
 (req (std.inR a1.fc (len a0.fC)) <|
 req (std.inR a1.fx (len (gd a0.fC (std.toN a1.fc)).fI)) <|
 some (5, (gd (gd a0.fC (std.toN a1.fc)).fI (std.toN a1.fx)).fc, (gd (gd a0.fC (std.toN a1.fc)).fI (std.toN a1.fx)).fp.fo, (gd (gd a0.fC (std.toN a1.fc)).fI (std.toN a1.fx)).fp.fX, (gd (gd a0.fC (std.toN a1.fc)).fI (std.toN a1.fx)).fp.fY, (gd (gd a0.fC (std.toN a1.fc)).fI (std.toN a1.fx)).fK, (gd (gd a0.fC (std.toN a1.fc)).fI (std.toN a1.fx)).fR, (gd (gd a0.fC (std.toN a1.fc)).fI (std.toN a1.fx)).fu, (gd (gd a0.fC (std.toN a1.fc)).fI (std.toN a1.fx)).fv, (ByteArray.mk #[])))
 (((
 br (std.eq a1.fk_ 7)
 (req (std.inR a1.fc (len a0.fC)) <|
 some (7, (gd a0.fC (std.toN a1.fc)).fN))
 (((
 br (std.eq a1.fk_ 8)
 (some (9, (ByteArray.mk #[])))
 (((
 br (std.eq a1.fk_ 9)
 (req (std.inR a1.fc (len a0.fC)) <|
 some (8, (gd a0.fC (std.toN a1.fc)).fN))
 (some (0, (ByteArray.mk #[])))
 ) : Option (Int × ByteArray)).bind fun y146 =>
 letO y146.1 fun w152 =>
 letO y146.2 fun w153 =>
 some (w152, w153))
 ) : Option (Int × ByteArray)).bind fun y138 =>
 letO y138.1 fun w144 =>
 letO y138.2 fun w145 =>
 some (w144, w145))
 ) : Option (Int × ByteArray)).bind fun y129 =>
 letO y129.1 fun w135 =>
 letO y129.2 fun w136 =>
 some (w135, 0, 0, 0, 0, 0, 0, 0, 0, w136))
 ) : Option (Int × Int × Int × Int × Int × Int × Int × Int × Int × ByteArray)).bind fun y111 =>
 letO y111.1 fun w117 =>
 letO y111.2.1 fun w118 =>
 letO y111.2.2.1 fun w119 =>
 letO y111.2.2.2.1 fun w120 =>
 letO y111.2.2.2.2.1 fun w121 =>
 letO y111.2.2.2.2.2.1 fun w122 =>
 letO y111.2.2.2.2.2.2.1 fun w123 =>
 letO y111.2.2.2.2.2.2.2.1 fun w124 =>
 letO y111.2.2.2.2.2.2.2.2.1 fun w125 =>
 letO y111.2.2.2.2.2.2.2.2.2 fun w126 =>
 some (w117, w126, w118, w119, w120, w121, w122, w123, w124, w125))
 ) : Option (Int × ByteArray × Int × Int × Int × Int × Int × Int × Int × Int)).bind fun y95 =>
 letO y95.1 fun w101 =>
 letO y95.2.1 fun w102 =>
 letO y95.2.2.1 fun w103 =>
 letO y95.2.2.2.1 fun w104 =>
 letO y95.2.2.2.2.1 fun w105 =>
 letO y95.2.2.2.2.2.1 fun w106 =>
 letO y95.2.2.2.2.2.2.1 fun w107 =>
 letO y95.2.2.2.2.2.2.2.1 fun w108 =>
 letO y95.2.2.2.2.2.2.2.2.1 fun w109 =>
 letO y95.2.2.2.2.2.2.2.2.2 fun w110 =>
 some (w101, 0, 0, 0, (ByteArray.mk #[]), w102, w103, w104, w105, w106, w107, w108, w109, w110))
 ) : Option (Int × Int × Int × Int × ByteArray × ByteArray × Int × Int × Int × Int × Int × Int × Int × Int)).bind fun y73 =>
 letO y73.1 fun w79 =>
 letO y73.2.1 fun w80 =>
 letO y73.2.2.1 fun w81 =>
 letO y73.2.2.2.1 fun w82 =>
 letO y73.2.2.2.2.1 fun w83 =>
 letO y73.2.2.2.2.2.1 fun w84 =>
 letO y73.2.2.2.2.2.2.1 fun w85 =>
 letO y73.2.2.2.2.2.2.2.1 fun w86 =>
 letO y73.2.2.2.2.2.2.2.2.1 fun w87 =>
 letO y73.2.2.2.2.2.2.2.2.2.1 fun w88 =>
 letO y73.2.2.2.2.2.2.2.2.2.2.1 fun w89 =>
 letO y73.2.2.2.2.2.2.2.2.2.2.2.1 fun w90 =>
 letO y73.2.2.2.2.2.2.2.2.2.2.2.2.1 fun w91 =>
 letO y73.2.2.2.2.2.2.2.2.2.2.2.2.2 fun w92 =>
 some (w79, w84, w80, w81, w82, w83, w85, w86, w87, w88, w89, w90, w91, w92))
 ) : Option (Int × ByteArray × Int × Int × Int × ByteArray × Int × Int × Int × Int × Int × Int × Int × Int)).bind fun y53 =>
 letO y53.1 fun w59 =>
 letO y53.2.1 fun w60 =>
 letO y53.2.2.1 fun w61 =>
 letO y53.2.2.2.1 fun w62 =>
 letO y53.2.2.2.2.1 fun w63 =>
 letO y53.2.2.2.2.2.1 fun w64 =>
 letO y53.2.2.2.2.2.2.1 fun w65 =>
 letO y53.2.2.2.2.2.2.2.1 fun w66 =>
 letO y53.2.2.2.2.2.2.2.2.1 fun w67 =>
 letO y53.2.2.2.2.2.2.2.2.2.1 fun w68 =>
 letO y53.2.2.2.2.2.2.2.2.2.2.1 fun w69 =>
 letO y53.2.2.2.2.2.2.2.2.2.2.2.1 fun w70 =>
 letO y53.2.2.2.2.2.2.2.2.2.2.2.2.1 fun w71 =>
 letO y53.2.2.2.2.2.2.2.2.2.2.2.2.2 fun w72 =>
 some (w59, 0, 0, 0, 0, 0, w60, w61, w62, w63, w64, w65, w66, w67, w68, w69, w70, w71, w72))
 ) : Option (Int × Int × Int × Int × Int × Int × ByteArray × Int × Int × Int × ByteArray × Int × Int × Int × Int × Int × Int × Int × Int)).bind fun y26 =>
 letO y26.1 fun w32 =>
 letO y26.2.1 fun w33 =>
 letO y26.2.2.1 fun w34 =>
 letO y26.2.2.2.1 fun w35 =>
 letO y26.2.2.2.2.1 fun w36 =>
 letO y26.2.2.2.2.2.1 fun w37 =>
 letO y26.2.2.2.2.2.2.1 fun w38 =>
 letO y26.2.2.2.2.2.2.2.1 fun w39 =>
 letO y26.2.2.2.2.2.2.2.2.1 fun w40 =>
 letO y26.2.2.2.2.2.2.2.2.2.1 fun w41 =>
 letO y26.2.2.2.2.2.2.2.2.2.2.1 fun w42 =>
 letO y26.2.2.2.2.2.2.2.2.2.2.2.1 fun w43 =>
 letO y26.2.2.2.2.2.2.2.2.2.2.2.2.1 fun w44 =>
 letO y26.2.2.2.2.2.2.2.2.2.2.2.2.2.1 fun w45 =>
 letO y26.2.2.2.2.2.2.2.2.2.2.2.2.2.2.1 fun w46 =>
 letO y26.2.2.2.2.2.2.2.2.2.2.2.2.2.2.2.1 fun w47 =>
 letO y26.2.2.2.2.2.2.2.2.2.2.2.2.2.2.2.2.1 fun w48 =>
 letO y26.2.2.2.2.2.2.2.2.2.2.2.2.2.2.2.2.2.1 fun w49 =>
 letO y26.2.2.2.2.2.2.2.2.2.2.2.2.2.2.2.2.2.2 fun w50 =>
 some (w32, w38, w33, w34, w35, w36, w37, w39, w40, w41, w42, w43, w44, w45, w46, w47, w48, w49, w50))
 ) : Option (Int × ByteArray × Int × Int × Int × Int × Int × Int × Int × Int × ByteArray × Int × Int × Int × Int × Int × Int × Int × Int)).bind fun y1 =>
 letO y1.1 fun w7 =>
 letO y1.2.1 fun w8 =>
 letO y1.2.2.1 fun w9 =>
 letO y1.2.2.2.1 fun w10 =>
 letO y1.2.2.2.2.1 fun w11 =>
 letO y1.2.2.2.2.2.1 fun w12 =>
 letO y1.2.2.2.2.2.2.1 fun w13 =>
 letO y1.2.2.2.2.2.2.2.1 fun w14 =>
 letO y1.2.2.2.2.2.2.2.2.1 fun w15 =>
 letO y1.2.2.2.2.2.2.2.2.2.1 fun w16 =>
 letO y1.2.2.2.2.2.2.2.2.2.2.1 fun w17 =>
 letO y1.2.2.2.2.2.2.2.2.2.2.2.1 fun w18 =>
 letO y1.2.2.2.2.2.2.2.2.2.2.2.2.1 fun w19 =>
 letO y1.2.2.2.2.2.2.2.2.2.2.2.2.2.1 fun w20 =>
 letO y1.2.2.2.2.2.2.2.2.2.2.2.2.2.2.1 fun w21 =>
 letO y1.2.2.2.2.2.2.2.2.2.2.2.2.2.2.2.1 fun w22 =>
 letO y1.2.2.2.2.2.2.2.2.2.2.2.2.2.2.2.2.1 fun w23 =>
 letO y1.2.2.2.2.2.2.2.2.2.2.2.2.2.2.2.2.2.1 fun w24 =>
 letO y1.2.2.2.2.2.2.2.2.2.2.2.2.2.2.2.2.2.2 fun w25 =>
 some (TE.mk w7 a1.fc a1.fx w8 (TS.mk w9 (TRect.mk w10 w11 w12 w13)) (TB.mk w14 (TPoint.mk w15 w16) w17) (TI.mk w18 (TM.mk w19 w20 w21) w22 w23 w24 w25))
theorem runq29 (a0 : TL) (a1 : TE) (r : TE) (h : Fq29 a0 a1 = some r) : Fun Tryz.prog 92 [.agg [.bs (len a0.fC) 4 (row gd (eC len gd) a0.fC)], .agg (cE a1)] [] (.agg (cE r)) [] true := by
 refine Fun.of_wp (oneOf [100013, 100016, 100031, 100034, 100049, 100052, 100067, 100078, 100081]) tok mixed Tryz.func92 (by kernel_rfl) rfl Tryz.ntmps92 rfl trivial (fun _ => ⟨(by simp [AV.flat, AV.flat1, AC.flat]), tv⟩) ?_; unfold Fq29 at h; generalize hLEN : @len = LEN, hGD : @gd = GD, hA : std = A, hP : Tryz.prog = P at *; cbv
 revert h; refine cu (fun y1 => some (sp 93 [(4, .c (.ptr 256 0)), (5, .c (.ptr 320 0))] [(256, .var [wi 0, wi 0, wi 0, ws (ByteArray.mk #[]), wi 0, wi 0, wi 0, wi 0, wi 0, wi 0, wi 0, wi 0, ws (ByteArray.mk #[]), wi 0, wi 0, wi 0, wi 0, wi 0, wi 0, wi 0, wi 0]), (320, .var [wi y1.1, wi a1.fc, wi a1.fx, ws y1.2.1, wi y1.2.2.1, wi y1.2.2.2.1, wi y1.2.2.2.2.1, wi y1.2.2.2.2.2.1, wi y1.2.2.2.2.2.2.1, wi y1.2.2.2.2.2.2.2.1, wi y1.2.2.2.2.2.2.2.2.1, wi y1.2.2.2.2.2.2.2.2.2.1, ws y1.2.2.2.2.2.2.2.2.2.2.1, wi y1.2.2.2.2.2.2.2.2.2.2.2.1, wi y1.2.2.2.2.2.2.2.2.2.2.2.2.1, wi y1.2.2.2.2.2.2.2.2.2.2.2.2.2.1, wi y1.2.2.2.2.2.2.2.2.2.2.2.2.2.2.1, wi y1.2.2.2.2.2.2.2.2.2.2.2.2.2.2.2.1, wi y1.2.2.2.2.2.2.2.2.2.2.2.2.2.2.2.2.1, wi y1.2.2.2.2.2.2.2.2.2.2.2.2.2.2.2.2.2.1, wi y1.2.2.2.2.2.2.2.2.2.2.2.2.2.2.2.2.2.2])])) ?_ ?_
 ·intro y1 S hS h; cbv; revert h; refine fk ?_ ?_ <;> intro h <;> cbv
  ·exact dn
  revert h; refine cu (fun y26 => some (sp 93 [(4, .c (.ptr 256 0)), (5, .c (.ptr 320 0))] [(256, .var [wi 0, wi 0, wi 0, ws (ByteArray.mk #[]), wi 0, wi 0, wi 0, wi 0, wi 0, wi 0, wi 0, wi 0, ws (ByteArray.mk #[]), wi 0, wi 0, wi 0, wi 0, wi 0, wi 0, wi 0, wi 0]), (320, .var [wi y26.1, wi a1.fc, wi a1.fx, ws y26.2.2.2.2.2.2.1, wi y26.2.1, wi y26.2.2.1, wi y26.2.2.2.1, wi y26.2.2.2.2.1, wi y26.2.2.2.2.2.1, wi y26.2.2.2.2.2.2.2.1, wi y26.2.2.2.2.2.2.2.2.1, wi y26.2.2.2.2.2.2.2.2.2.1, ws y26.2.2.2.2.2.2.2.2.2.2.1, wi y26.2.2.2.2.2.2.2.2.2.2.2.1, wi y26.2.2.2.2.2.2.2.2.2.2.2.2.1, wi y26.2.2.2.2.2.2.2.2.2.2.2.2.2.1, wi y26.2.2.2.2.2.2.2.2.2.2.2.2.2.2.1, wi y26.2.2.2.2.2.2.2.2.2.2.2.2.2.2.2.1, wi y26.2.2.2.2.2.2.2.2.2.2.2.2.2.2.2.2.1, wi y26.2.2.2.2.2.2.2.2.2.2.2.2.2.2.2.2.2.1, wi y26.2.2.2.2.2.2.2.2.2.2.2.2.2.2.2.2.2.2])])) ?_ ?_
  ·intro y26 S hS h; cbv; revert h; refine fk ?_ ?_ <;> intro h <;> cbv
   ·revert h; refine ra fun c51 h => ?_; revert h; refine ra fun c52 h => ?_; exact dn
   revert h; refine cu (fun y53 => some (sp 93 [(4, .c (.ptr 256 0)), (5, .c (.ptr 320 0))] [(256, .var [wi 0, wi 0, wi 0, ws (ByteArray.mk #[]), wi 0, wi 0, wi 0, wi 0, wi 0, wi 0, wi 0, wi 0, ws (ByteArray.mk #[]), wi 0, wi 0, wi 0, wi 0, wi 0, wi 0, wi 0, wi 0]), (320, .var [wi y53.1, wi a1.fc, wi a1.fx, ws y53.2.1, wi 0, wi 0, wi 0, wi 0, wi 0, wi y53.2.2.1, wi y53.2.2.2.1, wi y53.2.2.2.2.1, ws y53.2.2.2.2.2.1, wi y53.2.2.2.2.2.2.1, wi y53.2.2.2.2.2.2.2.1, wi y53.2.2.2.2.2.2.2.2.1, wi y53.2.2.2.2.2.2.2.2.2.1, wi y53.2.2.2.2.2.2.2.2.2.2.1, wi y53.2.2.2.2.2.2.2.2.2.2.2.1, wi y53.2.2.2.2.2.2.2.2.2.2.2.2.1, wi y53.2.2.2.2.2.2.2.2.2.2.2.2.2])])) ?_ ?_
   ·intro y53 S hS h; cbv; revert h; refine fk ?_ ?_ <;> intro h <;> cbv
    ·exact dn
    revert h; refine cu (fun y73 => some (sp 93 [(4, .c (.ptr 256 0)), (5, .c (.ptr 320 0))] [(256, .var [wi 0, wi 0, wi 0, ws (ByteArray.mk #[]), wi 0, wi 0, wi 0, wi 0, wi 0, wi 0, wi 0, wi 0, ws (ByteArray.mk #[]), wi 0, wi 0, wi 0, wi 0, wi 0, wi 0, wi 0, wi 0]), (320, .var [wi y73.1, wi a1.fc, wi a1.fx, ws y73.2.2.2.2.2.1, wi 0, wi 0, wi 0, wi 0, wi 0, wi y73.2.1, wi y73.2.2.1, wi y73.2.2.2.1, ws y73.2.2.2.2.1, wi y73.2.2.2.2.2.2.1, wi y73.2.2.2.2.2.2.2.1, wi y73.2.2.2.2.2.2.2.2.1, wi y73.2.2.2.2.2.2.2.2.2.1, wi y73.2.2.2.2.2.2.2.2.2.2.1, wi y73.2.2.2.2.2.2.2.2.2.2.2.1, wi y73.2.2.2.2.2.2.2.2.2.2.2.2.1, wi y73.2.2.2.2.2.2.2.2.2.2.2.2.2])])) ?_ ?_
    ·intro y73 S hS h; cbv; revert h; refine fk ?_ ?_ <;> intro h <;> cbv
     ·revert h; refine ra fun c93 h => ?_; revert h; refine ra fun c94 h => ?_; exact dn
     revert h; refine cu (fun y95 => some (sp 93 [(4, .c (.ptr 256 0)), (5, .c (.ptr 320 0))] [(256, .var [wi 0, wi 0, wi 0, ws (ByteArray.mk #[]), wi 0, wi 0, wi 0, wi 0, wi 0, wi 0, wi 0, wi 0, ws (ByteArray.mk #[]), wi 0, wi 0, wi 0, wi 0, wi 0, wi 0, wi 0, wi 0]), (320, .var [wi y95.1, wi a1.fc, wi a1.fx, ws y95.2.1, wi 0, wi 0, wi 0, wi 0, wi 0, wi 0, wi 0, wi 0, ws (ByteArray.mk #[]), wi y95.2.2.1, wi y95.2.2.2.1, wi y95.2.2.2.2.1, wi y95.2.2.2.2.2.1, wi y95.2.2.2.2.2.2.1, wi y95.2.2.2.2.2.2.2.1, wi y95.2.2.2.2.2.2.2.2.1, wi y95.2.2.2.2.2.2.2.2.2])])) ?_ ?_
     ·intro y95 S hS h; cbv; revert h; refine fk ?_ ?_ <;> intro h <;> cbv
      ·exact dn
      revert h; refine cu (fun y111 => some (sp 93 [(4, .c (.ptr 256 0)), (5, .c (.ptr 320 0))] [(256, .var [wi 0, wi 0, wi 0, ws (ByteArray.mk #[]), wi 0, wi 0, wi 0, wi 0, wi 0, wi 0, wi 0, wi 0, ws (ByteArray.mk #[]), wi 0, wi 0, wi 0, wi 0, wi 0, wi 0, wi 0, wi 0]), (320, .var [wi y111.1, wi a1.fc, wi a1.fx, ws y111.2.2.2.2.2.2.2.2.2, wi 0, wi 0, wi 0, wi 0, wi 0, wi 0, wi 0, wi 0, ws (ByteArray.mk #[]), wi y111.2.1, wi y111.2.2.1, wi y111.2.2.2.1, wi y111.2.2.2.2.1, wi y111.2.2.2.2.2.1, wi y111.2.2.2.2.2.2.1, wi y111.2.2.2.2.2.2.2.1, wi y111.2.2.2.2.2.2.2.2.1])])) ?_ ?_
      ·intro y111 S hS h; cbv; revert h; refine fk ?_ ?_ <;> intro h <;> cbv
       ·revert h; refine ra fun c127 h => ?_; revert h; refine ra fun c128 h => ?_; exact dn
       revert h; refine cu (fun y129 => some (sp 93 [(4, .c (.ptr 256 0)), (5, .c (.ptr 320 0))] [(256, .var [wi 0, wi 0, wi 0, ws (ByteArray.mk #[]), wi 0, wi 0, wi 0, wi 0, wi 0, wi 0, wi 0, wi 0, ws (ByteArray.mk #[]), wi 0, wi 0, wi 0, wi 0, wi 0, wi 0, wi 0, wi 0]), (320, .var [wi y129.1, wi a1.fc, wi a1.fx, ws y129.2, wi 0, wi 0, wi 0, wi 0, wi 0, wi 0, wi 0, wi 0, ws (ByteArray.mk #[]), wi 0, wi 0, wi 0, wi 0, wi 0, wi 0, wi 0, wi 0])])) ?_ ?_
       ·intro y129 S hS h; cbv; revert h; refine fk ?_ ?_ <;> intro h <;> cbv
        ·revert h; refine ra fun c137 h => ?_; exact dn
        revert h; refine cu (fun y138 => some (sp 93 [(4, .c (.ptr 256 0)), (5, .c (.ptr 320 0))] [(256, .var [wi 0, wi 0, wi 0, ws (ByteArray.mk #[]), wi 0, wi 0, wi 0, wi 0, wi 0, wi 0, wi 0, wi 0, ws (ByteArray.mk #[]), wi 0, wi 0, wi 0, wi 0, wi 0, wi 0, wi 0, wi 0]), (320, .var [wi y138.1, wi a1.fc, wi a1.fx, ws y138.2, wi 0, wi 0, wi 0, wi 0, wi 0, wi 0, wi 0, wi 0, ws (ByteArray.mk #[]), wi 0, wi 0, wi 0, wi 0, wi 0, wi 0, wi 0, wi 0])])) ?_ ?_
        ·intro y138 S hS h; cbv; revert h; refine fk ?_ ?_ <;> intro h <;> cbv
         ·exact dn
         revert h; refine cu (fun y146 => some (sp 93 [(4, .c (.ptr 256 0)), (5, .c (.ptr 320 0))] [(256, .var [wi 0, wi 0, wi 0, ws (ByteArray.mk #[]), wi 0, wi 0, wi 0, wi 0, wi 0, wi 0, wi 0, wi 0, ws (ByteArray.mk #[]), wi 0, wi 0, wi 0, wi 0, wi 0, wi 0, wi 0, wi 0]), (320, .var [wi y146.1, wi a1.fc, wi a1.fx, ws y146.2, wi 0, wi 0, wi 0, wi 0, wi 0, wi 0, wi 0, wi 0, ws (ByteArray.mk #[]), wi 0, wi 0, wi 0, wi 0, wi 0, wi 0, wi 0, wi 0])])) (fun y146 S hS h => rg) ?_
         rintro ⟨w152, w153⟩ h; replace h := oz (oz h); dsimp only at h; cbv; exact dn
        rintro ⟨w144, w145⟩ h; replace h := oz (oz h); dsimp only at h; cbv; exact dn
       rintro ⟨w135, w136⟩ h; replace h := oz (oz h); dsimp only at h; cbv; exact dn
      rintro ⟨w117, w118, w119, w120, w121, w122, w123, w124, w125, w126⟩ h; replace h := oz (oz (oz (oz (oz (oz (oz (oz (oz (oz h))))))))); dsimp only at h; cbv; exact dn
     rintro ⟨w101, w102, w103, w104, w105, w106, w107, w108, w109, w110⟩ h; replace h := oz (oz (oz (oz (oz (oz (oz (oz (oz (oz h))))))))); dsimp only at h; cbv; exact dn
    rintro ⟨w79, w80, w81, w82, w83, w84, w85, w86, w87, w88, w89, w90, w91, w92⟩ h; replace h := oz (oz (oz (oz (oz (oz (oz (oz (oz (oz (oz (oz (oz (oz h))))))))))))); dsimp only at h; cbv; exact dn
   rintro ⟨w59, w60, w61, w62, w63, w64, w65, w66, w67, w68, w69, w70, w71, w72⟩ h; replace h := oz (oz (oz (oz (oz (oz (oz (oz (oz (oz (oz (oz (oz (oz h))))))))))))); dsimp only at h; cbv; exact dn
  rintro ⟨w32, w33, w34, w35, w36, w37, w38, w39, w40, w41, w42, w43, w44, w45, w46, w47, w48, w49, w50⟩ h; replace h := oz (oz (oz (oz (oz (oz (oz (oz (oz (oz (oz (oz (oz (oz (oz (oz (oz (oz (oz h)))))))))))))))))); dsimp only at h; cbv; exact dn
 rintro ⟨w7, w8, w9, w10, w11, w12, w13, w14, w15, w16, w17, w18, w19, w20, w21, w22, w23, w24, w25⟩ h; replace h := oz (oz (oz (oz (oz (oz (oz (oz (oz (oz (oz (oz (oz (oz (oz (oz (oz (oz (oz h)))))))))))))))))); dsimp only at h; cbv; exact df

section
open Go.RowKit Go.Lib
set_option maxRecDepth 1000000 in
theorem ins_shift_slices_Insert_Limpl_Cell_impl_Cell_mobo (b off n c i vb voff m vc : Nat) (cs vs : List Value) (w : World) (hi : i < n) (hm : 0 < m) (hroom : n + m <= c) (hc63 : n + m <= 9223372036854775807) (hvb : vb ≠ b)
  (hcl : cs.length = n * 4) (hvl : vs.length = m * 4)
  (hcs : ∀ j v, cs[j]? = some v -> w.cell? ⟨b, off + j, none⟩ = some v) (hsp : ∀ j, j < (n + m) * 4 -> (w.cell? ⟨b, off + j, none⟩).isSome = true) (hfz : ∀ j, j < (n + m) * 4 -> w.frozen? ⟨b, off + j, none⟩ = false)
  (hvs : ∀ j v, vs[j]? = some v -> w.cell? ⟨vb, voff + j, none⟩ = some v) (h1c : ∀ v ∈ cs, v.oneCell' = true) (h1v : ∀ v ∈ vs, v.oneCell' = true)
  (tA tB : TypeId) (kA kB : Nat) (hsa : w.shape? vb = some (tA, kA)) (hsb : w.shape? b = some (tB, kB)) (hkB : kB ≠ 0) (hfa : w.frozen? ⟨vb, voff, none⟩ = false) (hfe : w.frozen? ⟨vb, kA, none⟩ = false) :
  Calls Tryz.prog 118 #[.slice (some ⟨b, off, none⟩) n c, .int .i64 i, .slice (some ⟨vb, voff, none⟩) m vc] w fun e w' =>
   e = .returned (.slice (some ⟨b, off, none⟩) (n + m) c) /\ w' = (w.drew.setCells b (off + (i + m) * 4) (cs.drop (i * 4))).setCells b (off + i * 4) vs := by
 have tSl : Tryz.prog.underlying 41 = some (.slice 149) := by kernel_rfl
 have hz1 : ¬ ((m : Int) = 0) := by omega
 have hz2 : ¬ ((i : Int) = (n : Int)) := by omega
 have hsz : (Tryz.prog.info? 149).map (·.size) = some 4 := by kernel_rfl
 have hov : ∀ lb cb, (callFunc 196 #[.slice (some ⟨vb, voff, none⟩) m vc, .slice (some ⟨b, off + (i + m) * 4, none⟩) lb cb]).run Tryz.prog w = .ok (.value (.bool false)) w := fun lb cb => by
  rw [run_callFunc_extern Tryz.func196 (by kernel_rfl) (by kernel_rfl) (by kernel_rfl) (e := Extern.SlicesOverlaps.overlaps #[41, 41] #[4]) (by kernel_rfl),
   Lib.run_overlaps_apart w 41 4 149 tSl 4 (fun w => run_sizeOf tok (show T 149 = some d149 from rfl)) ⟨vb, voff, none⟩ ⟨b, off + (i + m) * 4, none⟩ m vc lb cb hvb tA tB kA kB hsa hsb hkB hfa hfe]
  rfl
 have hdl : (cs.drop (i * 4)).length = (n - i) * 4 := by rw [List.length_drop, hcl, Nat.sub_mul]
 have mixed : Tryz.prog.follows .mixedOrders = true := by kernel_rfl
 have hw1 : IntKind.i64.wrap ((i : Int) + (m : Int)) = (i : Int) + (m : Int) := by rw [IntKind.wrap_i64]; omega
 have hb1 : (0 : Int) <= (i : Int) + (m : Int) := by omega
 have hin : i <= n := by omega
 have htn : ((i : Int) + (m : Int)).toNat = i + m := by omega
 have hb2 : ¬ (c = i + m) := by omega
 have hb3 : (i : Int) <= (n : Int) + (m : Int) := by omega
 have hb4 : ¬ (c = i) := by omega
 have hcp1 : ∀ ty dc sc, (Builtin.copy_ #[41, 41] ty #[.slice (some ⟨b, off + (i + m) * 4, none⟩) (n + m - (i + m)) dc, .slice (some ⟨b, off + i * 4, none⟩) (n + m - i) sc]).run Tryz.prog w.drew = .ok (goInt (Nat.min (n + m - i) (n + m - (i + m)))) (w.drew.setCells b (off + (i + m) * 4) (cs.drop (i * 4))) := fun ty dc sc =>
  run_copy_cellsN 4 w.drew _ _ ty 149 b (off + (i + m) * 4) (n + m - (i + m)) dc ⟨b, off + i * 4, none⟩ (n + m - i) sc (cs.drop (i * 4)) tSl hsz (by rw [hdl, show Nat.min (n + m - i) (n + m - (i + m)) = n - i by simp only [Nat.min_def]; split <;> omega])
   (fun j v hj => by rw [Addr.add_lit, Nat.add_assoc]; exact hcs (i * 4 + j) v (by rwa [List.getElem?_drop] at hj))
   (fun j hj => by rw [Nat.add_assoc]; exact hsp _ (by omega)) (fun j hj => by rw [Nat.add_assoc]; exact hfz _ (by omega)) (fun v hv => h1c v (List.mem_of_mem_drop hv))
 obtain ⟨W1, hW1⟩ : ∃ W1, W1 = w.drew.setCells b (off + (i + m) * 4) (cs.drop (i * 4)) := ⟨_, rfl⟩
 have hsp1 : ∀ k, k < (n + m) * 4 -> (W1.cell? ⟨b, off + k, none⟩).isSome = true := fun k hk => by
  rw [hW1]
  exact isSome_setCells b _ _ _ (fun j hj => by rw [Nat.add_assoc]; exact hsp _ (by omega)) _ (hsp k hk)
 have hcp2 : ∀ (W : World), (∀ x, W.cell? x = W1.cell? x) -> (∀ x, W.frozen? x = W1.frozen? x) -> ∀ ty dc, (Builtin.copy_ #[41, 41] ty #[.slice (some ⟨b, off + i * 4, none⟩) (n + m - i) dc, .slice (some ⟨vb, voff, none⟩) m vc]).run Tryz.prog W = .ok (goInt (Nat.min m (n + m - i))) (W.setCells b (off + i * 4) vs) := fun W hWc hWf ty dc =>
  run_copy_cellsN 4 W _ _ ty 149 b (off + i * 4) (n + m - i) dc ⟨vb, voff, none⟩ m vc vs tSl hsz (by rw [hvl, show Nat.min m (n + m - i) = m by simp only [Nat.min_def]; split <;> omega])
   (fun j v hj => by
    rw [Addr.add_lit, hWc, hW1, World.cell?_setCells_out b _ _ _ _ (fun h _ => absurd h hvb)]
    exact hvs j v hj)
   (fun j hj => by rw [hWc, Nat.add_assoc]; exact hsp1 _ (by omega)) (fun j hj => by rw [hWf, hW1, World.frozen?_setCells, Nat.add_assoc]; exact hfz _ (by omega)) h1v
 rw [<- hW1] at hcp1
 clear hsp hfz hcs hvs h1c h1v
 go_enter Tryz.func118, Tryz.ntmps118
 go_wp2_with (simp only [hov])
 go_region_law_o (refine step_copy_runI rfl _ _ 41 41 rfl _ _ (by simp [Act.eval, Act.put]) (by simp [Act.eval, Act.put]) (hcp1 _ _ _) ?_)
 go_wp2_with (at_builtin; refine wpList_copy_runI _ rfl _ _ 41 41 rfl _ _ rfl rfl (hcp2 _ (fun _ => rfl) (fun _ => rfl) _ _) ?_)
 go_ret
 first | exact ⟨rfl, rfl⟩ | exact ⟨rfl, by rw [hW1]⟩
set_option maxRecDepth 1000000 in
theorem ins_end_room_slices_Insert_Limpl_Cell_impl_Cell_mobo (b off n c vb voff m vc : Nat) (vs : List Value) (w : World) (hm : 0 < m) (hroom : n + m <= c) (hc63 : n + m <= 9223372036854775807)
  (hvl : vs.length = m * 4) (hsp : ∀ j, j < m * 4 -> (w.cell? ⟨b, off + n * 4 + j, none⟩).isSome = true) (hfz : ∀ j, j < m * 4 -> w.frozen? ⟨b, off + n * 4 + j, none⟩ = false)
  (hvs : ∀ j v, vs[j]? = some v -> w.cell? ⟨vb, voff + j, none⟩ = some v) (h1v : ∀ v ∈ vs, v.oneCell' = true) :
  Calls Tryz.prog 118 #[.slice (some ⟨b, off, none⟩) n c, .int .i64 n, .slice (some ⟨vb, voff, none⟩) m vc] w fun e w' =>
   e = .returned (.slice (some ⟨b, off, none⟩) (n + m) c) /\ w' = w.setCells b (off + n * 4) vs := by
 have tSl : Tryz.prog.underlying 41 = some (.slice 149) := by kernel_rfl
 have mixed : Tryz.prog.follows .mixedOrders = true := by kernel_rfl
 have hI : (Tryz.prog.info? 149).map (·.size) = some 4 := by kernel_rfl
 obtain ⟨i0, hi0, hz5⟩ : ∃ i0, Tryz.prog.info? 149 = some i0 /\ i0.size = 4 := by
  cases h : Tryz.prog.info? 149 with
  | none => rw [h] at hI; cases hI
  | some i0 => rw [h] at hI; exact ⟨i0, rfl, by injection hI⟩
 have hz1 : ¬ ((m : Int) = 0) := by omega
 have hsrc : Src Tryz.prog i0.size 41 (.slice (some ⟨vb, voff, none⟩) m vc) m vs w := Src.ofSlice w tSl ⟨vb, voff, none⟩ m vc vs (by rw [hz5]; exact hvl) (fun j u hj => by rw [Addr.add_lit]; exact hvs j u hj) h1v
 have s1 : Hid (∀ j, j < vs.length -> (w.cell? ⟨b, off + n * i0.size + j, none⟩).isSome = true) := by rw [hvl, hz5]; exact hsp
 have s2 : Hid (∀ j, j < vs.length -> w.frozen? ⟨b, off + n * i0.size + j, none⟩ = false) := by rw [hvl, hz5]; exact hfz
 clear hsp hfz hvs
 go_enter Tryz.func118, Tryz.ntmps118
 go_wp2_with (at_builtin; refine wpList_append_room_src _ rfl _ _ 41 41 rfl 149 i0 tSl hi0 b off n c rfl _ rfl m vs hsrc hroom s1.out s2.out ?_)
 go_ret
 exact ⟨rfl, rfl⟩
set_option maxRecDepth 1000000 in
theorem ins_end_grow_slices_Insert_Limpl_Cell_impl_Cell_mobo (base : Option Addr) (n c vb voff m vc : Nat) (cs vs : List Value) (w : World) (hm : 0 < m) (hnc : n <= c) (hroom : c < n + m) (hbig : (n + m) * 88 <= 140737488355328)
  (hcl : cs.length = n * 4) (hvl : vs.length = m * 4) (hnil : base = none -> n = 0)
  (hcs : ∀ a, base = some a -> ∀ j v, cs[j]? = some v -> w.cell? (a.add j) = some v)
  (hvs : ∀ j v, vs[j]? = some v -> w.cell? ⟨vb, voff + j, none⟩ = some v) (h1v : ∀ v ∈ vs, v.oneCell' = true) :
  Calls Tryz.prog 118 #[.slice base n c, .int .i64 n, .slice (some ⟨vb, voff, none⟩) m vc] w fun e w' =>
   e = .returned (.slice (some ⟨w.heap.size, 0, none⟩) (n + m) (grownCap w (n + m) c 149)) /\
   w' = w.drew.alloc (.cells ((cs ++ vs).toArray ++ Builtin.zeroCells d149.zero.cells (grownCap w (n + m) c 149 - (n + m))) 149) := by
 have tSl : Tryz.prog.underlying 41 = some (.slice 149) := by kernel_rfl
 have mixed : Tryz.prog.follows .mixedOrders = true := by kernel_rfl
 obtain ⟨i0, hi0, hzs, hzb, hz0⟩ := (tok 149 d149 rfl).2.1
 have hzs : i0.size = 4 := hzs
 have hzb : i0.bytes = 88 := hzb
 have hz1 : ¬ ((m : Int) = 0) := by omega
 have hsrc : Src Tryz.prog i0.size 41 (.slice (some ⟨vb, voff, none⟩) m vc) m vs w := Src.ofSlice w tSl ⟨vb, voff, none⟩ m vc vs (by rw [hzs]; exact hvl) (fun j u hj => by rw [Addr.add_lit]; exact hvs j u hj) h1v
 have hold : (Builtin.firstCells i0.size n (.slice base n c)).run Tryz.prog w.drew = .ok cs.toArray w.drew := by
  rw [hzs]
  cases base with
  | none =>
   have h0 := hnil rfl
   subst h0
   have hc0 : cs.length = 0 := by rw [hcl, Nat.zero_mul]
   rw [List.length_eq_zero_iff.1 hc0]
   exact run_firstCells_none w.drew 4 0 0 c
  | some a => exact run_firstCells_some w.drew 4 n a n c cs hcl (fun j v hj => hcs a rfl j v hj)
 have hrun : ∀ ty, (Builtin.append_ #[41, 41] ty #[.slice base n c, .slice (some ⟨vb, voff, none⟩) m vc]).run Tryz.prog w = _ := fun ty =>
  run_append_grow_src w 41 41 ty 149 i0 _ tSl hi0 hz0 base n c cs hold _ m vs hsrc hroom (by omega) (by rw [hzb]; exact growslice_fits hroom hbig)
 go_enter Tryz.func118, Tryz.ntmps118
 cases base with
 | none =>
  have h0 := hnil rfl
  subst h0
  go_wp2_with (at_builtin; refine Lib.wpList_append_run _ rfl _ _ _ _ rfl _ _ rfl rfl _ _ (hrun _) ?_)
  go_ret
  exact ⟨rfl, rfl⟩
 | some a =>
  obtain ⟨ab, ao, asp⟩ := a
  go_wp2_with (at_builtin; refine Lib.wpList_append_run _ rfl _ _ _ _ rfl _ _ rfl rfl _ _ (hrun _) ?_)
  all_goals (go_ret; exact ⟨rfl, rfl⟩)
set_option maxRecDepth 1000000 in
theorem ins_grow_slices_Insert_Limpl_Cell_impl_Cell_mobo (b off n c i vb voff m vc : Nat) (cs vs : List Value) (w : World) (hi : i < n) (hm : 0 < m) (hnc : n <= c) (hroom : c < n + m) (hbig : (n + m) * 88 <= 140737488355328)
  (hcl : cs.length = n * 4) (hvl : vs.length = m * 4)
  (hcs : ∀ j v, cs[j]? = some v -> w.cell? ⟨b, off + j, none⟩ = some v)
  (hvs : ∀ j v, vs[j]? = some v -> w.cell? ⟨vb, voff + j, none⟩ = some v) (h1c : ∀ v ∈ cs, v.oneCell' = true) (h1v : ∀ v ∈ vs, v.oneCell' = true) :
  Calls Tryz.prog 118 #[.slice (some ⟨b, off, none⟩) n c, .int .i64 i, .slice (some ⟨vb, voff, none⟩) m vc] w fun e w' =>
   e = .returned (.slice (some ⟨w.heap.size, 0, none⟩) (n + m) (grownCap w (n + m) c 149)) /\
   w' = (((w.alloc (.cells ((cs.take (i * 4)).toArray ++ Builtin.zeroCells d149.zero.cells (n + m - i) ++ Builtin.zeroCells d149.zero.cells (grownCap w (n + m) c 149 - (n + m))) 149)).drew.setCells w.heap.size (i * 4) vs).drew).setCells w.heap.size ((i + m) * 4) (cs.drop (i * 4)) := by
 have tSl : Tryz.prog.underlying 41 = some (.slice 149) := by kernel_rfl
 have t3 : Tryz.prog.underlying 3 = some (.int .i64) := by kernel_rfl
 have mixed : Tryz.prog.follows .mixedOrders = true := by kernel_rfl
 obtain ⟨i0, hi0, hzs, hzb, hz0⟩ := (tok 149 d149 rfl).2.1
 have hzs : i0.size = 4 := hzs
 have hzb : i0.bytes = 88 := hzb
 have hz5 : d149.zero.cells.size = 4 := by kernel_rfl
 have hz1 : ¬ ((m : Int) = 0) := by omega
 have hz2 : ¬ ((i : Int) = (n : Int)) := by omega
 have hz3 : (c : Int) < (n : Int) + (m : Int) := by omega
 have hsz : (Tryz.prog.info? 149).map (·.size) = some 4 := by rw [hi0]; simp [hzs]
 have hbw : b < w.heap.size := block_lt_of_cell (hcs 0 _ (List.getElem?_eq_getElem (by omega)))
 have hvw : vb < w.heap.size := block_lt_of_cell (hvs 0 _ (List.getElem?_eq_getElem (by omega)))
 have hkk : (n : Int) + (m : Int) - (i : Int) = ((n + m - i : Nat) : Int) := by omega
 have hik : i + (n + m - i) = n + m := by omega
 have htl : (cs.take (i * 4)).length = i * 4 := by rw [List.length_take, hcl]; omega
 have hold : (Builtin.firstCells i0.size i (.slice (some ⟨b, off, none⟩) i c)).run Tryz.prog w.drew = .ok (cs.take (i * 4)).toArray w.drew := by
  rw [hzs]
  exact run_firstCells_some w.drew 4 i ⟨b, off, none⟩ i c (cs.take (i * 4)) htl (fun j v hj => by
   rw [Addr.add_lit]
   rw [List.getElem?_take] at hj
   split at hj
   ·exact hcs j v hj
   ·cases hj)
 have hrz : ∀ ty, (Builtin.append_ #[41, 3] ty #[.slice (some ⟨b, off, none⟩) i c, .int .i64 ((n : Int) + (m : Int) - (i : Int))]).run Tryz.prog w =
   .ok (.slice (some ⟨w.heap.size, 0, none⟩) (n + m) (grownCap w (n + m) c 149)) (w.drew.alloc (.cells ((cs.take (i * 4)).toArray ++ Builtin.zeroCells d149.zero.cells (n + m - i) ++ Builtin.zeroCells d149.zero.cells (grownCap w (n + m) c 149 - (n + m))) 149)) := fun ty => by
  have h := Lib.run_append_grow_zeros w 41 3 ty 149 i0 _ .i64 .i64 tSl t3 hi0 hz0 (some ⟨b, off, none⟩) i c (cs.take (i * 4)) hold (n + m - i) (by omega) (by omega) (by omega) (by omega) (by rw [hzb]; omega) (by rw [hzb, hik]; exact growslice_fits hroom hbig)
  rw [hik] at h
  rw [hkk]
  exact h
 obtain ⟨G, hG⟩ : ∃ G, G = grownCap w (n + m) c 149 := ⟨_, rfl⟩
 obtain ⟨ROW, hROW⟩ : ∃ ROW : Array Value, ROW = (cs.take (i * 4)).toArray ++ Builtin.zeroCells d149.zero.cells (n + m - i) ++ Builtin.zeroCells d149.zero.cells (G - (n + m)) := ⟨_, rfl⟩
 rw [<- hG] at hrz ⊢
 rw [<- hROW] at hrz ⊢
 have hRl : (n + m) * 4 <= ROW.size := by
  rw [hROW, Array.size_append, Array.size_append, size_zeroCells, size_zeroCells, hz5, List.size_toArray, htl]
  omega
 obtain ⟨W1, hW1⟩ : ∃ W1, W1 = w.drew.alloc (.cells ROW 149) := ⟨_, rfl⟩
 rw [<- hW1] at hrz
 have hN : ∀ j, j < (n + m) * 4 -> (W1.cell? ⟨w.heap.size, j, none⟩).isSome = true := fun j hj => by
  rw [hW1, World.cell?_alloc_at (w := w.drew) ROW _ w.heap.size j rfl, Array.getElem?_eq_getElem (by omega)]; rfl
 have hNf : ∀ j, W1.frozen? ⟨w.heap.size, j, none⟩ = false := fun j => by rw [hW1]; exact World.frozen?_alloc_at (w := w.drew) ROW _ w.heap.size j rfl
 have hOb : ∀ j v, w.cell? ⟨b, j, none⟩ = some v -> W1.cell? ⟨b, j, none⟩ = some v := fun j v h => by rw [hW1, World.cell?_alloc_past (w := w.drew) _ b j hbw]; exact h
 have hOv : ∀ j v, w.cell? ⟨vb, j, none⟩ = some v -> W1.cell? ⟨vb, j, none⟩ = some v := fun j v h => by rw [hW1, World.cell?_alloc_past (w := w.drew) _ vb j hvw]; exact h
 have hcpA : ∀ (W : World), (∀ x, W.cell? x = W1.cell? x) -> (∀ x, W.frozen? x = W1.frozen? x) -> ∀ ty dc, (Builtin.copy_ #[41, 41] ty #[.slice (some ⟨w.heap.size, i * 4, none⟩) (n + m - i) dc, .slice (some ⟨vb, voff, none⟩) m vc]).run Tryz.prog W = .ok (goInt (Nat.min m (n + m - i))) (W.setCells w.heap.size (i * 4) vs) := fun W hWc hWf ty dc =>
  run_copy_cellsN 4 W _ _ ty 149 w.heap.size (i * 4) (n + m - i) dc ⟨vb, voff, none⟩ m vc vs tSl hsz (by rw [hvl, show Nat.min m (n + m - i) = m by simp only [Nat.min_def]; split <;> omega])
   (fun j v hj => by rw [Addr.add_lit, hWc]; exact hOv _ v (hvs j v hj))
   (fun j hj => by rw [hWc]; exact hN _ (by omega)) (fun j hj => by rw [hWf]; exact hNf _) h1v
 have hGn : n + m <= G := by rw [hG]; exact grownCap_ge w _ _ _
 have hG63 : G <= 9223372036854775807 := by
  have := grownCap_le_maxLen w (n + m) c 149 (by unfold maxLen; omega)
  rw [<- hG] at this
  unfold maxLen at this
  omega
 have hGi : ¬ (G = i) := by omega
 have hGim : ¬ (G = i + m) := by omega
 have hci : ¬ (c = i) := by omega
 have hbN : b ≠ w.heap.size := by omega
 have hdl : (cs.drop (i * 4)).length = (n - i) * 4 := by rw [List.length_drop, hcl, Nat.sub_mul]
 have hcpB : ∀ (W : World), (∀ x, W.cell? x = (W1.setCells w.heap.size (i * 4) vs).cell? x) -> (∀ x, W.frozen? x = (W1.setCells w.heap.size (i * 4) vs).frozen? x) -> ∀ ty dc sc, (Builtin.copy_ #[41, 41] ty #[.slice (some ⟨w.heap.size, (i + m) * 4, none⟩) (n + m - (i + m)) dc, .slice (some ⟨b, off + i * 4, none⟩) (n - i) sc]).run Tryz.prog W = .ok (goInt (Nat.min (n - i) (n + m - (i + m)))) (W.setCells w.heap.size ((i + m) * 4) (cs.drop (i * 4))) := fun W hWc hWf ty dc sc =>
  run_copy_cellsN 4 W _ _ ty 149 w.heap.size ((i + m) * 4) (n + m - (i + m)) dc ⟨b, off + i * 4, none⟩ (n - i) sc (cs.drop (i * 4)) tSl hsz (by rw [hdl, show Nat.min (n - i) (n + m - (i + m)) = n - i by simp only [Nat.min_def]; split <;> omega])
   (fun j v hj => by
    rw [Addr.add_lit, hWc, World.cell?_setCells_out _ _ _ _ _ (fun h _ => absurd h hbN), Nat.add_assoc]
    exact hOb _ v (hcs (i * 4 + j) v (by rwa [List.getElem?_drop] at hj)))
   (fun j hj => by rw [hWc]; exact isSome_setCells _ _ _ _ (fun t ht => hN _ (by omega)) _ (hN _ (by omega)))
   (fun j hj => by rw [hWf, World.frozen?_setCells]; exact hNf _) (fun v hv => h1c v (List.mem_of_mem_drop hv))
 subst hW1
 have hE1 : ∀ x, ((w.alloc (.cells ROW 149)).drew).cell? x = (w.drew.alloc (.cells ROW 149)).cell? x := fun x => rfl
 have hE2 : ∀ x, ((w.alloc (.cells ROW 149)).drew).frozen? x = (w.drew.alloc (.cells ROW 149)).frozen? x := fun x => rfl
 have hF1 : ∀ x, (((w.alloc (.cells ROW 149)).drew.setCells w.heap.size (i * 4) vs).drew).cell? x = ((w.drew.alloc (.cells ROW 149)).setCells w.heap.size (i * 4) vs).cell? x := fun x => rfl
 have hF2 : ∀ x, (((w.alloc (.cells ROW 149)).drew.setCells w.heap.size (i * 4) vs).drew).frozen? x = ((w.drew.alloc (.cells ROW 149)).setCells w.heap.size (i * 4) vs).frozen? x := fun x => rfl
 have hw1 : IntKind.i64.wrap ((i : Int) + (m : Int)) = (i : Int) + (m : Int) := by rw [IntKind.wrap_i64]; omega
 have hb1 : (0 : Int) <= (i : Int) + (m : Int) := by omega
 have hin : i <= n := by omega
 have htn : ((i : Int) + (m : Int)).toNat = i + m := by omega
 have hb3 : (i : Int) <= (n : Int) := by omega
 clear hkk hik hold hROW hG hRl hcs hvs h1c h1v hN hNf hOb hOv htl hdl
 go_enter Tryz.func118, Tryz.ntmps118
 go_wp2_with (first
  | (at_builtin; refine Lib.wpList_append_run _ rfl _ _ _ _ rfl _ _ rfl rfl _ _ (hrz _) ?_)
  | (at_builtin; refine wpList_copy_runI _ rfl _ _ 41 41 rfl _ _ rfl rfl (hcpA _ hE1 hE2 _ _) ?_)
  | (at_builtin; refine wpList_copy_runI _ rfl _ _ 41 41 rfl _ _ rfl rfl (hcpB _ (fun _ => rfl) (fun _ => rfl) _ _ _) ?_))
 go_region_law_o (refine step_copy_runI rfl _ _ 41 41 rfl (.slice (some ⟨w.heap.size, (i + m) * 4, none⟩) (n + m - (i + m)) (G - (i + m))) (.slice (some ⟨b, off + i * 4, none⟩) (n - i) (c - i)) (by simp [Act.eval, Act.put]) (by simp [Act.eval, Act.put]) (hcpB _ hF1 hF2 3 (G - (i + m)) (c - i)) ?_)
 go_wp2
 go_ret
 exact ⟨rfl, rfl⟩
theorem calls_slices_Insert_Limpl_Cell_impl_Cell_mobo (old : Option (Nat × Nat)) (y : Value) (n cap i vb voff m vc : Nat) (cs vs : List Value) (w : World)
  (hold : (old = none /\ n = 0 /\ cap = 0 /\ ∃ ad, y = .slice ad 0 0) \/ ∃ b off C t, old = some (b, off) /\ y = .slice (some ⟨b, off, none⟩) n cap /\ n <= cap /\ w.heap[b]? = some (.cells C t (0, 0)) /\ off + cap * 4 <= C.size /\ (∀ (q : Nat) u, C[q]? = some u -> u.oneCell' = true) /\ (∀ q, q < n * 4 -> C[off + q]? = cs[q]?) /\ vb ≠ b)
  (hi : i <= n) (hm : 0 < m) (hbig : (n + m) * 88 <= 140737488355328) (hcl : cs.length = n * 4) (hvl : vs.length = m * 4) (hvb : ∃ C2 t2, w.heap[vb]? = some (.cells C2 t2 (0, 0)) /\ ∀ q, q < m * 4 -> C2[voff + q]? = vs[q]?) (h1c : ∀ u ∈ cs, u.oneCell' = true) (h1v : ∀ u ∈ vs, u.oneCell' = true) :
  Calls Tryz.prog 118 #[y, .int .i64 i, .slice (some ⟨vb, voff, none⟩) m vc] w (Inserted w old 4 (n + m) (cs.take (i * 4) ++ vs ++ cs.drop (i * 4))) := by
 obtain ⟨C2, t2, hC2, hvs⟩ := hvb
 have hvcell : ∀ j v, vs[j]? = some v -> w.cell? ⟨vb, voff + j, none⟩ = some v := fun j v h => by
  rw [cell_at hC2, hvs j (by have := (List.getElem?_eq_some_iff.1 h).1; omega)]; exact h
 have hz5 : d149.zero.cells.size = 4 := by kernel_rfl
 have hz1 : ∀ k, ∀ v ∈ (Builtin.zeroCells d149.zero.cells k).toList, v.oneCell' = true := fun k => zeroCells_one _ (fun v hv => by
  have := Array.all_eq_true_iff_forall_mem.1 (show d149.zero.cells.all Value.oneCell' = true by kernel_rfl) v hv
  exact this) _
 have hzn : ∀ k, (Builtin.zeroCells d149.zero.cells k).size = k * 4 := fun k => by rw [size_zeroCells, hz5]
 rcases hold with ⟨ho, h0, hc, ad, rfl⟩ | ⟨b, off, C, t, ho, rfl, hnc, hC, hCs, h1C, hcs, hne⟩
 ·subst h0; subst hc
  obtain rfl : i = 0 := by omega
  have hcs0 : cs = [] := List.length_eq_zero_iff.1 (by omega)
  subst hcs0
  refine (ins_end_grow_slices_Insert_Limpl_Cell_impl_Cell_mobo ad 0 0 vb voff m vc [] vs w hm (Nat.le_refl _) (by omega) hbig hcl hvl (fun _ => rfl) (fun a _ j v h => by simp at h) hvcell h1v).mono ?_
  rintro e w' ⟨rfl, rfl⟩
  exact ins_post_endgrow hcl hvl h1v h1c (grownCap_ge _ _ _ _) (hzn _) (hz1 _)
 ·subst ho
  have hccell : ∀ j v, cs[j]? = some v -> w.cell? ⟨b, off + j, none⟩ = some v := fun j v h => by
   rw [cell_at hC, hcs j (by have := (List.getElem?_eq_some_iff.1 h).1; omega)]; exact h
  by_cases hroom : n + m <= cap
  ·have hsp : ∀ j, j < (n + m) * 4 -> (w.cell? ⟨b, off + j, none⟩).isSome = true := fun j hj => by
    rw [cell_at hC, Array.getElem?_eq_getElem (by omega)]; rfl
   by_cases hin : i = n
   ·subst hin
    refine (ins_end_room_slices_Insert_Limpl_Cell_impl_Cell_mobo b off i cap vb voff m vc vs w hm hroom (by omega) hvl (fun j hj => by rw [Nat.add_assoc]; exact hsp _ (by omega)) (fun j hj => frozen_of hC _) hvcell h1v).mono ?_
    rintro e w' ⟨rfl, rfl⟩
    exact ins_post_end hC hCs h1C hcs hcl hvl h1v hroom
   ·refine (ins_shift_slices_Insert_Limpl_Cell_impl_Cell_mobo b off n cap i vb voff m vc cs vs w (by omega) hm hroom (by omega) hne hcl hvl hccell hsp (fun j hj => frozen_of hC _) hvcell h1c h1v t2 t C2.size C.size (by simp [World.shape?, hC2]) (by simp [World.shape?, hC]) (by omega) (frozen_of hC2 _) (frozen_of hC2 _)).mono ?_
    rintro e w' ⟨rfl, rfl⟩
    exact ins_post_shift hC hCs h1C hcs hcl hvl h1v h1c hi hroom
  ·by_cases hin : i = n
   ·subst hin
    refine (ins_end_grow_slices_Insert_Limpl_Cell_impl_Cell_mobo (some ⟨b, off, none⟩) i cap vb voff m vc cs vs w hm hnc (by omega) hbig hcl hvl (fun h => by cases h) (fun a h j v hv => by injection h with h; subst h; rw [Addr.add_lit]; exact hccell j v hv) hvcell h1v).mono ?_
    rintro e w' ⟨rfl, rfl⟩
    exact ins_post_endgrow hcl hvl h1v h1c (grownCap_ge _ _ _ _) (hzn _) (hz1 _)
   ·refine (ins_grow_slices_Insert_Limpl_Cell_impl_Cell_mobo b off n cap i vb voff m vc cs vs w (by omega) hm hnc (by omega) hbig hcl hvl hccell hvcell h1c h1v).mono ?_
    rintro e w' ⟨rfl, rfl⟩
    exact ins_post_grow hcl hvl h1v h1c hi (grownCap_ge _ _ _ _) (hzn _) (hzn _) (hz1 _) (hz1 _)
end
/-- slices.Insert[[]loop.example/g00890/impl.Cell,loop.example/g00890/impl.Cell] -/
def Fq33 (a0 : List TC) (a1 : Int) (a2 : List TC) : Option (List TC) :=
 if 0 <= a1 /\ a1 <= (a0.length : Int) /\ 0 < a2.length /\ (a0.length + a2.length) * 88 <= 140737488355328 then some (a0.take a1.toNat ++ a2 ++ a0.drop a1.toNat) else none
theorem runq33 (a0 : List TC) (a1 : Int) (a2 : List TC) (r : List TC) (h : Fq33 a0 a1 a2 = some r) : Fun Tryz.prog 118 [.c (.os 5 0 (len a0)), .c (wi a1), .c (.os 7 0 (len a2))] [(5, .arr .rw [] (len a0) 4 (row gd (oC len gd) a0)), (7, .arr .rw [] (len a2) 4 (row gd (oC len gd) a2))] (.c (.os 64000 0 (len r))) [(64000, .arr .rw [] (len r) 4 (row gd (oC len gd) r))] true := by
 unfold Fq33 at h
 split at h
 ·rename_i h1
  injection h with h
  subst h
  obtain ⟨i, rfl⟩ : ∃ i : Nat, a1 = i := ⟨a1.toNat, by omega⟩
  rw [Int.toNat_natCast]
  have e : len (a0.take i ++ a2 ++ a0.drop i) = len a0 + len a2 := by
   show List.length _ = List.length _ + List.length _
   rw [List.length_append, List.length_append, List.length_take, List.length_drop]; omega
  rw [e]
  exact Fun.insert Tryz.func118 (by kernel_rfl) (by kernel_rfl) 4 88 (fun old y n cap i vb voff m vc cs vs w h1 h2 h3 h4 h5 h6 h7 h8 h9 => calls_slices_Insert_Limpl_Cell_impl_Cell_mobo old y n cap i vb voff m vc cs vs w h1 h2 h3 h4 h5 h6 h7 h8 h9) (len a0) i (len a2) _ _ _ (show i <= a0.length by omega) (show 0 < a2.length by omega) (show (a0.length + a2.length) * 88 <= _ by omega)
   (fun t ht q hq => by
    show oC len gd (gd _ t) q = if t < i then oC len gd (gd a0 t) q else if t < i + a2.length then oC len gd (gd a2 (t - i)) q else oC len gd (gd a0 (t - a2.length)) q
    rw [ins_get a0 a2 i t (by omega)]
    split
    ·rfl
    ·split <;> rfl) (fun t q => rC _ _) (fun t q => rC _ _) (fun t q => fl_oncCell _ _)
 ·cases h

def Lq23_x34 (a0 : TL) (a1 : Int) (a2 : Int) (v1 : Int) (v2 : List TC) (w30 : Int) : (Int × (List TI)) -> Option ((Int × (List TI)) ⊕ (((List TC)))) := fun x34 =>
 letO x34.1 fun v32 =>
 letO x34.2 fun v33 =>
 br (std.lt v32 w30)
 (((
 req (std.inR v32 (len (gd v2 (std.nadd 0 (std.toN v1))).fI)) <|
 some (std.le a1 (gd v33 (std.nadd 0 (std.toN v32))).fc)
 ) : Option (Bool)).bind fun y46 =>
 letO y46 fun w52 =>
 ((
 br w52
 (((
 req (std.inR v32 (len (gd v2 (std.nadd 0 (std.toN v1))).fI)) <|
 req (std.inR v32 (len (gd v2 (std.nadd 0 (std.toN v1))).fI)) <|
 req (len (gd v2 (std.nadd 0 (std.toN v1))).fI = len v33) <|
 letO (List.set v33 (std.nadd 0 (std.toN v32)) (TI.mk (std.add .i64 (gd v33 (std.nadd 0 (std.toN v32))).fc a2) (gd v33 (std.nadd 0 (std.toN v32))).fp (gd v33 (std.nadd 0 (std.toN v32))).fK (gd v33 (std.nadd 0 (std.toN v32))).fR (gd v33 (std.nadd 0 (std.toN v32))).fu (gd v33 (std.nadd 0 (std.toN v32))).fv)) fun l70 =>
 some l70
 ) : Option ((List TI))).bind fun y61 =>
 letO y61 fun w67 =>
 some w67)
 (some v33)
 ) : Option ((List TI))).bind fun y54 =>
 letO y54 fun w60 =>
 some (.inl (std.add .i64 v32 1, w60)))
 (req (len (gd v2 (std.nadd 0 (std.toN v1))).fI = len v33) <|
 req (len a0.fC = len v2) <|
 letO (List.set v2 (std.nadd 0 (std.toN v1)) (TC.mk (gd v2 (std.nadd 0 (std.toN v1))).fN (gd v2 (std.nadd 0 (std.toN v1))).fS (gd v2 (std.nadd 0 (std.toN v1))).fL v33)) fun l74 =>
 some (.inr l74))
def Lq23_x3 (a0 : TL) (a1 : Int) (a2 : Int) : (Int × (List TC)) -> Option ((Int × (List TC)) ⊕ (((List TC)))) := fun x3 =>
 letO x3.1 fun v1 =>
 letO x3.2 fun v2 =>
 br (std.lt v1 (std.ofN (len a0.fC)))
 (((
 req (std.inR v1 (len a0.fC)) <|
 some ((gd v2 (std.nadd 0 (std.toN v1))).fN)
 ) : Option (ByteArray)).bind fun y15 =>
 letO y15 fun w21 =>
 req (std.inR v1 (len a0.fC)) <|
 ((
 some (std.ofN (len (gd v2 (std.nadd 0 (std.toN v1))).fI), 0)
 ) : Option (Int × Int)).bind fun y24 =>
 letO y24.1 fun w30 =>
 letO y24.2 fun w31 =>
 (whileP (σ := Int × (List TI)) (ρ := ((List TC))) (Lq23_x34 a0 a1 a2 v1 v2 w30) (w31, (gd v2 (std.nadd 0 (std.toN v1))).fI)).bind fun y35 =>
 letO y35 fun y35k0 =>
 letO y35k0 fun w77 =>
 some (.inl (std.add .i64 v1 1, w77)))
 (some (.inr v2))
/-- impl.renumber -/
def Fq23 (a0 : TL) (a1 : Int) (a2 : Int) : Option (List TC) :=
 (whileP (σ := Int × (List TC)) (ρ := ((List TC))) (Lq23_x3 a0 a1 a2) (0, a0.fC)).bind fun y4 =>
 letO y4 fun y4k0 =>
 letO y4k0 fun w79 =>
 req (len a0.fC = len w79) <|
 some w79
theorem runq23 (a0 : TL) (a1 : Int) (a2 : Int) (r : List TC) (h : Fq23 a0 a1 a2 = some r) : Fun Tryz.prog 119 [.agg [.os 5 0 (len a0.fC)], .c (wi a1), .c (wi a2)] [(5, .arr .rw [] (len a0.fC) 4 (row gd (oC len gd) a0.fC))] (.tup []) [(5, .arr .rw [] (len r) 4 (row gd (oC len gd) r))] true := by
 refine Fun.of_wp (oneOf [3, 4, 7, 8, 100029]) tok mixed Tryz.func119 (by kernel_rfl) rfl Tryz.ntmps119 rfl ⟨fun i _ j _ k hk => (noref (rC _ _) hk).elim, tv⟩ (fun _ => ⟨(by simp [AV.flat, AV.flat1, AC.flat]), ⟨fun i _ j _ => fl_oncCell _ _, tv⟩⟩) ?_; unfold Fq23 at h; unfold Lq23_x3 at h; unfold Lq23_x34 at h
 generalize hLEN : @len = LEN, hGD : @gd = GD, hA : std = A, hP : Tryz.prog = P at *; cbv
 revert h; refine ln (.exit 0) (fun x => (sp 42 [(1, .c (wi a1)), (2, .c (wi a2)), (10, .c (.os 5 0 (LEN a0.fC))), (11, .c (wi (A.ofN (LEN a0.fC)))), (12, .c (wi x.1))] [(5, .arr .rw [] (LEN a0.fC) 4 (row GD (oC LEN GD) x.2))])) (fun w => (sp 42 [] [(5, .arr .rw [] (LEN a0.fC) 4 (row GD (oC LEN GD) w))])) zb ?_ ?_
 ·rintro ⟨v1, v2⟩ z h K hK hY; replace h := oz (oz h); dsimp only at h; cbv; revert h; refine fk ?_ ?_ <;> intro h <;> cbv
  ·revert h; refine cu (fun y15 => (sp 42 [(1, .c (wi a1)), (2, .c (wi a2)), (7, .c (.ptr 448 0)), (10, .c (.os 5 0 (LEN a0.fC))), (11, .c (wi (A.ofN (LEN a0.fC)))), (12, .c (wi v1))] [(448, .var [ws y15, .os 964 0 (LEN (GD v2 (A.nadd 0 (A.toN v1))).fS), .os 966 0 (LEN (GD v2 (A.nadd 0 (A.toN v1))).fL), .os 968 0 (LEN (GD v2 (A.nadd 0 (A.toN v1))).fI)]), (5, .arr .rw [964, 966, 968] (LEN a0.fC) 4 (pC (row GD (oC LEN GD) v2) (A.nadd 0 (A.toN v1)) [ws (GD v2 (A.nadd 0 (A.toN v1))).fN, .os 964 0 (LEN (GD v2 (A.nadd 0 (A.toN v1))).fS), .os 966 0 (LEN (GD v2 (A.nadd 0 (A.toN v1))).fL), .os 968 0 (LEN (GD v2 (A.nadd 0 (A.toN v1))).fI)])), (964, .arr .rw [] (LEN (GD v2 (A.nadd 0 (A.toN v1))).fS) 5 (row GD (eS) (GD v2 (A.nadd 0 (A.toN v1))).fS)), (966, .arr .rw [] (LEN (GD v2 (A.nadd 0 (A.toN v1))).fL) 4 (row GD (eL) (GD v2 (A.nadd 0 (A.toN v1))).fL)), (968, .arr .rw [] (LEN (GD v2 (A.nadd 0 (A.toN v1))).fI) 8 (row GD (eI) (GD v2 (A.nadd 0 (A.toN v1))).fI))])) ?_ fun w21 => rz fun h => ?_
   ·intro y15 S hS h; cbv; revert h; refine ra fun c22 h => ?_; refine ai c22 ?_
    refine ⟨_, rfl, _, (pC (row GD (oC LEN GD) v2) (A.nadd 0 (A.toN v1)) [ws (GD v2 (A.nadd 0 (A.toN v1))).fN, .os 964 0 (LEN (GD v2 (A.nadd 0 (A.toN v1))).fS), .os 966 0 (LEN (GD v2 (A.nadd 0 (A.toN v1))).fL), .os 968 0 (LEN (GD v2 (A.nadd 0 (A.toN v1))).fI)]), rfl, wkOf (patch_of zr), ?_⟩
    refine ⟨_, row GD (eS) (GD v2 (A.nadd 0 (A.toN v1))).fS, rfl, wkOf (fun i _ j _ => plain_cp (pl_encShape _ _)), ?_⟩; refine ⟨_, row GD (eL) (GD v2 (A.nadd 0 (A.toN v1))).fL, rfl, wkOf (fun i _ j _ => plain_cp (pl_encLabel _ _)), ?_⟩; refine ⟨_, row GD (eI) (GD v2 (A.nadd 0 (A.toN v1))).fI, rfl, wkOf (fun i _ j _ => plain_cp (pl_encInstance _ _)), ?_⟩; cbv
    exact dn
   revert h; refine rq fun c23 h => ?_; cbv
   revert h; refine cu (fun y24 => (sp 42 [(1, .c (wi a1)), (2, .c (wi a2)), (7, .c (.ptr 448 0)), (10, .c (.os 5 0 (LEN a0.fC))), (11, .c (wi (A.ofN (LEN a0.fC)))), (12, .c (wi v1)), (18, .c (wi y24.1)), (19, .c (wi y24.2))] [(448, .var [ws w21, .os 964 0 (LEN (GD v2 (A.nadd 0 (A.toN v1))).fS), .os 966 0 (LEN (GD v2 (A.nadd 0 (A.toN v1))).fL), .os 968 0 (LEN (GD v2 (A.nadd 0 (A.toN v1))).fI)]), (5, .arr .rw [964, 966, 968] (LEN a0.fC) 4 (pC (row GD (oC LEN GD) v2) (A.nadd 0 (A.toN v1)) [ws (GD v2 (A.nadd 0 (A.toN v1))).fN, .os 964 0 (LEN (GD v2 (A.nadd 0 (A.toN v1))).fS), .os 966 0 (LEN (GD v2 (A.nadd 0 (A.toN v1))).fL), .os 968 0 (LEN (GD v2 (A.nadd 0 (A.toN v1))).fI)])), (964, .arr .rw [] (LEN (GD v2 (A.nadd 0 (A.toN v1))).fS) 5 (row GD (eS) (GD v2 (A.nadd 0 (A.toN v1))).fS)), (966, .arr .rw [] (LEN (GD v2 (A.nadd 0 (A.toN v1))).fL) 4 (row GD (eL) (GD v2 (A.nadd 0 (A.toN v1))).fL)), (968, .arr .rw [] (LEN (GD v2 (A.nadd 0 (A.toN v1))).fI) 8 (row GD (eI) (GD v2 (A.nadd 0 (A.toN v1))).fI))])) (fun y24 S hS h => rg) ?_
   rintro ⟨w30, w31⟩ h; replace h := oz (oz h); dsimp only at h; cbv
   revert h; refine ln (.exit 2) (fun x => (sp 42 [(1, .c (wi a1)), (2, .c (wi a2)), (7, .c (.ptr 448 0)), (10, .c (.os 5 0 (LEN a0.fC))), (11, .c (wi (A.ofN (LEN a0.fC)))), (12, .c (wi v1)), (18, .c (wi w30)), (19, .c (wi x.1))] [(448, .var [ws w21, .os 964 0 (LEN (GD v2 (A.nadd 0 (A.toN v1))).fS), .os 966 0 (LEN (GD v2 (A.nadd 0 (A.toN v1))).fL), .os 968 0 (LEN (GD v2 (A.nadd 0 (A.toN v1))).fI)]), (5, .arr .rw [964, 966, 968] (LEN a0.fC) 4 (pC (row GD (oC LEN GD) v2) (A.nadd 0 (A.toN v1)) [ws (GD v2 (A.nadd 0 (A.toN v1))).fN, .os 964 0 (LEN (GD v2 (A.nadd 0 (A.toN v1))).fS), .os 966 0 (LEN (GD v2 (A.nadd 0 (A.toN v1))).fL), .os 968 0 (LEN (GD v2 (A.nadd 0 (A.toN v1))).fI)])), (964, .arr .rw [] (LEN (GD v2 (A.nadd 0 (A.toN v1))).fS) 5 (row GD (eS) (GD v2 (A.nadd 0 (A.toN v1))).fS)), (966, .arr .rw [] (LEN (GD v2 (A.nadd 0 (A.toN v1))).fL) 4 (row GD (eL) (GD v2 (A.nadd 0 (A.toN v1))).fL)), (968, .arr .rw [] (LEN (GD v2 (A.nadd 0 (A.toN v1))).fI) 8 (row GD (eI) x.2))])) (fun w => (sp 42 [(1, .c (wi a1)), (2, .c (wi a2)), (10, .c (.os 5 0 (LEN a0.fC))), (11, .c (wi (A.ofN (LEN a0.fC)))), (12, .c (wi v1))] [(5, .arr .rw [] (LEN a0.fC) 4 (row GD (oC LEN GD) w))])) zb ?_ ?_
   ·rintro ⟨v32, v33⟩ z h K hK hY; replace h := oz (oz h); dsimp only at h; cbv; revert h; refine fk ?_ ?_ <;> intro h <;> cbv
    ·revert h; refine cu (fun y46 => (sp 42 [(1, .c (wi a1)), (2, .c (wi a2)), (7, .c (.ptr 448 0)), (8, .c (wi v32)), (10, .c (.os 5 0 (LEN a0.fC))), (11, .c (wi (A.ofN (LEN a0.fC)))), (12, .c (wi v1)), (18, .c (wi w30)), (19, .c (wi v32)), (29, .c (.v (.bool y46)))] [(448, .var [ws w21, .os 964 0 (LEN (GD v2 (A.nadd 0 (A.toN v1))).fS), .os 966 0 (LEN (GD v2 (A.nadd 0 (A.toN v1))).fL), .os 968 0 (LEN (GD v2 (A.nadd 0 (A.toN v1))).fI)]), (5, .arr .rw [964, 966, 968] (LEN a0.fC) 4 (pC (row GD (oC LEN GD) v2) (A.nadd 0 (A.toN v1)) [ws (GD v2 (A.nadd 0 (A.toN v1))).fN, .os 964 0 (LEN (GD v2 (A.nadd 0 (A.toN v1))).fS), .os 966 0 (LEN (GD v2 (A.nadd 0 (A.toN v1))).fL), .os 968 0 (LEN (GD v2 (A.nadd 0 (A.toN v1))).fI)])), (964, .arr .rw [] (LEN (GD v2 (A.nadd 0 (A.toN v1))).fS) 5 (row GD (eS) (GD v2 (A.nadd 0 (A.toN v1))).fS)), (966, .arr .rw [] (LEN (GD v2 (A.nadd 0 (A.toN v1))).fL) 4 (row GD (eL) (GD v2 (A.nadd 0 (A.toN v1))).fL)), (968, .arr .rw [] (LEN (GD v2 (A.nadd 0 (A.toN v1))).fI) 8 (row GD (eI) v33))])) ?_ fun w52 => rz fun h => ?_
     ·intro y46 S hS h; cbv; revert h; refine ra fun c53 h => ?_; refine ai c53 ?_; exact dn
     cbv
     revert h; refine cu (fun y54 => some (sp 42 [(1, .c (wi a1)), (2, .c (wi a2)), (7, .c (.ptr 448 0)), (10, .c (.os 5 0 (LEN a0.fC))), (11, .c (wi (A.ofN (LEN a0.fC)))), (12, .c (wi v1)), (18, .c (wi w30)), (19, .c (wi v32))] [(448, .var [ws w21, .os 964 0 (LEN (GD v2 (A.nadd 0 (A.toN v1))).fS), .os 966 0 (LEN (GD v2 (A.nadd 0 (A.toN v1))).fL), .os 968 0 (LEN (GD v2 (A.nadd 0 (A.toN v1))).fI)]), (5, .arr .rw [964, 966, 968] (LEN a0.fC) 4 (pC (row GD (oC LEN GD) v2) (A.nadd 0 (A.toN v1)) [ws (GD v2 (A.nadd 0 (A.toN v1))).fN, .os 964 0 (LEN (GD v2 (A.nadd 0 (A.toN v1))).fS), .os 966 0 (LEN (GD v2 (A.nadd 0 (A.toN v1))).fL), .os 968 0 (LEN (GD v2 (A.nadd 0 (A.toN v1))).fI)])), (964, .arr .rw [] (LEN (GD v2 (A.nadd 0 (A.toN v1))).fS) 5 (row GD (eS) (GD v2 (A.nadd 0 (A.toN v1))).fS)), (966, .arr .rw [] (LEN (GD v2 (A.nadd 0 (A.toN v1))).fL) 4 (row GD (eL) (GD v2 (A.nadd 0 (A.toN v1))).fL)), (968, .arr .rw [] (LEN (GD v2 (A.nadd 0 (A.toN v1))).fI) 8 (row GD (eI) y54))])) ?_ fun w60 => rz fun h => ?_
     ·intro y54 S hS h; cbv; revert h; refine fk ?_ ?_ <;> intro h <;> cbv
      ·revert h; refine cu (fun y61 => (sp 42 [(1, .c (wi a1)), (2, .c (wi a2)), (7, .c (.ptr 448 0)), (10, .c (.os 5 0 (LEN a0.fC))), (11, .c (wi (A.ofN (LEN a0.fC)))), (12, .c (wi v1)), (18, .c (wi w30)), (19, .c (wi v32))] [(448, .var [ws w21, .os 964 0 (LEN (GD v2 (A.nadd 0 (A.toN v1))).fS), .os 966 0 (LEN (GD v2 (A.nadd 0 (A.toN v1))).fL), .os 968 0 (LEN (GD v2 (A.nadd 0 (A.toN v1))).fI)]), (5, .arr .rw [964, 966, 968] (LEN a0.fC) 4 (pC (row GD (oC LEN GD) v2) (A.nadd 0 (A.toN v1)) [ws (GD v2 (A.nadd 0 (A.toN v1))).fN, .os 964 0 (LEN (GD v2 (A.nadd 0 (A.toN v1))).fS), .os 966 0 (LEN (GD v2 (A.nadd 0 (A.toN v1))).fL), .os 968 0 (LEN (GD v2 (A.nadd 0 (A.toN v1))).fI)])), (964, .arr .rw [] (LEN (GD v2 (A.nadd 0 (A.toN v1))).fS) 5 (row GD (eS) (GD v2 (A.nadd 0 (A.toN v1))).fS)), (966, .arr .rw [] (LEN (GD v2 (A.nadd 0 (A.toN v1))).fL) 4 (row GD (eL) (GD v2 (A.nadd 0 (A.toN v1))).fL)), (968, .arr .rw [] (LEN (GD v2 (A.nadd 0 (A.toN v1))).fI) 8 (row GD (eI) y61))])) ?_ fun w67 => rz fun h => ?_
       ·intro y61 S hS h; cbv; revert h; refine ra fun c68 h => ?_; refine ai c68 ?_; revert h; refine ra fun c69 h => ?_; revert h; refine rq fun c71 => rl fun l70 hl70 h => ?_; refine ai c69 ?_; refine ⟨_, rfl, _, row GD (eI) l70, rfl, wkOf ?_, ?_⟩
        ·subst hGD hLEN hA; rw [c71] at c69; refine upd_set hl70 (ix c69) ?_ ?_
         ·intro b hb hh
          match b, hb, hh with | 0, _, hh => exact rfl | 1, _, hh => exact (absurd hh (nd rfl)) | 2, _, hh => exact (absurd hh (nd rfl)) | 3, _, hh => exact (absurd hh (nd rfl)) | 4, _, hh => exact (absurd hh (nd rfl)) | 5, _, hh => exact (absurd hh (nd rfl)) | 6, _, hh => exact (absurd hh (nd rfl)) | 7, _, hh => exact (absurd hh (nd rfl)) | (b_ + 8), h_, _ => omega
         ·intro b hb hh; match b, hb, hh with | 0, _, hh => exact (hh (yd rfl)).elim | 1, _, hh => exact rfl | 2, _, hh => exact rfl | 3, _, hh => exact rfl | 4, _, hh => exact rfl | 5, _, hh => exact rfl | 6, _, hh => exact rfl | 7, _, hh => exact rfl | (b_ + 8), h_, _ => omega
        cbv; exact dn
       cbv; exact dn
      exact dn
     cbv; exact dm
    revert h; refine rq fun c73 => rq fun c75 => rl fun l74 hl74 h => ?_; injection h with h; refine hY _ h.symm _ ?_; refine St.le_trans (le_foldP 5 1 964 rfl rfl rfl (by decide) (by subst hA; exact ix c23) (by decide) rfl (fun _ _ => rC _ _)) ?_; refine St.le_trans (le_foldP 5 2 966 rfl rfl rfl (by decide) (by subst hA; exact ix c23) (by decide) rfl (fun _ _ => rC _ _)) ?_
    refine St.le_trans (le_foldP 5 3 968 rfl rfl rfl (by decide) (by subst hA; exact ix c23) (by decide) rfl (fun _ _ => rC _ _)) ?_
    exact lsp rfl zl ⟨⟨fun hw => hw, fun c hc => (by cases hc), .inr (fun i _ j _ z hz => (noref (rC _ _) hz).elim), rfl, rfl, (by subst hGD hLEN hA; exact patch_set hl74 (ix (by rw [<- c75]; exact c23)) (by intro j hj; match j, hj with | 0, _ => rfl | 1, _ => rfl | 2, _ => rfl | 3, _ => exact (by first | rfl | exact congrArg (fun n => AC.ow n _ _) (Eq.symm (by assumption)) | exact congrArg (fun n => AC.ow n _ _) (by assumption)) | (j_ + 4), h_ => omega))⟩, tv⟩ rfl
   intro w77 h s q43; replace h := oz (oz h); cbv; refine ⟨_, q43, ?_⟩; cbv; exact dm
  exact dx
 intro w79 h s q12; replace h := oz (oz h); cbv; refine ⟨_, q12, ?_⟩; cbv; revert h; refine rq fun c80 h => ?_; injection h with h; subst h; refine ⟨(sp 42 [] [(5, .arr .rw [] (LEN w79) 4 (row GD (oC LEN GD) w79))]), ?_, ?_⟩
 ·rw [c80]; exact zb
 ·exact ⟨lR _, ⟨oS, tv⟩, rfl⟩
end
end Go.Proofs.YtohgghncmkiicaaGreat.AM
