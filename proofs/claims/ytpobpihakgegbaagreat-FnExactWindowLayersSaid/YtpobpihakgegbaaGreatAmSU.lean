/-
  What the functions that the law reaches compute, and that they do. No condition.
-/
import Derived.Test.YtpobpihakgegbaaGreatAmSW
namespace Go.Proofs.YtpobpihakgegbaaGreat.AM
open Go Go.Proofs Go.RowKit
set_option linter.unusedVariables false
set_option linter.unusedSimpArgs false
set_option maxRecDepth 100000

noncomputable def L_slices_IndexFunc_Limpl_Shape_impl_Shape_mbFimpl_validCell_1_x2 (a0 : List TShape) : (Int) → Option ((Int) ⊕ ((Int) ⊕ (Unit))) := fun x2 =>
 letO x2 fun v1 =>
 br (std.lt v1 (std.ofN (len a0)))
 (req (std.inR v1 (len a0)) <|
 (F_impl_validCell_1 (gd a0 (std.toN v1))).bind fun y15 =>
 br y15
 (some (.inr (.inl v1)))
 (some (.inl (std.add .i64 v1 1))))
 (some (.inr (.inr ())))
/-- impl.Shape] -/
noncomputable def F_slices_IndexFunc_Limpl_Shape_impl_Shape_mbFimpl_validCell_1 (a0 : List TShape) : Option (Int) :=
 (whileP (σ := Int) (ρ := (Int) ⊕ (Unit)) (L_slices_IndexFunc_Limpl_Shape_impl_Shape_mbFimpl_validCell_1_x2 a0) 0).bind fun y3 =>
 (match y3 with
  | .inl y3k0 => (
    letO y3k0 fun w19 =>
    some w19)
  | .inr y3m0 =>
    some (-1))
set_option maxHeartbeats 4000000 in
theorem run_slices_IndexFunc_Limpl_Shape_impl_Shape_mbFimpl_validCell_1 (a0 : List TShape) (r : Int) (h : F_slices_IndexFunc_Limpl_Shape_impl_Shape_mbFimpl_validCell_1 a0 = some r) : Fun Tryz.prog 117 [.c (.bs (len a0) 5 (row gd (encShape) a0)), .c (.fn 93 0 fun _ => .junk)] [] (.c (.v (.int .i64 r))) [] true := by
 refine ow [] Tryz.func117 Tryz.ntmps117 ?_; unfold F_slices_IndexFunc_Limpl_Shape_impl_Shape_mbFimpl_validCell_1 at h; unfold L_slices_IndexFunc_Limpl_Shape_impl_Shape_mbFimpl_validCell_1_x2 at h; have hf_impl_validCell_1 := @run_impl_validCell_1; generalize hLEN : @len = LEN, hGD : @gd = GD, hA : std = A, hP : Tryz.prog = P at *; cbv
 revert h; refine lc (fun x => (sparse 19 [(0, .c (.bs (LEN a0) 5 (row GD (encShape) a0))), (1, .c (.fn 93 0 fun _ => .junk)), (7, .c (.v (.int .i64 (A.ofN (LEN a0))))), (8, .c (.v (.int .i64 x)))] [])) (fun y e s => (match y with | .inl w => e = .ret ∧ s.le (sparse 19 [(4, .c (.v (.int .i64 w)))] []) | .inr w0 => (fun (w : Unit) => e = .exit 0 ∧ s.le (sparse 19 [] [])) w0)) zb ?_ ?_
 ·intro v1 z h K hK hY; replace h := oz h; cbv; revert h; refine fk ?_ ?_ <;> intro h <;> cbv
  ·revert h; refine ra fun c14 h => ?_; revert h; refine rk0 (hf_impl_validCell_1 _) fun y15 h => ?_; cbv; revert h; refine fk ?_ ?_ <;> intro h <;> cbv
   ·exact dy
   exact dm
  exact dy
 intro y3 h e12 s13 q11 hne; rcases y3 with y3k0 | y3m0
 ·replace h := h; obtain ⟨rfl, q11⟩ := q11; revert h; refine rz fun h => ?_; cbv; injection h with h; subst h; exact ⟨_, q11, lR _, zo, rfl⟩
 ·obtain ⟨rfl, q11⟩ := q11; cbv; refine ⟨_, q11, ?_⟩; cbv; exact df

/-- impl.Shape] -/
noncomputable def F_slices_ContainsFunc_Limpl_Shape_impl_Shape_mbFimpl_validCell_1 (a0 : List TShape) : Option (Bool) :=
 (F_slices_IndexFunc_Limpl_Shape_impl_Shape_mbFimpl_validCell_1 a0).bind fun y1 =>
 some (std.le 0 y1)
set_option maxHeartbeats 4000000 in
theorem run_slices_ContainsFunc_Limpl_Shape_impl_Shape_mbFimpl_validCell_1 (a0 : List TShape) (r : Bool) (h : F_slices_ContainsFunc_Limpl_Shape_impl_Shape_mbFimpl_validCell_1 a0 = some r) : Fun Tryz.prog 92 [.c (.bs (len a0) 5 (row gd (encShape) a0)), .c (.fn 93 0 fun _ => .junk)] [] (.c (.v (.bool r))) [] true := by
 refine ow [] Tryz.func92 Tryz.ntmps92 ?_; unfold F_slices_ContainsFunc_Limpl_Shape_impl_Shape_mbFimpl_validCell_1 at h; have hf_slices_IndexFunc_Limpl_Shape_impl_Shape_mbFimpl_validCell_1 := @run_slices_IndexFunc_Limpl_Shape_impl_Shape_mbFimpl_validCell_1; generalize hLEN : @len = LEN, hGD : @gd = GD, hA : std = A, hP : Tryz.prog = P at *; cbv
 revert h; refine rk0 (hf_slices_IndexFunc_Limpl_Shape_impl_Shape_mbFimpl_validCell_1 _) fun y1 h => ?_; cbv; exact df

/-- impl.isUnitCell -/
noncomputable def F_impl_isUnitCell (a0 : TPoint) : Option (Bool) :=
 ((
    (F_impl_within a0.fX (-40) 39).bind fun y8 =>
    br y8
    ((F_impl_within a0.fY (-40) 39).bind fun y10 =>
    some y10)
    (some false)
  ) : Option (Bool)).bind fun y1 =>
 letO y1 fun w7 =>
 some w7
set_option maxHeartbeats 4000000 in
theorem run_impl_isUnitCell (a0 : TPoint) (r : Bool) (h : F_impl_isUnitCell a0 = some r) : Fun Tryz.prog 119 [.agg [.v (.int .i64 a0.fX), .v (.int .i64 a0.fY)]] [] (.c (.v (.bool r))) [] true := by
 refine ow [1] Tryz.func119 Tryz.ntmps119 ?_; unfold F_impl_isUnitCell at h; have hf_impl_within := @run_impl_within; generalize hLEN : @len = LEN, hGD : @gd = GD, hA : std = A, hP : Tryz.prog = P at *; cbv; revert h; refine cu (fun y1 => (sparse 11 [(2, .c (.v (.bool y1)))] [])) ?_ fun w7 => rz fun h => ?_
 ·intro y1 S hS h; cbv; revert h; refine rk0 (hf_impl_within _ _ _) fun y8 h => ?_; cbv; revert h; refine fk ?_ ?_ <;> intro h <;> cbv
  ·revert h; refine rk0 (hf_impl_within _ _ _) fun y10 h => ?_; cbv; exact dn
  exact dn
 cbv; exact df

/-- impl.validLabel -/
noncomputable def F_impl_validLabel (a0 : TLabel) : Option (Bool) :=
 ((
    (F_impl_within a0.fLayer 0 7).bind fun y8 =>
    br y8
    ((F_impl_isUnitCell a0.fAt).bind fun y10 =>
    br y10
    ((F_impl_IsName a0.fName).bind fun y12 =>
    some y12)
    (some false))
    (some false)
  ) : Option (Bool)).bind fun y1 =>
 letO y1 fun w7 =>
 some w7
set_option maxHeartbeats 4000000 in
theorem run_impl_validLabel (a0 : TLabel) (r : Bool) (h : F_impl_validLabel a0 = some r) : Fun Tryz.prog 97 [.agg [.v (.int .i64 a0.fLayer), .v (.int .i64 a0.fAt.fX), .v (.int .i64 a0.fAt.fY), .v (.string a0.fName)]] [] (.c (.v (.bool r))) [] true := by
 refine ow [1] Tryz.func97 Tryz.ntmps97 ?_; unfold F_impl_validLabel at h; have hf_impl_IsName := @run_impl_IsName; have hf_impl_isUnitCell := @run_impl_isUnitCell; have hf_impl_within := @run_impl_within; generalize hLEN : @len = LEN, hGD : @gd = GD, hA : std = A, hP : Tryz.prog = P at *; cbv; revert h; refine cu (fun y1 => (sparse 16 [(2, .c (.v (.bool y1)))] [])) ?_ fun w7 => rz fun h => ?_
 ·intro y1 S hS h; cbv; revert h; refine rk0 (hf_impl_within _ _ _) fun y8 h => ?_; cbv; revert h; refine fk ?_ ?_ <;> intro h <;> cbv
  ·revert h; refine rk0 (hf_impl_isUnitCell _) fun y10 h => ?_; cbv; revert h; refine fk ?_ ?_ <;> intro h <;> cbv
   ·revert h; refine rk0 (hf_impl_IsName _) fun y12 h => ?_; cbv; exact dn
   exact dn
  exact dn
 cbv; exact df

/-- impl.validCell$2 -/
noncomputable def F_impl_validCell_2 (a0 : TLabel) : Option (Bool) :=
 (F_impl_validLabel (TLabel.mk a0.fLayer a0.fAt a0.fName)).bind fun y1 =>
 some (!(y1))
set_option maxHeartbeats 4000000 in
theorem run_impl_validCell_2 (a0 : TLabel) (r : Bool) (h : F_impl_validCell_2 a0 = some r) : Fun Tryz.prog 96 [.agg [.v (.int .i64 a0.fLayer), .v (.int .i64 a0.fAt.fX), .v (.int .i64 a0.fAt.fY), .v (.string a0.fName)]] [] (.c (.v (.bool r))) [] true := by
 refine ow [] Tryz.func96 Tryz.ntmps96 ?_; unfold F_impl_validCell_2 at h; have hf_impl_validLabel := @run_impl_validLabel; generalize hLEN : @len = LEN, hGD : @gd = GD, hA : std = A, hP : Tryz.prog = P at *; cbv; revert h; refine rk0 (hf_impl_validLabel _) fun y1 h => ?_; cbv; exact df

noncomputable def L_slices_IndexFunc_Limpl_Label_impl_Label_mbFimpl_validCell_2_x2 (a0 : List TLabel) : (Int) → Option ((Int) ⊕ ((Int) ⊕ (Unit))) := fun x2 =>
 letO x2 fun v1 =>
 br (std.lt v1 (std.ofN (len a0)))
 (req (std.inR v1 (len a0)) <|
 (F_impl_validCell_2 (gd a0 (std.toN v1))).bind fun y15 =>
 br y15
 (some (.inr (.inl v1)))
 (some (.inl (std.add .i64 v1 1))))
 (some (.inr (.inr ())))
/-- impl.Label] -/
noncomputable def F_slices_IndexFunc_Limpl_Label_impl_Label_mbFimpl_validCell_2 (a0 : List TLabel) : Option (Int) :=
 (whileP (σ := Int) (ρ := (Int) ⊕ (Unit)) (L_slices_IndexFunc_Limpl_Label_impl_Label_mbFimpl_validCell_2_x2 a0) 0).bind fun y3 =>
 (match y3 with
  | .inl y3k0 => (
    letO y3k0 fun w19 =>
    some w19)
  | .inr y3m0 =>
    some (-1))
set_option maxHeartbeats 4000000 in
theorem run_slices_IndexFunc_Limpl_Label_impl_Label_mbFimpl_validCell_2 (a0 : List TLabel) (r : Int) (h : F_slices_IndexFunc_Limpl_Label_impl_Label_mbFimpl_validCell_2 a0 = some r) : Fun Tryz.prog 118 [.c (.bs (len a0) 4 (row gd (encLabel) a0)), .c (.fn 96 0 fun _ => .junk)] [] (.c (.v (.int .i64 r))) [] true := by
 refine ow [] Tryz.func118 Tryz.ntmps118 ?_; unfold F_slices_IndexFunc_Limpl_Label_impl_Label_mbFimpl_validCell_2 at h; unfold L_slices_IndexFunc_Limpl_Label_impl_Label_mbFimpl_validCell_2_x2 at h; have hf_impl_validCell_2 := @run_impl_validCell_2; generalize hLEN : @len = LEN, hGD : @gd = GD, hA : std = A, hP : Tryz.prog = P at *; cbv
 revert h; refine lc (fun x => (sparse 19 [(0, .c (.bs (LEN a0) 4 (row GD (encLabel) a0))), (1, .c (.fn 96 0 fun _ => .junk)), (7, .c (.v (.int .i64 (A.ofN (LEN a0))))), (8, .c (.v (.int .i64 x)))] [])) (fun y e s => (match y with | .inl w => e = .ret ∧ s.le (sparse 19 [(4, .c (.v (.int .i64 w)))] []) | .inr w0 => (fun (w : Unit) => e = .exit 0 ∧ s.le (sparse 19 [] [])) w0)) zb ?_ ?_
 ·intro v1 z h K hK hY; replace h := oz h; cbv; revert h; refine fk ?_ ?_ <;> intro h <;> cbv
  ·revert h; refine ra fun c14 h => ?_; revert h; refine rk0 (hf_impl_validCell_2 _) fun y15 h => ?_; cbv; revert h; refine fk ?_ ?_ <;> intro h <;> cbv
   ·exact dy
   exact dm
  exact dy
 intro y3 h e12 s13 q11 hne; rcases y3 with y3k0 | y3m0
 ·replace h := h; obtain ⟨rfl, q11⟩ := q11; revert h; refine rz fun h => ?_; cbv; injection h with h; subst h; exact ⟨_, q11, lR _, zo, rfl⟩
 ·obtain ⟨rfl, q11⟩ := q11; cbv; refine ⟨_, q11, ?_⟩; cbv; exact df
/-- impl.Label] -/
noncomputable def F_slices_ContainsFunc_Limpl_Label_impl_Label_mbFimpl_validCell_2 (a0 : List TLabel) : Option (Bool) :=
 (F_slices_IndexFunc_Limpl_Label_impl_Label_mbFimpl_validCell_2 a0).bind fun y1 =>
 some (std.le 0 y1)
set_option maxHeartbeats 4000000 in
theorem run_slices_ContainsFunc_Limpl_Label_impl_Label_mbFimpl_validCell_2 (a0 : List TLabel) (r : Bool) (h : F_slices_ContainsFunc_Limpl_Label_impl_Label_mbFimpl_validCell_2 a0 = some r) : Fun Tryz.prog 95 [.c (.bs (len a0) 4 (row gd (encLabel) a0)), .c (.fn 96 0 fun _ => .junk)] [] (.c (.v (.bool r))) [] true := by
 refine ow [] Tryz.func95 Tryz.ntmps95 ?_; unfold F_slices_ContainsFunc_Limpl_Label_impl_Label_mbFimpl_validCell_2 at h; have hf_slices_IndexFunc_Limpl_Label_impl_Label_mbFimpl_validCell_2 := @run_slices_IndexFunc_Limpl_Label_impl_Label_mbFimpl_validCell_2; generalize hLEN : @len = LEN, hGD : @gd = GD, hA : std = A, hP : Tryz.prog = P at *; cbv
 revert h; refine rk0 (hf_slices_IndexFunc_Limpl_Label_impl_Label_mbFimpl_validCell_2 _) fun y1 h => ?_; cbv; exact df

/-- impl.IsValidTransform -/
noncomputable def F_impl_IsValidTransform (a0 : TTransform) : Option (Bool) :=
 ((
    (F_impl_within a0.fOrientation 0 7).bind fun y8 =>
    br y8
    ((F_impl_within a0.fX (-80) 80).bind fun y10 =>
    br y10
    ((F_impl_within a0.fY (-80) 80).bind fun y12 =>
    some y12)
    (some false))
    (some false)
  ) : Option (Bool)).bind fun y1 =>
 letO y1 fun w7 =>
 some w7
set_option maxHeartbeats 4000000 in
theorem run_impl_IsValidTransform (a0 : TTransform) (r : Bool) (h : F_impl_IsValidTransform a0 = some r) : Fun Tryz.prog 121 [.agg [.v (.int .i64 a0.fOrientation), .v (.int .i64 a0.fX), .v (.int .i64 a0.fY)]] [] (.c (.v (.bool r))) [] true := by
 refine ow [1] Tryz.func121 Tryz.ntmps121 ?_; unfold F_impl_IsValidTransform at h; have hf_impl_within := @run_impl_within; generalize hLEN : @len = LEN, hGD : @gd = GD, hA : std = A, hP : Tryz.prog = P at *; cbv; revert h; refine cu (fun y1 => (sparse 16 [(2, .c (.v (.bool y1)))] [])) ?_ fun w7 => rz fun h => ?_
 ·intro y1 S hS h; cbv; revert h; refine rk0 (hf_impl_within _ _ _) fun y8 h => ?_; cbv; revert h; refine fk ?_ ?_ <;> intro h <;> cbv
  ·revert h; refine rk0 (hf_impl_within _ _ _) fun y10 h => ?_; cbv; revert h; refine fk ?_ ?_ <;> intro h <;> cbv
   ·revert h; refine rk0 (hf_impl_within _ _ _) fun y12 h => ?_; cbv; exact dn
   exact dn
  exact dn
 cbv; exact df

/-- impl.validInstance -/
noncomputable def F_impl_validInstance (a0 : TInstance) (a1 : Int) : Option (Bool) :=
 ((
    (F_impl_within a0.fCell 0 (std.sub .i64 a1 1)).bind fun y8 =>
    br y8
    ((F_impl_IsValidTransform a0.fPlace).bind fun y10 =>
    br y10
    ((F_impl_within a0.fColumns 1 4).bind fun y12 =>
    br y12
    ((F_impl_within a0.fRows 1 4).bind fun y14 =>
    br y14
    ((F_impl_within a0.fStepX (-80) 80).bind fun y16 =>
    br y16
    ((F_impl_within a0.fStepY (-80) 80).bind fun y18 =>
    br y18
    (br (std.eq a0.fStepX 0)
    (br (std.eq a0.fStepY 0)
    (some true)
    (some (std.lt 1 a0.fRows)))
    (br (std.lt 1 a0.fColumns)
    (br (std.eq a0.fStepY 0)
    (some true)
    (some (std.lt 1 a0.fRows)))
    (some false)))
    (some false))
    (some false))
    (some false))
    (some false))
    (some false))
    (some false)
  ) : Option (Bool)).bind fun y1 =>
 letO y1 fun w7 =>
 some w7
set_option maxHeartbeats 4000000 in
theorem run_impl_validInstance (a0 : TInstance) (a1 : Int) (r : Bool) (h : F_impl_validInstance a0 a1 = some r) : Fun Tryz.prog 100 [.agg [.v (.int .i64 a0.fCell), .v (.int .i64 a0.fPlace.fOrientation), .v (.int .i64 a0.fPlace.fX), .v (.int .i64 a0.fPlace.fY), .v (.int .i64 a0.fColumns), .v (.int .i64 a0.fRows), .v (.int .i64 a0.fStepX), .v (.int .i64 a0.fStepY)], .c (.v (.int .i64 a1))] [] (.c (.v (.bool r))) [] true := by
 refine ow [1] Tryz.func100 Tryz.ntmps100 ?_; unfold F_impl_validInstance at h; have hf_impl_IsValidTransform := @run_impl_IsValidTransform; have hf_impl_within := @run_impl_within; generalize hLEN : @len = LEN, hGD : @gd = GD, hA : std = A, hP : Tryz.prog = P at *; cbv; revert h; refine cu (fun y1 => (sparse 55 [(4, .c (.v (.bool y1)))] [])) ?_ fun w7 => rz fun h => ?_
 ·intro y1 S hS h; cbv; revert h; refine rk0 (hf_impl_within _ _ _) fun y8 h => ?_; cbv; revert h; refine fk ?_ ?_ <;> intro h <;> cbv
  ·revert h; refine rk0 (hf_impl_IsValidTransform _) fun y10 h => ?_; cbv; revert h; refine fk ?_ ?_ <;> intro h <;> cbv
   ·revert h; refine rk0 (hf_impl_within _ _ _) fun y12 h => ?_; cbv; revert h; refine fk ?_ ?_ <;> intro h <;> cbv
    ·revert h; refine rk0 (hf_impl_within _ _ _) fun y14 h => ?_; cbv; revert h; refine fk ?_ ?_ <;> intro h <;> cbv
     ·revert h; refine rk0 (hf_impl_within _ _ _) fun y16 h => ?_; cbv; revert h; refine fk ?_ ?_ <;> intro h <;> cbv
      ·revert h; refine rk0 (hf_impl_within _ _ _) fun y18 h => ?_; cbv; revert h; refine fk ?_ ?_ <;> intro h <;> cbv
       ·revert h; refine fk ?_ ?_ <;> intro h <;> cbv
        ·revert h; refine fk ?_ ?_ <;> intro h <;> cbv
         ·exact dn
         exact dn
        revert h; refine fk ?_ ?_ <;> intro h <;> cbv
        ·revert h; refine fk ?_ ?_ <;> intro h <;> cbv
         ·exact dn
         exact dn
        exact dn
       exact dn
      exact dn
     exact dn
    exact dn
   exact dn
  exact dn
 cbv; exact df

/-- impl.validCell$3 -/
noncomputable def F_impl_validCell_3_mbp (a0 : TInstance) (a1 : Int) : Option (Bool) :=
 (F_impl_validInstance (TInstance.mk a0.fCell a0.fPlace a0.fColumns a0.fRows a0.fStepX a0.fStepY) a1).bind fun y1 =>
 some (!(y1))
set_option maxHeartbeats 4000000 in
theorem run_impl_validCell_3_mbp (a0 : TInstance) (a1 : Int) (r : Bool) (h : F_impl_validCell_3_mbp a0 a1 = some r) : Fun Tryz.prog 99 [.agg [.v (.int .i64 a0.fCell), .v (.int .i64 a0.fPlace.fOrientation), .v (.int .i64 a0.fPlace.fX), .v (.int .i64 a0.fPlace.fY), .v (.int .i64 a0.fColumns), .v (.int .i64 a0.fRows), .v (.int .i64 a0.fStepX), .v (.int .i64 a0.fStepY)], .c (.bp 1 (encI .i64 a1))] [] (.c (.v (.bool r))) [] true := by
 refine ow [] Tryz.func99 Tryz.ntmps99 ?_; unfold F_impl_validCell_3_mbp at h; have hf_impl_validInstance := @run_impl_validInstance; generalize hLEN : @len = LEN, hGD : @gd = GD, hA : std = A, hP : Tryz.prog = P at *; cbv; revert h; refine rk0 (hf_impl_validInstance _ _) fun y1 h => ?_; cbv; exact df

noncomputable def L_slices_IndexFunc_Limpl_Instance_impl_Instance_mbFimpl_validCell_3p_x2 (a0 : List TInstance) (a1_0 : Int) : (Int) → Option ((Int) ⊕ ((Int) ⊕ (Unit))) := fun x2 =>
 letO x2 fun v1 =>
 br (std.lt v1 (std.ofN (len a0)))
 (req (std.inR v1 (len a0)) <|
 (F_impl_validCell_3_mbp (gd a0 (std.toN v1)) a1_0).bind fun y15 =>
 br y15
 (some (.inr (.inl v1)))
 (some (.inl (std.add .i64 v1 1))))
 (some (.inr (.inr ())))
/-- impl.Instance] -/
noncomputable def F_slices_IndexFunc_Limpl_Instance_impl_Instance_mbFimpl_validCell_3p (a0 : List TInstance) (a1_0 : Int) : Option (Int) :=
 (whileP (σ := Int) (ρ := (Int) ⊕ (Unit)) (L_slices_IndexFunc_Limpl_Instance_impl_Instance_mbFimpl_validCell_3p_x2 a0 a1_0) 0).bind fun y3 =>
 (match y3 with
  | .inl y3k0 => (
    letO y3k0 fun w19 =>
    some w19)
  | .inr y3m0 =>
    some (-1))
set_option maxHeartbeats 4000000 in
theorem run_slices_IndexFunc_Limpl_Instance_impl_Instance_mbFimpl_validCell_3p (a0 : List TInstance) (a1_0 : Int) (r : Int) (h : F_slices_IndexFunc_Limpl_Instance_impl_Instance_mbFimpl_validCell_3p a0 a1_0 = some r) : Fun Tryz.prog 120 [.c (.bs (len a0) 8 (row gd (encInstance) a0)), .c (.fn 99 1 fun j => ([.bp 1 (encI .i64 a1_0)] : List AC).getD j .junk)] [] (.c (.v (.int .i64 r))) [] true := by
 refine ow [] Tryz.func120 Tryz.ntmps120 ?_; unfold F_slices_IndexFunc_Limpl_Instance_impl_Instance_mbFimpl_validCell_3p at h; unfold L_slices_IndexFunc_Limpl_Instance_impl_Instance_mbFimpl_validCell_3p_x2 at h; have hf_impl_validCell_3_mbp := @run_impl_validCell_3_mbp; generalize hLEN : @len = LEN, hGD : @gd = GD, hA : std = A, hP : Tryz.prog = P at *; cbv
 revert h; refine lc (fun x => (sparse 19 [(0, .c (.bs (LEN a0) 8 (row GD (encInstance) a0))), (1, .c (.fn 99 1 fun j => ([.bp 1 (encI .i64 a1_0)] : List AC).getD j .junk)), (7, .c (.v (.int .i64 (A.ofN (LEN a0))))), (8, .c (.v (.int .i64 x)))] [])) (fun y e s => (match y with | .inl w => e = .ret ∧ s.le (sparse 19 [(4, .c (.v (.int .i64 w)))] []) | .inr w0 => (fun (w : Unit) => e = .exit 0 ∧ s.le (sparse 19 [] [])) w0)) zb ?_ ?_
 ·intro v1 z h K hK hY; replace h := oz h; cbv; revert h; refine fk ?_ ?_ <;> intro h <;> cbv
  ·revert h; refine ra fun c14 h => ?_; revert h; refine rk [] [] (hf_impl_validCell_3_mbp _ _) (fun _ => zg (les_cons (lR _) (les_cons (le_bp (show 1 ≤ 1 from by decide) (by intro j hj; match j, hj with | 0, _ => exact rle_refl _ | (j_ + 1), h_ => exact absurd h_ (by omega))) (les_nil)))) fun y15 h => ?_; cbv; revert h; refine fk ?_ ?_ <;> intro h <;> cbv
   ·exact dy
   exact dm
  exact dy
 intro y3 h e12 s13 q11 hne; rcases y3 with y3k0 | y3m0
 ·replace h := h; obtain ⟨rfl, q11⟩ := q11; revert h; refine rz fun h => ?_; cbv; injection h with h; subst h; exact ⟨_, q11, lR _, zo, rfl⟩
 ·obtain ⟨rfl, q11⟩ := q11; cbv; refine ⟨_, q11, ?_⟩; cbv; exact df

/-- impl.Instance] -/
noncomputable def F_slices_ContainsFunc_Limpl_Instance_impl_Instance_mbFimpl_validCell_3p (a0 : List TInstance) (a1_0 : Int) : Option (Bool) :=
 (F_slices_IndexFunc_Limpl_Instance_impl_Instance_mbFimpl_validCell_3p a0 a1_0).bind fun y1 =>
 some (std.le 0 y1)
set_option maxHeartbeats 4000000 in
theorem run_slices_ContainsFunc_Limpl_Instance_impl_Instance_mbFimpl_validCell_3p (a0 : List TInstance) (a1_0 : Int) (r : Bool) (h : F_slices_ContainsFunc_Limpl_Instance_impl_Instance_mbFimpl_validCell_3p a0 a1_0 = some r) : Fun Tryz.prog 98 [.c (.bs (len a0) 8 (row gd (encInstance) a0)), .c (.fn 99 1 fun j => ([.bp 1 (encI .i64 a1_0)] : List AC).getD j .junk)] [] (.c (.v (.bool r))) [] true := by
 refine ow [] Tryz.func98 Tryz.ntmps98 ?_; unfold F_slices_ContainsFunc_Limpl_Instance_impl_Instance_mbFimpl_validCell_3p at h; have hf_slices_IndexFunc_Limpl_Instance_impl_Instance_mbFimpl_validCell_3p := @run_slices_IndexFunc_Limpl_Instance_impl_Instance_mbFimpl_validCell_3p; generalize hLEN : @len = LEN, hGD : @gd = GD, hA : std = A, hP : Tryz.prog = P at *; cbv
 revert h; refine rk [] [] (hf_slices_IndexFunc_Limpl_Instance_impl_Instance_mbFimpl_validCell_3p _ _) (fun _ => zg (les_cons (lR _) (les_cons (le_fn (by intro j hj; match j, hj with | 0, _ => exact le_bp (show 1 ≤ 1 from by decide) (by intro j hj; match j, hj with | 0, _ => exact rle_refl _ | (j_ + 1), h_ => exact absurd h_ (by omega)) | (j_ + 1), h_ => exact absurd h_ (by omega))) (les_nil)))) fun y1 h => ?_
 cbv; exact df
/-- impl.validCell -/
noncomputable def F_impl_validCell (a0 : TCell) (a1 : Int) : Option (Bool) :=
 ((
    (F_impl_IsName a0.fName).bind fun y8 =>
    br (!(y8))
    (some true)
    (br (std.lt 24 (std.ofN (len a0.fShapes)))
    (some true)
    (br (std.lt 8 (std.ofN (len a0.fLabels)))
    (some true)
    (some (std.lt 8 (std.ofN (len a0.fInstances))))))
  ) : Option (Bool)).bind fun y1 =>
 letO y1 fun w7 =>
 br w7
 (some false)
 (((
    (F_slices_ContainsFunc_Limpl_Shape_impl_Shape_mbFimpl_validCell_1 a0.fShapes).bind fun y20 =>
    br (!(y20))
    ((F_slices_ContainsFunc_Limpl_Label_impl_Label_mbFimpl_validCell_2 a0.fLabels).bind fun y22 =>
    br (!(y22))
    ((F_slices_ContainsFunc_Limpl_Instance_impl_Instance_mbFimpl_validCell_3p a0.fInstances a1).bind fun y24 =>
    some (!(y24)))
    (some false))
    (some false)
  ) : Option (Bool)).bind fun y13 =>
 letO y13 fun w19 =>
 some w19)
set_option maxHeartbeats 4000000 in
theorem run_impl_validCell (a0 : TCell) (a1 : Int) (r : Bool) (h : F_impl_validCell a0 a1 = some r) : Fun Tryz.prog 70 [.agg [.v (.string a0.fName), .bs (len a0.fShapes) 5 (row gd (encShape) a0.fShapes), .bs (len a0.fLabels) 4 (row gd (encLabel) a0.fLabels), .bs (len a0.fInstances) 8 (row gd (encInstance) a0.fInstances)], .c (.v (.int .i64 a1))] [] (.c (.v (.bool r))) [] true := by
 refine ow [1, 3] Tryz.func70 Tryz.ntmps70 ?_; unfold F_impl_validCell at h; have hf_impl_IsName := @run_impl_IsName; have hf_slices_ContainsFunc_Limpl_Instance_impl_Instance_mbFimpl_validCell_3p := @run_slices_ContainsFunc_Limpl_Instance_impl_Instance_mbFimpl_validCell_3p
 have hf_slices_ContainsFunc_Limpl_Label_impl_Label_mbFimpl_validCell_2 := @run_slices_ContainsFunc_Limpl_Label_impl_Label_mbFimpl_validCell_2; have hf_slices_ContainsFunc_Limpl_Shape_impl_Shape_mbFimpl_validCell_1 := @run_slices_ContainsFunc_Limpl_Shape_impl_Shape_mbFimpl_validCell_1; generalize hLEN : @len = LEN, hGD : @gd = GD, hA : std = A, hP : Tryz.prog = P at *; cbv
 revert h; refine cu (fun y1 => (sparse 44 [(2, .c (.ptr 128 0)), (3, .c (.ptr 192 0)), (26, .c (.v (.bool y1)))] [(128, .var [.v (.string a0.fName), .bs (LEN a0.fShapes) 5 (row GD (encShape) a0.fShapes), .bs (LEN a0.fLabels) 4 (row GD (encLabel) a0.fLabels), .bs (LEN a0.fInstances) 8 (row GD (encInstance) a0.fInstances)]), (192, .var [.v (.int .i64 a1)])])) ?_ fun w7 => rz fun h => ?_
 ·intro y1 S hS h; cbv; revert h; refine rk0 (hf_impl_IsName _) fun y8 h => ?_; cbv; revert h; refine fk ?_ ?_ <;> intro h <;> cbv
  ·exact dn
  revert h; refine fk ?_ ?_ <;> intro h <;> cbv
  ·exact dn
  revert h; refine fk ?_ ?_ <;> intro h <;> cbv
  ·exact dn
  exact dn
 cbv; revert h; refine fk ?_ ?_ <;> intro h <;> cbv
 ·exact df
 revert h; refine cu (fun y13 => (sparse 44 [(4, .c (.v (.bool y13)))] [])) ?_ fun w19 => rz fun h => ?_
 ·intro y13 S hS h; cbv; revert h; refine rk0 (hf_slices_ContainsFunc_Limpl_Shape_impl_Shape_mbFimpl_validCell_1 _) fun y20 h => ?_; cbv; revert h; refine fk ?_ ?_ <;> intro h <;> cbv
  ·revert h; refine rk0 (hf_slices_ContainsFunc_Limpl_Label_impl_Label_mbFimpl_validCell_2 _) fun y22 h => ?_; cbv; revert h; refine fk ?_ ?_ <;> intro h <;> cbv
   ·revert h; refine rk [] [] (hf_slices_ContainsFunc_Limpl_Instance_impl_Instance_mbFimpl_validCell_3p _ _) (fun _ => zg (les_cons (lR _) (les_cons (le_fn (by intro j hj; match j, hj with | 0, _ => exact le_bp (show 1 ≤ 1 from by decide) (by intro j hj; match j, hj with | 0, _ => exact rle_refl _ | (j_ + 1), h_ => exact absurd h_ (by omega)) | (j_ + 1), h_ => exact absurd h_ (by omega))) (les_nil)))) fun y24 h => ?_
    cbv; exact dn
   exact dn
  exact dn
 cbv; exact df

/-- impl.named$1 -/
noncomputable def F_impl_named_1_mbp (a0 : TCell) (a1 : ByteArray) : Option (Bool) :=
 some (std.seq a0.fName a1)
set_option maxHeartbeats 4000000 in
theorem run_impl_named_1_mbp (a0 : TCell) (a1 : ByteArray) (r : Bool) (h : F_impl_named_1_mbp a0 a1 = some r) : Fun Tryz.prog 102 [.agg [.v (.string a0.fName), .bs (len a0.fShapes) 5 (row gd (encShape) a0.fShapes), .bs (len a0.fLabels) 4 (row gd (encLabel) a0.fLabels), .bs (len a0.fInstances) 8 (row gd (encInstance) a0.fInstances)], .c (.bp 1 (encS a1))] [] (.c (.v (.bool r))) [] true := by
 refine ow [] Tryz.func102 Tryz.ntmps102 ?_; unfold F_impl_named_1_mbp at h; generalize hLEN : @len = LEN, hGD : @gd = GD, hA : std = A, hP : Tryz.prog = P at *; cbv; exact df

noncomputable def L_slices_IndexFunc_Limpl_Cell_impl_Cell_mbFimpl_named_1p_x2 (a0 : List TCell) (a1_0 : ByteArray) : (Int) → Option ((Int) ⊕ ((Int) ⊕ (Unit))) := fun x2 =>
 letO x2 fun v1 =>
 br (std.lt v1 (std.ofN (len a0)))
 (req (std.inR v1 (len a0)) <|
 (F_impl_named_1_mbp (gd a0 (std.toN v1)) a1_0).bind fun y15 =>
 br y15
 (some (.inr (.inl v1)))
 (some (.inl (std.add .i64 v1 1))))
 (some (.inr (.inr ())))
/-- impl.Cell] -/
noncomputable def F_slices_IndexFunc_Limpl_Cell_impl_Cell_mbFimpl_named_1p (a0 : List TCell) (a1_0 : ByteArray) : Option (Int) :=
 (whileP (σ := Int) (ρ := (Int) ⊕ (Unit)) (L_slices_IndexFunc_Limpl_Cell_impl_Cell_mbFimpl_named_1p_x2 a0 a1_0) 0).bind fun y3 =>
 (match y3 with
  | .inl y3k0 => (
    letO y3k0 fun w19 =>
    some w19)
  | .inr y3m0 =>
    some (-1))
set_option maxHeartbeats 4000000 in
theorem run_slices_IndexFunc_Limpl_Cell_impl_Cell_mbFimpl_named_1p (a0 : List TCell) (a1_0 : ByteArray) (r : Int) (h : F_slices_IndexFunc_Limpl_Cell_impl_Cell_mbFimpl_named_1p a0 a1_0 = some r) : Fun Tryz.prog 101 [.c (.bs (len a0) 4 (row gd (encCell len gd) a0)), .c (.fn 102 1 fun j => ([.bp 1 (encS a1_0)] : List AC).getD j .junk)] [] (.c (.v (.int .i64 r))) [] true := by
 refine ow [] Tryz.func101 Tryz.ntmps101 ?_; unfold F_slices_IndexFunc_Limpl_Cell_impl_Cell_mbFimpl_named_1p at h; unfold L_slices_IndexFunc_Limpl_Cell_impl_Cell_mbFimpl_named_1p_x2 at h; have hf_impl_named_1_mbp := @run_impl_named_1_mbp; generalize hLEN : @len = LEN, hGD : @gd = GD, hA : std = A, hP : Tryz.prog = P at *; cbv
 revert h; refine lc (fun x => (sparse 19 [(0, .c (.bs (LEN a0) 4 (row GD (encCell LEN GD) a0))), (1, .c (.fn 102 1 fun j => ([.bp 1 (encS a1_0)] : List AC).getD j .junk)), (7, .c (.v (.int .i64 (A.ofN (LEN a0))))), (8, .c (.v (.int .i64 x)))] [])) (fun y e s => (match y with | .inl w => e = .ret ∧ s.le (sparse 19 [(4, .c (.v (.int .i64 w)))] []) | .inr w0 => (fun (w : Unit) => e = .exit 0 ∧ s.le (sparse 19 [] [])) w0)) zb ?_ ?_
 ·intro v1 z h K hK hY; replace h := oz h; cbv; revert h; refine fk ?_ ?_ <;> intro h <;> cbv
  ·revert h; refine ra fun c14 h => ?_; revert h; refine rk [] [] (hf_impl_named_1_mbp _ _) (fun _ => zg (les_cons (lR _) (les_cons (le_bp (show 1 ≤ 1 from by decide) (by intro j hj; match j, hj with | 0, _ => exact rle_refl _ | (j_ + 1), h_ => exact absurd h_ (by omega))) (les_nil)))) fun y15 h => ?_; cbv; revert h; refine fk ?_ ?_ <;> intro h <;> cbv
   ·exact dy
   exact dm
  exact dy
 intro y3 h e12 s13 q11 hne; rcases y3 with y3k0 | y3m0
 ·replace h := h; obtain ⟨rfl, q11⟩ := q11; revert h; refine rz fun h => ?_; cbv; injection h with h; subst h; exact ⟨_, q11, lR _, zo, rfl⟩
 ·obtain ⟨rfl, q11⟩ := q11; cbv; refine ⟨_, q11, ?_⟩; cbv; exact df

/-- impl.named -/
noncomputable def F_impl_named (a0 : TLibrary) (a1 : ByteArray) : Option (Int) :=
 (F_slices_IndexFunc_Limpl_Cell_impl_Cell_mbFimpl_named_1p a0.fCells a1).bind fun y1 =>
 some y1
set_option maxHeartbeats 4000000 in
theorem run_impl_named (a0 : TLibrary) (a1 : ByteArray) (r : Int) (h : F_impl_named a0 a1 = some r) : Fun Tryz.prog 71 [.agg [.bs (len a0.fCells) 4 (row gd (encCell len gd) a0.fCells)], .c (.v (.string a1))] [] (.c (.v (.int .i64 r))) [] true := by
 refine ow [] Tryz.func71 Tryz.ntmps71 ?_; unfold F_impl_named at h; have hf_slices_IndexFunc_Limpl_Cell_impl_Cell_mbFimpl_named_1p := @run_slices_IndexFunc_Limpl_Cell_impl_Cell_mbFimpl_named_1p; generalize hLEN : @len = LEN, hGD : @gd = GD, hA : std = A, hP : Tryz.prog = P at *; cbv
 revert h; refine rk [] [] (hf_slices_IndexFunc_Limpl_Cell_impl_Cell_mbFimpl_named_1p _ _) (fun _ => zg (les_cons (lR _) (les_cons (le_fn (by intro j hj; match j, hj with | 0, _ => exact le_bp (show 1 ≤ 1 from by decide) (by intro j hj; match j, hj with | 0, _ => exact rle_refl _ | (j_ + 1), h_ => exact absurd h_ (by omega)) | (j_ + 1), h_ => exact absurd h_ (by omega))) (les_nil)))) fun y1 h => ?_
 cbv; exact df

noncomputable def L_impl_IsValidLibrary_x10 (a0 : TLibrary) : (Int) → Option ((Int) ⊕ ((Bool) ⊕ (Unit))) := fun x10 =>
 letO x10 fun v9 =>
 br (std.lt v9 (std.ofN (len a0.fCells)))
 (req (std.inR v9 (len a0.fCells)) <|
 ((
    (F_impl_validCell (gd a0.fCells (std.toN v9)) v9).bind fun y30 =>
    br (!(y30))
    (some true)
    ((F_impl_named (TLibrary.mk a0.fCells) (gd a0.fCells (std.toN v9)).fName).bind fun y32 =>
    some (std.not (std.eq y32 v9)))
  ) : Option (Bool)).bind fun y23 =>
 letO y23 fun w29 =>
 br w29
 (some (.inr (.inl false)))
 (some (.inl (std.add .i64 v9 1))))
 (some (.inr (.inr ())))
/-- impl.IsValidLibrary -/
noncomputable def F_impl_IsValidLibrary (a0 : TLibrary) : Option (Bool) :=
 ((
    br (std.lt (std.ofN (len a0.fCells)) 1)
    (some true)
    (some (std.lt 8 (std.ofN (len a0.fCells))))
  ) : Option (Bool)).bind fun y1 =>
 letO y1 fun w7 =>
 br w7
 (some false)
 ((whileP (σ := Int) (ρ := (Bool) ⊕ (Unit)) (L_impl_IsValidLibrary_x10 a0) 0).bind fun y11 =>
 (match y11 with
  | .inl y11k0 => (
    letO y11k0 fun w37 =>
    some w37)
  | .inr y11m0 =>
    some true))
set_option maxHeartbeats 4000000 in
theorem run_impl_IsValidLibrary (a0 : TLibrary) (r : Bool) (h : F_impl_IsValidLibrary a0 = some r) : Fun Tryz.prog 40 [.agg [.bs (len a0.fCells) 4 (row gd (encCell len gd) a0.fCells)]] [] (.c (.v (.bool r))) [] true := by
 refine ow [1, 6] Tryz.func40 Tryz.ntmps40 ?_; unfold F_impl_IsValidLibrary at h; unfold L_impl_IsValidLibrary_x10 at h; have hf_impl_named := @run_impl_named; have hf_impl_validCell := @run_impl_validCell; generalize hLEN : @len = LEN, hGD : @gd = GD, hA : std = A, hP : Tryz.prog = P at *; cbv
 revert h; refine cu (fun y1 => (sparse 36 [(1, .c (.ptr 64 0)), (14, .c (.v (.bool y1)))] [(64, .var [.bs (LEN a0.fCells) 4 (row GD (encCell LEN GD) a0.fCells)])])) (fun y1 S hS h => rg) fun w7 => rz fun h => ?_; cbv; revert h; refine fk ?_ ?_ <;> intro h <;> cbv
 ·exact df
 revert h; refine lc (fun x => (sparse 36 [(1, .c (.ptr 64 0)), (16, .c (.bs (LEN a0.fCells) 4 (row GD (encCell LEN GD) a0.fCells))), (17, .c (.v (.int .i64 (A.ofN (LEN a0.fCells))))), (18, .c (.v (.int .i64 x)))] [(64, .var [.bs (LEN a0.fCells) 4 (row GD (encCell LEN GD) a0.fCells)])])) (fun y e s => (match y with | .inl w => e = .ret ∧ s.le (sparse 36 [(2, .c (.v (.bool w)))] []) | .inr w0 => (fun (w : Unit) => e = .exit 0 ∧ s.le (sparse 36 [] [])) w0)) zb ?_ ?_
 ·intro v9 z h K hK hY; replace h := oz h; cbv; revert h; refine fk ?_ ?_ <;> intro h <;> cbv
  ·revert h; refine ra fun c22 h => ?_; revert h; refine cu (fun y23 => (sparse 36 [(1, .c (.ptr 64 0)), (16, .c (.bs (LEN a0.fCells) 4 (row GD (encCell LEN GD) a0.fCells))), (17, .c (.v (.int .i64 (A.ofN (LEN a0.fCells))))), (18, .c (.v (.int .i64 v9))), (34, .c (.v (.bool y23)))] [(64, .var [.bs (LEN a0.fCells) 4 (row GD (encCell LEN GD) a0.fCells)])])) ?_ fun w29 => rz fun h => ?_
   ·intro y23 S hS h; cbv; revert h; refine rk0 (hf_impl_validCell _ _) fun y30 h => ?_; cbv; revert h; refine fk ?_ ?_ <;> intro h <;> cbv
    ·exact dn
    revert h; refine rk0 (hf_impl_named _ _) fun y32 h => ?_; cbv; exact dn
   cbv; revert h; refine fk ?_ ?_ <;> intro h <;> cbv
   ·exact dy
   exact dm
  exact dy
 intro y11 h e20 s21 q19 hne; rcases y11 with y11k0 | y11m0
 ·replace h := h; obtain ⟨rfl, q19⟩ := q19; revert h; refine rz fun h => ?_; cbv; injection h with h; subst h; exact ⟨_, q19, lR _, zo, rfl⟩
 ·obtain ⟨rfl, q19⟩ := q19; cbv; refine ⟨_, q19, ?_⟩; cbv; exact df

/-- impl.hasCell -/
noncomputable def F_impl_hasCell (a0 : TLibrary) (a1 : Int) : Option (Bool) :=
 ((
    (F_impl_IsValidLibrary a0).bind fun y8 =>
    br y8
    ((F_impl_within a1 0 (std.sub .i64 (std.ofN (len a0.fCells)) 1)).bind fun y10 =>
    some y10)
    (some false)
  ) : Option (Bool)).bind fun y1 =>
 letO y1 fun w7 =>
 some w7
set_option maxHeartbeats 4000000 in
theorem run_impl_hasCell (a0 : TLibrary) (a1 : Int) (r : Bool) (h : F_impl_hasCell a0 a1 = some r) : Fun Tryz.prog 42 [.agg [.bs (len a0.fCells) 4 (row gd (encCell len gd) a0.fCells)], .c (.v (.int .i64 a1))] [] (.c (.v (.bool r))) [] true := by
 refine ow [1] Tryz.func42 Tryz.ntmps42 ?_; unfold F_impl_hasCell at h; have hf_impl_IsValidLibrary := @run_impl_IsValidLibrary; have hf_impl_within := @run_impl_within; generalize hLEN : @len = LEN, hGD : @gd = GD, hA : std = A, hP : Tryz.prog = P at *; cbv; revert h; refine cu (fun y1 => (sparse 15 [(4, .c (.v (.bool y1)))] [])) ?_ fun w7 => rz fun h => ?_
 ·intro y1 S hS h; cbv; revert h; refine rk0 (hf_impl_IsValidLibrary _) fun y8 h => ?_; cbv; revert h; refine fk ?_ ?_ <;> intro h <;> cbv
  ·revert h; refine rk0 (hf_impl_within _ _ _) fun y10 h => ?_; cbv; exact dn
  exact dn
 cbv; exact df
noncomputable def L_impl_elementCount_x23 (l3 : List TCell) (v7 : List Int) (v6 : Int) : (Int × Int) → Option ((Int × Int) ⊕ ((Int))) := fun x23 =>
 letO x23.1 fun v21 =>
 letO x23.2 fun v22 =>
 br (std.lt v22 (std.ofN (len (gd l3 (std.toN v6)).fInstances)))
 (req (std.inR v22 (len (gd l3 (std.toN v6)).fInstances)) <|
 req (std.inR (gd (gd l3 (std.toN v6)).fInstances (std.toN v22)).fCell (len v7)) <|
 some (.inl (std.add .i64 v21 (std.mul .i64 (std.mul .i64 (gd (gd l3 (std.toN v6)).fInstances (std.toN v22)).fColumns (gd (gd l3 (std.toN v6)).fInstances (std.toN v22)).fRows) (gd v7 (std.nadd 0 (std.toN (gd (gd l3 (std.toN v6)).fInstances (std.toN v22)).fCell)))), std.add .i64 v22 1)))
 (some (.inr v21))
noncomputable def L_impl_elementCount_x8 (l3 : List TCell) : (Int × (List Int)) → Option ((Int × (List Int)) ⊕ (((List Int)))) := fun x8 =>
 letO x8.1 fun v6 =>
 letO x8.2 fun v7 =>
 br (std.lt v6 (std.ofN (len l3)))
 (req (std.inR v6 (len l3)) <|
 (whileP (σ := Int × Int) (ρ := (Int)) (L_impl_elementCount_x23 l3 v7 v6) (1, 0)).bind fun y24 =>
 letO y24 fun y24k0 =>
 letO y24k0 fun w38 =>
 letO ([w38] : List Int) fun l39 =>
 req (std.room (std.nadd (len v7) (len l39)) 8) <|
 letO (v7 ++ l39) fun l41 =>
 some (.inl (std.add .i64 v6 1, l41)))
 (some (.inr v7))
/-- impl.elementCount -/
noncomputable def F_impl_elementCount (a0 : TLibrary) (a1 : Int) : Option (Int) :=
 letO ([] : List Int) fun l1 =>
 req (std.upTo (std.add .i64 a1 1) (len a0.fCells)) <|
 req (std.upTo 0 (std.toN (std.add .i64 a1 1))) <|
 letO (subL a0.fCells (std.toN 0) (std.toN (std.add .i64 a1 1))) fun l3 =>
 (whileP (σ := Int × (List Int)) (ρ := ((List Int))) (L_impl_elementCount_x8 l3) (0, l1)).bind fun y9 =>
 letO y9 fun y9k0 =>
 letO y9k0 fun w45 =>
 req (std.inR a1 (len w45)) <|
 some (gd w45 (std.nadd 0 (std.toN a1)))
set_option maxHeartbeats 4000000 in
theorem run_impl_elementCount (a0 : TLibrary) (a1 : Int) (r : Int) (h : F_impl_elementCount a0 a1 = some r) : Fun Tryz.prog 44 [.agg [.bs (len a0.fCells) 4 (row gd (encCell len gd) a0.fCells)], .c (.v (.int .i64 a1))] [] (.c (.v (.int .i64 r))) [] true := by
 refine ow [] Tryz.func44 Tryz.ntmps44 ?_; unfold F_impl_elementCount at h; unfold L_impl_elementCount_x8 at h; unfold L_impl_elementCount_x23 at h; generalize hLEN : @len = LEN, hGD : @gd = GD, hA : std = A, hP : Tryz.prog = P at *; cbv; revert h; refine rl fun l1 hl1 h => ?_; have e2 : 0 = LEN l1 := by subst hl1 hLEN; rfl
 refine ⟨_, (co e2), _, row GD (encI .i64) l1, e2, wkOf ?_, ?_⟩
 ·intro i hi j hj; rw [← e2] at hi; subst hl1; subst hGD; omega
 cbv; revert h; refine rq fun c4 => rq fun c5 => rl fun l3 hl3 h => ?_; refine And.intro (by first | exact ⟨c4, c5, trivial⟩ | exact ⟨c4, c5⟩) ?_; refine ⟨.c (.bs (LEN l3) 4 (row GD (encCell LEN GD) l3)), ?_, ?_⟩
 ·subst hGD hLEN hA; exact le_sub c4 c5 hl3
 cbv
 revert h; refine ln (.exit 0) (fun x => (sparse 52 [(1, .c (.v (.int .i64 a1))), (5, .c (.os 704 0 (LEN x.2))), (16, .c (.bs (LEN l3) 4 (row GD (encCell LEN GD) l3))), (17, .c (.v (.int .i64 (A.ofN (LEN l3))))), (18, .c (.v (.int .i64 x.1)))] [(704, .arr .rw [] (LEN x.2) 1 (row GD (encI .i64) x.2))])) (fun w => (sparse 52 [(1, .c (.v (.int .i64 a1))), (5, .c (.os 704 0 (LEN w)))] [(704, .arr .rw [] (LEN w) 1 (row GD (encI .i64) w))])) zb ?_ ?_
 ·rintro ⟨v6, v7⟩ z h K hK hY; replace h := oz (oz h); dsimp only at h; cbv; revert h; refine fk ?_ ?_ <;> intro h <;> cbv
  ·revert h; refine ra fun c20 h => ?_
   revert h; refine ln (.exit 2) (fun x => (sparse 52 [(1, .c (.v (.int .i64 a1))), (5, .c (.os 704 0 (LEN v7))), (8, .c (.v (.int .i64 x.1))), (16, .c (.bs (LEN l3) 4 (row GD (encCell LEN GD) l3))), (17, .c (.v (.int .i64 (A.ofN (LEN l3))))), (18, .c (.v (.int .i64 v6))), (23, .c (.bs (LEN (GD l3 (A.toN v6)).fInstances) 8 (row GD (encInstance) (GD l3 (A.toN v6)).fInstances))), (24, .c (.v (.int .i64 (A.ofN (LEN (GD l3 (A.toN v6)).fInstances))))), (25, .c (.v (.int .i64 x.2)))] [(704, .arr .rw [] (LEN v7) 1 (row GD (encI .i64) v7))])) (fun w => (sparse 52 [(1, .c (.v (.int .i64 a1))), (5, .c (.os 704 0 (LEN v7))), (8, .c (.v (.int .i64 w))), (16, .c (.bs (LEN l3) 4 (row GD (encCell LEN GD) l3))), (17, .c (.v (.int .i64 (A.ofN (LEN l3))))), (18, .c (.v (.int .i64 v6)))] [(704, .arr .rw [] (LEN v7) 1 (row GD (encI .i64) v7))])) zb ?_ ?_
   ·rintro ⟨v21, v22⟩ z h K hK hY; replace h := oz (oz h); dsimp only at h; cbv; revert h; refine fk ?_ ?_ <;> intro h <;> cbv
    ·revert h; refine ra fun c35 h => ?_; revert h; refine ra fun c36 h => ?_; refine ai c36 ?_; exact dm
    exact dx
   intro w38 h s q32; replace h := oz (oz h); cbv; refine ⟨_, q32, ?_⟩; cbv; revert h; refine rl fun l39 hl39 h => ?_; have e40 : 1 = LEN l39 := by subst hl39 hLEN; rfl
   refine ⟨_, (co e40), _, row GD (encI .i64) l39, e40, wkOf ?_, ?_⟩
   ·intro i hi j hj; rw [← e40] at hi; subst hl39; subst hGD; obtain rfl : i = 0 := (by omega); all_goals obtain rfl : j = 0 := by omega
    all_goals rfl
   cbv; revert h; refine rq fun c43 => rl fun l41 hl41 h => ?_; have e42 := nl hA hLEN hl41; refine ⟨c43, _, (co e42), _, row GD (encI .i64) l41, e42, wkOf ?_, ?_⟩
   ·subst hGD hLEN hA; exact app_os (off := 0) (fun _ _ => rfl) hl41 (Nat.le_refl _)
   cbv; exact dm
  exact dx
 intro w45 h s q17; replace h := oz (oz h); cbv; refine ⟨_, q17, ?_⟩; cbv; revert h; refine ra fun c46 h => ?_; refine ai c46 ?_; exact df

/-- impl.windowCode -/
noncomputable def F_impl_windowCode (a0 : TLibrary) (a1 : Int) (a2 : Int) (a3 : TRect) : Option (Int) :=
 ((
    (F_impl_IsValidLibrary a0).bind fun y8 =>
    br (!(y8))
    (some true)
    ((F_impl_IsValidRect a3).bind fun y10 =>
    some (!(y10)))
  ) : Option (Bool)).bind fun y1 =>
 letO y1 fun w7 =>
 br w7
 (some 1)
 ((F_impl_hasCell a0 a1).bind fun y13 =>
 br (!(y13))
 (some 5)
 ((F_impl_within a2 0 7).bind fun y15 =>
 br (!(y15))
 (some 2)
 ((F_impl_elementCount a0 a1).bind fun y17 =>
 br (std.lt 200 y17)
 (some 3)
 (some 0))))
set_option maxHeartbeats 4000000 in
theorem run_impl_windowCode (a0 : TLibrary) (a1 : Int) (a2 : Int) (a3 : TRect) (r : Int) (h : F_impl_windowCode a0 a1 a2 a3 = some r) : Fun Tryz.prog 19 [.agg [.bs (len a0.fCells) 4 (row gd (encCell len gd) a0.fCells)], .c (.v (.int .i64 a1)), .c (.v (.int .i64 a2)), .agg [.v (.int .i64 a3.fX0), .v (.int .i64 a3.fY0), .v (.int .i64 a3.fX1), .v (.int .i64 a3.fY1)]] [] (.c (.v (.int .i64 r))) [] true := by
 refine ow [1] Tryz.func19 Tryz.ntmps19 ?_; unfold F_impl_windowCode at h; have hf_impl_IsValidLibrary := @run_impl_IsValidLibrary; have hf_impl_IsValidRect := @run_impl_IsValidRect; have hf_impl_elementCount := @run_impl_elementCount; have hf_impl_hasCell := @run_impl_hasCell; have hf_impl_within := @run_impl_within
 generalize hLEN : @len = LEN, hGD : @gd = GD, hA : std = A, hP : Tryz.prog = P at *; cbv; revert h; refine cu (fun y1 => (sparse 32 [(1, .c (.v (.int .i64 a1))), (2, .c (.v (.int .i64 a2))), (4, .c (.ptr 256 0)), (9, .c (.v (.bool y1)))] [(256, .var [.bs (LEN a0.fCells) 4 (row GD (encCell LEN GD) a0.fCells)])])) ?_ fun w7 => rz fun h => ?_
 ·intro y1 S hS h; cbv; revert h; refine rk0 (hf_impl_IsValidLibrary _) fun y8 h => ?_; cbv; revert h; refine fk ?_ ?_ <;> intro h <;> cbv
  ·exact dn
  revert h; refine rk0 (hf_impl_IsValidRect _) fun y10 h => ?_; cbv; exact dn
 cbv; revert h; refine fk ?_ ?_ <;> intro h <;> cbv
 ·exact df
 revert h; refine rk0 (hf_impl_hasCell _ _) fun y13 h => ?_; cbv; revert h; refine fk ?_ ?_ <;> intro h <;> cbv
 ·exact df
 revert h; refine rk0 (hf_impl_within _ _ _) fun y15 h => ?_; cbv; revert h; refine fk ?_ ?_ <;> intro h <;> cbv
 ·exact df
 revert h; refine rk0 (hf_impl_elementCount _ _) fun y17 h => ?_; cbv; revert h; refine fk ?_ ?_ <;> intro h <;> cbv
 ·exact df
 exact df

/-- impl.unitRect -/
noncomputable def F_impl_unitRect (a0 : TPoint) : Option (TRect) :=
 some (TRect.mk a0.fX a0.fY (std.add .i64 a0.fX 1) (std.add .i64 a0.fY 1))
set_option maxHeartbeats 4000000 in
theorem run_impl_unitRect (a0 : TPoint) (r : TRect) (h : F_impl_unitRect a0 = some r) : Fun Tryz.prog 74 [.agg [.v (.int .i64 a0.fX), .v (.int .i64 a0.fY)]] [] (.agg [.v (.int .i64 r.fX0), .v (.int .i64 r.fY0), .v (.int .i64 r.fX1), .v (.int .i64 r.fY1)]) [] true := by
 refine ow [] Tryz.func74 Tryz.ntmps74 ?_ (hv := (fun _ => ⟨(by simp [AV.flat, AV.flat1, AC.flat]), trivial⟩)); unfold F_impl_unitRect at h; generalize hLEN : @len = LEN, hGD : @gd = GD, hA : std = A, hP : Tryz.prog = P at *; cbv; exact df

/-- impl.elementPlace -/
noncomputable def F_impl_elementPlace (a0 : TInstance) (a1 : Int) (a2 : Int) : Option (TTransform) :=
 some (TTransform.mk a0.fPlace.fOrientation (std.add .i64 a0.fPlace.fX (std.mul .i64 a1 a0.fStepX)) (std.add .i64 a0.fPlace.fY (std.mul .i64 a2 a0.fStepY)))
set_option maxHeartbeats 4000000 in
theorem run_impl_elementPlace (a0 : TInstance) (a1 : Int) (a2 : Int) (r : TTransform) (h : F_impl_elementPlace a0 a1 a2 = some r) : Fun Tryz.prog 103 [.agg [.v (.int .i64 a0.fCell), .v (.int .i64 a0.fPlace.fOrientation), .v (.int .i64 a0.fPlace.fX), .v (.int .i64 a0.fPlace.fY), .v (.int .i64 a0.fColumns), .v (.int .i64 a0.fRows), .v (.int .i64 a0.fStepX), .v (.int .i64 a0.fStepY)], .c (.v (.int .i64 a1)), .c (.v (.int .i64 a2))] [] (.agg [.v (.int .i64 r.fOrientation), .v (.int .i64 r.fX), .v (.int .i64 r.fY)]) [] true := by
 refine ow [] Tryz.func103 Tryz.ntmps103 ?_ (hv := (fun _ => ⟨(by simp [AV.flat, AV.flat1, AC.flat]), trivial⟩)); unfold F_impl_elementPlace at h; generalize hLEN : @len = LEN, hGD : @gd = GD, hA : std = A, hP : Tryz.prog = P at *; cbv; exact df

noncomputable def L_impl_elements_x34 (a0 : TCell) (v18 : Int) (v3 : Int) : (Int × (List Telement)) → Option ((Int × (List Telement)) ⊕ (((List Telement)))) := fun x34 =>
 letO x34.1 fun v32 =>
 letO x34.2 fun v33 =>
 br (std.lt v32 (gd a0.fInstances (std.toN v3)).fColumns)
 ((F_impl_elementPlace (gd a0.fInstances (std.toN v3)) v32 v18).bind fun y46 =>
 letO ([(Telement.mk (gd a0.fInstances (std.toN v3)).fCell y46)] : List Telement) fun l48 =>
 req (std.room (std.nadd (len v33) (len l48)) 32) <|
 letO (v33 ++ l48) fun l50 =>
 some (.inl (std.add .i64 v32 1, l50)))
 (some (.inr v33))
noncomputable def L_impl_elements_x20 (a0 : TCell) (v3 : Int) : (Int × (List Telement)) → Option ((Int × (List Telement)) ⊕ (((List Telement)))) := fun x20 =>
 letO x20.1 fun v18 =>
 letO x20.2 fun v19 =>
 br (std.lt v18 (gd a0.fInstances (std.toN v3)).fRows)
 ((whileP (σ := Int × (List Telement)) (ρ := ((List Telement))) (L_impl_elements_x34 a0 v18 v3) (0, v19)).bind fun y35 =>
 letO y35 fun y35k0 =>
 letO y35k0 fun w54 =>
 some (.inl (std.add .i64 v18 1, w54)))
 (some (.inr v19))
noncomputable def L_impl_elements_x5 (a0 : TCell) : (Int × (List Telement)) → Option ((Int × (List Telement)) ⊕ (((List Telement)))) := fun x5 =>
 letO x5.1 fun v3 =>
 letO x5.2 fun v4 =>
 br (std.lt v3 (std.ofN (len a0.fInstances)))
 (req (std.inR v3 (len a0.fInstances)) <|
 (whileP (σ := Int × (List Telement)) (ρ := ((List Telement))) (L_impl_elements_x20 a0 v3) (0, v4)).bind fun y21 =>
 letO y21 fun y21k0 =>
 letO y21k0 fun w56 =>
 some (.inl (std.add .i64 v3 1, w56)))
 (some (.inr v4))
/-- impl.elements -/
noncomputable def F_impl_elements (a0 : TCell) : Option (List Telement) :=
 letO ([] : List Telement) fun l1 =>
 (whileP (σ := Int × (List Telement)) (ρ := ((List Telement))) (L_impl_elements_x5 a0) (0, l1)).bind fun y6 =>
 letO y6 fun y6k0 =>
 letO y6k0 fun w58 =>
 some w58
set_option maxHeartbeats 4000000 in
theorem run_impl_elements (a0 : TCell) (r : List Telement) (h : F_impl_elements a0 = some r) : Fun Tryz.prog 72 [.agg [.v (.string a0.fName), .bs (len a0.fShapes) 5 (row gd (encShape) a0.fShapes), .bs (len a0.fLabels) 4 (row gd (encLabel) a0.fLabels), .bs (len a0.fInstances) 8 (row gd (encInstance) a0.fInstances)]] [] (.c (.os 64000 0 (len r))) [(64000, .arr .rw [] (len r) 4 (row gd (encelement) r))] true := by
 refine ow [] Tryz.func72 Tryz.ntmps72 ?_ (hv := (fun _ => ⟨trivial, ⟨fun i _ j _ => val_flat (vl_encelement _ _), trivial⟩⟩)); unfold F_impl_elements at h; unfold L_impl_elements_x5 at h; unfold L_impl_elements_x20 at h; unfold L_impl_elements_x34 at h; have hf_impl_elementPlace := @run_impl_elementPlace; generalize hLEN : @len = LEN, hGD : @gd = GD, hA : std = A, hP : Tryz.prog = P at *; cbv
 revert h; refine rl fun l1 hl1 h => ?_; have e2 : 0 = LEN l1 := by subst hl1 hLEN; rfl
 refine ⟨_, (co e2), _, row GD (encelement) l1, e2, wkOf ?_, ?_⟩
 ·intro i hi j hj; rw [← e2] at hi; subst hl1; subst hGD; omega
 cbv
 revert h; refine ln (.exit 0) (fun x => (sparse 40 [(3, .c (.os 512 0 (LEN x.2))), (10, .c (.bs (LEN a0.fInstances) 8 (row GD (encInstance) a0.fInstances))), (11, .c (.v (.int .i64 (A.ofN (LEN a0.fInstances))))), (12, .c (.v (.int .i64 x.1)))] [(512, .arr .rw [] (LEN x.2) 4 (row GD (encelement) x.2))])) (fun w => (sparse 40 [(3, .c (.os 512 0 (LEN w)))] [(512, .arr .rw [] (LEN w) 4 (row GD (encelement) w))])) zb ?_ ?_
 ·rintro ⟨v3, v4⟩ z h K hK hY; replace h := oz (oz h); dsimp only at h; cbv; revert h; refine fk ?_ ?_ <;> intro h <;> cbv
  ·revert h; refine ra fun c17 h => ?_
   revert h; refine ln (.exit 2) (fun x => (sparse 40 [(3, .c (.os 512 0 (LEN x.2))), (5, .c (.ptr 320 0)), (10, .c (.bs (LEN a0.fInstances) 8 (row GD (encInstance) a0.fInstances))), (11, .c (.v (.int .i64 (A.ofN (LEN a0.fInstances))))), (12, .c (.v (.int .i64 v3))), (17, .c (.v (.int .i64 (GD a0.fInstances (A.toN v3)).fRows))), (18, .c (.v (.int .i64 x.1)))] [(512, .arr .rw [] (LEN x.2) 4 (row GD (encelement) x.2)), (320, .var [.v (.int .i64 (GD a0.fInstances (A.toN v3)).fCell), .v (.int .i64 (GD a0.fInstances (A.toN v3)).fPlace.fOrientation), .v (.int .i64 (GD a0.fInstances (A.toN v3)).fPlace.fX), .v (.int .i64 (GD a0.fInstances (A.toN v3)).fPlace.fY), .v (.int .i64 (GD a0.fInstances (A.toN v3)).fColumns), .v (.int .i64 (GD a0.fInstances (A.toN v3)).fRows), .v (.int .i64 (GD a0.fInstances (A.toN v3)).fStepX), .v (.int .i64 (GD a0.fInstances (A.toN v3)).fStepY)])])) (fun w => (sparse 40 [(3, .c (.os 512 0 (LEN w))), (10, .c (.bs (LEN a0.fInstances) 8 (row GD (encInstance) a0.fInstances))), (11, .c (.v (.int .i64 (A.ofN (LEN a0.fInstances))))), (12, .c (.v (.int .i64 v3)))] [(512, .arr .rw [] (LEN w) 4 (row GD (encelement) w))])) zb ?_ ?_
   ·rintro ⟨v18, v19⟩ z h K hK hY; replace h := oz (oz h); dsimp only at h; cbv; revert h; refine fk ?_ ?_ <;> intro h <;> cbv
    ·revert h; refine ln (.exit 4) (fun x => (sparse 40 [(3, .c (.os 512 0 (LEN x.2))), (5, .c (.ptr 320 0)), (6, .c (.v (.int .i64 v18))), (10, .c (.bs (LEN a0.fInstances) 8 (row GD (encInstance) a0.fInstances))), (11, .c (.v (.int .i64 (A.ofN (LEN a0.fInstances))))), (12, .c (.v (.int .i64 v3))), (17, .c (.v (.int .i64 (GD a0.fInstances (A.toN v3)).fRows))), (18, .c (.v (.int .i64 v18))), (22, .c (.v (.int .i64 (GD a0.fInstances (A.toN v3)).fColumns))), (23, .c (.v (.int .i64 x.1)))] [(512, .arr .rw [] (LEN x.2) 4 (row GD (encelement) x.2)), (320, .var [.v (.int .i64 (GD a0.fInstances (A.toN v3)).fCell), .v (.int .i64 (GD a0.fInstances (A.toN v3)).fPlace.fOrientation), .v (.int .i64 (GD a0.fInstances (A.toN v3)).fPlace.fX), .v (.int .i64 (GD a0.fInstances (A.toN v3)).fPlace.fY), .v (.int .i64 (GD a0.fInstances (A.toN v3)).fColumns), .v (.int .i64 (GD a0.fInstances (A.toN v3)).fRows), .v (.int .i64 (GD a0.fInstances (A.toN v3)).fStepX), .v (.int .i64 (GD a0.fInstances (A.toN v3)).fStepY)])])) (fun w => (sparse 40 [(3, .c (.os 512 0 (LEN w))), (5, .c (.ptr 320 0)), (10, .c (.bs (LEN a0.fInstances) 8 (row GD (encInstance) a0.fInstances))), (11, .c (.v (.int .i64 (A.ofN (LEN a0.fInstances))))), (12, .c (.v (.int .i64 v3))), (17, .c (.v (.int .i64 (GD a0.fInstances (A.toN v3)).fRows))), (18, .c (.v (.int .i64 v18)))] [(512, .arr .rw [] (LEN w) 4 (row GD (encelement) w)), (320, .var [.v (.int .i64 (GD a0.fInstances (A.toN v3)).fCell), .v (.int .i64 (GD a0.fInstances (A.toN v3)).fPlace.fOrientation), .v (.int .i64 (GD a0.fInstances (A.toN v3)).fPlace.fX), .v (.int .i64 (GD a0.fInstances (A.toN v3)).fPlace.fY), .v (.int .i64 (GD a0.fInstances (A.toN v3)).fColumns), .v (.int .i64 (GD a0.fInstances (A.toN v3)).fRows), .v (.int .i64 (GD a0.fInstances (A.toN v3)).fStepX), .v (.int .i64 (GD a0.fInstances (A.toN v3)).fStepY)])])) zb ?_ ?_
     ·rintro ⟨v32, v33⟩ z h K hK hY; replace h := oz (oz h); dsimp only at h; cbv; revert h; refine fk ?_ ?_ <;> intro h <;> cbv
      ·revert h; refine rk0 (hf_impl_elementPlace _ _ _) fun y46 h => ?_; cbv; revert h; refine rl fun l48 hl48 h => ?_; have e49 : 1 = LEN l48 := by subst hl48 hLEN; rfl
       refine ⟨_, (co e49), _, row GD (encelement) l48, e49, wkOf ?_, ?_⟩
       ·intro i hi j hj; rw [← e49] at hi; subst hl48; subst hGD; obtain rfl : i = 0 := (by omega) <;> obtain rfl | rfl | rfl | rfl : j = 0 ∨ j = 1 ∨ j = 2 ∨ j = 3 := (by omega)
        all_goals rfl
       cbv; revert h; refine rq fun c52 => rl fun l50 hl50 h => ?_; have e51 := nl hA hLEN hl50; refine ⟨c52, _, (co e51), _, row GD (encelement) l50, e51, wkOf ?_, ?_⟩
       ·subst hGD hLEN hA; exact app_os (off := 0) (pl_encelement) hl50 (Nat.le_refl _)
       cbv; exact dm
      exact dx
     intro w54 h s q43; replace h := oz (oz h); cbv; refine ⟨_, q43, ?_⟩; cbv; exact dm
    exact dx
   intro w56 h s q29; replace h := oz (oz h); cbv; refine ⟨_, q29, ?_⟩; cbv; exact dm
  exact dx
 intro w58 h s q14; replace h := oz (oz h); cbv; refine ⟨_, q14, ?_⟩; cbv; injection h with h; subst h; exact ⟨_, le_ren 512 64000 (by decide) rfl, lR _, zo, rfl⟩

noncomputable def L_impl_turn_x13  : (Int × Int × Int) → Option ((Int × Int × Int) ⊕ ((Int × Int))) := fun x13 =>
 letO x13.1 fun v10 =>
 letO x13.2.1 fun v11 =>
 letO x13.2.2 fun v12 =>
 br (std.lt 0 v10)
 (some (.inl (std.sub .i64 v10 1, std.sub .i64 0 v12, v11)))
 (some (.inr (v11, v12)))
/-- impl.turn -/
noncomputable def F_impl_turn (a0 : Int) (a1 : TPoint) : Option (TPoint) :=
 ((
    br (std.le 4 a0)
    (some (std.sub .i64 0 a1.fY))
    (some a1.fY)
  ) : Option (Int)).bind fun y1 =>
 letO y1 fun w7 =>
 req (std.nz 4) <|
 (whileP (σ := Int × Int × Int) (ρ := (Int × Int)) L_impl_turn_x13 (std.rem a0 4, a1.fX, w7)).bind fun y14 =>
 letO y14 fun y14k0 =>
 letO y14k0.1 fun w26 =>
 letO y14k0.2 fun w27 =>
 some (TPoint.mk w26 w27)
set_option maxHeartbeats 4000000 in
theorem run_impl_turn (a0 : Int) (a1 : TPoint) (r : TPoint) (h : F_impl_turn a0 a1 = some r) : Fun Tryz.prog 105 [.c (.v (.int .i64 a0)), .agg [.v (.int .i64 a1.fX), .v (.int .i64 a1.fY)]] [] (.agg [.v (.int .i64 r.fX), .v (.int .i64 r.fY)]) [] true := by
 refine ow [100007] Tryz.func105 Tryz.ntmps105 ?_ (hv := (fun _ => ⟨(by simp [AV.flat, AV.flat1, AC.flat]), trivial⟩)); unfold F_impl_turn at h; unfold L_impl_turn_x13 at h; generalize hLEN : @len = LEN, hGD : @gd = GD, hA : std = A, hP : Tryz.prog = P at *; cbv
 revert h; refine cu (fun y1 => some (sparse 25 [(0, .c (.v (.int .i64 a0))), (3, .c (.ptr 192 0)), (4, .c (.ptr 256 0))] [(192, .var [.v (.int .i64 a1.fX), .v (.int .i64 y1)]), (256, .var [.v (.int .i64 0), .v (.int .i64 0)])])) (fun y1 S hS h => rg) fun w7 => rz fun h => ?_; cbv; revert h; refine ra fun c9 h => ?_
 revert h; refine ln (.exit 0) (fun x => (sparse 25 [(3, .c (.ptr 192 0)), (4, .c (.ptr 256 0)), (5, .c (.v (.int .i64 x.1)))] [(192, .var [.v (.int .i64 x.2.1), .v (.int .i64 x.2.2)]), (256, .var [.v (.int .i64 0), .v (.int .i64 0)])])) (fun w => (sparse 25 [(3, .c (.ptr 192 0)), (4, .c (.ptr 256 0))] [(192, .var [.v (.int .i64 w.1), .v (.int .i64 w.2)]), (256, .var [.v (.int .i64 0), .v (.int .i64 0)])])) zb ?_ ?_
 ·rintro ⟨v10, v11, v12⟩ z h K hK hY; replace h := oz (oz (oz h)); dsimp only at h; cbv; revert h; refine fk ?_ ?_ <;> intro h <;> cbv
  ·exact dm
  exact dx
 rintro ⟨w26, w27⟩ h s q22; replace h := oz (oz (oz h)); dsimp only at h; cbv; refine ⟨_, q22, ?_⟩; cbv; exact df
/-- impl.move -/
noncomputable def F_impl_move (a0 : TTransform) (a1 : TPoint) : Option (TPoint) :=
 (F_impl_turn a0.fOrientation a1).bind fun y1 =>
 some (TPoint.mk (std.add .i64 y1.fX a0.fX) (std.add .i64 y1.fY a0.fY))
set_option maxHeartbeats 4000000 in
theorem run_impl_move (a0 : TTransform) (a1 : TPoint) (r : TPoint) (h : F_impl_move a0 a1 = some r) : Fun Tryz.prog 76 [.agg [.v (.int .i64 a0.fOrientation), .v (.int .i64 a0.fX), .v (.int .i64 a0.fY)], .agg [.v (.int .i64 a1.fX), .v (.int .i64 a1.fY)]] [] (.agg [.v (.int .i64 r.fX), .v (.int .i64 r.fY)]) [] true := by
 refine ow [] Tryz.func76 Tryz.ntmps76 ?_ (hv := (fun _ => ⟨(by simp [AV.flat, AV.flat1, AC.flat]), trivial⟩)); unfold F_impl_move at h; have hf_impl_turn := @run_impl_turn; generalize hLEN : @len = LEN, hGD : @gd = GD, hA : std = A, hP : Tryz.prog = P at *; cbv; revert h; refine rk0 (hf_impl_turn _ _) fun y1 h => ?_; cbv; exact df

/-- impl.moveRect -/
noncomputable def F_impl_moveRect (a0 : TTransform) (a1 : TRect) : Option (TRect) :=
 (F_impl_move a0 (TPoint.mk a1.fX0 a1.fY0)).bind fun y1 =>
 (F_impl_move a0 (TPoint.mk a1.fX1 a1.fY1)).bind fun y3 =>
 some (TRect.mk (std.imin y1.fX y3.fX) (std.imin y1.fY y3.fY) (std.imax y1.fX y3.fX) (std.imax y1.fY y3.fY))
set_option maxHeartbeats 4000000 in
theorem run_impl_moveRect (a0 : TTransform) (a1 : TRect) (r : TRect) (h : F_impl_moveRect a0 a1 = some r) : Fun Tryz.prog 47 [.agg [.v (.int .i64 a0.fOrientation), .v (.int .i64 a0.fX), .v (.int .i64 a0.fY)], .agg [.v (.int .i64 a1.fX0), .v (.int .i64 a1.fY0), .v (.int .i64 a1.fX1), .v (.int .i64 a1.fY1)]] [] (.agg [.v (.int .i64 r.fX0), .v (.int .i64 r.fY0), .v (.int .i64 r.fX1), .v (.int .i64 r.fY1)]) [] true := by
 refine ow [] Tryz.func47 Tryz.ntmps47 ?_ (hv := (fun _ => ⟨(by simp [AV.flat, AV.flat1, AC.flat]), trivial⟩)); unfold F_impl_moveRect at h; have hf_impl_move := @run_impl_move; generalize hLEN : @len = LEN, hGD : @gd = GD, hA : std = A, hP : Tryz.prog = P at *; cbv; revert h; refine rk0 (hf_impl_move _ _) fun y1 h => ?_; cbv; revert h; refine rk0 (hf_impl_move _ _) fun y3 h => ?_; cbv; exact df

noncomputable def L_impl_boxOf_x7 (a0 : List TRect) : (Int × Int × Int × Int × Int) → Option ((Int × Int × Int × Int × Int) ⊕ ((Int × Int × Int × Int))) := fun x7 =>
 letO x7.1 fun v2 =>
 letO x7.2.1 fun v3 =>
 letO x7.2.2.1 fun v4 =>
 letO x7.2.2.2.1 fun v5 =>
 letO x7.2.2.2.2 fun v6 =>
 br (std.lt v2 (std.ofN (len a0)))
 (req (std.inR v2 (len a0)) <|
 some (.inl (std.add .i64 v2 1, (std.imin v3 (gd a0 (std.toN v2)).fX0), (std.imin v4 (gd a0 (std.toN v2)).fY0), (std.imax v5 (gd a0 (std.toN v2)).fX1), (std.imax v6 (gd a0 (std.toN v2)).fY1))))
 (some (.inr (v3, v4, v5, v6)))
/-- impl.boxOf -/
noncomputable def F_impl_boxOf (a0 : List TRect) : Option (TRect) :=
 req (std.inR 0 (len a0)) <|
 (whileP (σ := Int × Int × Int × Int × Int) (ρ := (Int × Int × Int × Int)) (L_impl_boxOf_x7 a0) (0, (gd a0 (std.toN 0)).fX0, (gd a0 (std.toN 0)).fY0, (gd a0 (std.toN 0)).fX1, (gd a0 (std.toN 0)).fY1)).bind fun y8 =>
 letO y8 fun y8k0 =>
 letO y8k0.1 fun w21 =>
 letO y8k0.2.1 fun w22 =>
 letO y8k0.2.2.1 fun w23 =>
 letO y8k0.2.2.2 fun w24 =>
 some (TRect.mk w21 w22 w23 w24)
set_option maxHeartbeats 4000000 in
theorem run_impl_boxOf (a0 : List TRect) (r : TRect) (h : F_impl_boxOf a0 = some r) : Fun Tryz.prog 75 [.c (.bs (len a0) 4 (row gd (encRect) a0))] [] (.agg [.v (.int .i64 r.fX0), .v (.int .i64 r.fY0), .v (.int .i64 r.fX1), .v (.int .i64 r.fY1)]) [] true := by
 refine ow [] Tryz.func75 Tryz.ntmps75 ?_ (hv := (fun _ => ⟨(by simp [AV.flat, AV.flat1, AC.flat]), trivial⟩)); unfold F_impl_boxOf at h; unfold L_impl_boxOf_x7 at h; generalize hLEN : @len = LEN, hGD : @gd = GD, hA : std = A, hP : Tryz.prog = P at *; cbv; revert h; refine ra fun c1 h => ?_
 revert h; refine ln (.exit 0) (fun x => (sparse 38 [(2, .c (.ptr 128 0)), (3, .c (.ptr 192 0)), (9, .c (.bs (LEN a0) 4 (row GD (encRect) a0))), (10, .c (.v (.int .i64 (A.ofN (LEN a0))))), (11, .c (.v (.int .i64 x.1)))] [(128, .var [.v (.int .i64 0), .v (.int .i64 0), .v (.int .i64 0), .v (.int .i64 0)]), (192, .var [.v (.int .i64 x.2.1), .v (.int .i64 x.2.2.1), .v (.int .i64 x.2.2.2.1), .v (.int .i64 x.2.2.2.2)])])) (fun w => (sparse 38 [(2, .c (.ptr 128 0)), (3, .c (.ptr 192 0))] [(128, .var [.v (.int .i64 0), .v (.int .i64 0), .v (.int .i64 0), .v (.int .i64 0)]), (192, .var [.v (.int .i64 w.1), .v (.int .i64 w.2.1), .v (.int .i64 w.2.2.1), .v (.int .i64 w.2.2.2)])])) zb ?_ ?_
 ·rintro ⟨v2, v3, v4, v5, v6⟩ z h K hK hY; replace h := oz (oz (oz (oz (oz h)))); dsimp only at h; cbv; revert h; refine fk ?_ ?_ <;> intro h <;> cbv
  ·revert h; refine ra fun c19 h => ?_; exact dm
  exact dx
 rintro ⟨w21, w22, w23, w24⟩ h s q16; replace h := oz (oz (oz (oz (oz h)))); dsimp only at h; cbv; refine ⟨_, q16, ?_⟩; cbv; exact df

noncomputable def L_impl_contentBoxes_x94 (y65 : (List Telement)) (w88 : Int) (v3 : List (List TRect)) (v67 : Int) : (Int × (List TRect)) → Option ((Int × (List TRect)) ⊕ (((List TRect)))) := fun x94 =>
 letO x94.1 fun v92 =>
 letO x94.2 fun v93 =>
 br (std.lt v92 w88)
 (((
    req (std.inR v92 (len (gd v3 (std.nadd 0 (std.toN (gd y65 (std.nadd 0 (std.toN v67))).gcell))))) <|
    some ((gd (gd v3 (std.nadd 0 (std.toN (gd y65 (std.nadd 0 (std.toN v67))).gcell))) (std.nadd 0 (std.toN v92))).fX0, (gd (gd v3 (std.nadd 0 (std.toN (gd y65 (std.nadd 0 (std.toN v67))).gcell))) (std.nadd 0 (std.toN v92))).fY0, (gd (gd v3 (std.nadd 0 (std.toN (gd y65 (std.nadd 0 (std.toN v67))).gcell))) (std.nadd 0 (std.toN v92))).fX1, (gd (gd v3 (std.nadd 0 (std.toN (gd y65 (std.nadd 0 (std.toN v67))).gcell))) (std.nadd 0 (std.toN v92))).fY1)
  ) : Option (Int × Int × Int × Int)).bind fun y106 =>
 letO y106.1 fun w112 =>
 letO y106.2.1 fun w113 =>
 letO y106.2.2.1 fun w114 =>
 letO y106.2.2.2 fun w115 =>
 ((
    (F_impl_moveRect (gd y65 (std.nadd 0 (std.toN v67))).gplace (TRect.mk w112 w113 w114 w115)).bind fun y124 =>
    letO ([y124] : List TRect) fun l126 =>
    req (std.room (std.nadd (len v93) (len l126)) 32) <|
    letO (v93 ++ l126) fun l128 =>
    some l128
  ) : Option ((List TRect))).bind fun y117 =>
 letO y117 fun w123 =>
 some (.inl (std.add .i64 v92 1, w123)))
 (some (.inr v93))
noncomputable def L_impl_contentBoxes_x69 (y65 : (List Telement)) (v3 : List (List TRect)) : (Int × (List TRect)) → Option ((Int × (List TRect)) ⊕ (((List TRect)))) := fun x69 =>
 letO x69.1 fun v67 =>
 letO x69.2 fun v68 =>
 br (std.lt v67 (std.ofN (len y65)))
 (req (std.inR v67 (len y65)) <|
 ((
    req (std.inR (gd y65 (std.nadd 0 (std.toN v67))).gcell (len v3)) <|
    some (std.ofN (len (gd v3 (std.nadd 0 (std.toN (gd y65 (std.nadd 0 (std.toN v67))).gcell)))), 0)
  ) : Option (Int × Int)).bind fun y82 =>
 letO y82.1 fun w88 =>
 letO y82.2 fun w89 =>
 req (std.inR (gd y65 (std.nadd 0 (std.toN v67))).gcell (len v3)) <|
 (whileP (σ := Int × (List TRect)) (ρ := ((List TRect))) (L_impl_contentBoxes_x94 y65 w88 v3 v67) (w89, v68)).bind fun y95 =>
 letO y95 fun y95k0 =>
 letO y95k0 fun w132 =>
 some (.inl (std.add .i64 v67 1, w132)))
 (some (.inr v68))
noncomputable def L_impl_contentBoxes_x43 (a0 : TLibrary) (v2 : Int) : (Int × (List TRect)) → Option ((Int × (List TRect)) ⊕ (((List TRect)))) := fun x43 =>
 letO x43.1 fun v41 =>
 letO x43.2 fun v42 =>
 br (std.lt v41 (std.ofN (len (gd a0.fCells (std.toN v2)).fLabels)))
 (req (std.inR v41 (len (gd a0.fCells (std.toN v2)).fLabels)) <|
 (F_impl_unitRect (gd (gd a0.fCells (std.toN v2)).fLabels (std.toN v41)).fAt).bind fun y56 =>
 letO ([y56] : List TRect) fun l58 =>
 req (std.room (std.nadd (len v42) (len l58)) 32) <|
 letO (v42 ++ l58) fun l60 =>
 some (.inl (std.add .i64 v41 1, l60)))
 (some (.inr v42))
noncomputable def L_impl_contentBoxes_x21 (a0 : TLibrary) (v2 : Int) : (Int × (List TRect)) → Option ((Int × (List TRect)) ⊕ (((List TRect)))) := fun x21 =>
 letO x21.1 fun v19 =>
 letO x21.2 fun v20 =>
 br (std.lt v19 (std.ofN (len (gd a0.fCells (std.toN v2)).fShapes)))
 (req (std.inR v19 (len (gd a0.fCells (std.toN v2)).fShapes)) <|
 letO ([(gd (gd a0.fCells (std.toN v2)).fShapes (std.toN v19)).fBox] : List TRect) fun l34 =>
 req (std.room (std.nadd (len v20) (len l34)) 32) <|
 letO (v20 ++ l34) fun l36 =>
 some (.inl (std.add .i64 v19 1, l36)))
 (some (.inr v20))
noncomputable def L_impl_contentBoxes_x4 (a0 : TLibrary) : (Int × (List (List TRect))) → Option ((Int × (List (List TRect))) ⊕ (((List (List TRect))))) := fun x4 =>
 letO x4.1 fun v2 =>
 letO x4.2 fun v3 =>
 br (std.lt v2 (std.ofN (len a0.fCells)))
 (req (std.inR v2 (len a0.fCells)) <|
 letO ([] : List TRect) fun l17 =>
 (whileP (σ := Int × (List TRect)) (ρ := ((List TRect))) (L_impl_contentBoxes_x21 a0 v2) (0, l17)).bind fun y22 =>
 letO y22 fun y22k0 =>
 letO y22k0 fun w40 =>
 (whileP (σ := Int × (List TRect)) (ρ := ((List TRect))) (L_impl_contentBoxes_x43 a0 v2) (0, w40)).bind fun y44 =>
 letO y44 fun y44k0 =>
 letO y44k0 fun w64 =>
 (F_impl_elements (gd a0.fCells (std.toN v2))).bind fun y65 =>
 (whileP (σ := Int × (List TRect)) (ρ := ((List TRect))) (L_impl_contentBoxes_x69 y65 v3) (0, w64)).bind fun y70 =>
 letO y70 fun y70k0 =>
 letO y70k0 fun w134 =>
 ((
    br (std.lt 0 (std.ofN (len w134)))
    ((F_impl_boxOf w134).bind fun y142 =>
    letO ([y142] : List TRect) fun l144 =>
    some l144)
    (some w134)
  ) : Option ((List TRect))).bind fun y135 =>
 letO y135 fun w141 =>
 ((
    letO ([w141] : List (List TRect)) fun l154 =>
    req (std.room (std.nadd (len v3) (len l154)) 24) <|
    letO (v3 ++ l154) fun l156 =>
    some l156
  ) : Option ((List (List TRect)))).bind fun y147 =>
 letO y147 fun w153 =>
 some (.inl (std.add .i64 v2 1, w153)))
 (some (.inr v3))
/-- impl.contentBoxes -/
noncomputable def F_impl_contentBoxes (a0 : TLibrary) : Option (List (List TRect)) :=
 (whileP (σ := Int × (List (List TRect))) (ρ := ((List (List TRect)))) (L_impl_contentBoxes_x4 a0) (0, ([] : List (List TRect)))).bind fun y5 =>
 letO y5 fun y5k0 =>
 letO y5k0 fun w160 =>
 some w160
set_option maxHeartbeats 4000000 in
theorem run_impl_contentBoxes (a0 : TLibrary) (r : List (List TRect)) (h : F_impl_contentBoxes a0 = some r) : Fun Tryz.prog 46 [.agg [.bs (len a0.fCells) 4 (row gd (encCell len gd) a0.fCells)]] [] (.c (.os 64000 0 (len r))) [(64000, .arr .rw [] (len r) 1 (row gd (oncL len gd 4 (encRect)) r))] true := by
 refine ow [19, 21, 22, 27, 100079] Tryz.func46 Tryz.ntmps46 ?_ (hv := (fun _ => ⟨trivial, ⟨fun i _ j _ => fl_oncL (vl_encRect) _ _, trivial⟩⟩)); unfold F_impl_contentBoxes at h; unfold L_impl_contentBoxes_x4 at h; unfold L_impl_contentBoxes_x21 at h; unfold L_impl_contentBoxes_x43 at h; unfold L_impl_contentBoxes_x69 at h; unfold L_impl_contentBoxes_x94 at h; have hf_impl_boxOf := @run_impl_boxOf
 have hf_impl_elements := @run_impl_elements; have hf_impl_moveRect := @run_impl_moveRect; have hf_impl_unitRect := @run_impl_unitRect; generalize hLEN : @len = LEN, hGD : @gd = GD, hA : std = A, hP : Tryz.prog = P at *; cbv; have e1 : 0 = LEN ([] : List (List TRect)) := by subst hLEN; rfl
 refine ⟨_, (co e1), _, row GD (oncL LEN GD 4 (encRect)) ([] : List (List TRect)), e1, wkOf ?_, ?_⟩
 ·intro i hi j hj; rw [← e1] at hi; subst hGD; omega
 cbv
 revert h; refine ln (.exit 0) (fun x => (sparse 89 [(3, .c (.os 960 0 (LEN x.2))), (17, .c (.bs (LEN a0.fCells) 4 (row GD (encCell LEN GD) a0.fCells))), (18, .c (.v (.int .i64 (A.ofN (LEN a0.fCells))))), (19, .c (.v (.int .i64 x.1)))] [(960, .arr .rw [] (LEN x.2) 1 (row GD (oncL LEN GD 4 (encRect)) x.2))])) (fun w => (sparse 89 [(3, .c (.os 960 0 (LEN w)))] [(960, .arr .rw [] (LEN w) 1 (row GD (oncL LEN GD 4 (encRect)) w))])) zb ?_ ?_
 ·rintro ⟨v2, v3⟩ z h K hK hY; replace h := oz (oz h); dsimp only at h; cbv; revert h; refine fk ?_ ?_ <;> intro h <;> cbv
  ·revert h; refine ra fun c16 h => ?_; revert h; refine rl fun l17 hl17 h => ?_; have e18 : 0 = LEN l17 := by subst hl17 hLEN; rfl
   refine ⟨_, (co e18), _, row GD (encRect) l17, e18, wkOf ?_, ?_⟩
   ·intro i hi j hj; rw [← e18] at hi; subst hl17; subst hGD; omega
   cbv
   revert h; refine ln (.exit 2) (fun x => (sparse 89 [(3, .c (.os 960 0 (LEN v3))), (5, .c (.ptr 320 0)), (6, .c (.os 1472 0 (LEN x.2))), (17, .c (.bs (LEN a0.fCells) 4 (row GD (encCell LEN GD) a0.fCells))), (18, .c (.v (.int .i64 (A.ofN (LEN a0.fCells))))), (19, .c (.v (.int .i64 v2))), (25, .c (.bs (LEN (GD a0.fCells (A.toN v2)).fShapes) 5 (row GD (encShape) (GD a0.fCells (A.toN v2)).fShapes))), (26, .c (.v (.int .i64 (A.ofN (LEN (GD a0.fCells (A.toN v2)).fShapes))))), (27, .c (.v (.int .i64 x.1)))] [(960, .arr .rw [] (LEN v3) 1 (row GD (oncL LEN GD 4 (encRect)) v3)), (320, .var [.v (.string (GD a0.fCells (A.toN v2)).fName), .bs (LEN (GD a0.fCells (A.toN v2)).fShapes) 5 (row GD (encShape) (GD a0.fCells (A.toN v2)).fShapes), .bs (LEN (GD a0.fCells (A.toN v2)).fLabels) 4 (row GD (encLabel) (GD a0.fCells (A.toN v2)).fLabels), .bs (LEN (GD a0.fCells (A.toN v2)).fInstances) 8 (row GD (encInstance) (GD a0.fCells (A.toN v2)).fInstances)]), (1472, .arr .rw [] (LEN x.2) 4 (row GD (encRect) x.2))])) (fun w => (sparse 89 [(3, .c (.os 960 0 (LEN v3))), (5, .c (.ptr 320 0)), (6, .c (.os 1472 0 (LEN w))), (17, .c (.bs (LEN a0.fCells) 4 (row GD (encCell LEN GD) a0.fCells))), (18, .c (.v (.int .i64 (A.ofN (LEN a0.fCells))))), (19, .c (.v (.int .i64 v2)))] [(960, .arr .rw [] (LEN v3) 1 (row GD (oncL LEN GD 4 (encRect)) v3)), (320, .var [.v (.string (GD a0.fCells (A.toN v2)).fName), .bs (LEN (GD a0.fCells (A.toN v2)).fShapes) 5 (row GD (encShape) (GD a0.fCells (A.toN v2)).fShapes), .bs (LEN (GD a0.fCells (A.toN v2)).fLabels) 4 (row GD (encLabel) (GD a0.fCells (A.toN v2)).fLabels), .bs (LEN (GD a0.fCells (A.toN v2)).fInstances) 8 (row GD (encInstance) (GD a0.fCells (A.toN v2)).fInstances)]), (1472, .arr .rw [] (LEN w) 4 (row GD (encRect) w))])) zb ?_ ?_
   ·rintro ⟨v19, v20⟩ z h K hK hY; replace h := oz (oz h); dsimp only at h; cbv; revert h; refine fk ?_ ?_ <;> intro h <;> cbv
    ·revert h; refine ra fun c33 h => ?_; revert h; refine rl fun l34 hl34 h => ?_; have e35 : 1 = LEN l34 := by subst hl34 hLEN; rfl
     refine ⟨_, (co e35), _, row GD (encRect) l34, e35, wkOf ?_, ?_⟩
     ·intro i hi j hj; rw [← e35] at hi; subst hl34; subst hGD; obtain rfl : i = 0 := (by omega) <;> obtain rfl | rfl | rfl | rfl : j = 0 ∨ j = 1 ∨ j = 2 ∨ j = 3 := (by omega)
      all_goals rfl
     cbv; revert h; refine rq fun c38 => rl fun l36 hl36 h => ?_; have e37 := nl hA hLEN hl36; refine ⟨c38, _, (co e37), _, row GD (encRect) l36, e37, wkOf ?_, ?_⟩
     ·subst hGD hLEN hA; exact app_os (off := 0) (pl_encRect) hl36 (Nat.le_refl _)
     cbv; exact dm
    exact dx
   intro w40 h s q30; replace h := oz (oz h); cbv; refine ⟨_, q30, ?_⟩; cbv
   revert h; refine ln (.exit 4) (fun x => (sparse 89 [(3, .c (.os 960 0 (LEN v3))), (5, .c (.ptr 320 0)), (6, .c (.os 1472 0 (LEN x.2))), (17, .c (.bs (LEN a0.fCells) 4 (row GD (encCell LEN GD) a0.fCells))), (18, .c (.v (.int .i64 (A.ofN (LEN a0.fCells))))), (19, .c (.v (.int .i64 v2))), (38, .c (.bs (LEN (GD a0.fCells (A.toN v2)).fLabels) 4 (row GD (encLabel) (GD a0.fCells (A.toN v2)).fLabels))), (39, .c (.v (.int .i64 (A.ofN (LEN (GD a0.fCells (A.toN v2)).fLabels))))), (40, .c (.v (.int .i64 x.1)))] [(960, .arr .rw [] (LEN v3) 1 (row GD (oncL LEN GD 4 (encRect)) v3)), (320, .var [.v (.string (GD a0.fCells (A.toN v2)).fName), .bs (LEN (GD a0.fCells (A.toN v2)).fShapes) 5 (row GD (encShape) (GD a0.fCells (A.toN v2)).fShapes), .bs (LEN (GD a0.fCells (A.toN v2)).fLabels) 4 (row GD (encLabel) (GD a0.fCells (A.toN v2)).fLabels), .bs (LEN (GD a0.fCells (A.toN v2)).fInstances) 8 (row GD (encInstance) (GD a0.fCells (A.toN v2)).fInstances)]), (1472, .arr .rw [] (LEN x.2) 4 (row GD (encRect) x.2))])) (fun w => (sparse 89 [(3, .c (.os 960 0 (LEN v3))), (5, .c (.ptr 320 0)), (6, .c (.os 1472 0 (LEN w))), (17, .c (.bs (LEN a0.fCells) 4 (row GD (encCell LEN GD) a0.fCells))), (18, .c (.v (.int .i64 (A.ofN (LEN a0.fCells))))), (19, .c (.v (.int .i64 v2)))] [(960, .arr .rw [] (LEN v3) 1 (row GD (oncL LEN GD 4 (encRect)) v3)), (320, .var [.v (.string (GD a0.fCells (A.toN v2)).fName), .bs (LEN (GD a0.fCells (A.toN v2)).fShapes) 5 (row GD (encShape) (GD a0.fCells (A.toN v2)).fShapes), .bs (LEN (GD a0.fCells (A.toN v2)).fLabels) 4 (row GD (encLabel) (GD a0.fCells (A.toN v2)).fLabels), .bs (LEN (GD a0.fCells (A.toN v2)).fInstances) 8 (row GD (encInstance) (GD a0.fCells (A.toN v2)).fInstances)]), (1472, .arr .rw [] (LEN w) 4 (row GD (encRect) w))])) zb ?_ ?_
   ·rintro ⟨v41, v42⟩ z h K hK hY; replace h := oz (oz h); dsimp only at h; cbv; revert h; refine fk ?_ ?_ <;> intro h <;> cbv
    ·revert h; refine ra fun c55 h => ?_; revert h; refine rk0 (hf_impl_unitRect _) fun y56 h => ?_; cbv; revert h; refine rl fun l58 hl58 h => ?_; have e59 : 1 = LEN l58 := by subst hl58 hLEN; rfl
     refine ⟨_, (co e59), _, row GD (encRect) l58, e59, wkOf ?_, ?_⟩
     ·intro i hi j hj; rw [← e59] at hi; subst hl58; subst hGD; obtain rfl : i = 0 := (by omega) <;> obtain rfl | rfl | rfl | rfl : j = 0 ∨ j = 1 ∨ j = 2 ∨ j = 3 := (by omega)
      all_goals rfl
     cbv; revert h; refine rq fun c62 => rl fun l60 hl60 h => ?_; have e61 := nl hA hLEN hl60; refine ⟨c62, _, (co e61), _, row GD (encRect) l60, e61, wkOf ?_, ?_⟩
     ·subst hGD hLEN hA; exact app_os (off := 0) (pl_encRect) hl60 (Nat.le_refl _)
     cbv; exact dm
    exact dx
   intro w64 h s q52; replace h := oz (oz h); cbv; refine ⟨_, q52, ?_⟩; cbv; revert h; refine rk [] [(64000, 3328)] (hf_impl_elements _) (fun _ => zf) fun y65 h => ⟨_, rfl, _, _, rfl, fun _ _ _ _ => .refl _, ?_⟩
   cbv
   revert h; refine ln (.exit 6) (fun x => (sparse 89 [(3, .c (.os 960 0 (LEN v3))), (6, .c (.os 1472 0 (LEN x.2))), (17, .c (.bs (LEN a0.fCells) 4 (row GD (encCell LEN GD) a0.fCells))), (18, .c (.v (.int .i64 (A.ofN (LEN a0.fCells))))), (19, .c (.v (.int .i64 v2))), (52, .c (.os 3328 0 (LEN y65))), (53, .c (.v (.int .i64 (A.ofN (LEN y65))))), (54, .c (.v (.int .i64 x.1)))] [(960, .arr .rw [] (LEN v3) 1 (row GD (oncL LEN GD 4 (encRect)) v3)), (1472, .arr .rw [] (LEN x.2) 4 (row GD (encRect) x.2)), (3328, .arr .rw [] (LEN y65) 4 (row GD (encelement) y65))])) (fun w => (sparse 89 [(3, .c (.os 960 0 (LEN v3))), (6, .c (.os 1472 0 (LEN w))), (17, .c (.bs (LEN a0.fCells) 4 (row GD (encCell LEN GD) a0.fCells))), (18, .c (.v (.int .i64 (A.ofN (LEN a0.fCells))))), (19, .c (.v (.int .i64 v2)))] [(960, .arr .rw [] (LEN v3) 1 (row GD (oncL LEN GD 4 (encRect)) v3)), (1472, .arr .rw [] (LEN w) 4 (row GD (encRect) w))])) zb ?_ ?_
   ·rintro ⟨v67, v68⟩ z h K hK hY; replace h := oz (oz h); dsimp only at h; cbv; revert h; refine fk ?_ ?_ <;> intro h <;> cbv
    ·revert h; refine ra fun c81 h => ?_; refine ai c81 ?_
     revert h; refine cu (fun y82 => (sparse 89 [(3, .c (.os 960 0 (LEN v3))), (6, .c (.os 1472 0 (LEN v68))), (12, .c (.ptr 768 0)), (17, .c (.bs (LEN a0.fCells) 4 (row GD (encCell LEN GD) a0.fCells))), (18, .c (.v (.int .i64 (A.ofN (LEN a0.fCells))))), (19, .c (.v (.int .i64 v2))), (52, .c (.os 3328 0 (LEN y65))), (53, .c (.v (.int .i64 (A.ofN (LEN y65))))), (54, .c (.v (.int .i64 v67))), (62, .c (.os 3970 0 (LEN (GD v3 (A.nadd 0 (A.toN (GD y65 (A.nadd 0 (A.toN v67))).gcell)))))), (63, .c (.v (.int .i64 y82.1))), (64, .c (.v (.int .i64 y82.2)))] [(960, .arr .rw [3970] (LEN v3) 1 (patchC (row GD (oncL LEN GD 4 (encRect)) v3) (A.nadd 0 (A.toN (GD y65 (A.nadd 0 (A.toN v67))).gcell)) [.os 3970 0 (LEN (GD v3 (A.nadd 0 (A.toN (GD y65 (A.nadd 0 (A.toN v67))).gcell))))])), (1472, .arr .rw [] (LEN v68) 4 (row GD (encRect) v68)), (768, .var [.v (.int .i64 (GD y65 (A.nadd 0 (A.toN v67))).gcell), .v (.int .i64 (GD y65 (A.nadd 0 (A.toN v67))).gplace.fOrientation), .v (.int .i64 (GD y65 (A.nadd 0 (A.toN v67))).gplace.fX), .v (.int .i64 (GD y65 (A.nadd 0 (A.toN v67))).gplace.fY)]), (3328, .arr .rw [] (LEN y65) 4 (row GD (encelement) y65)), (3970, .arr .rw [] (LEN (GD v3 (A.nadd 0 (A.toN (GD y65 (A.nadd 0 (A.toN v67))).gcell)))) 4 (row GD (encRect) (GD v3 (A.nadd 0 (A.toN (GD y65 (A.nadd 0 (A.toN v67))).gcell)))))])) ?_ ?_
     ·intro y82 S hS h; cbv; revert h; refine ra fun c90 h => ?_; refine ai c90 ?_; refine ⟨_, rfl, _, (patchC (row GD (oncL LEN GD 4 (encRect)) v3) (A.nadd 0 (A.toN (GD y65 (A.nadd 0 (A.toN v67))).gcell)) [.os 3970 0 (LEN (GD v3 (A.nadd 0 (A.toN (GD y65 (A.nadd 0 (A.toN v67))).gcell))))]), rfl, wkOf (patch_of zr), ?_⟩
      refine ⟨_, row GD (encRect) (GD v3 (A.nadd 0 (A.toN (GD y65 (A.nadd 0 (A.toN v67))).gcell))), rfl, wkOf (fun i _ j _ => plain_cp (pl_encRect _ _)), ?_⟩; cbv; exact dn
     rintro ⟨w88, w89⟩ h; replace h := oz (oz h); dsimp only at h; revert h; refine rq fun c91 h => ?_; cbv
     revert h; refine ln (.exit 8) (fun x => (sparse 89 [(3, .c (.os 960 0 (LEN v3))), (6, .c (.os 1472 0 (LEN x.2))), (12, .c (.ptr 768 0)), (17, .c (.bs (LEN a0.fCells) 4 (row GD (encCell LEN GD) a0.fCells))), (18, .c (.v (.int .i64 (A.ofN (LEN a0.fCells))))), (19, .c (.v (.int .i64 v2))), (52, .c (.os 3328 0 (LEN y65))), (53, .c (.v (.int .i64 (A.ofN (LEN y65))))), (54, .c (.v (.int .i64 v67))), (62, .c (.os 3970 0 (LEN (GD v3 (A.nadd 0 (A.toN (GD y65 (A.nadd 0 (A.toN v67))).gcell)))))), (63, .c (.v (.int .i64 w88))), (64, .c (.v (.int .i64 x.1)))] [(960, .arr .rw [3970] (LEN v3) 1 (patchC (row GD (oncL LEN GD 4 (encRect)) v3) (A.nadd 0 (A.toN (GD y65 (A.nadd 0 (A.toN v67))).gcell)) [.os 3970 0 (LEN (GD v3 (A.nadd 0 (A.toN (GD y65 (A.nadd 0 (A.toN v67))).gcell))))])), (1472, .arr .rw [] (LEN x.2) 4 (row GD (encRect) x.2)), (768, .var [.v (.int .i64 (GD y65 (A.nadd 0 (A.toN v67))).gcell), .v (.int .i64 (GD y65 (A.nadd 0 (A.toN v67))).gplace.fOrientation), .v (.int .i64 (GD y65 (A.nadd 0 (A.toN v67))).gplace.fX), .v (.int .i64 (GD y65 (A.nadd 0 (A.toN v67))).gplace.fY)]), (3328, .arr .rw [] (LEN y65) 4 (row GD (encelement) y65)), (3970, .arr .rw [] (LEN (GD v3 (A.nadd 0 (A.toN (GD y65 (A.nadd 0 (A.toN v67))).gcell)))) 4 (row GD (encRect) (GD v3 (A.nadd 0 (A.toN (GD y65 (A.nadd 0 (A.toN v67))).gcell)))))])) (fun w => (sparse 89 [(3, .c (.os 960 0 (LEN v3))), (6, .c (.os 1472 0 (LEN w))), (17, .c (.bs (LEN a0.fCells) 4 (row GD (encCell LEN GD) a0.fCells))), (18, .c (.v (.int .i64 (A.ofN (LEN a0.fCells))))), (19, .c (.v (.int .i64 v2))), (52, .c (.os 3328 0 (LEN y65))), (53, .c (.v (.int .i64 (A.ofN (LEN y65))))), (54, .c (.v (.int .i64 v67)))] [(960, .arr .rw [] (LEN v3) 1 (row GD (oncL LEN GD 4 (encRect)) v3)), (1472, .arr .rw [] (LEN w) 4 (row GD (encRect) w)), (3328, .arr .rw [] (LEN y65) 4 (row GD (encelement) y65))])) zb ?_ ?_
     ·rintro ⟨v92, v93⟩ z h K hK hY; replace h := oz (oz h); dsimp only at h; cbv; revert h; refine fk ?_ ?_ <;> intro h <;> cbv
      ·revert h; refine cu (fun y106 => (sparse 89 [(3, .c (.os 960 0 (LEN v3))), (6, .c (.os 1472 0 (LEN v93))), (12, .c (.ptr 768 0)), (14, .c (.ptr 896 0)), (17, .c (.bs (LEN a0.fCells) 4 (row GD (encCell LEN GD) a0.fCells))), (18, .c (.v (.int .i64 (A.ofN (LEN a0.fCells))))), (19, .c (.v (.int .i64 v2))), (52, .c (.os 3328 0 (LEN y65))), (53, .c (.v (.int .i64 (A.ofN (LEN y65))))), (54, .c (.v (.int .i64 v67))), (62, .c (.os 3970 0 (LEN (GD v3 (A.nadd 0 (A.toN (GD y65 (A.nadd 0 (A.toN v67))).gcell)))))), (63, .c (.v (.int .i64 w88))), (64, .c (.v (.int .i64 v92)))] [(960, .arr .rw [3970] (LEN v3) 1 (patchC (row GD (oncL LEN GD 4 (encRect)) v3) (A.nadd 0 (A.toN (GD y65 (A.nadd 0 (A.toN v67))).gcell)) [.os 3970 0 (LEN (GD v3 (A.nadd 0 (A.toN (GD y65 (A.nadd 0 (A.toN v67))).gcell))))])), (1472, .arr .rw [] (LEN v93) 4 (row GD (encRect) v93)), (768, .var [.v (.int .i64 (GD y65 (A.nadd 0 (A.toN v67))).gcell), .v (.int .i64 (GD y65 (A.nadd 0 (A.toN v67))).gplace.fOrientation), .v (.int .i64 (GD y65 (A.nadd 0 (A.toN v67))).gplace.fX), .v (.int .i64 (GD y65 (A.nadd 0 (A.toN v67))).gplace.fY)]), (896, .var [.v (.int .i64 y106.1), .v (.int .i64 y106.2.1), .v (.int .i64 y106.2.2.1), .v (.int .i64 y106.2.2.2)]), (3328, .arr .rw [] (LEN y65) 4 (row GD (encelement) y65)), (3970, .arr .rw [] (LEN (GD v3 (A.nadd 0 (A.toN (GD y65 (A.nadd 0 (A.toN v67))).gcell)))) 4 (row GD (encRect) (GD v3 (A.nadd 0 (A.toN (GD y65 (A.nadd 0 (A.toN v67))).gcell)))))])) ?_ ?_
       ·intro y106 S hS h; cbv; revert h; refine ra fun c116 h => ?_; refine ai c116 ?_; exact dn
       rintro ⟨w112, w113, w114, w115⟩ h; replace h := oz (oz (oz (oz h))); dsimp only at h; cbv
       revert h; refine cu (fun y117 => (sparse 89 [(3, .c (.os 960 0 (LEN v3))), (6, .c (.os 1472 0 (LEN y117))), (12, .c (.ptr 768 0)), (17, .c (.bs (LEN a0.fCells) 4 (row GD (encCell LEN GD) a0.fCells))), (18, .c (.v (.int .i64 (A.ofN (LEN a0.fCells))))), (19, .c (.v (.int .i64 v2))), (52, .c (.os 3328 0 (LEN y65))), (53, .c (.v (.int .i64 (A.ofN (LEN y65))))), (54, .c (.v (.int .i64 v67))), (62, .c (.os 3970 0 (LEN (GD v3 (A.nadd 0 (A.toN (GD y65 (A.nadd 0 (A.toN v67))).gcell)))))), (63, .c (.v (.int .i64 w88))), (64, .c (.v (.int .i64 v92)))] [(960, .arr .rw [3970] (LEN v3) 1 (patchC (row GD (oncL LEN GD 4 (encRect)) v3) (A.nadd 0 (A.toN (GD y65 (A.nadd 0 (A.toN v67))).gcell)) [.os 3970 0 (LEN (GD v3 (A.nadd 0 (A.toN (GD y65 (A.nadd 0 (A.toN v67))).gcell))))])), (1472, .arr .rw [] (LEN y117) 4 (row GD (encRect) y117)), (768, .var [.v (.int .i64 (GD y65 (A.nadd 0 (A.toN v67))).gcell), .v (.int .i64 (GD y65 (A.nadd 0 (A.toN v67))).gplace.fOrientation), .v (.int .i64 (GD y65 (A.nadd 0 (A.toN v67))).gplace.fX), .v (.int .i64 (GD y65 (A.nadd 0 (A.toN v67))).gplace.fY)]), (3328, .arr .rw [] (LEN y65) 4 (row GD (encelement) y65)), (3970, .arr .rw [] (LEN (GD v3 (A.nadd 0 (A.toN (GD y65 (A.nadd 0 (A.toN v67))).gcell)))) 4 (row GD (encRect) (GD v3 (A.nadd 0 (A.toN (GD y65 (A.nadd 0 (A.toN v67))).gcell)))))])) ?_ fun w123 => rz fun h => ?_
       ·intro y117 S hS h; cbv; revert h; refine rk0 (hf_impl_moveRect _ _) fun y124 h => ?_; cbv; revert h; refine rl fun l126 hl126 h => ?_; have e127 : 1 = LEN l126 := by subst hl126 hLEN; rfl
        refine ⟨_, (co e127), _, row GD (encRect) l126, e127, wkOf ?_, ?_⟩
        ·intro i hi j hj; rw [← e127] at hi; subst hl126; subst hGD; obtain rfl : i = 0 := (by omega) <;> obtain rfl | rfl | rfl | rfl : j = 0 ∨ j = 1 ∨ j = 2 ∨ j = 3 := (by omega)
         all_goals rfl
        cbv; revert h; refine rq fun c130 => rl fun l128 hl128 h => ?_; have e129 := nl hA hLEN hl128; refine ⟨c130, _, (co e129), _, row GD (encRect) l128, e129, wkOf ?_, ?_⟩
        ·subst hGD hLEN hA; exact app_os (off := 0) (pl_encRect) hl128 (Nat.le_refl _)
        cbv; exact dn
       cbv; exact dm
      injection h with h; refine hY _ h.symm _ ?_; refine St.le_trans (le_foldP 960 0 3970 rfl rfl rfl (by decide) (by subst hA; exact idx_lt c91) (by decide) rfl (fun _ _ => rfl)) ?_; exact le_sparse rfl zl ⟨oP (fun _ _ => rfl) (by subst hGD hLEN hA; exact patch_same zr), oS, oS, trivial⟩ rfl
     intro w132 h s q103; replace h := oz (oz h); cbv; refine ⟨_, q103, ?_⟩; cbv; exact dm
    exact dx
   intro w134 h s q78; replace h := oz (oz h); cbv; refine ⟨_, q78, ?_⟩; cbv
   revert h; refine cu (fun y135 => some (sparse 89 [(3, .c (.os 960 0 (LEN v3))), (6, .c (.os 5248 0 (LEN y135))), (17, .c (.bs (LEN a0.fCells) 4 (row GD (encCell LEN GD) a0.fCells))), (18, .c (.v (.int .i64 (A.ofN (LEN a0.fCells))))), (19, .c (.v (.int .i64 v2)))] [(960, .arr .rw [] (LEN v3) 1 (row GD (oncL LEN GD 4 (encRect)) v3)), (5248, .arr .rw [] (LEN y135) 4 (row GD (encRect) y135))])) ?_ fun w141 => rz fun h => ?_
   ·intro y135 S hS h; cbv; revert h; refine fk ?_ ?_ <;> intro h <;> cbv
    ·revert h; refine rk [] [] (hf_impl_boxOf _) (fun _ => zg (les_cons (give_os (pl_encRect) rfl rfl rfl) (les_nil))) fun y142 h => ?_; cbv; revert h; refine rl fun l144 hl144 h => ?_; have e145 : 1 = LEN l144 := by subst hl144 hLEN; rfl
     refine ⟨_, (co e145), _, row GD (encRect) l144, e145, wkOf ?_, ?_⟩
     ·intro i hi j hj; rw [← e145] at hi; subst hl144; subst hGD; obtain rfl : i = 0 := (by omega) <;> obtain rfl | rfl | rfl | rfl : j = 0 ∨ j = 1 ∨ j = 2 ∨ j = 3 := (by omega)
      all_goals rfl
     cbv; exact dn
    injection h with h; subst h; subst hS; show St.le _ _; refine St.le_trans (le_ren 1472 5248 (by decide) rfl) ?_; exact zb
   cbv; revert h; refine cu (fun y147 => (sparse 89 [(3, .c (.os 960 0 (LEN y147))), (17, .c (.bs (LEN a0.fCells) 4 (row GD (encCell LEN GD) a0.fCells))), (18, .c (.v (.int .i64 (A.ofN (LEN a0.fCells))))), (19, .c (.v (.int .i64 v2)))] [(960, .arr .rw [] (LEN y147) 1 (row GD (oncL LEN GD 4 (encRect)) y147))])) ?_ fun w153 => rz fun h => ?_
   ·intro y147 S hS h; cbv; revert h; refine rl fun l154 hl154 h => ?_; have e155 : 1 = LEN l154 := by subst hl154 hLEN; rfl
    refine ⟨_, (co e155), _, (patchC (fun _ _ => AC.junk) 0 [.os 5248 0 (LEN w141)]), e155, wkOf ?_, ?_⟩
    ·refine patch_one (by subst hl154 hLEN; rfl) ?_; exact zr
    cbv; revert h; refine rq fun c158 => rl fun l156 hl156 h => ?_; have e157 := nl hA hLEN hl156; refine ⟨c158, _, (co e157), _, (patchC (row GD (oncL LEN GD 4 (encRect)) v3) (LEN v3) [.os 5248 0 (LEN w141)]), e157, wkOf ?_, ?_⟩
    ·subst hLEN hA; refine patch_joinG (by first | (rw [hl156]; simp [len]; done) | (rw [hl156]; simp [len]; omega) | (subst_vars; simp [len])) ?_; exact zr
    cbv; rw [hl154] at hl156; injection h with h; subst h; subst hS; show St.le _ _; refine St.le_trans (le_foldP 960 0 5248 rfl rfl rfl (by decide) (by subst hLEN; exact app_lt hl156) (by decide) rfl (fun _ _ => rfl)) ?_; exact le_sparse rfl zl ⟨oP (fun _ _ => rfl) (by subst hGD hLEN hA; exact patch_app hl156 (Nat.le_refl _) zr), trivial⟩ rfl
   cbv; exact dm
  exact dx
 intro w160 h s q13; replace h := oz (oz h); cbv; refine ⟨_, q13, ?_⟩; cbv; injection h with h; subst h; exact ⟨_, le_ren 960 64000 (by decide) rfl, lR _, zo, rfl⟩

/-- impl.composed -/
noncomputable def F_impl_composed (a0 : Int) (a1 : Int) : Option (Int) :=
 req (std.nz 4) <|
 req (std.nz 4) <|
 ((
    br (std.le 4 a1)
    (req (std.nz 4) <|
    req (std.nz 4) <|
    some (std.sub .i64 (std.add .i64 (std.rem a1 4) 4) (std.rem a0 4)))
    (some (std.add .i64 (std.rem a1 4) (std.rem a0 4)))
  ) : Option (Int)).bind fun y3 =>
 letO y3 fun w9 =>
 req (std.nz 4) <|
 ((
    br (std.not (std.beq (std.le 4 a0) (std.le 4 a1)))
    (some (std.add .i64 (std.rem w9 4) 4))
    (some (std.rem w9 4))
  ) : Option (Int)).bind fun y14 =>
 letO y14 fun w20 =>
 some w20
set_option maxHeartbeats 4000000 in
theorem run_impl_composed (a0 : Int) (a1 : Int) (r : Int) (h : F_impl_composed a0 a1 = some r) : Fun Tryz.prog 104 [.c (.v (.int .i64 a0)), .c (.v (.int .i64 a1))] [] (.c (.v (.int .i64 r))) [] true := by
 refine ow [100013, 100026] Tryz.func104 Tryz.ntmps104 ?_; unfold F_impl_composed at h; generalize hLEN : @len = LEN, hGD : @gd = GD, hA : std = A, hP : Tryz.prog = P at *; cbv; revert h; refine ra fun c1 h => ?_; revert h; refine ra fun c2 h => ?_
 revert h; refine cu (fun y3 => some (sparse 30 [(0, .c (.v (.int .i64 a0))), (1, .c (.v (.int .i64 a1))), (5, .c (.v (.int .i64 y3)))] [])) (fun y3 S hS h => rg) fun w9 => rz fun h => ?_; cbv; revert h; refine ra fun c13 h => ?_; revert h; refine cu (fun y14 => some (sparse 30 [(6, .c (.v (.int .i64 y14)))] [])) (fun y14 S hS h => rg) fun w20 => rz fun h => ?_; cbv; exact df

/-- impl.compose -/
noncomputable def F_impl_compose (a0 : TTransform) (a1 : TTransform) : Option (TTransform) :=
 (F_impl_move a1 (TPoint.mk a0.fX a0.fY)).bind fun y1 =>
 (F_impl_composed a0.fOrientation a1.fOrientation).bind fun y3 =>
 some (TTransform.mk y3 y1.fX y1.fY)
set_option maxHeartbeats 4000000 in
theorem run_impl_compose (a0 : TTransform) (a1 : TTransform) (r : TTransform) (h : F_impl_compose a0 a1 = some r) : Fun Tryz.prog 73 [.agg [.v (.int .i64 a0.fOrientation), .v (.int .i64 a0.fX), .v (.int .i64 a0.fY)], .agg [.v (.int .i64 a1.fOrientation), .v (.int .i64 a1.fX), .v (.int .i64 a1.fY)]] [] (.agg [.v (.int .i64 r.fOrientation), .v (.int .i64 r.fX), .v (.int .i64 r.fY)]) [] true := by
 refine ow [] Tryz.func73 Tryz.ntmps73 ?_ (hv := (fun _ => ⟨(by simp [AV.flat, AV.flat1, AC.flat]), trivial⟩)); unfold F_impl_compose at h; have hf_impl_composed := @run_impl_composed; have hf_impl_move := @run_impl_move; generalize hLEN : @len = LEN, hGD : @gd = GD, hA : std = A, hP : Tryz.prog = P at *; cbv; revert h; refine rk0 (hf_impl_move _ _) fun y1 h => ?_; cbv
 revert h; refine rk0 (hf_impl_composed _ _) fun y3 h => ?_; cbv; exact df
end Go.Proofs.YtpobpihakgegbaaGreat.AM
