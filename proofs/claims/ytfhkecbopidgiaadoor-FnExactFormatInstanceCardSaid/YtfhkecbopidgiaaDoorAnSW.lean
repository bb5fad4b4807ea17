/-
  What the functions that the law reaches compute, and that they do. No condition.
-/
import Derived.Test.YtfhkecbopidgiaaDoorAnSV
import Derived.Test.YtfhkecbopidgiaaDoorAnE
namespace Go.Proofs.YtfhkecbopidgiaaDoor.AM
open Go Go.Proofs Go.RowKit
set_option linter.unusedVariables false
set_option linter.unusedSimpArgs false
set_option maxRecDepth 100000

noncomputable def L_slices_IndexFunc_Limpl_Shape_impl_Shape_mbFimpl_validCell_1_x2 (a0 : List TShape) : (Int) → Option ((Int) ⊕ ((Int) ⊕ (Unit))) := fun x2 =>
 letO x2 fun v1 =>
 br (std.lt v1 (std.ofN (len a0)))
 (req (std.inR v1 (len a0)) <|
 (F_impl_validCell_1 (gd a0 (std.toN v1))).bind fun y15 =>
 br y15
 (some (.inr (.inl v1)))
 (some (.inl (std.add .i64 v1 1))))
 (some (.inr (.inr ())))
/-- impl.Shape] -/
noncomputable def F_slices_IndexFunc_Limpl_Shape_impl_Shape_mbFimpl_validCell_1 (a0 : List TShape) : Option (Int) :=
 (whileP (σ := Int) (ρ := (Int) ⊕ (Unit)) (L_slices_IndexFunc_Limpl_Shape_impl_Shape_mbFimpl_validCell_1_x2 a0) 0).bind fun y3 =>
 (match y3 with
  | .inl y3k0 => (
    letO y3k0 fun w19 =>
    some w19)
  | .inr y3m0 =>
    some (-1))
set_option maxHeartbeats 4000000 in
theorem run_slices_IndexFunc_Limpl_Shape_impl_Shape_mbFimpl_validCell_1 (a0 : List TShape) (r : Int) (h : F_slices_IndexFunc_Limpl_Shape_impl_Shape_mbFimpl_validCell_1 a0 = some r) : Fun Tryd.prog 95 [.c (.bs (len a0) 5 (row gd (encShape) a0)), .c (.fn 73 0 fun _ => .junk)] [] (.c (.v (.int .i64 r))) [] true := by
 refine ow [] Tryd.func95 Tryd.ntmps95 ?_; unfold F_slices_IndexFunc_Limpl_Shape_impl_Shape_mbFimpl_validCell_1 at h; unfold L_slices_IndexFunc_Limpl_Shape_impl_Shape_mbFimpl_validCell_1_x2 at h; have hf_impl_validCell_1 := @run_impl_validCell_1; generalize hLEN : @len = LEN, hGD : @gd = GD, hA : std = A, hP : Tryd.prog = P at *; cbv
 revert h; refine lc (fun x => (sparse 19 [(0, .c (.bs (LEN a0) 5 (row GD (encShape) a0))), (1, .c (.fn 73 0 fun _ => .junk)), (7, .c (.v (.int .i64 (A.ofN (LEN a0))))), (8, .c (.v (.int .i64 x)))] [])) (fun y e s => (match y with | .inl w => e = .ret ∧ s.le (sparse 19 [(4, .c (.v (.int .i64 w)))] []) | .inr w0 => (fun (w : Unit) => e = .exit 0 ∧ s.le (sparse 19 [] [])) w0)) zb ?_ ?_
 ·intro v1 z h K hK hY; replace h := oz h; cbv; revert h; refine fk ?_ ?_ <;> intro h <;> cbv
  ·revert h; refine ra fun c14 h => ?_; revert h; refine rk0 (hf_impl_validCell_1 _) fun y15 h => ?_; cbv; revert h; refine fk ?_ ?_ <;> intro h <;> cbv
   ·exact dy
   exact dm
  exact dy
 intro y3 h e12 s13 q11 hne; rcases y3 with y3k0 | y3m0
 ·replace h := h; obtain ⟨rfl, q11⟩ := q11; revert h; refine rz fun h => ?_; cbv; injection h with h; subst h; exact ⟨_, q11, lR _, zo, rfl⟩
 ·obtain ⟨rfl, q11⟩ := q11; cbv; refine ⟨_, q11, ?_⟩; cbv; exact df

/-- impl.Shape] -/
noncomputable def F_slices_ContainsFunc_Limpl_Shape_impl_Shape_mbFimpl_validCell_1 (a0 : List TShape) : Option (Bool) :=
 (F_slices_IndexFunc_Limpl_Shape_impl_Shape_mbFimpl_validCell_1 a0).bind fun y1 =>
 some (std.le 0 y1)
set_option maxHeartbeats 4000000 in
theorem run_slices_ContainsFunc_Limpl_Shape_impl_Shape_mbFimpl_validCell_1 (a0 : List TShape) (r : Bool) (h : F_slices_ContainsFunc_Limpl_Shape_impl_Shape_mbFimpl_validCell_1 a0 = some r) : Fun Tryd.prog 72 [.c (.bs (len a0) 5 (row gd (encShape) a0)), .c (.fn 73 0 fun _ => .junk)] [] (.c (.v (.bool r))) [] true := by
 refine ow [] Tryd.func72 Tryd.ntmps72 ?_; unfold F_slices_ContainsFunc_Limpl_Shape_impl_Shape_mbFimpl_validCell_1 at h; have hf_slices_IndexFunc_Limpl_Shape_impl_Shape_mbFimpl_validCell_1 := @run_slices_IndexFunc_Limpl_Shape_impl_Shape_mbFimpl_validCell_1; generalize hLEN : @len = LEN, hGD : @gd = GD, hA : std = A, hP : Tryd.prog = P at *; cbv
 revert h; refine rk0 (hf_slices_IndexFunc_Limpl_Shape_impl_Shape_mbFimpl_validCell_1 _) fun y1 h => ?_; cbv; exact df

/-- impl.isUnitCell -/
noncomputable def F_impl_isUnitCell (a0 : TPoint) : Option (Bool) :=
 ((
    (F_impl_within a0.fX (-40) 39).bind fun y8 =>
    br y8
    ((F_impl_within a0.fY (-40) 39).bind fun y10 =>
    some y10)
    (some false)
  ) : Option (Bool)).bind fun y1 =>
 letO y1 fun w7 =>
 some w7
set_option maxHeartbeats 4000000 in
theorem run_impl_isUnitCell (a0 : TPoint) (r : Bool) (h : F_impl_isUnitCell a0 = some r) : Fun Tryd.prog 97 [.agg [.v (.int .i64 a0.fX), .v (.int .i64 a0.fY)]] [] (.c (.v (.bool r))) [] true := by
 refine ow [1] Tryd.func97 Tryd.ntmps97 ?_; unfold F_impl_isUnitCell at h; have hf_impl_within := @run_impl_within; generalize hLEN : @len = LEN, hGD : @gd = GD, hA : std = A, hP : Tryd.prog = P at *; cbv; revert h; refine cu (fun y1 => (sparse 11 [(2, .c (.v (.bool y1)))] [])) ?_ fun w7 => rz fun h => ?_
 ·intro y1 S hS h; cbv; revert h; refine rk0 (hf_impl_within _ _ _) fun y8 h => ?_; cbv; revert h; refine fk ?_ ?_ <;> intro h <;> cbv
  ·revert h; refine rk0 (hf_impl_within _ _ _) fun y10 h => ?_; cbv; exact dn
  exact dn
 cbv; exact df

/-- impl.validLabel -/
noncomputable def F_impl_validLabel (a0 : TLabel) : Option (Bool) :=
 ((
    (F_impl_within a0.fLayer 0 7).bind fun y8 =>
    br y8
    ((F_impl_isUnitCell a0.fAt).bind fun y10 =>
    br y10
    ((F_impl_IsName a0.fName).bind fun y12 =>
    some y12)
    (some false))
    (some false)
  ) : Option (Bool)).bind fun y1 =>
 letO y1 fun w7 =>
 some w7
set_option maxHeartbeats 4000000 in
theorem run_impl_validLabel (a0 : TLabel) (r : Bool) (h : F_impl_validLabel a0 = some r) : Fun Tryd.prog 76 [.agg [.v (.int .i64 a0.fLayer), .v (.int .i64 a0.fAt.fX), .v (.int .i64 a0.fAt.fY), .v (.string a0.fName)]] [] (.c (.v (.bool r))) [] true := by
 refine ow [1] Tryd.func76 Tryd.ntmps76 ?_; unfold F_impl_validLabel at h; have hf_impl_IsName := @run_impl_IsName; have hf_impl_isUnitCell := @run_impl_isUnitCell; have hf_impl_within := @run_impl_within; generalize hLEN : @len = LEN, hGD : @gd = GD, hA : std = A, hP : Tryd.prog = P at *; cbv; revert h; refine cu (fun y1 => (sparse 16 [(2, .c (.v (.bool y1)))] [])) ?_ fun w7 => rz fun h => ?_
 ·intro y1 S hS h; cbv; revert h; refine rk0 (hf_impl_within _ _ _) fun y8 h => ?_; cbv; revert h; refine fk ?_ ?_ <;> intro h <;> cbv
  ·revert h; refine rk0 (hf_impl_isUnitCell _) fun y10 h => ?_; cbv; revert h; refine fk ?_ ?_ <;> intro h <;> cbv
   ·revert h; refine rk0 (hf_impl_IsName _) fun y12 h => ?_; cbv; exact dn
   exact dn
  exact dn
 cbv; exact df

/-- impl.validCell$2 -/
noncomputable def F_impl_validCell_2 (a0 : TLabel) : Option (Bool) :=
 (F_impl_validLabel (TLabel.mk a0.fLayer a0.fAt a0.fName)).bind fun y1 =>
 some (!(y1))
set_option maxHeartbeats 4000000 in
theorem run_impl_validCell_2 (a0 : TLabel) (r : Bool) (h : F_impl_validCell_2 a0 = some r) : Fun Tryd.prog 75 [.agg [.v (.int .i64 a0.fLayer), .v (.int .i64 a0.fAt.fX), .v (.int .i64 a0.fAt.fY), .v (.string a0.fName)]] [] (.c (.v (.bool r))) [] true := by
 refine ow [] Tryd.func75 Tryd.ntmps75 ?_; unfold F_impl_validCell_2 at h; have hf_impl_validLabel := @run_impl_validLabel; generalize hLEN : @len = LEN, hGD : @gd = GD, hA : std = A, hP : Tryd.prog = P at *; cbv; revert h; refine rk0 (hf_impl_validLabel _) fun y1 h => ?_; cbv; exact df

noncomputable def L_slices_IndexFunc_Limpl_Label_impl_Label_mbFimpl_validCell_2_x2 (a0 : List TLabel) : (Int) → Option ((Int) ⊕ ((Int) ⊕ (Unit))) := fun x2 =>
 letO x2 fun v1 =>
 br (std.lt v1 (std.ofN (len a0)))
 (req (std.inR v1 (len a0)) <|
 (F_impl_validCell_2 (gd a0 (std.toN v1))).bind fun y15 =>
 br y15
 (some (.inr (.inl v1)))
 (some (.inl (std.add .i64 v1 1))))
 (some (.inr (.inr ())))
/-- impl.Label] -/
noncomputable def F_slices_IndexFunc_Limpl_Label_impl_Label_mbFimpl_validCell_2 (a0 : List TLabel) : Option (Int) :=
 (whileP (σ := Int) (ρ := (Int) ⊕ (Unit)) (L_slices_IndexFunc_Limpl_Label_impl_Label_mbFimpl_validCell_2_x2 a0) 0).bind fun y3 =>
 (match y3 with
  | .inl y3k0 => (
    letO y3k0 fun w19 =>
    some w19)
  | .inr y3m0 =>
    some (-1))
set_option maxHeartbeats 4000000 in
theorem run_slices_IndexFunc_Limpl_Label_impl_Label_mbFimpl_validCell_2 (a0 : List TLabel) (r : Int) (h : F_slices_IndexFunc_Limpl_Label_impl_Label_mbFimpl_validCell_2 a0 = some r) : Fun Tryd.prog 96 [.c (.bs (len a0) 4 (row gd (encLabel) a0)), .c (.fn 75 0 fun _ => .junk)] [] (.c (.v (.int .i64 r))) [] true := by
 refine ow [] Tryd.func96 Tryd.ntmps96 ?_; unfold F_slices_IndexFunc_Limpl_Label_impl_Label_mbFimpl_validCell_2 at h; unfold L_slices_IndexFunc_Limpl_Label_impl_Label_mbFimpl_validCell_2_x2 at h; have hf_impl_validCell_2 := @run_impl_validCell_2; generalize hLEN : @len = LEN, hGD : @gd = GD, hA : std = A, hP : Tryd.prog = P at *; cbv
 revert h; refine lc (fun x => (sparse 19 [(0, .c (.bs (LEN a0) 4 (row GD (encLabel) a0))), (1, .c (.fn 75 0 fun _ => .junk)), (7, .c (.v (.int .i64 (A.ofN (LEN a0))))), (8, .c (.v (.int .i64 x)))] [])) (fun y e s => (match y with | .inl w => e = .ret ∧ s.le (sparse 19 [(4, .c (.v (.int .i64 w)))] []) | .inr w0 => (fun (w : Unit) => e = .exit 0 ∧ s.le (sparse 19 [] [])) w0)) zb ?_ ?_
 ·intro v1 z h K hK hY; replace h := oz h; cbv; revert h; refine fk ?_ ?_ <;> intro h <;> cbv
  ·revert h; refine ra fun c14 h => ?_; revert h; refine rk0 (hf_impl_validCell_2 _) fun y15 h => ?_; cbv; revert h; refine fk ?_ ?_ <;> intro h <;> cbv
   ·exact dy
   exact dm
  exact dy
 intro y3 h e12 s13 q11 hne; rcases y3 with y3k0 | y3m0
 ·replace h := h; obtain ⟨rfl, q11⟩ := q11; revert h; refine rz fun h => ?_; cbv; injection h with h; subst h; exact ⟨_, q11, lR _, zo, rfl⟩
 ·obtain ⟨rfl, q11⟩ := q11; cbv; refine ⟨_, q11, ?_⟩; cbv; exact df
/-- impl.Label] -/
noncomputable def F_slices_ContainsFunc_Limpl_Label_impl_Label_mbFimpl_validCell_2 (a0 : List TLabel) : Option (Bool) :=
 (F_slices_IndexFunc_Limpl_Label_impl_Label_mbFimpl_validCell_2 a0).bind fun y1 =>
 some (std.le 0 y1)
set_option maxHeartbeats 4000000 in
theorem run_slices_ContainsFunc_Limpl_Label_impl_Label_mbFimpl_validCell_2 (a0 : List TLabel) (r : Bool) (h : F_slices_ContainsFunc_Limpl_Label_impl_Label_mbFimpl_validCell_2 a0 = some r) : Fun Tryd.prog 74 [.c (.bs (len a0) 4 (row gd (encLabel) a0)), .c (.fn 75 0 fun _ => .junk)] [] (.c (.v (.bool r))) [] true := by
 refine ow [] Tryd.func74 Tryd.ntmps74 ?_; unfold F_slices_ContainsFunc_Limpl_Label_impl_Label_mbFimpl_validCell_2 at h; have hf_slices_IndexFunc_Limpl_Label_impl_Label_mbFimpl_validCell_2 := @run_slices_IndexFunc_Limpl_Label_impl_Label_mbFimpl_validCell_2; generalize hLEN : @len = LEN, hGD : @gd = GD, hA : std = A, hP : Tryd.prog = P at *; cbv
 revert h; refine rk0 (hf_slices_IndexFunc_Limpl_Label_impl_Label_mbFimpl_validCell_2 _) fun y1 h => ?_; cbv; exact df

/-- impl.IsValidTransform -/
noncomputable def F_impl_IsValidTransform (a0 : TTransform) : Option (Bool) :=
 ((
    (F_impl_within a0.fOrientation 0 7).bind fun y8 =>
    br y8
    ((F_impl_within a0.fX (-80) 80).bind fun y10 =>
    br y10
    ((F_impl_within a0.fY (-80) 80).bind fun y12 =>
    some y12)
    (some false))
    (some false)
  ) : Option (Bool)).bind fun y1 =>
 letO y1 fun w7 =>
 some w7
set_option maxHeartbeats 4000000 in
theorem run_impl_IsValidTransform (a0 : TTransform) (r : Bool) (h : F_impl_IsValidTransform a0 = some r) : Fun Tryd.prog 99 [.agg [.v (.int .i64 a0.fOrientation), .v (.int .i64 a0.fX), .v (.int .i64 a0.fY)]] [] (.c (.v (.bool r))) [] true := by
 refine ow [1] Tryd.func99 Tryd.ntmps99 ?_; unfold F_impl_IsValidTransform at h; have hf_impl_within := @run_impl_within; generalize hLEN : @len = LEN, hGD : @gd = GD, hA : std = A, hP : Tryd.prog = P at *; cbv; revert h; refine cu (fun y1 => (sparse 16 [(2, .c (.v (.bool y1)))] [])) ?_ fun w7 => rz fun h => ?_
 ·intro y1 S hS h; cbv; revert h; refine rk0 (hf_impl_within _ _ _) fun y8 h => ?_; cbv; revert h; refine fk ?_ ?_ <;> intro h <;> cbv
  ·revert h; refine rk0 (hf_impl_within _ _ _) fun y10 h => ?_; cbv; revert h; refine fk ?_ ?_ <;> intro h <;> cbv
   ·revert h; refine rk0 (hf_impl_within _ _ _) fun y12 h => ?_; cbv; exact dn
   exact dn
  exact dn
 cbv; exact df

/-- impl.validInstance -/
noncomputable def F_impl_validInstance (a0 : TInstance) (a1 : Int) : Option (Bool) :=
 ((
    (F_impl_within a0.fCell 0 (std.sub .i64 a1 1)).bind fun y8 =>
    br y8
    ((F_impl_IsValidTransform a0.fPlace).bind fun y10 =>
    br y10
    ((F_impl_within a0.fColumns 1 4).bind fun y12 =>
    br y12
    ((F_impl_within a0.fRows 1 4).bind fun y14 =>
    br y14
    ((F_impl_within a0.fStepX (-80) 80).bind fun y16 =>
    br y16
    ((F_impl_within a0.fStepY (-80) 80).bind fun y18 =>
    br y18
    (br (std.eq a0.fStepX 0)
    (br (std.eq a0.fStepY 0)
    (some true)
    (some (std.lt 1 a0.fRows)))
    (br (std.lt 1 a0.fColumns)
    (br (std.eq a0.fStepY 0)
    (some true)
    (some (std.lt 1 a0.fRows)))
    (some false)))
    (some false))
    (some false))
    (some false))
    (some false))
    (some false))
    (some false)
  ) : Option (Bool)).bind fun y1 =>
 letO y1 fun w7 =>
 some w7
set_option maxHeartbeats 4000000 in
theorem run_impl_validInstance (a0 : TInstance) (a1 : Int) (r : Bool) (h : F_impl_validInstance a0 a1 = some r) : Fun Tryd.prog 79 [.agg [.v (.int .i64 a0.fCell), .v (.int .i64 a0.fPlace.fOrientation), .v (.int .i64 a0.fPlace.fX), .v (.int .i64 a0.fPlace.fY), .v (.int .i64 a0.fColumns), .v (.int .i64 a0.fRows), .v (.int .i64 a0.fStepX), .v (.int .i64 a0.fStepY)], .c (.v (.int .i64 a1))] [] (.c (.v (.bool r))) [] true := by
 refine ow [1] Tryd.func79 Tryd.ntmps79 ?_; unfold F_impl_validInstance at h; have hf_impl_IsValidTransform := @run_impl_IsValidTransform; have hf_impl_within := @run_impl_within; generalize hLEN : @len = LEN, hGD : @gd = GD, hA : std = A, hP : Tryd.prog = P at *; cbv; revert h; refine cu (fun y1 => (sparse 55 [(4, .c (.v (.bool y1)))] [])) ?_ fun w7 => rz fun h => ?_
 ·intro y1 S hS h; cbv; revert h; refine rk0 (hf_impl_within _ _ _) fun y8 h => ?_; cbv; revert h; refine fk ?_ ?_ <;> intro h <;> cbv
  ·revert h; refine rk0 (hf_impl_IsValidTransform _) fun y10 h => ?_; cbv; revert h; refine fk ?_ ?_ <;> intro h <;> cbv
   ·revert h; refine rk0 (hf_impl_within _ _ _) fun y12 h => ?_; cbv; revert h; refine fk ?_ ?_ <;> intro h <;> cbv
    ·revert h; refine rk0 (hf_impl_within _ _ _) fun y14 h => ?_; cbv; revert h; refine fk ?_ ?_ <;> intro h <;> cbv
     ·revert h; refine rk0 (hf_impl_within _ _ _) fun y16 h => ?_; cbv; revert h; refine fk ?_ ?_ <;> intro h <;> cbv
      ·revert h; refine rk0 (hf_impl_within _ _ _) fun y18 h => ?_; cbv; revert h; refine fk ?_ ?_ <;> intro h <;> cbv
       ·revert h; refine fk ?_ ?_ <;> intro h <;> cbv
        ·revert h; refine fk ?_ ?_ <;> intro h <;> cbv
         ·exact dn
         exact dn
        revert h; refine fk ?_ ?_ <;> intro h <;> cbv
        ·revert h; refine fk ?_ ?_ <;> intro h <;> cbv
         ·exact dn
         exact dn
        exact dn
       exact dn
      exact dn
     exact dn
    exact dn
   exact dn
  exact dn
 cbv; exact df

/-- impl.validCell$3 -/
noncomputable def F_impl_validCell_3_mbp (a0 : TInstance) (a1 : Int) : Option (Bool) :=
 (F_impl_validInstance (TInstance.mk a0.fCell a0.fPlace a0.fColumns a0.fRows a0.fStepX a0.fStepY) a1).bind fun y1 =>
 some (!(y1))
set_option maxHeartbeats 4000000 in
theorem run_impl_validCell_3_mbp (a0 : TInstance) (a1 : Int) (r : Bool) (h : F_impl_validCell_3_mbp a0 a1 = some r) : Fun Tryd.prog 78 [.agg [.v (.int .i64 a0.fCell), .v (.int .i64 a0.fPlace.fOrientation), .v (.int .i64 a0.fPlace.fX), .v (.int .i64 a0.fPlace.fY), .v (.int .i64 a0.fColumns), .v (.int .i64 a0.fRows), .v (.int .i64 a0.fStepX), .v (.int .i64 a0.fStepY)], .c (.bp 1 (encI .i64 a1))] [] (.c (.v (.bool r))) [] true := by
 refine ow [] Tryd.func78 Tryd.ntmps78 ?_; unfold F_impl_validCell_3_mbp at h; have hf_impl_validInstance := @run_impl_validInstance; generalize hLEN : @len = LEN, hGD : @gd = GD, hA : std = A, hP : Tryd.prog = P at *; cbv; revert h; refine rk0 (hf_impl_validInstance _ _) fun y1 h => ?_; cbv; exact df

noncomputable def L_slices_IndexFunc_Limpl_Instance_impl_Instance_mbFimpl_validCell_3p_x2 (a0 : List TInstance) (a1_0 : Int) : (Int) → Option ((Int) ⊕ ((Int) ⊕ (Unit))) := fun x2 =>
 letO x2 fun v1 =>
 br (std.lt v1 (std.ofN (len a0)))
 (req (std.inR v1 (len a0)) <|
 (F_impl_validCell_3_mbp (gd a0 (std.toN v1)) a1_0).bind fun y15 =>
 br y15
 (some (.inr (.inl v1)))
 (some (.inl (std.add .i64 v1 1))))
 (some (.inr (.inr ())))
/-- impl.Instance] -/
noncomputable def F_slices_IndexFunc_Limpl_Instance_impl_Instance_mbFimpl_validCell_3p (a0 : List TInstance) (a1_0 : Int) : Option (Int) :=
 (whileP (σ := Int) (ρ := (Int) ⊕ (Unit)) (L_slices_IndexFunc_Limpl_Instance_impl_Instance_mbFimpl_validCell_3p_x2 a0 a1_0) 0).bind fun y3 =>
 (match y3 with
  | .inl y3k0 => (
    letO y3k0 fun w19 =>
    some w19)
  | .inr y3m0 =>
    some (-1))
set_option maxHeartbeats 4000000 in
theorem run_slices_IndexFunc_Limpl_Instance_impl_Instance_mbFimpl_validCell_3p (a0 : List TInstance) (a1_0 : Int) (r : Int) (h : F_slices_IndexFunc_Limpl_Instance_impl_Instance_mbFimpl_validCell_3p a0 a1_0 = some r) : Fun Tryd.prog 98 [.c (.bs (len a0) 8 (row gd (encInstance) a0)), .c (.fn 78 1 fun j => ([.bp 1 (encI .i64 a1_0)] : List AC).getD j .junk)] [] (.c (.v (.int .i64 r))) [] true := by
 refine ow [] Tryd.func98 Tryd.ntmps98 ?_; unfold F_slices_IndexFunc_Limpl_Instance_impl_Instance_mbFimpl_validCell_3p at h; unfold L_slices_IndexFunc_Limpl_Instance_impl_Instance_mbFimpl_validCell_3p_x2 at h; have hf_impl_validCell_3_mbp := @run_impl_validCell_3_mbp; generalize hLEN : @len = LEN, hGD : @gd = GD, hA : std = A, hP : Tryd.prog = P at *; cbv
 revert h; refine lc (fun x => (sparse 19 [(0, .c (.bs (LEN a0) 8 (row GD (encInstance) a0))), (1, .c (.fn 78 1 fun j => ([.bp 1 (encI .i64 a1_0)] : List AC).getD j .junk)), (7, .c (.v (.int .i64 (A.ofN (LEN a0))))), (8, .c (.v (.int .i64 x)))] [])) (fun y e s => (match y with | .inl w => e = .ret ∧ s.le (sparse 19 [(4, .c (.v (.int .i64 w)))] []) | .inr w0 => (fun (w : Unit) => e = .exit 0 ∧ s.le (sparse 19 [] [])) w0)) zb ?_ ?_
 ·intro v1 z h K hK hY; replace h := oz h; cbv; revert h; refine fk ?_ ?_ <;> intro h <;> cbv
  ·revert h; refine ra fun c14 h => ?_; revert h; refine rk [] [] (hf_impl_validCell_3_mbp _ _) (fun _ => zg (les_cons (lR _) (les_cons (le_bp (show 1 ≤ 1 from by decide) (by intro j hj; match j, hj with | 0, _ => exact rle_refl _ | (j_ + 1), h_ => exact absurd h_ (by omega))) (les_nil)))) fun y15 h => ?_; cbv; revert h; refine fk ?_ ?_ <;> intro h <;> cbv
   ·exact dy
   exact dm
  exact dy
 intro y3 h e12 s13 q11 hne; rcases y3 with y3k0 | y3m0
 ·replace h := h; obtain ⟨rfl, q11⟩ := q11; revert h; refine rz fun h => ?_; cbv; injection h with h; subst h; exact ⟨_, q11, lR _, zo, rfl⟩
 ·obtain ⟨rfl, q11⟩ := q11; cbv; refine ⟨_, q11, ?_⟩; cbv; exact df

/-- impl.Instance] -/
noncomputable def F_slices_ContainsFunc_Limpl_Instance_impl_Instance_mbFimpl_validCell_3p (a0 : List TInstance) (a1_0 : Int) : Option (Bool) :=
 (F_slices_IndexFunc_Limpl_Instance_impl_Instance_mbFimpl_validCell_3p a0 a1_0).bind fun y1 =>
 some (std.le 0 y1)
set_option maxHeartbeats 4000000 in
theorem run_slices_ContainsFunc_Limpl_Instance_impl_Instance_mbFimpl_validCell_3p (a0 : List TInstance) (a1_0 : Int) (r : Bool) (h : F_slices_ContainsFunc_Limpl_Instance_impl_Instance_mbFimpl_validCell_3p a0 a1_0 = some r) : Fun Tryd.prog 77 [.c (.bs (len a0) 8 (row gd (encInstance) a0)), .c (.fn 78 1 fun j => ([.bp 1 (encI .i64 a1_0)] : List AC).getD j .junk)] [] (.c (.v (.bool r))) [] true := by
 refine ow [] Tryd.func77 Tryd.ntmps77 ?_; unfold F_slices_ContainsFunc_Limpl_Instance_impl_Instance_mbFimpl_validCell_3p at h; have hf_slices_IndexFunc_Limpl_Instance_impl_Instance_mbFimpl_validCell_3p := @run_slices_IndexFunc_Limpl_Instance_impl_Instance_mbFimpl_validCell_3p; generalize hLEN : @len = LEN, hGD : @gd = GD, hA : std = A, hP : Tryd.prog = P at *; cbv
 revert h; refine rk [] [] (hf_slices_IndexFunc_Limpl_Instance_impl_Instance_mbFimpl_validCell_3p _ _) (fun _ => zg (les_cons (lR _) (les_cons (le_fn (by intro j hj; match j, hj with | 0, _ => exact le_bp (show 1 ≤ 1 from by decide) (by intro j hj; match j, hj with | 0, _ => exact rle_refl _ | (j_ + 1), h_ => exact absurd h_ (by omega)) | (j_ + 1), h_ => exact absurd h_ (by omega))) (les_nil)))) fun y1 h => ?_
 cbv; exact df
/-- impl.validCell -/
noncomputable def F_impl_validCell (a0 : TCell) (a1 : Int) : Option (Bool) :=
 ((
    (F_impl_IsName a0.fName).bind fun y8 =>
    br (!(y8))
    (some true)
    (br (std.lt 24 (std.ofN (len a0.fShapes)))
    (some true)
    (br (std.lt 8 (std.ofN (len a0.fLabels)))
    (some true)
    (some (std.lt 8 (std.ofN (len a0.fInstances))))))
  ) : Option (Bool)).bind fun y1 =>
 letO y1 fun w7 =>
 br w7
 (some false)
 (((
    (F_slices_ContainsFunc_Limpl_Shape_impl_Shape_mbFimpl_validCell_1 a0.fShapes).bind fun y20 =>
    br (!(y20))
    ((F_slices_ContainsFunc_Limpl_Label_impl_Label_mbFimpl_validCell_2 a0.fLabels).bind fun y22 =>
    br (!(y22))
    ((F_slices_ContainsFunc_Limpl_Instance_impl_Instance_mbFimpl_validCell_3p a0.fInstances a1).bind fun y24 =>
    some (!(y24)))
    (some false))
    (some false)
  ) : Option (Bool)).bind fun y13 =>
 letO y13 fun w19 =>
 some w19)
set_option maxHeartbeats 4000000 in
theorem run_impl_validCell (a0 : TCell) (a1 : Int) (r : Bool) (h : F_impl_validCell a0 a1 = some r) : Fun Tryd.prog 57 [.agg [.v (.string a0.fName), .bs (len a0.fShapes) 5 (row gd (encShape) a0.fShapes), .bs (len a0.fLabels) 4 (row gd (encLabel) a0.fLabels), .bs (len a0.fInstances) 8 (row gd (encInstance) a0.fInstances)], .c (.v (.int .i64 a1))] [] (.c (.v (.bool r))) [] true := by
 refine ow [1, 3] Tryd.func57 Tryd.ntmps57 ?_; unfold F_impl_validCell at h; have hf_impl_IsName := @run_impl_IsName; have hf_slices_ContainsFunc_Limpl_Instance_impl_Instance_mbFimpl_validCell_3p := @run_slices_ContainsFunc_Limpl_Instance_impl_Instance_mbFimpl_validCell_3p
 have hf_slices_ContainsFunc_Limpl_Label_impl_Label_mbFimpl_validCell_2 := @run_slices_ContainsFunc_Limpl_Label_impl_Label_mbFimpl_validCell_2; have hf_slices_ContainsFunc_Limpl_Shape_impl_Shape_mbFimpl_validCell_1 := @run_slices_ContainsFunc_Limpl_Shape_impl_Shape_mbFimpl_validCell_1; generalize hLEN : @len = LEN, hGD : @gd = GD, hA : std = A, hP : Tryd.prog = P at *; cbv
 revert h; refine cu (fun y1 => (sparse 44 [(2, .c (.ptr 128 0)), (3, .c (.ptr 192 0)), (26, .c (.v (.bool y1)))] [(128, .var [.v (.string a0.fName), .bs (LEN a0.fShapes) 5 (row GD (encShape) a0.fShapes), .bs (LEN a0.fLabels) 4 (row GD (encLabel) a0.fLabels), .bs (LEN a0.fInstances) 8 (row GD (encInstance) a0.fInstances)]), (192, .var [.v (.int .i64 a1)])])) ?_ fun w7 => rz fun h => ?_
 ·intro y1 S hS h; cbv; revert h; refine rk0 (hf_impl_IsName _) fun y8 h => ?_; cbv; revert h; refine fk ?_ ?_ <;> intro h <;> cbv
  ·exact dn
  revert h; refine fk ?_ ?_ <;> intro h <;> cbv
  ·exact dn
  revert h; refine fk ?_ ?_ <;> intro h <;> cbv
  ·exact dn
  exact dn
 cbv; revert h; refine fk ?_ ?_ <;> intro h <;> cbv
 ·exact df
 revert h; refine cu (fun y13 => (sparse 44 [(4, .c (.v (.bool y13)))] [])) ?_ fun w19 => rz fun h => ?_
 ·intro y13 S hS h; cbv; revert h; refine rk0 (hf_slices_ContainsFunc_Limpl_Shape_impl_Shape_mbFimpl_validCell_1 _) fun y20 h => ?_; cbv; revert h; refine fk ?_ ?_ <;> intro h <;> cbv
  ·revert h; refine rk0 (hf_slices_ContainsFunc_Limpl_Label_impl_Label_mbFimpl_validCell_2 _) fun y22 h => ?_; cbv; revert h; refine fk ?_ ?_ <;> intro h <;> cbv
   ·revert h; refine rk [] [] (hf_slices_ContainsFunc_Limpl_Instance_impl_Instance_mbFimpl_validCell_3p _ _) (fun _ => zg (les_cons (lR _) (les_cons (le_fn (by intro j hj; match j, hj with | 0, _ => exact le_bp (show 1 ≤ 1 from by decide) (by intro j hj; match j, hj with | 0, _ => exact rle_refl _ | (j_ + 1), h_ => exact absurd h_ (by omega)) | (j_ + 1), h_ => exact absurd h_ (by omega))) (les_nil)))) fun y24 h => ?_
    cbv; exact dn
   exact dn
  exact dn
 cbv; exact df

/-- impl.named$1 -/
noncomputable def F_impl_named_1_mbp (a0 : TCell) (a1 : ByteArray) : Option (Bool) :=
 some (std.seq a0.fName a1)
set_option maxHeartbeats 4000000 in
theorem run_impl_named_1_mbp (a0 : TCell) (a1 : ByteArray) (r : Bool) (h : F_impl_named_1_mbp a0 a1 = some r) : Fun Tryd.prog 81 [.agg [.v (.string a0.fName), .bs (len a0.fShapes) 5 (row gd (encShape) a0.fShapes), .bs (len a0.fLabels) 4 (row gd (encLabel) a0.fLabels), .bs (len a0.fInstances) 8 (row gd (encInstance) a0.fInstances)], .c (.bp 1 (encS a1))] [] (.c (.v (.bool r))) [] true := by
 refine ow [] Tryd.func81 Tryd.ntmps81 ?_; unfold F_impl_named_1_mbp at h; generalize hLEN : @len = LEN, hGD : @gd = GD, hA : std = A, hP : Tryd.prog = P at *; cbv; exact df

noncomputable def L_slices_IndexFunc_Limpl_Cell_impl_Cell_mbFimpl_named_1p_x2 (a0 : List TCell) (a1_0 : ByteArray) : (Int) → Option ((Int) ⊕ ((Int) ⊕ (Unit))) := fun x2 =>
 letO x2 fun v1 =>
 br (std.lt v1 (std.ofN (len a0)))
 (req (std.inR v1 (len a0)) <|
 (F_impl_named_1_mbp (gd a0 (std.toN v1)) a1_0).bind fun y15 =>
 br y15
 (some (.inr (.inl v1)))
 (some (.inl (std.add .i64 v1 1))))
 (some (.inr (.inr ())))
/-- impl.Cell] -/
noncomputable def F_slices_IndexFunc_Limpl_Cell_impl_Cell_mbFimpl_named_1p (a0 : List TCell) (a1_0 : ByteArray) : Option (Int) :=
 (whileP (σ := Int) (ρ := (Int) ⊕ (Unit)) (L_slices_IndexFunc_Limpl_Cell_impl_Cell_mbFimpl_named_1p_x2 a0 a1_0) 0).bind fun y3 =>
 (match y3 with
  | .inl y3k0 => (
    letO y3k0 fun w19 =>
    some w19)
  | .inr y3m0 =>
    some (-1))
set_option maxHeartbeats 4000000 in
theorem run_slices_IndexFunc_Limpl_Cell_impl_Cell_mbFimpl_named_1p (a0 : List TCell) (a1_0 : ByteArray) (r : Int) (h : F_slices_IndexFunc_Limpl_Cell_impl_Cell_mbFimpl_named_1p a0 a1_0 = some r) : Fun Tryd.prog 80 [.c (.bs (len a0) 4 (row gd (encCell len gd) a0)), .c (.fn 81 1 fun j => ([.bp 1 (encS a1_0)] : List AC).getD j .junk)] [] (.c (.v (.int .i64 r))) [] true := by
 refine ow [] Tryd.func80 Tryd.ntmps80 ?_; unfold F_slices_IndexFunc_Limpl_Cell_impl_Cell_mbFimpl_named_1p at h; unfold L_slices_IndexFunc_Limpl_Cell_impl_Cell_mbFimpl_named_1p_x2 at h; have hf_impl_named_1_mbp := @run_impl_named_1_mbp; generalize hLEN : @len = LEN, hGD : @gd = GD, hA : std = A, hP : Tryd.prog = P at *; cbv
 revert h; refine lc (fun x => (sparse 19 [(0, .c (.bs (LEN a0) 4 (row GD (encCell LEN GD) a0))), (1, .c (.fn 81 1 fun j => ([.bp 1 (encS a1_0)] : List AC).getD j .junk)), (7, .c (.v (.int .i64 (A.ofN (LEN a0))))), (8, .c (.v (.int .i64 x)))] [])) (fun y e s => (match y with | .inl w => e = .ret ∧ s.le (sparse 19 [(4, .c (.v (.int .i64 w)))] []) | .inr w0 => (fun (w : Unit) => e = .exit 0 ∧ s.le (sparse 19 [] [])) w0)) zb ?_ ?_
 ·intro v1 z h K hK hY; replace h := oz h; cbv; revert h; refine fk ?_ ?_ <;> intro h <;> cbv
  ·revert h; refine ra fun c14 h => ?_; revert h; refine rk [] [] (hf_impl_named_1_mbp _ _) (fun _ => zg (les_cons (lR _) (les_cons (le_bp (show 1 ≤ 1 from by decide) (by intro j hj; match j, hj with | 0, _ => exact rle_refl _ | (j_ + 1), h_ => exact absurd h_ (by omega))) (les_nil)))) fun y15 h => ?_; cbv; revert h; refine fk ?_ ?_ <;> intro h <;> cbv
   ·exact dy
   exact dm
  exact dy
 intro y3 h e12 s13 q11 hne; rcases y3 with y3k0 | y3m0
 ·replace h := h; obtain ⟨rfl, q11⟩ := q11; revert h; refine rz fun h => ?_; cbv; injection h with h; subst h; exact ⟨_, q11, lR _, zo, rfl⟩
 ·obtain ⟨rfl, q11⟩ := q11; cbv; refine ⟨_, q11, ?_⟩; cbv; exact df

/-- impl.named -/
noncomputable def F_impl_named (a0 : TLibrary) (a1 : ByteArray) : Option (Int) :=
 (F_slices_IndexFunc_Limpl_Cell_impl_Cell_mbFimpl_named_1p a0.fCells a1).bind fun y1 =>
 some y1
set_option maxHeartbeats 4000000 in
theorem run_impl_named (a0 : TLibrary) (a1 : ByteArray) (r : Int) (h : F_impl_named a0 a1 = some r) : Fun Tryd.prog 58 [.agg [.bs (len a0.fCells) 4 (row gd (encCell len gd) a0.fCells)], .c (.v (.string a1))] [] (.c (.v (.int .i64 r))) [] true := by
 refine ow [] Tryd.func58 Tryd.ntmps58 ?_; unfold F_impl_named at h; have hf_slices_IndexFunc_Limpl_Cell_impl_Cell_mbFimpl_named_1p := @run_slices_IndexFunc_Limpl_Cell_impl_Cell_mbFimpl_named_1p; generalize hLEN : @len = LEN, hGD : @gd = GD, hA : std = A, hP : Tryd.prog = P at *; cbv
 revert h; refine rk [] [] (hf_slices_IndexFunc_Limpl_Cell_impl_Cell_mbFimpl_named_1p _ _) (fun _ => zg (les_cons (lR _) (les_cons (le_fn (by intro j hj; match j, hj with | 0, _ => exact le_bp (show 1 ≤ 1 from by decide) (by intro j hj; match j, hj with | 0, _ => exact rle_refl _ | (j_ + 1), h_ => exact absurd h_ (by omega)) | (j_ + 1), h_ => exact absurd h_ (by omega))) (les_nil)))) fun y1 h => ?_
 cbv; exact df

noncomputable def L_impl_IsValidLibrary_x10 (a0 : TLibrary) : (Int) → Option ((Int) ⊕ ((Bool) ⊕ (Unit))) := fun x10 =>
 letO x10 fun v9 =>
 br (std.lt v9 (std.ofN (len a0.fCells)))
 (req (std.inR v9 (len a0.fCells)) <|
 ((
    (F_impl_validCell (gd a0.fCells (std.toN v9)) v9).bind fun y30 =>
    br (!(y30))
    (some true)
    ((F_impl_named (TLibrary.mk a0.fCells) (gd a0.fCells (std.toN v9)).fName).bind fun y32 =>
    some (std.not (std.eq y32 v9)))
  ) : Option (Bool)).bind fun y23 =>
 letO y23 fun w29 =>
 br w29
 (some (.inr (.inl false)))
 (some (.inl (std.add .i64 v9 1))))
 (some (.inr (.inr ())))
/-- impl.IsValidLibrary -/
noncomputable def F_impl_IsValidLibrary (a0 : TLibrary) : Option (Bool) :=
 ((
    br (std.lt (std.ofN (len a0.fCells)) 1)
    (some true)
    (some (std.lt 8 (std.ofN (len a0.fCells))))
  ) : Option (Bool)).bind fun y1 =>
 letO y1 fun w7 =>
 br w7
 (some false)
 ((whileP (σ := Int) (ρ := (Bool) ⊕ (Unit)) (L_impl_IsValidLibrary_x10 a0) 0).bind fun y11 =>
 (match y11 with
  | .inl y11k0 => (
    letO y11k0 fun w37 =>
    some w37)
  | .inr y11m0 =>
    some true))
set_option maxHeartbeats 4000000 in
theorem run_impl_IsValidLibrary (a0 : TLibrary) (r : Bool) (h : F_impl_IsValidLibrary a0 = some r) : Fun Tryd.prog 39 [.agg [.bs (len a0.fCells) 4 (row gd (encCell len gd) a0.fCells)]] [] (.c (.v (.bool r))) [] true := by
 refine ow [1, 6] Tryd.func39 Tryd.ntmps39 ?_; unfold F_impl_IsValidLibrary at h; unfold L_impl_IsValidLibrary_x10 at h; have hf_impl_named := @run_impl_named; have hf_impl_validCell := @run_impl_validCell; generalize hLEN : @len = LEN, hGD : @gd = GD, hA : std = A, hP : Tryd.prog = P at *; cbv
 revert h; refine cu (fun y1 => (sparse 36 [(1, .c (.ptr 64 0)), (14, .c (.v (.bool y1)))] [(64, .var [.bs (LEN a0.fCells) 4 (row GD (encCell LEN GD) a0.fCells)])])) (fun y1 S hS h => rg) fun w7 => rz fun h => ?_; cbv; revert h; refine fk ?_ ?_ <;> intro h <;> cbv
 ·exact df
 revert h; refine lc (fun x => (sparse 36 [(1, .c (.ptr 64 0)), (16, .c (.bs (LEN a0.fCells) 4 (row GD (encCell LEN GD) a0.fCells))), (17, .c (.v (.int .i64 (A.ofN (LEN a0.fCells))))), (18, .c (.v (.int .i64 x)))] [(64, .var [.bs (LEN a0.fCells) 4 (row GD (encCell LEN GD) a0.fCells)])])) (fun y e s => (match y with | .inl w => e = .ret ∧ s.le (sparse 36 [(2, .c (.v (.bool w)))] []) | .inr w0 => (fun (w : Unit) => e = .exit 0 ∧ s.le (sparse 36 [] [])) w0)) zb ?_ ?_
 ·intro v9 z h K hK hY; replace h := oz h; cbv; revert h; refine fk ?_ ?_ <;> intro h <;> cbv
  ·revert h; refine ra fun c22 h => ?_; revert h; refine cu (fun y23 => (sparse 36 [(1, .c (.ptr 64 0)), (16, .c (.bs (LEN a0.fCells) 4 (row GD (encCell LEN GD) a0.fCells))), (17, .c (.v (.int .i64 (A.ofN (LEN a0.fCells))))), (18, .c (.v (.int .i64 v9))), (34, .c (.v (.bool y23)))] [(64, .var [.bs (LEN a0.fCells) 4 (row GD (encCell LEN GD) a0.fCells)])])) ?_ fun w29 => rz fun h => ?_
   ·intro y23 S hS h; cbv; revert h; refine rk0 (hf_impl_validCell _ _) fun y30 h => ?_; cbv; revert h; refine fk ?_ ?_ <;> intro h <;> cbv
    ·exact dn
    revert h; refine rk0 (hf_impl_named _ _) fun y32 h => ?_; cbv; exact dn
   cbv; revert h; refine fk ?_ ?_ <;> intro h <;> cbv
   ·exact dy
   exact dm
  exact dy
 intro y11 h e20 s21 q19 hne; rcases y11 with y11k0 | y11m0
 ·replace h := h; obtain ⟨rfl, q19⟩ := q19; revert h; refine rz fun h => ?_; cbv; injection h with h; subst h; exact ⟨_, q19, lR _, zo, rfl⟩
 ·obtain ⟨rfl, q19⟩ := q19; cbv; refine ⟨_, q19, ?_⟩; cbv; exact df

/-- impl.hasCell -/
noncomputable def F_impl_hasCell (a0 : TLibrary) (a1 : Int) : Option (Bool) :=
 ((
    (F_impl_IsValidLibrary (TLibrary.mk a0.fCells)).bind fun y8 =>
    br y8
    ((F_impl_within a1 0 (std.sub .i64 (std.ofN (len a0.fCells)) 1)).bind fun y10 =>
    some y10)
    (some false)
  ) : Option (Bool)).bind fun y1 =>
 letO y1 fun w7 =>
 some w7
set_option maxHeartbeats 4000000 in
theorem run_impl_hasCell (a0 : TLibrary) (a1 : Int) (r : Bool) (h : F_impl_hasCell a0 a1 = some r) : Fun Tryd.prog 24 [.agg [.bs (len a0.fCells) 4 (row gd (encCell len gd) a0.fCells)], .c (.v (.int .i64 a1))] [] (.c (.v (.bool r))) [] true := by
 refine ow [1] Tryd.func24 Tryd.ntmps24 ?_; unfold F_impl_hasCell at h; have hf_impl_IsValidLibrary := @run_impl_IsValidLibrary; have hf_impl_within := @run_impl_within; generalize hLEN : @len = LEN, hGD : @gd = GD, hA : std = A, hP : Tryd.prog = P at *; cbv; revert h; refine cu (fun y1 => (sparse 15 [(4, .c (.v (.bool y1)))] [])) ?_ fun w7 => rz fun h => ?_
 ·intro y1 S hS h; cbv; revert h; refine rk0 (hf_impl_IsValidLibrary _) fun y8 h => ?_; cbv; revert h; refine fk ?_ ?_ <;> intro h <;> cbv
  ·revert h; refine rk0 (hf_impl_within _ _ _) fun y10 h => ?_; cbv; exact dn
  exact dn
 cbv; exact df
set_option maxHeartbeats 400000 in
theorem calls_impl_OrientationName (a : Int) (w : World) (hc : ∀ j, j < 8 → w.cell? ⟨1, j, none⟩ = some (.string (mkS (oriL.getD j [])))) :
  Calls Tryd.prog 40 #[.int .i64 a] w fun e w' => e = .returned (.string (nameAt oriL a)) ∧ w = w' := by
 by_cases h : 0 ≤ a ∧ a < 8
 ·obtain ⟨k, rfl⟩ := Int.eq_ofNat_of_zero_le h.1
  have hk : k < 8 := by omega
  have HF := Lib.hid (show nameAt oriL (k : Int) = mkS (oriL.getD k []) by unfold nameAt; rw [if_pos (by exact h)]; rfl)
  have c := hc k hk
  generalize oriL.getD k [] = x at c HF
  have hd : decide ((k : Int) ≤ 7) = true := by simp; omega
  clear hc h
  go_enter Tryd.func40, Tryd.ntmps40
  go_wp2
  go_ret
  exact ⟨by rw [HF.out]; rfl, rfl⟩
 ·have HF := Lib.hid (show nameAt oriL a = ByteArray.mk #[] by unfold nameAt; rw [if_neg (by exact h)]; rfl)
  clear hc
  rcases (show a < 0 ∨ (0 ≤ a ∧ 7 < a) by omega) with h1 | ⟨h1, h2⟩
  ·clear h
   go_enter Tryd.func40, Tryd.ntmps40
   go_wp2
   go_ret
   exact ⟨by rw [HF.out]; rfl, rfl⟩
  ·have hd : decide (a ≤ 7) = false := by simp; omega
   clear h
   go_enter Tryd.func40, Tryd.ntmps40
   go_wp2
   go_ret
   exact ⟨by rw [HF.out]; rfl, rfl⟩
/-- the name at an index -/
noncomputable def F_impl_OrientationName (a0 : Int) : Option ByteArray := some (nameAt oriL a0)
theorem run_impl_OrientationName (a0 : Int) (r : ByteArray) (h : F_impl_OrientationName a0 = some r) : Fun Tryd.prog 40 [.c (.v (.int .i64 a0))] [] (.c (.v (.string r))) [] true := by
 unfold F_impl_OrientationName at h
 injection h with h
 subst h
 refine Fun.pureB Tryd.func40 (by kernel_rfl) (by kernel_rfl) [.int .i64 a0] (fun w I hg => (calls_impl_OrientationName a0 w fun j hj => ?_).mono fun e w' h => ⟨h.1, h.2 ▸ RowKit.Below.refl _ _⟩)
 refine hg.cell (x := (1, oriL.map fun l => Value.string (mkS l))) (by unfold glob; simp) ?_
 have hl : j < oriL.length := hj
 rw [List.getElem?_map, List.getElem?_eq_getElem hl, List.getD_eq_getElem?_getD, List.getElem?_eq_getElem hl]
 rfl

def lays45_ren : Go.Shelf.Ren := ⟨fun | 173 => 45 | 246 => 62 | 283 => 85 | 284 => 86 | 285 => 87 | 286 => 88 | 129 => 104 | 317 => 103 | 318 => 105 | 319 => 106 | 320 => 107 | 337 => 108 | 338 => 109 | n => n, fun | 2 => 2 | 3 => 3 | 9 => 9 | 4 => 4 | 171 => 128 | 0 => 0 | 53 => 129 | 37 => 81 | 5 => 5 | 173 => 132 | 212 => 149 | 51 => 150 | 20 => 20 | 213 => 151 | 46 => 153 | 232 => 156 | 233 => 157 | n => n, fun | 17 => 2 | 18 => 4 | 19 => 5 | n => n⟩
theorem lays45 : Go.Proofs.LaysM.n173 Tryd.prog lays45_ren := {
 mixed := by kernel_rfl,
 f129 := Tryd.func104.trans (congrArg some (by kernel_rfl)),
 f173 := Tryd.func45.trans (congrArg some (by kernel_rfl)),
 f246 := Tryd.func62.trans (congrArg some (by kernel_rfl)),
 f283 := Tryd.func85.trans (congrArg some (by kernel_rfl)),
 f284 := Tryd.func86.trans (congrArg some (by kernel_rfl)),
 f285 := Tryd.func87.trans (congrArg some (by kernel_rfl)),
 f286 := Tryd.func88.trans (congrArg some (by kernel_rfl)),
 f317 := Tryd.func103.trans (congrArg some (by kernel_rfl)),
 f318 := Tryd.func105.trans (congrArg some (by kernel_rfl)),
 f319 := Tryd.func106.trans (congrArg some (by kernel_rfl)),
 f320 := Tryd.func107.trans (congrArg some (by kernel_rfl)),
 f337 := Tryd.func108.trans (congrArg some (by kernel_rfl)),
 f338 := Tryd.func109.trans (congrArg some (by kernel_rfl)),
 t0 := Tryd.underlying0,
 a0 := Tryd.isAgg0,
 z0 := Tryd.sizeOf0,
 v0 := Tryd.zeroValue0,
 t2 := Tryd.underlying2,
 a2 := Tryd.isAgg2,
 z2 := Tryd.sizeOf2,
 v2 := Tryd.zeroValue2,
 t3 := Tryd.underlying3,
 a3 := Tryd.isAgg3,
 z3 := Tryd.sizeOf3,
 v3 := Tryd.zeroValue3,
 t4 := Tryd.underlying4,
 a4 := Tryd.isAgg4,
 z4 := Tryd.sizeOf4,
 v4 := Tryd.zeroValue4,
 t5 := Tryd.underlying5,
 a5 := Tryd.isAgg5,
 z5 := Tryd.sizeOf5,
 v5 := Tryd.zeroValue5,
 t9 := Tryd.underlying9,
 a9 := Tryd.isAgg9,
 z9 := Tryd.sizeOf9,
 v9 := Tryd.zeroValue9,
 t20 := Tryd.underlying20,
 a20 := Tryd.isAgg20,
 z20 := Tryd.sizeOf20,
 v20 := Tryd.zeroValue20,
 t37 := Tryd.underlying81,
 a37 := Tryd.isAgg81,
 z37 := Tryd.sizeOf81,
 v37 := Tryd.zeroValue81,
 t46 := Tryd.underlying153,
 a46 := Tryd.isAgg153,
 z46 := Tryd.sizeOf153,
 v46 := Tryd.zeroValue153,
 t51 := Tryd.underlying150,
 a51 := Tryd.isAgg150,
 z51 := Tryd.sizeOf150,
 v51 := Tryd.zeroValue150,
 t53 := Tryd.underlying129,
 a53 := Tryd.isAgg129,
 z53 := Tryd.sizeOf129,
 v53 := Tryd.zeroValue129,
 t171 := Tryd.underlying128,
 a171 := Tryd.isAgg128,
 z171 := Tryd.sizeOf128,
 v171 := Tryd.zeroValue128,
 t173 := Tryd.underlying132,
 a173 := Tryd.isAgg132,
 z173 := Tryd.sizeOf132,
 v173 := Tryd.zeroValue132,
 t212 := Tryd.underlying149,
 a212 := Tryd.isAgg149,
 z212 := Tryd.sizeOf149,
 v212 := Tryd.zeroValue149,
 t213 := Tryd.underlying151,
 a213 := Tryd.isAgg151,
 z213 := Tryd.sizeOf151,
 t232 := Tryd.underlying156,
 a232 := Tryd.isAgg156,
 z232 := Tryd.sizeOf156,
 v232 := Tryd.zeroValue156,
 t233 := Tryd.underlying157,
 a233 := Tryd.isAgg157,
 z233 := Tryd.sizeOf157,
 v233 := Tryd.zeroValue157,
 g17 := by kernel_rfl,
 g18 := by kernel_rfl,
 g19 := by kernel_rfl,
 i0 := by kernel_rfl,
 i2 := by kernel_rfl,
 i3 := by kernel_rfl,
 i4 := by kernel_rfl,
 i5 := by kernel_rfl,
 i9 := by kernel_rfl,
 i20 := by kernel_rfl,
 i37 := by kernel_rfl,
 i46 := by kernel_rfl,
 i51 := by kernel_rfl,
 i53 := by kernel_rfl,
 i171 := by kernel_rfl,
 i173 := by kernel_rfl,
 i212 := by kernel_rfl,
 i232 := by kernel_rfl,
 i233 := by kernel_rfl,
 m17 := by kernel_rfl,
 m18 := by kernel_rfl,
 m19 := by kernel_rfl }

open Classical in
/-- strconv.FormatInt at base 10 -/
noncomputable def F_strconv_FormatInt (a0 : Int) (a1 : Int) : Option ByteArray := if a1 = 10 ∧ -9223372036854775808 ≤ a0 ∧ a0 ≤ 9223372036854775807 then some ⟨(Lib.itoa a0).toArray⟩ else none
theorem run_strconv_FormatInt (a0 a1 : Int) (r : ByteArray) (h : F_strconv_FormatInt a0 a1 = some r) : Fun Tryd.prog 45 [.c (.v (.int .i64 a0)), .c (.v (.int .i64 a1))] [] (.c (.v (.string r))) [] true := by
 unfold F_strconv_FormatInt at h
 split at h
 ·rename_i h1
  obtain ⟨rfl, h2, h3⟩ := h1
  injection h with h
  subst h
  refine Fun.pureB Tryd.func45 (by kernel_rfl) (by kernel_rfl) [.int .i64 a0, .int .i64 10] (fun w I hg => (Any.strconv_FormatInt_10 lays45 a0 h2 h3 w ?_).mono fun e w' h => ⟨h.1, ?_⟩)
  ·exact hg.var (x := (2, Lib.pow10Tab.map fun z => Value.int .u64 z)) (by unfold glob; simp) (by kernel_rfl)
  ·obtain ⟨_, k, os, rfl⟩ := h
   refine ⟨rfl, rfl, rfl, ?_, fun b hb => ?_⟩
   ·show w.heap.size ≤ (w.heap ++ os).size
    rw [Array.size_append]; omega
   ·show (w.heap ++ os)[b]? = w.heap[b]?
    exact Array.getElem?_append_left hb
 ·cases h

/-- impl.decimal -/
noncomputable def F_impl_decimal (a0 : Int) : Option (ByteArray) :=
 (F_strconv_FormatInt a0 10).bind fun y1 =>
 some y1
set_option maxHeartbeats 4000000 in
theorem run_impl_decimal (a0 : Int) (r : ByteArray) (h : F_impl_decimal a0 = some r) : Fun Tryd.prog 33 [.c (.v (.int .i64 a0))] [] (.c (.v (.string r))) [] true := by
 refine ow [] Tryd.func33 Tryd.ntmps33 ?_; unfold F_impl_decimal at h; have hf_strconv_FormatInt := @run_strconv_FormatInt; generalize hLEN : @len = LEN, hGD : @gd = GD, hA : std = A, hP : Tryd.prog = P at *; cbv; revert h; refine rk0 (hf_strconv_FormatInt _ _) fun y1 h => ?_; cbv; exact df

def lays34_ren : Go.Shelf.Ren := ⟨fun | 156 => 34 | 165 => 46 | 166 => 47 | 169 => 48 | 240 => 63 | 241 => 64 | 276 => 89 | 277 => 90 | n => n, fun | 31 => 47 | 9 => 9 | 3 => 3 | 4 => 4 | 0 => 0 | 20 => 20 | 72 => 83 | 76 => 87 | 70 => 80 | 37 => 81 | 75 => 86 | 127 => 101 | 164 => 134 | 5 => 5 | 80 => 89 | n => n, fun | n => n⟩
theorem lays34 : Go.Proofs.Lays.n156 Tryd.prog lays34_ren := {
 mixed := by kernel_rfl,
 f156 := Tryd.func34.trans (congrArg some (by kernel_rfl)),
 f165 := Tryd.func46.trans (congrArg some (by kernel_rfl)),
 f166 := Tryd.func47.trans (congrArg some (by kernel_rfl)),
 f169 := Tryd.func48.trans (congrArg some (by kernel_rfl)),
 f240 := Tryd.func63.trans (congrArg some (by kernel_rfl)),
 f241 := Tryd.func64.trans (congrArg some (by kernel_rfl)),
 f276 := Tryd.func89.trans (congrArg some (by kernel_rfl)),
 f277 := Tryd.func90.trans (congrArg some (by kernel_rfl)),
 t0 := Tryd.underlying0,
 a0 := Tryd.isAgg0,
 z0 := Tryd.sizeOf0,
 v0 := Tryd.zeroValue0,
 t3 := Tryd.underlying3,
 a3 := Tryd.isAgg3,
 z3 := Tryd.sizeOf3,
 v3 := Tryd.zeroValue3,
 t4 := Tryd.underlying4,
 a4 := Tryd.isAgg4,
 z4 := Tryd.sizeOf4,
 v4 := Tryd.zeroValue4,
 t9 := Tryd.underlying9,
 a9 := Tryd.isAgg9,
 z9 := Tryd.sizeOf9,
 v9 := Tryd.zeroValue9,
 t20 := Tryd.underlying20,
 a20 := Tryd.isAgg20,
 z20 := Tryd.sizeOf20,
 v20 := Tryd.zeroValue20,
 t31 := Tryd.underlying47,
 a31 := Tryd.isAgg47,
 z31 := Tryd.sizeOf47,
 v31 := Tryd.zeroValue47,
 t37 := Tryd.underlying81,
 a37 := Tryd.isAgg81,
 z37 := Tryd.sizeOf81,
 v37 := Tryd.zeroValue81,
 t70 := Tryd.underlying80,
 a70 := Tryd.isAgg80,
 z70 := Tryd.sizeOf80,
 v70 := Tryd.zeroValue80,
 t72 := Tryd.underlying83,
 a72 := Tryd.isAgg83,
 z72 := Tryd.sizeOf83,
 v72 := Tryd.zeroValue83,
 t75 := Tryd.underlying86,
 a75 := Tryd.isAgg86,
 z75 := Tryd.sizeOf86,
 v75 := Tryd.zeroValue86,
 t76 := Tryd.underlying87,
 a76 := Tryd.isAgg87,
 z76 := Tryd.sizeOf87,
 v76 := Tryd.zeroValue87,
 t127 := Tryd.underlying101,
 a127 := Tryd.isAgg101,
 z127 := Tryd.sizeOf101,
 v127 := Tryd.zeroValue101,
 t164 := Tryd.underlying134,
 a164 := Tryd.isAgg134,
 z164 := Tryd.sizeOf134,
 v164 := Tryd.zeroValue134 }

theorem extra34 : Builder.Extra Tryd.prog lays34_ren := { sizeBuilder := (by kernel_rfl), liesBuilder := (by kernel_rfl), t5 := Tryd.underlying5, a5 := Tryd.isAgg5, z5 := Tryd.sizeOf5, v5 := Tryd.zeroValue5, infoByte := (by kernel_rfl), cellsByte := (by kernel_rfl), sizeByte := (by kernel_rfl), neB5 := (by decide) }
open Classical in
/-- strings.Join -/
noncomputable def F_strings_Join (a0 : List ByteArray) (a1 : ByteArray) : Option ByteArray := if a0.length ≤ 1000 ∧ (Lib.join (a0.map fun s => s.data.toList) a1.data.toList).length ≤ 1000000 then some ⟨(Lib.join (a0.map fun s => s.data.toList) a1.data.toList).toArray⟩ else none
theorem run_strings_Join (a0 : List ByteArray) (a1 : ByteArray) (r : ByteArray) (h : F_strings_Join a0 a1 = some r) : Fun Tryd.prog 34 [.c (.bs (len a0) 1 (row gd (encS) a0)), .c (.v (.string a1))] [] (.c (.v (.string r))) [] true := by
 unfold F_strings_Join at h
 split at h
 ·rename_i h1
  injection h with h
  subst h
  refine Fun.rowB Tryd.func34 (by kernel_rfl) (by kernel_rfl) (a0.map Value.string) (by rw [List.length_map]; rfl) (fun i hi => ?_) [.string a1] fun w a cap hcap hc => ?_
  ·have hi' : i < a0.length := hi
   show AC.v (.string (gd a0 i)) = _
   rw [List.getD_eq_getElem?_getD, List.getElem?_map, List.getElem?_eq_getElem hi']
   show AC.v (.string (a0.getD i default)) = _
   rw [List.getD_eq_getElem?_getD, List.getElem?_eq_getElem hi']
   rfl
  ·by_cases hn : 0 < len a0
   ·obtain ⟨b, off, rfl, hb, hcell⟩ := hc hn
    refine Any.strings_Join lays34 extra34 b off cap a0 a1 w (fun j x hj => ?_) hb ?_ hcap ?_
    ·have hj' : j < a0.length := by
      rcases Nat.lt_or_ge j a0.length with h | h
      ·exact h
      ·rw [List.getElem?_eq_none h] at hj; cases hj
     rw [hcell j hj', List.getD_eq_getElem?_getD, List.getElem?_map, hj]
     rfl
    ·have := h1.1; omega
    ·have := h1.2; omega
   ·have e : a0 = [] := List.length_eq_zero_iff.1 (by have : ¬ 0 < a0.length := hn; omega)
    subst e
    exact (Any.strings_Join_none lays34 extra34 a cap a1 w).mono fun e w' h => ⟨h.1, h.2 ▸ RowKit.Below.refl _ _⟩
 ·cases h

noncomputable def L_impl_join_mob_x3 (a1 : List Int) : (Int × (List ByteArray)) → Option ((Int × (List ByteArray)) ⊕ (((List ByteArray)))) := fun x3 =>
 letO x3.1 fun v1 =>
 letO x3.2 fun v2 =>
 br (std.lt v1 (std.ofN (len a1)))
 (req (std.inR v1 (len a1)) <|
 (F_impl_decimal (gd a1 (std.toN v1))).bind fun y16 =>
 letO ([y16] : List ByteArray) fun l18 =>
 req (std.room (std.nadd (len v2) (len l18)) 16) <|
 letO (v2 ++ l18) fun l20 =>
 some (.inl (std.add .i64 v1 1, l20)))
 (some (.inr v2))
/-- impl.join -/
noncomputable def F_impl_join_mob (a0 : List ByteArray) (a1 : List Int) : Option (ByteArray) :=
 (whileP (σ := Int × (List ByteArray)) (ρ := ((List ByteArray))) (L_impl_join_mob_x3 a1) (0, a0)).bind fun y4 =>
 letO y4 fun y4k0 =>
 letO y4k0 fun w24 =>
 (F_strings_Join w24 (ByteArray.mk #[32])).bind fun y25 =>
 some y25
set_option maxHeartbeats 4000000 in
theorem run_impl_join_mob (a0 : List ByteArray) (a1 : List Int) (r : ByteArray) (h : F_impl_join_mob a0 a1 = some r) : Fun Tryd.prog 17 [.c (.os 5 0 (len a0)), .c (.bs (len a1) 1 (row gd (encI .i64) a1))] [(5, .arr .rw [] (len a0) 1 (row gd (encS) a0))] (.c (.v (.string r))) [] true := by
 refine ow [] Tryd.func17 Tryd.ntmps17 ?_ (hw := ⟨fun i _ j _ k hk => (noref (plain_nil (rfl)) hk).elim, trivial⟩); unfold F_impl_join_mob at h; unfold L_impl_join_mob_x3 at h; have hf_impl_decimal := @run_impl_decimal; have hf_strings_Join := @run_strings_Join; generalize hLEN : @len = LEN, hGD : @gd = GD, hA : std = A, hP : Tryd.prog = P at *; cbv
 revert h; refine ln (.exit 0) (fun x => (sparse 21 [(0, .c (.os 1088 0 (LEN x.2))), (7, .c (.bs (LEN a1) 1 (row GD (encI .i64) a1))), (8, .c (.v (.int .i64 (A.ofN (LEN a1))))), (9, .c (.v (.int .i64 x.1)))] [(1088, .arr .rw [] (LEN x.2) 1 (row GD (encS) x.2))])) (fun w => (sparse 21 [(0, .c (.os 1088 0 (LEN w)))] [(1088, .arr .rw [] (LEN w) 1 (row GD (encS) w))])) ?_ ?_ ?_
 ·show St.le _ _; refine St.le_trans (le_ren 5 1088 (by decide) rfl) ?_; exact zb
 ·rintro ⟨v1, v2⟩ z h K hK hY; replace h := oz (oz h); dsimp only at h; cbv; revert h; refine fk ?_ ?_ <;> intro h <;> cbv
  ·revert h; refine ra fun c15 h => ?_; revert h; refine rk0 (hf_impl_decimal _) fun y16 h => ?_; cbv; revert h; refine rl fun l18 hl18 h => ?_; have e19 : 1 = LEN l18 := by subst hl18 hLEN; rfl
   refine ⟨_, (co e19), _, row GD (encS) l18, e19, wkOf ?_, ?_⟩
   ·intro i hi j hj; rw [← e19] at hi; subst hl18; subst hGD; obtain rfl : i = 0 := (by omega); all_goals obtain rfl : j = 0 := by omega
    all_goals rfl
   cbv; revert h; refine rq fun c22 => rl fun l20 hl20 h => ?_; have e21 := nl hA hLEN hl20; refine ⟨c22, _, (co e21), _, row GD (encS) l20, e21, wkOf ?_, ?_⟩
   ·subst hGD hLEN hA; exact app_os (off := 0) (fun _ _ => rfl) hl20 (Nat.le_refl _)
   cbv; exact dm
  exact dx
 intro w24 h s q12; replace h := oz (oz h); cbv; refine ⟨_, q12, ?_⟩; cbv; revert h; refine rk [] [] (hf_strings_Join _ _) (fun _ => zg (les_cons (give_os (fun _ _ => rfl) rfl rfl rfl) (les_cons (lR _) (les_nil)))) fun y25 h => ?_; cbv; exact df

/-- impl.formatInstance -/
noncomputable def F_impl_formatInstance (a0 : TLibrary) (a1 : TInstance) : Option (ByteArray) :=
 req (std.inR a1.fCell (len a0.fCells)) <|
 (F_impl_OrientationName a1.fPlace.fOrientation).bind fun y2 =>
 letO ([(ByteArray.mk #[112, 108, 97, 99, 101]), (gd a0.fCells (std.toN a1.fCell)).fName, y2] : List ByteArray) fun l4 =>
 ((
    br (std.eq a1.fColumns 1)
    (some (std.eq a1.fRows 1))
    (some false)
  ) : Option (Bool)).bind fun y6 =>
 letO y6 fun w12 =>
 br w12
 (letO ([a1.fPlace.fX, a1.fPlace.fY] : List Int) fun l14 =>
 (F_impl_join_mob l4 l14).bind fun y16 =>
 some y16)
 (req (std.inR 0 (len l4)) <|
 letO (List.set l4 (std.nadd 0 (std.toN 0)) (ByteArray.mk #[97, 114, 114, 97, 121])) fun l19 =>
 letO ([a1.fPlace.fX, a1.fPlace.fY, a1.fColumns, a1.fRows, a1.fStepX, a1.fStepY] : List Int) fun l20 =>
 (F_impl_join_mob l19 l20).bind fun y22 =>
 req (len l4 = len l19) <|
 some y22)
set_option maxHeartbeats 4000000 in
theorem run_impl_formatInstance (a0 : TLibrary) (a1 : TInstance) (r : ByteArray) (h : F_impl_formatInstance a0 a1 = some r) : Fun Tryd.prog 26 [.agg [.bs (len a0.fCells) 4 (row gd (encCell len gd) a0.fCells)], .agg [.v (.int .i64 a1.fCell), .v (.int .i64 a1.fPlace.fOrientation), .v (.int .i64 a1.fPlace.fX), .v (.int .i64 a1.fPlace.fY), .v (.int .i64 a1.fColumns), .v (.int .i64 a1.fRows), .v (.int .i64 a1.fStepX), .v (.int .i64 a1.fStepY)]] [] (.c (.v (.string r))) [] true := by
 refine ow [2] Tryd.func26 Tryd.ntmps26 ?_; unfold F_impl_formatInstance at h; have hf_impl_OrientationName := @run_impl_OrientationName; have hf_impl_join_mob := @run_impl_join_mob; generalize hLEN : @len = LEN, hGD : @gd = GD, hA : std = A, hP : Tryd.prog = P at *; cbv; revert h; refine ra fun c1 h => ?_; revert h; refine rk0 (hf_impl_OrientationName _) fun y2 h => ?_; cbv
 revert h; refine rl fun l4 hl4 h => ?_; have e5 : 3 = LEN l4 := by subst hl4 hLEN; rfl
 refine ⟨_, (co e5), _, row GD (encS) l4, e5, wkOf ?_, ?_⟩
 ·intro i hi j hj; rw [← e5] at hi; subst hl4; subst hGD; obtain rfl | rfl | rfl : i = 0 ∨ i = 1 ∨ i = 2 := (by omega); all_goals obtain rfl : j = 0 := by omega
  all_goals rfl
 cbv
 revert h; refine cu (fun y6 => (sparse 54 [(3, .c (.ptr 192 0)), (5, .c (.os 1088 0 (LEN l4))), (25, .c (.v (.bool y6)))] [(192, .var [.v (.int .i64 a1.fCell), .v (.int .i64 a1.fPlace.fOrientation), .v (.int .i64 a1.fPlace.fX), .v (.int .i64 a1.fPlace.fY), .v (.int .i64 a1.fColumns), .v (.int .i64 a1.fRows), .v (.int .i64 a1.fStepX), .v (.int .i64 a1.fStepY)]), (1088, .arr .rw [] (LEN l4) 1 (row GD (encS) l4))])) (fun y6 S hS h => rg) fun w12 => rz fun h => ?_
 cbv; revert h; refine fk ?_ ?_ <;> intro h <;> cbv
 ·revert h; refine rl fun l14 hl14 h => ?_; have e15 : 2 = LEN l14 := by subst hl14 hLEN; rfl
  refine ⟨_, (co e15), _, row GD (encI .i64) l14, e15, wkOf ?_, ?_⟩
  ·intro i hi j hj; rw [← e15] at hi; subst hl14; subst hGD; obtain rfl | rfl : i = 0 ∨ i = 1 := (by omega); all_goals obtain rfl : j = 0 := by omega
   all_goals rfl
  cbv; revert h; refine rk [(5, 1088)] [] (hf_impl_join_mob _ _) (fun _ => zg (les_cons (lR _) (les_cons (give_os (fun _ _ => rfl) rfl rfl rfl) (les_nil)))) fun y16 h => ?_; cbv; exact df
 revert h; refine ra fun c18 h => ?_; revert h; refine rl fun l19 hl19 h => ?_; refine ai c18 ?_; refine ⟨_, rfl, _, row GD (encS) l19, rfl, wkOf (us hA hLEN hGD hl19 c18 rfl), ?_⟩; cbv; revert h; refine rl fun l20 hl20 h => ?_; have e21 : 6 = LEN l20 := by subst hl20 hLEN; rfl
 refine ⟨_, (co e21), _, row GD (encI .i64) l20, e21, wkOf ?_, ?_⟩
 ·intro i hi j hj; rw [← e21] at hi; subst hl20; subst hGD; obtain rfl | rfl | rfl | rfl | rfl | rfl : i = 0 ∨ i = 1 ∨ i = 2 ∨ i = 3 ∨ i = 4 ∨ i = 5 := (by omega); all_goals obtain rfl : j = 0 := by omega
  all_goals rfl
 cbv; revert h; refine rb fun y22 hy23 => rq fun c24 h => ?_; refine rc [(5, 1088)] [] (hf_impl_join_mob _ _ _ hy23) (zg (les_cons (AV.le_of_eq (congrArg (fun n => AV.c (AC.os 5 0 n)) c24)) (les_cons (give_os (fun _ _ => rfl) rfl rfl rfl) (les_nil)))) ?_; cbv; exact df
/-- impl.FormatInstance -/
noncomputable def F_impl_FormatInstance (a0 : TLibrary) (a1 : Int) (a2 : Int) : Option (ByteArray) :=
 ((
    (F_impl_hasCell a0 a1).bind fun y8 =>
    br (!(y8))
    (some true)
    (req (std.inR a1 (len a0.fCells)) <|
    (F_impl_within a2 0 (std.sub .i64 (std.ofN (len (gd a0.fCells (std.toN a1)).fInstances)) 1)).bind fun y11 =>
    some (!(y11)))
  ) : Option (Bool)).bind fun y1 =>
 letO y1 fun w7 =>
 br w7
 (some (ByteArray.mk #[]))
 (req (std.inR a1 (len a0.fCells)) <|
 req (std.inR a2 (len (gd a0.fCells (std.toN a1)).fInstances)) <|
 (F_impl_formatInstance a0 (gd (gd a0.fCells (std.toN a1)).fInstances (std.toN a2))).bind fun y16 =>
 some y16)
set_option maxHeartbeats 4000000 in
theorem run_impl_FormatInstance (a0 : TLibrary) (a1 : Int) (a2 : Int) (r : ByteArray) (h : F_impl_FormatInstance a0 a1 a2 = some r) : Fun Tryd.prog 11 [.agg [.bs (len a0.fCells) 4 (row gd (encCell len gd) a0.fCells)], .c (.v (.int .i64 a1)), .c (.v (.int .i64 a2))] [] (.c (.v (.string r))) [] true := by
 refine ow [1] Tryd.func11 Tryd.ntmps11 ?_; unfold F_impl_FormatInstance at h; have hf_impl_formatInstance := @run_impl_formatInstance; have hf_impl_hasCell := @run_impl_hasCell; have hf_impl_within := @run_impl_within; generalize hLEN : @len = LEN, hGD : @gd = GD, hA : std = A, hP : Tryd.prog = P at *; cbv
 revert h; refine cu (fun y1 => (sparse 35 [(1, .c (.v (.int .i64 a1))), (2, .c (.v (.int .i64 a2))), (3, .c (.ptr 192 0)), (23, .c (.v (.bool y1)))] [(192, .var [.bs (LEN a0.fCells) 4 (row GD (encCell LEN GD) a0.fCells)])])) ?_ fun w7 => rz fun h => ?_
 ·intro y1 S hS h; cbv; revert h; refine rk0 (hf_impl_hasCell _ _) fun y8 h => ?_; cbv; revert h; refine fk ?_ ?_ <;> intro h <;> cbv
  ·exact dn
  revert h; refine ra fun c10 h => ?_; revert h; refine rk0 (hf_impl_within _ _ _) fun y11 h => ?_; cbv; exact dn
 cbv; revert h; refine fk ?_ ?_ <;> intro h <;> cbv
 ·exact df
 revert h; refine ra fun c14 h => ?_; revert h; refine ra fun c15 h => ?_; revert h; refine rk0 (hf_impl_formatInstance _ _) fun y16 h => ?_; cbv; exact df

/-- laws.eqRect -/
noncomputable def F_laws_eqRect (a0 : TRect) (a1 : TRect) : Option (Bool) :=
 br (std.not (std.eq a0.fX0 a1.fX0))
 (some false)
 (br (std.not (std.eq a0.fY0 a1.fY0))
 (some false)
 (br (std.not (std.eq a0.fX1 a1.fX1))
 (some false)
 (br (std.not (std.eq a0.fY1 a1.fY1))
 (some false)
 (some true))))
set_option maxHeartbeats 4000000 in
theorem run_laws_eqRect (a0 : TRect) (a1 : TRect) (r : Bool) (h : F_laws_eqRect a0 a1 = some r) : Fun Tryd.prog 100 [.agg [.v (.int .i64 a0.fX0), .v (.int .i64 a0.fY0), .v (.int .i64 a0.fX1), .v (.int .i64 a0.fY1)], .agg [.v (.int .i64 a1.fX0), .v (.int .i64 a1.fY0), .v (.int .i64 a1.fX1), .v (.int .i64 a1.fY1)]] [] (.c (.v (.bool r))) [] true := by
 refine ow [] Tryd.func100 Tryd.ntmps100 ?_; unfold F_laws_eqRect at h; generalize hLEN : @len = LEN, hGD : @gd = GD, hA : std = A, hP : Tryd.prog = P at *; cbv; revert h; refine fk ?_ ?_ <;> intro h <;> cbv
 ·exact df
 revert h; refine fk ?_ ?_ <;> intro h <;> cbv
 ·exact df
 revert h; refine fk ?_ ?_ <;> intro h <;> cbv
 ·exact df
 revert h; refine fk ?_ ?_ <;> intro h <;> cbv
 ·exact df
 exact df

/-- laws.eqShape -/
noncomputable def F_laws_eqShape (a0 : TShape) (a1 : TShape) : Option (Bool) :=
 br (std.not (std.eq a0.fLayer a1.fLayer))
 (some false)
 ((F_laws_eqRect a0.fBox a1.fBox).bind fun y1 =>
 br (!(y1))
 (some false)
 (some true))
set_option maxHeartbeats 4000000 in
theorem run_laws_eqShape (a0 : TShape) (a1 : TShape) (r : Bool) (h : F_laws_eqShape a0 a1 = some r) : Fun Tryd.prog 82 [.agg [.v (.int .i64 a0.fLayer), .v (.int .i64 a0.fBox.fX0), .v (.int .i64 a0.fBox.fY0), .v (.int .i64 a0.fBox.fX1), .v (.int .i64 a0.fBox.fY1)], .agg [.v (.int .i64 a1.fLayer), .v (.int .i64 a1.fBox.fX0), .v (.int .i64 a1.fBox.fY0), .v (.int .i64 a1.fBox.fX1), .v (.int .i64 a1.fBox.fY1)]] [] (.c (.v (.bool r))) [] true := by
 refine ow [] Tryd.func82 Tryd.ntmps82 ?_; unfold F_laws_eqShape at h; have hf_laws_eqRect := @run_laws_eqRect; generalize hLEN : @len = LEN, hGD : @gd = GD, hA : std = A, hP : Tryd.prog = P at *; cbv; revert h; refine fk ?_ ?_ <;> intro h <;> cbv
 ·exact df
 revert h; refine rk0 (hf_laws_eqRect _ _) fun y1 h => ?_; cbv; revert h; refine fk ?_ ?_ <;> intro h <;> cbv
 ·exact df
 exact df

noncomputable def L_laws_eqShapeS_x2 (a0 : List TShape) (a1 : List TShape) : (Int) → Option ((Int) ⊕ ((Unit) ⊕ (Unit))) := fun x2 =>
 letO x2 fun v1 =>
 br (std.lt v1 (std.ofN (len a0)))
 (req (std.inR v1 (len a0)) <|
 req (std.inR v1 (len a1)) <|
 (F_laws_eqShape (gd a0 (std.toN v1)) (gd a1 (std.toN v1))).bind fun y16 =>
 br (!(y16))
 (some (.inr (.inl ())))
 (some (.inl (std.add .i64 v1 1))))
 (some (.inr (.inr ())))
/-- laws.eqShapeS -/
noncomputable def F_laws_eqShapeS (a0 : List TShape) (a1 : List TShape) : Option (Bool) :=
 br (std.not (std.eq (std.ofN (len a0)) (std.ofN (len a1))))
 (some false)
 ((whileP (σ := Int) (ρ := (Unit) ⊕ (Unit)) (L_laws_eqShapeS_x2 a0 a1) 0).bind fun y3 =>
 (match y3 with
  | .inl y3k0 => (
    some false)
  | .inr y3m0 =>
    some true))
set_option maxHeartbeats 4000000 in
theorem run_laws_eqShapeS (a0 : List TShape) (a1 : List TShape) (r : Bool) (h : F_laws_eqShapeS a0 a1 = some r) : Fun Tryd.prog 59 [.c (.bs (len a0) 5 (row gd (encShape) a0)), .c (.bs (len a1) 5 (row gd (encShape) a1))] [] (.c (.v (.bool r))) [] true := by
 refine ow [] Tryd.func59 Tryd.ntmps59 ?_; unfold F_laws_eqShapeS at h; unfold L_laws_eqShapeS_x2 at h; have hf_laws_eqShape := @run_laws_eqShape; generalize hLEN : @len = LEN, hGD : @gd = GD, hA : std = A, hP : Tryd.prog = P at *; cbv; revert h; refine fk ?_ ?_ <;> intro h <;> cbv
 ·exact df
 revert h; refine lc (fun x => (sparse 27 [(0, .c (.bs (LEN a0) 5 (row GD (encShape) a0))), (1, .c (.bs (LEN a1) 5 (row GD (encShape) a1))), (5, .c (.v (.int .i64 x)))] [])) (fun y e s => (match y with | .inl w => e = .ret ∧ s.le (sparse 27 [(4, .c (.v (.bool false)))] []) | .inr w0 => (fun (w : Unit) => e = .exit 0 ∧ s.le (sparse 27 [] [])) w0)) zb ?_ ?_
 ·intro v1 z h K hK hY; replace h := oz h; cbv; revert h; refine fk ?_ ?_ <;> intro h <;> cbv
  ·revert h; refine ra fun c14 h => ?_; revert h; refine ra fun c15 h => ?_; revert h; refine rk0 (hf_laws_eqShape _ _) fun y16 h => ?_; cbv; revert h; refine fk ?_ ?_ <;> intro h <;> cbv
   ·exact dy
   exact dm
  exact dy
 intro y3 h e12 s13 q11 hne; rcases y3 with y3k0 | y3m0
 ·replace h := h; obtain ⟨rfl, q11⟩ := q11; cbv; injection h with h; subst h; exact ⟨_, q11, lR _, zo, rfl⟩
 ·obtain ⟨rfl, q11⟩ := q11; cbv; refine ⟨_, q11, ?_⟩; cbv; exact df

/-- laws.eqPoint -/
noncomputable def F_laws_eqPoint (a0 : TPoint) (a1 : TPoint) : Option (Bool) :=
 br (std.not (std.eq a0.fX a1.fX))
 (some false)
 (br (std.not (std.eq a0.fY a1.fY))
 (some false)
 (some true))
set_option maxHeartbeats 4000000 in
theorem run_laws_eqPoint (a0 : TPoint) (a1 : TPoint) (r : Bool) (h : F_laws_eqPoint a0 a1 = some r) : Fun Tryd.prog 101 [.agg [.v (.int .i64 a0.fX), .v (.int .i64 a0.fY)], .agg [.v (.int .i64 a1.fX), .v (.int .i64 a1.fY)]] [] (.c (.v (.bool r))) [] true := by
 refine ow [] Tryd.func101 Tryd.ntmps101 ?_; unfold F_laws_eqPoint at h; generalize hLEN : @len = LEN, hGD : @gd = GD, hA : std = A, hP : Tryd.prog = P at *; cbv; revert h; refine fk ?_ ?_ <;> intro h <;> cbv
 ·exact df
 revert h; refine fk ?_ ?_ <;> intro h <;> cbv
 ·exact df
 exact df

/-- laws.eqLabel -/
noncomputable def F_laws_eqLabel (a0 : TLabel) (a1 : TLabel) : Option (Bool) :=
 br (std.not (std.eq a0.fLayer a1.fLayer))
 (some false)
 ((F_laws_eqPoint a0.fAt a1.fAt).bind fun y1 =>
 br (!(y1))
 (some false)
 (br (std.not (std.seq a0.fName a1.fName))
 (some false)
 (some true)))
set_option maxHeartbeats 4000000 in
theorem run_laws_eqLabel (a0 : TLabel) (a1 : TLabel) (r : Bool) (h : F_laws_eqLabel a0 a1 = some r) : Fun Tryd.prog 83 [.agg [.v (.int .i64 a0.fLayer), .v (.int .i64 a0.fAt.fX), .v (.int .i64 a0.fAt.fY), .v (.string a0.fName)], .agg [.v (.int .i64 a1.fLayer), .v (.int .i64 a1.fAt.fX), .v (.int .i64 a1.fAt.fY), .v (.string a1.fName)]] [] (.c (.v (.bool r))) [] true := by
 refine ow [] Tryd.func83 Tryd.ntmps83 ?_; unfold F_laws_eqLabel at h; have hf_laws_eqPoint := @run_laws_eqPoint; generalize hLEN : @len = LEN, hGD : @gd = GD, hA : std = A, hP : Tryd.prog = P at *; cbv; revert h; refine fk ?_ ?_ <;> intro h <;> cbv
 ·exact df
 revert h; refine rk0 (hf_laws_eqPoint _ _) fun y1 h => ?_; cbv; revert h; refine fk ?_ ?_ <;> intro h <;> cbv
 ·exact df
 revert h; refine fk ?_ ?_ <;> intro h <;> cbv
 ·exact df
 exact df
noncomputable def L_laws_eqLabelS_x2 (a0 : List TLabel) (a1 : List TLabel) : (Int) → Option ((Int) ⊕ ((Unit) ⊕ (Unit))) := fun x2 =>
 letO x2 fun v1 =>
 br (std.lt v1 (std.ofN (len a0)))
 (req (std.inR v1 (len a0)) <|
 req (std.inR v1 (len a1)) <|
 (F_laws_eqLabel (gd a0 (std.toN v1)) (gd a1 (std.toN v1))).bind fun y16 =>
 br (!(y16))
 (some (.inr (.inl ())))
 (some (.inl (std.add .i64 v1 1))))
 (some (.inr (.inr ())))
/-- laws.eqLabelS -/
noncomputable def F_laws_eqLabelS (a0 : List TLabel) (a1 : List TLabel) : Option (Bool) :=
 br (std.not (std.eq (std.ofN (len a0)) (std.ofN (len a1))))
 (some false)
 ((whileP (σ := Int) (ρ := (Unit) ⊕ (Unit)) (L_laws_eqLabelS_x2 a0 a1) 0).bind fun y3 =>
 (match y3 with
  | .inl y3k0 => (
    some false)
  | .inr y3m0 =>
    some true))
set_option maxHeartbeats 4000000 in
theorem run_laws_eqLabelS (a0 : List TLabel) (a1 : List TLabel) (r : Bool) (h : F_laws_eqLabelS a0 a1 = some r) : Fun Tryd.prog 60 [.c (.bs (len a0) 4 (row gd (encLabel) a0)), .c (.bs (len a1) 4 (row gd (encLabel) a1))] [] (.c (.v (.bool r))) [] true := by
 refine ow [] Tryd.func60 Tryd.ntmps60 ?_; unfold F_laws_eqLabelS at h; unfold L_laws_eqLabelS_x2 at h; have hf_laws_eqLabel := @run_laws_eqLabel; generalize hLEN : @len = LEN, hGD : @gd = GD, hA : std = A, hP : Tryd.prog = P at *; cbv; revert h; refine fk ?_ ?_ <;> intro h <;> cbv
 ·exact df
 revert h; refine lc (fun x => (sparse 27 [(0, .c (.bs (LEN a0) 4 (row GD (encLabel) a0))), (1, .c (.bs (LEN a1) 4 (row GD (encLabel) a1))), (5, .c (.v (.int .i64 x)))] [])) (fun y e s => (match y with | .inl w => e = .ret ∧ s.le (sparse 27 [(4, .c (.v (.bool false)))] []) | .inr w0 => (fun (w : Unit) => e = .exit 0 ∧ s.le (sparse 27 [] [])) w0)) zb ?_ ?_
 ·intro v1 z h K hK hY; replace h := oz h; cbv; revert h; refine fk ?_ ?_ <;> intro h <;> cbv
  ·revert h; refine ra fun c14 h => ?_; revert h; refine ra fun c15 h => ?_; revert h; refine rk0 (hf_laws_eqLabel _ _) fun y16 h => ?_; cbv; revert h; refine fk ?_ ?_ <;> intro h <;> cbv
   ·exact dy
   exact dm
  exact dy
 intro y3 h e12 s13 q11 hne; rcases y3 with y3k0 | y3m0
 ·replace h := h; obtain ⟨rfl, q11⟩ := q11; cbv; injection h with h; subst h; exact ⟨_, q11, lR _, zo, rfl⟩
 ·obtain ⟨rfl, q11⟩ := q11; cbv; refine ⟨_, q11, ?_⟩; cbv; exact df

/-- laws.eqTransform -/
noncomputable def F_laws_eqTransform (a0 : TTransform) (a1 : TTransform) : Option (Bool) :=
 br (std.not (std.eq a0.fOrientation a1.fOrientation))
 (some false)
 (br (std.not (std.eq a0.fX a1.fX))
 (some false)
 (br (std.not (std.eq a0.fY a1.fY))
 (some false)
 (some true)))
set_option maxHeartbeats 4000000 in
theorem run_laws_eqTransform (a0 : TTransform) (a1 : TTransform) (r : Bool) (h : F_laws_eqTransform a0 a1 = some r) : Fun Tryd.prog 102 [.agg [.v (.int .i64 a0.fOrientation), .v (.int .i64 a0.fX), .v (.int .i64 a0.fY)], .agg [.v (.int .i64 a1.fOrientation), .v (.int .i64 a1.fX), .v (.int .i64 a1.fY)]] [] (.c (.v (.bool r))) [] true := by
 refine ow [] Tryd.func102 Tryd.ntmps102 ?_; unfold F_laws_eqTransform at h; generalize hLEN : @len = LEN, hGD : @gd = GD, hA : std = A, hP : Tryd.prog = P at *; cbv; revert h; refine fk ?_ ?_ <;> intro h <;> cbv
 ·exact df
 revert h; refine fk ?_ ?_ <;> intro h <;> cbv
 ·exact df
 revert h; refine fk ?_ ?_ <;> intro h <;> cbv
 ·exact df
 exact df

/-- laws.eqInstance -/
noncomputable def F_laws_eqInstance (a0 : TInstance) (a1 : TInstance) : Option (Bool) :=
 br (std.not (std.eq a0.fCell a1.fCell))
 (some false)
 ((F_laws_eqTransform a0.fPlace a1.fPlace).bind fun y1 =>
 br (!(y1))
 (some false)
 (br (std.not (std.eq a0.fColumns a1.fColumns))
 (some false)
 (br (std.not (std.eq a0.fRows a1.fRows))
 (some false)
 (br (std.not (std.eq a0.fStepX a1.fStepX))
 (some false)
 (br (std.not (std.eq a0.fStepY a1.fStepY))
 (some false)
 (some true))))))
set_option maxHeartbeats 4000000 in
theorem run_laws_eqInstance (a0 : TInstance) (a1 : TInstance) (r : Bool) (h : F_laws_eqInstance a0 a1 = some r) : Fun Tryd.prog 84 [.agg [.v (.int .i64 a0.fCell), .v (.int .i64 a0.fPlace.fOrientation), .v (.int .i64 a0.fPlace.fX), .v (.int .i64 a0.fPlace.fY), .v (.int .i64 a0.fColumns), .v (.int .i64 a0.fRows), .v (.int .i64 a0.fStepX), .v (.int .i64 a0.fStepY)], .agg [.v (.int .i64 a1.fCell), .v (.int .i64 a1.fPlace.fOrientation), .v (.int .i64 a1.fPlace.fX), .v (.int .i64 a1.fPlace.fY), .v (.int .i64 a1.fColumns), .v (.int .i64 a1.fRows), .v (.int .i64 a1.fStepX), .v (.int .i64 a1.fStepY)]] [] (.c (.v (.bool r))) [] true := by
 refine ow [] Tryd.func84 Tryd.ntmps84 ?_; unfold F_laws_eqInstance at h; have hf_laws_eqTransform := @run_laws_eqTransform; generalize hLEN : @len = LEN, hGD : @gd = GD, hA : std = A, hP : Tryd.prog = P at *; cbv; revert h; refine fk ?_ ?_ <;> intro h <;> cbv
 ·exact df
 revert h; refine rk0 (hf_laws_eqTransform _ _) fun y1 h => ?_; cbv; revert h; refine fk ?_ ?_ <;> intro h <;> cbv
 ·exact df
 revert h; refine fk ?_ ?_ <;> intro h <;> cbv
 ·exact df
 revert h; refine fk ?_ ?_ <;> intro h <;> cbv
 ·exact df
 revert h; refine fk ?_ ?_ <;> intro h <;> cbv
 ·exact df
 revert h; refine fk ?_ ?_ <;> intro h <;> cbv
 ·exact df
 exact df

noncomputable def L_laws_eqInstanceS_x2 (a0 : List TInstance) (a1 : List TInstance) : (Int) → Option ((Int) ⊕ ((Unit) ⊕ (Unit))) := fun x2 =>
 letO x2 fun v1 =>
 br (std.lt v1 (std.ofN (len a0)))
 (req (std.inR v1 (len a0)) <|
 req (std.inR v1 (len a1)) <|
 (F_laws_eqInstance (gd a0 (std.toN v1)) (gd a1 (std.toN v1))).bind fun y16 =>
 br (!(y16))
 (some (.inr (.inl ())))
 (some (.inl (std.add .i64 v1 1))))
 (some (.inr (.inr ())))
/-- laws.eqInstanceS -/
noncomputable def F_laws_eqInstanceS (a0 : List TInstance) (a1 : List TInstance) : Option (Bool) :=
 br (std.not (std.eq (std.ofN (len a0)) (std.ofN (len a1))))
 (some false)
 ((whileP (σ := Int) (ρ := (Unit) ⊕ (Unit)) (L_laws_eqInstanceS_x2 a0 a1) 0).bind fun y3 =>
 (match y3 with
  | .inl y3k0 => (
    some false)
  | .inr y3m0 =>
    some true))
set_option maxHeartbeats 4000000 in
theorem run_laws_eqInstanceS (a0 : List TInstance) (a1 : List TInstance) (r : Bool) (h : F_laws_eqInstanceS a0 a1 = some r) : Fun Tryd.prog 61 [.c (.bs (len a0) 8 (row gd (encInstance) a0)), .c (.bs (len a1) 8 (row gd (encInstance) a1))] [] (.c (.v (.bool r))) [] true := by
 refine ow [] Tryd.func61 Tryd.ntmps61 ?_; unfold F_laws_eqInstanceS at h; unfold L_laws_eqInstanceS_x2 at h; have hf_laws_eqInstance := @run_laws_eqInstance; generalize hLEN : @len = LEN, hGD : @gd = GD, hA : std = A, hP : Tryd.prog = P at *; cbv; revert h; refine fk ?_ ?_ <;> intro h <;> cbv
 ·exact df
 revert h; refine lc (fun x => (sparse 27 [(0, .c (.bs (LEN a0) 8 (row GD (encInstance) a0))), (1, .c (.bs (LEN a1) 8 (row GD (encInstance) a1))), (5, .c (.v (.int .i64 x)))] [])) (fun y e s => (match y with | .inl w => e = .ret ∧ s.le (sparse 27 [(4, .c (.v (.bool false)))] []) | .inr w0 => (fun (w : Unit) => e = .exit 0 ∧ s.le (sparse 27 [] [])) w0)) zb ?_ ?_
 ·intro v1 z h K hK hY; replace h := oz h; cbv; revert h; refine fk ?_ ?_ <;> intro h <;> cbv
  ·revert h; refine ra fun c14 h => ?_; revert h; refine ra fun c15 h => ?_; revert h; refine rk0 (hf_laws_eqInstance _ _) fun y16 h => ?_; cbv; revert h; refine fk ?_ ?_ <;> intro h <;> cbv
   ·exact dy
   exact dm
  exact dy
 intro y3 h e12 s13 q11 hne; rcases y3 with y3k0 | y3m0
 ·replace h := h; obtain ⟨rfl, q11⟩ := q11; cbv; injection h with h; subst h; exact ⟨_, q11, lR _, zo, rfl⟩
 ·obtain ⟨rfl, q11⟩ := q11; cbv; refine ⟨_, q11, ?_⟩; cbv; exact df

/-- laws.eqCell -/
noncomputable def F_laws_eqCell (a0 : TCell) (a1 : TCell) : Option (Bool) :=
 br (std.not (std.seq a0.fName a1.fName))
 (some false)
 ((F_laws_eqShapeS a0.fShapes a1.fShapes).bind fun y1 =>
 br (!(y1))
 (some false)
 ((F_laws_eqLabelS a0.fLabels a1.fLabels).bind fun y3 =>
 br (!(y3))
 (some false)
 ((F_laws_eqInstanceS a0.fInstances a1.fInstances).bind fun y5 =>
 br (!(y5))
 (some false)
 (some true))))
set_option maxHeartbeats 4000000 in
theorem run_laws_eqCell (a0 : TCell) (a1 : TCell) (r : Bool) (h : F_laws_eqCell a0 a1 = some r) : Fun Tryd.prog 41 [.agg [.v (.string a0.fName), .bs (len a0.fShapes) 5 (row gd (encShape) a0.fShapes), .bs (len a0.fLabels) 4 (row gd (encLabel) a0.fLabels), .bs (len a0.fInstances) 8 (row gd (encInstance) a0.fInstances)], .agg [.v (.string a1.fName), .bs (len a1.fShapes) 5 (row gd (encShape) a1.fShapes), .bs (len a1.fLabels) 4 (row gd (encLabel) a1.fLabels), .bs (len a1.fInstances) 8 (row gd (encInstance) a1.fInstances)]] [] (.c (.v (.bool r))) [] true := by
 refine ow [] Tryd.func41 Tryd.ntmps41 ?_; unfold F_laws_eqCell at h; have hf_laws_eqInstanceS := @run_laws_eqInstanceS; have hf_laws_eqLabelS := @run_laws_eqLabelS; have hf_laws_eqShapeS := @run_laws_eqShapeS; generalize hLEN : @len = LEN, hGD : @gd = GD, hA : std = A, hP : Tryd.prog = P at *; cbv; revert h; refine fk ?_ ?_ <;> intro h <;> cbv
 ·exact df
 revert h; refine rk0 (hf_laws_eqShapeS _ _) fun y1 h => ?_; cbv; revert h; refine fk ?_ ?_ <;> intro h <;> cbv
 ·exact df
 revert h; refine rk0 (hf_laws_eqLabelS _ _) fun y3 h => ?_; cbv; revert h; refine fk ?_ ?_ <;> intro h <;> cbv
 ·exact df
 revert h; refine rk0 (hf_laws_eqInstanceS _ _) fun y5 h => ?_; cbv; revert h; refine fk ?_ ?_ <;> intro h <;> cbv
 ·exact df
 exact df

noncomputable def L_laws_eqCellS_x2 (a0 : List TCell) (a1 : List TCell) : (Int) → Option ((Int) ⊕ ((Unit) ⊕ (Unit))) := fun x2 =>
 letO x2 fun v1 =>
 br (std.lt v1 (std.ofN (len a0)))
 (req (std.inR v1 (len a0)) <|
 req (std.inR v1 (len a1)) <|
 (F_laws_eqCell (gd a0 (std.toN v1)) (gd a1 (std.toN v1))).bind fun y16 =>
 br (!(y16))
 (some (.inr (.inl ())))
 (some (.inl (std.add .i64 v1 1))))
 (some (.inr (.inr ())))
/-- laws.eqCellS -/
noncomputable def F_laws_eqCellS (a0 : List TCell) (a1 : List TCell) : Option (Bool) :=
 br (std.not (std.eq (std.ofN (len a0)) (std.ofN (len a1))))
 (some false)
 ((whileP (σ := Int) (ρ := (Unit) ⊕ (Unit)) (L_laws_eqCellS_x2 a0 a1) 0).bind fun y3 =>
 (match y3 with
  | .inl y3k0 => (
    some false)
  | .inr y3m0 =>
    some true))
set_option maxHeartbeats 4000000 in
theorem run_laws_eqCellS (a0 : List TCell) (a1 : List TCell) (r : Bool) (h : F_laws_eqCellS a0 a1 = some r) : Fun Tryd.prog 27 [.c (.bs (len a0) 4 (row gd (encCell len gd) a0)), .c (.bs (len a1) 4 (row gd (encCell len gd) a1))] [] (.c (.v (.bool r))) [] true := by
 refine ow [] Tryd.func27 Tryd.ntmps27 ?_; unfold F_laws_eqCellS at h; unfold L_laws_eqCellS_x2 at h; have hf_laws_eqCell := @run_laws_eqCell; generalize hLEN : @len = LEN, hGD : @gd = GD, hA : std = A, hP : Tryd.prog = P at *; cbv; revert h; refine fk ?_ ?_ <;> intro h <;> cbv
 ·exact df
 revert h; refine lc (fun x => (sparse 27 [(0, .c (.bs (LEN a0) 4 (row GD (encCell LEN GD) a0))), (1, .c (.bs (LEN a1) 4 (row GD (encCell LEN GD) a1))), (5, .c (.v (.int .i64 x)))] [])) (fun y e s => (match y with | .inl w => e = .ret ∧ s.le (sparse 27 [(4, .c (.v (.bool false)))] []) | .inr w0 => (fun (w : Unit) => e = .exit 0 ∧ s.le (sparse 27 [] [])) w0)) zb ?_ ?_
 ·intro v1 z h K hK hY; replace h := oz h; cbv; revert h; refine fk ?_ ?_ <;> intro h <;> cbv
  ·revert h; refine ra fun c14 h => ?_; revert h; refine ra fun c15 h => ?_; revert h; refine rk0 (hf_laws_eqCell _ _) fun y16 h => ?_; cbv; revert h; refine fk ?_ ?_ <;> intro h <;> cbv
   ·exact dy
   exact dm
  exact dy
 intro y3 h e12 s13 q11 hne; rcases y3 with y3k0 | y3m0
 ·replace h := h; obtain ⟨rfl, q11⟩ := q11; cbv; injection h with h; subst h; exact ⟨_, q11, lR _, zo, rfl⟩
 ·obtain ⟨rfl, q11⟩ := q11; cbv; refine ⟨_, q11, ?_⟩; cbv; exact df
/-- laws.eqLibrary -/
noncomputable def F_laws_eqLibrary (a0 : TLibrary) (a1 : TLibrary) : Option (Bool) :=
 (F_laws_eqCellS a0.fCells a1.fCells).bind fun y1 =>
 br (!(y1))
 (some false)
 (some true)
set_option maxHeartbeats 4000000 in
theorem run_laws_eqLibrary (a0 : TLibrary) (a1 : TLibrary) (r : Bool) (h : F_laws_eqLibrary a0 a1 = some r) : Fun Tryd.prog 12 [.agg [.bs (len a0.fCells) 4 (row gd (encCell len gd) a0.fCells)], .agg [.bs (len a1.fCells) 4 (row gd (encCell len gd) a1.fCells)]] [] (.c (.v (.bool r))) [] true := by
 refine ow [] Tryd.func12 Tryd.ntmps12 ?_; unfold F_laws_eqLibrary at h; have hf_laws_eqCellS := @run_laws_eqCellS; generalize hLEN : @len = LEN, hGD : @gd = GD, hA : std = A, hP : Tryd.prog = P at *; cbv; revert h; refine rk0 (hf_laws_eqCellS _ _) fun y1 h => ?_; cbv; revert h; refine fk ?_ ?_ <;> intro h <;> cbv
 ·exact df
 exact df

/-- laws.FnExactFormatInstance -/
noncomputable def F_laws_FnExactFormatInstance (a0 : TLibrary) (a1 : Int) (a2 : Int) : Option (Bool) :=
 (F_laws_szLibrary (TLibrary.mk a0.fCells) 1048576).bind fun y1 =>
 br (std.lt y1 0)
 (some true)
 ((F_laws_toLibrary (TLibrary.mk a0.fCells)).bind fun y3 =>
 (F_spec_FormatInstance y3 a1 a2).bind fun y5 =>
 (F_laws_toLibrary (TLibrary.mk a0.fCells)).bind fun y7 =>
 (F_impl_FormatInstance y7 a1 a2).bind fun y9 =>
 br (std.not (std.seq y9 y5))
 (some false)
 ((F_laws_toLibrary (TLibrary.mk a0.fCells)).bind fun y11 =>
 (F_laws_eqLibrary y7 y11).bind fun y13 =>
 br (!(y13))
 (some false)
 (some true)))
set_option maxHeartbeats 4000000 in
theorem run_laws_FnExactFormatInstance (a0 : TLibrary) (a1 : Int) (a2 : Int) (r : Bool) (h : F_laws_FnExactFormatInstance a0 a1 a2 = some r) : Fun Tryd.prog 4 [.agg [.bs (len a0.fCells) 4 (row gd (encCell len gd) a0.fCells)], .c (.v (.int .i64 a1)), .c (.v (.int .i64 a2))] [] (.c (.v (.bool r))) [] true := by
 refine ow [] Tryd.func4 Tryd.ntmps4 ?_; unfold F_laws_FnExactFormatInstance at h; have hf_impl_FormatInstance := @run_impl_FormatInstance; have hf_laws_eqLibrary := @run_laws_eqLibrary; have hf_laws_szLibrary := @run_laws_szLibrary; have hf_laws_toLibrary := @run_laws_toLibrary; have hf_spec_FormatInstance := @run_spec_FormatInstance
 generalize hLEN : @len = LEN, hGD : @gd = GD, hA : std = A, hP : Tryd.prog = P at *; cbv; revert h; refine rk0 (hf_laws_szLibrary _ _) fun y1 h => ?_; cbv; revert h; refine fk ?_ ?_ <;> intro h <;> cbv
 ·exact df
 revert h; refine rk [] [(64000, 1088)] (hf_laws_toLibrary _) (fun _ => zf) fun y3 h => ⟨_, rfl, _, _, rfl, fun _ _ _ _ => .refl _, ?_⟩
 cbv; revert h; refine rk [] [] (hf_spec_FormatInstance _ _ _) (fun _ => zg (les_cons (le_agg ⟨give_osD (rf_oncCell) (ln_oncCell) rfl rfl rfl, trivial⟩) (les_cons (lR _) (les_cons (lR _) (les_nil))))) fun y5 h => ?_; cbv; revert h; refine rk [] [(64000, 1408)] (hf_laws_toLibrary _) (fun _ => zf) fun y7 h => ⟨_, rfl, _, _, rfl, fun _ _ _ _ => .refl _, ?_⟩
 cbv; revert h; refine rk [] [] (hf_impl_FormatInstance _ _ _) (fun _ => zg (les_cons (le_agg ⟨give_osD (rf_oncCell) (ln_oncCell) rfl rfl rfl, trivial⟩) (les_cons (lR _) (les_cons (lR _) (les_nil))))) fun y9 h => ?_; cbv; revert h; refine fk ?_ ?_ <;> intro h <;> cbv
 ·exact df
 revert h; refine rk [] [(64000, 2048)] (hf_laws_toLibrary _) (fun _ => zf) fun y11 h => ⟨_, rfl, _, _, rfl, fun _ _ _ _ => .refl _, ?_⟩
 cbv; revert h; refine rk [] [] (hf_laws_eqLibrary _ _) (fun _ => zg (les_cons (le_agg ⟨give_osD (rf_oncCell) (ln_oncCell) rfl rfl rfl, trivial⟩) (les_cons (le_agg ⟨give_osD (rf_oncCell) (ln_oncCell) rfl rfl rfl, trivial⟩) (les_nil)))) fun y13 h => ?_; cbv; revert h; refine fk ?_ ?_ <;> intro h <;> cbv
 ·exact df
 exact df
theorem op_9 (d : Nat) : Opens T (d + 1) 9 (clS) (wfS) := op_str (show T 9 = some d9 from rfl) rfl
theorem op_2 (d : Nat) : Opens T (d + 1) 2 (clI .i64) (wfI .i64) := op_int .i64 (show T 2 = some d2 from rfl) rfl
def clRect (e : TRect) : List AC := clI .i64 e.fX0 ++ (clI .i64 e.fY0 ++ (clI .i64 e.fX1 ++ (clI .i64 e.fY1 ++ ([]))))
def wfRect (e : TRect) : Prop := wfI .i64 e.fX0 ∧ wfI .i64 e.fY0 ∧ wfI .i64 e.fX1 ∧ wfI .i64 e.fY1
theorem op_23 (d : Nat) : Opens T (d + 2) 23 (clRect) (wfRect) := by
  intro cs hs
  obtain ⟨a0, b0, rfl, h0, a1, b1, rfl, h1, a2, b2, rfl, h2, a3, b3, rfl, h3, rfl⟩ := hs
  obtain ⟨e0, w0, r0⟩ := op_2 (d + 0) a0 h0
  obtain ⟨e1, w1, r1⟩ := op_2 (d + 0) a1 h1
  obtain ⟨e2, w2, r2⟩ := op_2 (d + 0) a2 h2
  obtain ⟨e3, w3, r3⟩ := op_2 (d + 0) a3 h3
  exact ⟨TRect.mk e0 e1 e2 e3, ⟨w0, w1, w2, w3⟩, rlist_app r0 (rlist_app r1 (rlist_app r2 (rlist_app r3 (trivial))))⟩
def clShape (e : TShape) : List AC := clI .i64 e.fLayer ++ (clRect e.fBox ++ ([]))
def wfShape (e : TShape) : Prop := wfI .i64 e.fLayer ∧ wfRect e.fBox
theorem op_25 (d : Nat) : Opens T (d + 3) 25 (clShape) (wfShape) := by
  intro cs hs
  obtain ⟨a0, b0, rfl, h0, a1, b1, rfl, h1, rfl⟩ := hs
  obtain ⟨e0, w0, r0⟩ := op_2 (d + 1) a0 h0
  obtain ⟨e1, w1, r1⟩ := op_23 (d + 0) a1 h1
  exact ⟨TShape.mk e0 e1, ⟨w0, w1⟩, rlist_app r0 (rlist_app r1 (trivial))⟩
theorem op_70 (d : Nat) : Opens T (d + 4) 70 (clL 5 (encShape)) (wfL wfShape) := op_slice (e := 25) (sz := 5) (show T 70 = some d70 from rfl) rfl (show T 25 = some d25 from rfl) rfl (fun x j hj => by match j, hj with | 0, _ => rfl | 1, _ => rfl | 2, _ => rfl | 3, _ => rfl | 4, _ => rfl | (j_ + 5), h_ => exact absurd h_ (by omega)) (op_25 d)
def clPoint (e : TPoint) : List AC := clI .i64 e.fX ++ (clI .i64 e.fY ++ ([]))
def wfPoint (e : TPoint) : Prop := wfI .i64 e.fX ∧ wfI .i64 e.fY
theorem op_104 (d : Nat) : Opens T (d + 2) 104 (clPoint) (wfPoint) := by
  intro cs hs
  obtain ⟨a0, b0, rfl, h0, a1, b1, rfl, h1, rfl⟩ := hs
  obtain ⟨e0, w0, r0⟩ := op_2 (d + 0) a0 h0
  obtain ⟨e1, w1, r1⟩ := op_2 (d + 0) a1 h1
  exact ⟨TPoint.mk e0 e1, ⟨w0, w1⟩, rlist_app r0 (rlist_app r1 (trivial))⟩
def clLabel (e : TLabel) : List AC := clI .i64 e.fLayer ++ (clPoint e.fAt ++ (clS e.fName ++ ([])))
def wfLabel (e : TLabel) : Prop := wfI .i64 e.fLayer ∧ wfPoint e.fAt ∧ wfS e.fName
theorem op_106 (d : Nat) : Opens T (d + 3) 106 (clLabel) (wfLabel) := by
  intro cs hs
  obtain ⟨a0, b0, rfl, h0, a1, b1, rfl, h1, a2, b2, rfl, h2, rfl⟩ := hs
  obtain ⟨e0, w0, r0⟩ := op_2 (d + 1) a0 h0
  obtain ⟨e1, w1, r1⟩ := op_104 (d + 0) a1 h1
  obtain ⟨e2, w2, r2⟩ := op_9 (d + 1) a2 h2
  exact ⟨TLabel.mk e0 e1 e2, ⟨w0, w1, w2⟩, rlist_app r0 (rlist_app r1 (rlist_app r2 (trivial)))⟩
theorem op_71 (d : Nat) : Opens T (d + 4) 71 (clL 4 (encLabel)) (wfL wfLabel) := op_slice (e := 106) (sz := 4) (show T 71 = some d71 from rfl) rfl (show T 106 = some d106 from rfl) rfl (fun x j hj => by match j, hj with | 0, _ => rfl | 1, _ => rfl | 2, _ => rfl | 3, _ => rfl | (j_ + 4), h_ => exact absurd h_ (by omega)) (op_106 d)
def clTransform (e : TTransform) : List AC := clI .i64 e.fOrientation ++ (clI .i64 e.fX ++ (clI .i64 e.fY ++ ([])))
def wfTransform (e : TTransform) : Prop := wfI .i64 e.fOrientation ∧ wfI .i64 e.fX ∧ wfI .i64 e.fY
theorem op_115 (d : Nat) : Opens T (d + 2) 115 (clTransform) (wfTransform) := by
  intro cs hs
  obtain ⟨a0, b0, rfl, h0, a1, b1, rfl, h1, a2, b2, rfl, h2, rfl⟩ := hs
  obtain ⟨e0, w0, r0⟩ := op_2 (d + 0) a0 h0
  obtain ⟨e1, w1, r1⟩ := op_2 (d + 0) a1 h1
  obtain ⟨e2, w2, r2⟩ := op_2 (d + 0) a2 h2
  exact ⟨TTransform.mk e0 e1 e2, ⟨w0, w1, w2⟩, rlist_app r0 (rlist_app r1 (rlist_app r2 (trivial)))⟩
def clInstance (e : TInstance) : List AC := clI .i64 e.fCell ++ (clTransform e.fPlace ++ (clI .i64 e.fColumns ++ (clI .i64 e.fRows ++ (clI .i64 e.fStepX ++ (clI .i64 e.fStepY ++ ([]))))))
def wfInstance (e : TInstance) : Prop := wfI .i64 e.fCell ∧ wfTransform e.fPlace ∧ wfI .i64 e.fColumns ∧ wfI .i64 e.fRows ∧ wfI .i64 e.fStepX ∧ wfI .i64 e.fStepY
theorem op_117 (d : Nat) : Opens T (d + 3) 117 (clInstance) (wfInstance) := by
  intro cs hs
  obtain ⟨a0, b0, rfl, h0, a1, b1, rfl, h1, a2, b2, rfl, h2, a3, b3, rfl, h3, a4, b4, rfl, h4, a5, b5, rfl, h5, rfl⟩ := hs
  obtain ⟨e0, w0, r0⟩ := op_2 (d + 1) a0 h0
  obtain ⟨e1, w1, r1⟩ := op_115 (d + 0) a1 h1
  obtain ⟨e2, w2, r2⟩ := op_2 (d + 1) a2 h2
  obtain ⟨e3, w3, r3⟩ := op_2 (d + 1) a3 h3
  obtain ⟨e4, w4, r4⟩ := op_2 (d + 1) a4 h4
  obtain ⟨e5, w5, r5⟩ := op_2 (d + 1) a5 h5
  exact ⟨TInstance.mk e0 e1 e2 e3 e4 e5, ⟨w0, w1, w2, w3, w4, w5⟩, rlist_app r0 (rlist_app r1 (rlist_app r2 (rlist_app r3 (rlist_app r4 (rlist_app r5 (trivial))))))⟩
theorem op_72 (d : Nat) : Opens T (d + 4) 72 (clL 8 (encInstance)) (wfL wfInstance) := op_slice (e := 117) (sz := 8) (show T 72 = some d72 from rfl) rfl (show T 117 = some d117 from rfl) rfl (fun x j hj => by match j, hj with | 0, _ => rfl | 1, _ => rfl | 2, _ => rfl | 3, _ => rfl | 4, _ => rfl | 5, _ => rfl | 6, _ => rfl | 7, _ => rfl | (j_ + 8), h_ => exact absurd h_ (by omega)) (op_117 d)
def clCell (e : TCell) : List AC := clS e.fName ++ (clL 5 (encShape) e.fShapes ++ (clL 4 (encLabel) e.fLabels ++ (clL 8 (encInstance) e.fInstances ++ ([]))))
def wfCell (e : TCell) : Prop := wfS e.fName ∧ wfL wfShape e.fShapes ∧ wfL wfLabel e.fLabels ∧ wfL wfInstance e.fInstances
theorem op_74 (d : Nat) : Opens T (d + 5) 74 (clCell) (wfCell) := by
  intro cs hs
  obtain ⟨a0, b0, rfl, h0, a1, b1, rfl, h1, a2, b2, rfl, h2, a3, b3, rfl, h3, rfl⟩ := hs
  obtain ⟨e0, w0, r0⟩ := op_9 (d + 3) a0 h0
  obtain ⟨e1, w1, r1⟩ := op_70 (d + 0) a1 h1
  obtain ⟨e2, w2, r2⟩ := op_71 (d + 0) a2 h2
  obtain ⟨e3, w3, r3⟩ := op_72 (d + 0) a3 h3
  exact ⟨TCell.mk e0 e1 e2 e3, ⟨w0, w1, w2, w3⟩, rlist_app r0 (rlist_app r1 (rlist_app r2 (rlist_app r3 (trivial))))⟩
theorem op_32 (d : Nat) : Opens T (d + 6) 32 (clL 4 (encCell len gd)) (wfL wfCell) := op_slice (e := 74) (sz := 4) (show T 32 = some d32 from rfl) rfl (show T 74 = some d74 from rfl) rfl (fun x j hj => by match j, hj with | 0, _ => rfl | 1, _ => rfl | 2, _ => rfl | 3, _ => rfl | (j_ + 4), h_ => exact absurd h_ (by omega)) (op_74 d)
def clLibrary (e : TLibrary) : List AC := clL 4 (encCell len gd) e.fCells ++ ([])
def wfLibrary (e : TLibrary) : Prop := wfL wfCell e.fCells
theorem op_34 (d : Nat) : Opens T (d + 7) 34 (clLibrary) (wfLibrary) := by
  intro cs hs
  obtain ⟨a0, b0, rfl, h0, rfl⟩ := hs
  obtain ⟨e0, w0, r0⟩ := op_32 (d + 0) a0 h0
  exact ⟨TLibrary.mk e0, w0, rlist_app r0 (trivial)⟩
theorem open_34 {H : Type} {enc : TypeId × Value → H} {W : World} {spare : Nat → Bool} {held : Bool} {r : Reach} {base : Nat} {v : Value} {x : DataW H} {ps : List MemPlace}
    (hv : Value.okWide Tryd.prog W r base 34 v) (h : DataW.Trod enc Tryd.prog W 0 spare held 34 v x ps) : ∃ e : TLibrary, wfLibrary e ∧ RelV (RelI (fun b => b < W.heap.size) W) (.agg [.bs (len e.fCells) 4 (row gd (encCell len gd) e.fCells)]) v :=
  opened_agg tok (op_34 0) (by kernel_rfl) (tok 34 d34 rfl).1 hv h
end Go.Proofs.YtfhkecbopidgiaaDoor.AM
