/-
  What the functions that the law reaches compute, and that they do. No condition.
-/
import Derived.Test.YtpobpihakgegbaaAmSV
namespace Go.Proofs.Ytpobpihakgegbaa.AM
open Go Go.Proofs Go.RowKit
set_option linter.unusedVariables false
set_option linter.unusedSimpArgs false
set_option maxRecDepth 100000

noncomputable def L_slices_IndexFunc_Limpl_Label_impl_Label_mbFimpl_validCell_2_x2 (a0 : List TLabel) : (Int) → Option ((Int) ⊕ ((Int) ⊕ (Unit))) := fun x2 =>
 letO x2 fun v1 =>
 br (std.lt v1 (std.ofN (len a0)))
 (req (std.inR v1 (len a0)) <|
 (F_impl_validCell_2 (gd a0 (std.toN v1))).bind fun y15 =>
 br y15
 (some (.inr (.inl v1)))
 (some (.inl (std.add .i64 v1 1))))
 (some (.inr (.inr ())))
/-- impl.Label] -/
noncomputable def F_slices_IndexFunc_Limpl_Label_impl_Label_mbFimpl_validCell_2 (a0 : List TLabel) : Option (Int) :=
 (whileP (σ := Int) (ρ := (Int) ⊕ (Unit)) (L_slices_IndexFunc_Limpl_Label_impl_Label_mbFimpl_validCell_2_x2 a0) 0).bind fun y3 =>
 (match y3 with
  | .inl y3k0 => (
    letO y3k0 fun w19 =>
    some w19)
  | .inr y3m0 =>
    some (-1))
set_option maxHeartbeats 4000000 in
theorem run_slices_IndexFunc_Limpl_Label_impl_Label_mbFimpl_validCell_2 (a0 : List TLabel) (r : Int) (h : F_slices_IndexFunc_Limpl_Label_impl_Label_mbFimpl_validCell_2 a0 = some r) : Fun Try.prog 104 [.c (.bs (len a0) 4 (row gd (encLabel) a0)), .c (.fn 83 0 fun _ => .junk)] [] (.c (.v (.int .i64 r))) [] true := by
 refine ow [] Try.func104 Try.ntmps104 ?_; unfold F_slices_IndexFunc_Limpl_Label_impl_Label_mbFimpl_validCell_2 at h; unfold L_slices_IndexFunc_Limpl_Label_impl_Label_mbFimpl_validCell_2_x2 at h; have hf_impl_validCell_2 := @run_impl_validCell_2; generalize hLEN : @len = LEN, hGD : @gd = GD, hA : std = A, hP : Try.prog = P at *; cbv
 revert h; refine lc (fun x => (sparse 19 [(0, .c (.bs (LEN a0) 4 (row GD (encLabel) a0))), (1, .c (.fn 83 0 fun _ => .junk)), (7, .c (.v (.int .i64 (A.ofN (LEN a0))))), (8, .c (.v (.int .i64 x)))] [])) (fun y e s => (match y with | .inl w => e = .ret ∧ s.le (sparse 19 [(4, .c (.v (.int .i64 w)))] []) | .inr w0 => (fun (w : Unit) => e = .exit 0 ∧ s.le (sparse 19 [] [])) w0)) zb ?_ ?_
 ·intro v1 z h K hK hY; replace h := oz h; cbv; revert h; refine fk ?_ ?_ <;> intro h <;> cbv
  ·revert h; refine ra fun c14 h => ?_; revert h; refine rk0 (hf_impl_validCell_2 _) fun y15 h => ?_; cbv; revert h; refine fk ?_ ?_ <;> intro h <;> cbv
   ·exact dy
   exact dm
  exact dy
 intro y3 h e12 s13 q11 hne; rcases y3 with y3k0 | y3m0
 ·replace h := h; obtain ⟨rfl, q11⟩ := q11; revert h; refine rz fun h => ?_; cbv; injection h with h; subst h; exact ⟨_, q11, lR _, zo, rfl⟩
 ·obtain ⟨rfl, q11⟩ := q11; cbv; refine ⟨_, q11, ?_⟩; cbv; exact df

/-- impl.Label] -/
noncomputable def F_slices_ContainsFunc_Limpl_Label_impl_Label_mbFimpl_validCell_2 (a0 : List TLabel) : Option (Bool) :=
 (F_slices_IndexFunc_Limpl_Label_impl_Label_mbFimpl_validCell_2 a0).bind fun y1 =>
 some (std.le 0 y1)
set_option maxHeartbeats 4000000 in
theorem run_slices_ContainsFunc_Limpl_Label_impl_Label_mbFimpl_validCell_2 (a0 : List TLabel) (r : Bool) (h : F_slices_ContainsFunc_Limpl_Label_impl_Label_mbFimpl_validCell_2 a0 = some r) : Fun Try.prog 82 [.c (.bs (len a0) 4 (row gd (encLabel) a0)), .c (.fn 83 0 fun _ => .junk)] [] (.c (.v (.bool r))) [] true := by
 refine ow [] Try.func82 Try.ntmps82 ?_; unfold F_slices_ContainsFunc_Limpl_Label_impl_Label_mbFimpl_validCell_2 at h; have hf_slices_IndexFunc_Limpl_Label_impl_Label_mbFimpl_validCell_2 := @run_slices_IndexFunc_Limpl_Label_impl_Label_mbFimpl_validCell_2; generalize hLEN : @len = LEN, hGD : @gd = GD, hA : std = A, hP : Try.prog = P at *; cbv
 revert h; refine rk0 (hf_slices_IndexFunc_Limpl_Label_impl_Label_mbFimpl_validCell_2 _) fun y1 h => ?_; cbv; exact df

/-- impl.IsValidTransform -/
noncomputable def F_impl_IsValidTransform (a0 : TTransform) : Option (Bool) :=
 ((
    (F_impl_within a0.fOrientation 0 7).bind fun y8 =>
    br y8
    ((F_impl_within a0.fX (-80) 80).bind fun y10 =>
    br y10
    ((F_impl_within a0.fY (-80) 80).bind fun y12 =>
    some y12)
    (some false))
    (some false)
  ) : Option (Bool)).bind fun y1 =>
 letO y1 fun w7 =>
 some w7
set_option maxHeartbeats 4000000 in
theorem run_impl_IsValidTransform (a0 : TTransform) (r : Bool) (h : F_impl_IsValidTransform a0 = some r) : Fun Try.prog 57 [.agg [.v (.int .i64 a0.fOrientation), .v (.int .i64 a0.fX), .v (.int .i64 a0.fY)]] [] (.c (.v (.bool r))) [] true := by
 refine ow [1] Try.func57 Try.ntmps57 ?_; unfold F_impl_IsValidTransform at h; have hf_impl_within := @run_impl_within; generalize hLEN : @len = LEN, hGD : @gd = GD, hA : std = A, hP : Try.prog = P at *; cbv; revert h; refine cu (fun y1 => (sparse 16 [(2, .c (.v (.bool y1)))] [])) ?_ fun w7 => rz fun h => ?_
 ·intro y1 S hS h; cbv; revert h; refine rk0 (hf_impl_within _ _ _) fun y8 h => ?_; cbv; revert h; refine fk ?_ ?_ <;> intro h <;> cbv
  ·revert h; refine rk0 (hf_impl_within _ _ _) fun y10 h => ?_; cbv; revert h; refine fk ?_ ?_ <;> intro h <;> cbv
   ·revert h; refine rk0 (hf_impl_within _ _ _) fun y12 h => ?_; cbv; exact dn
   exact dn
  exact dn
 cbv; exact df

/-- impl.validInstance -/
noncomputable def F_impl_validInstance (a0 : TInstance) (a1 : Int) : Option (Bool) :=
 ((
    (F_impl_within a0.fCell 0 (std.sub .i64 a1 1)).bind fun y8 =>
    br y8
    ((F_impl_IsValidTransform a0.fPlace).bind fun y10 =>
    br y10
    ((F_impl_within a0.fColumns 1 4).bind fun y12 =>
    br y12
    ((F_impl_within a0.fRows 1 4).bind fun y14 =>
    br y14
    ((F_impl_within a0.fStepX (-80) 80).bind fun y16 =>
    br y16
    ((F_impl_within a0.fStepY (-80) 80).bind fun y18 =>
    br y18
    (br (std.eq a0.fStepX 0)
    (br (std.eq a0.fStepY 0)
    (some true)
    (some (std.lt 1 a0.fRows)))
    (br (std.lt 1 a0.fColumns)
    (br (std.eq a0.fStepY 0)
    (some true)
    (some (std.lt 1 a0.fRows)))
    (some false)))
    (some false))
    (some false))
    (some false))
    (some false))
    (some false))
    (some false)
  ) : Option (Bool)).bind fun y1 =>
 letO y1 fun w7 =>
 some w7
set_option maxHeartbeats 4000000 in
theorem run_impl_validInstance (a0 : TInstance) (a1 : Int) (r : Bool) (h : F_impl_validInstance a0 a1 = some r) : Fun Try.prog 87 [.agg [.v (.int .i64 a0.fCell), .v (.int .i64 a0.fPlace.fOrientation), .v (.int .i64 a0.fPlace.fX), .v (.int .i64 a0.fPlace.fY), .v (.int .i64 a0.fColumns), .v (.int .i64 a0.fRows), .v (.int .i64 a0.fStepX), .v (.int .i64 a0.fStepY)], .c (.v (.int .i64 a1))] [] (.c (.v (.bool r))) [] true := by
 refine ow [1] Try.func87 Try.ntmps87 ?_; unfold F_impl_validInstance at h; have hf_impl_IsValidTransform := @run_impl_IsValidTransform; have hf_impl_within := @run_impl_within; generalize hLEN : @len = LEN, hGD : @gd = GD, hA : std = A, hP : Try.prog = P at *; cbv; revert h; refine cu (fun y1 => (sparse 55 [(4, .c (.v (.bool y1)))] [])) ?_ fun w7 => rz fun h => ?_
 ·intro y1 S hS h; cbv; revert h; refine rk0 (hf_impl_within _ _ _) fun y8 h => ?_; cbv; revert h; refine fk ?_ ?_ <;> intro h <;> cbv
  ·revert h; refine rk0 (hf_impl_IsValidTransform _) fun y10 h => ?_; cbv; revert h; refine fk ?_ ?_ <;> intro h <;> cbv
   ·revert h; refine rk0 (hf_impl_within _ _ _) fun y12 h => ?_; cbv; revert h; refine fk ?_ ?_ <;> intro h <;> cbv
    ·revert h; refine rk0 (hf_impl_within _ _ _) fun y14 h => ?_; cbv; revert h; refine fk ?_ ?_ <;> intro h <;> cbv
     ·revert h; refine rk0 (hf_impl_within _ _ _) fun y16 h => ?_; cbv; revert h; refine fk ?_ ?_ <;> intro h <;> cbv
      ·revert h; refine rk0 (hf_impl_within _ _ _) fun y18 h => ?_; cbv; revert h; refine fk ?_ ?_ <;> intro h <;> cbv
       ·revert h; refine fk ?_ ?_ <;> intro h <;> cbv
        ·revert h; refine fk ?_ ?_ <;> intro h <;> cbv
         ·exact dn
         exact dn
        revert h; refine fk ?_ ?_ <;> intro h <;> cbv
        ·revert h; refine fk ?_ ?_ <;> intro h <;> cbv
         ·exact dn
         exact dn
        exact dn
       exact dn
      exact dn
     exact dn
    exact dn
   exact dn
  exact dn
 cbv; exact df

/-- impl.validCell$3 -/
noncomputable def F_impl_validCell_3_mbp (a0 : TInstance) (a1 : Int) : Option (Bool) :=
 (F_impl_validInstance (TInstance.mk a0.fCell a0.fPlace a0.fColumns a0.fRows a0.fStepX a0.fStepY) a1).bind fun y1 =>
 some (!(y1))
set_option maxHeartbeats 4000000 in
theorem run_impl_validCell_3_mbp (a0 : TInstance) (a1 : Int) (r : Bool) (h : F_impl_validCell_3_mbp a0 a1 = some r) : Fun Try.prog 86 [.agg [.v (.int .i64 a0.fCell), .v (.int .i64 a0.fPlace.fOrientation), .v (.int .i64 a0.fPlace.fX), .v (.int .i64 a0.fPlace.fY), .v (.int .i64 a0.fColumns), .v (.int .i64 a0.fRows), .v (.int .i64 a0.fStepX), .v (.int .i64 a0.fStepY)], .c (.bp 1 (encI .i64 a1))] [] (.c (.v (.bool r))) [] true := by
 refine ow [] Try.func86 Try.ntmps86 ?_; unfold F_impl_validCell_3_mbp at h; have hf_impl_validInstance := @run_impl_validInstance; generalize hLEN : @len = LEN, hGD : @gd = GD, hA : std = A, hP : Try.prog = P at *; cbv; revert h; refine rk0 (hf_impl_validInstance _ _) fun y1 h => ?_; cbv; exact df

noncomputable def L_slices_IndexFunc_Limpl_Instance_impl_Instance_mbFimpl_validCell_3p_x2 (a0 : List TInstance) (a1_0 : Int) : (Int) → Option ((Int) ⊕ ((Int) ⊕ (Unit))) := fun x2 =>
 letO x2 fun v1 =>
 br (std.lt v1 (std.ofN (len a0)))
 (req (std.inR v1 (len a0)) <|
 (F_impl_validCell_3_mbp (gd a0 (std.toN v1)) a1_0).bind fun y15 =>
 br y15
 (some (.inr (.inl v1)))
 (some (.inl (std.add .i64 v1 1))))
 (some (.inr (.inr ())))
/-- impl.Instance] -/
noncomputable def F_slices_IndexFunc_Limpl_Instance_impl_Instance_mbFimpl_validCell_3p (a0 : List TInstance) (a1_0 : Int) : Option (Int) :=
 (whileP (σ := Int) (ρ := (Int) ⊕ (Unit)) (L_slices_IndexFunc_Limpl_Instance_impl_Instance_mbFimpl_validCell_3p_x2 a0 a1_0) 0).bind fun y3 =>
 (match y3 with
  | .inl y3k0 => (
    letO y3k0 fun w19 =>
    some w19)
  | .inr y3m0 =>
    some (-1))
set_option maxHeartbeats 4000000 in
theorem run_slices_IndexFunc_Limpl_Instance_impl_Instance_mbFimpl_validCell_3p (a0 : List TInstance) (a1_0 : Int) (r : Int) (h : F_slices_IndexFunc_Limpl_Instance_impl_Instance_mbFimpl_validCell_3p a0 a1_0 = some r) : Fun Try.prog 106 [.c (.bs (len a0) 8 (row gd (encInstance) a0)), .c (.fn 86 1 fun j => ([.bp 1 (encI .i64 a1_0)] : List AC).getD j .junk)] [] (.c (.v (.int .i64 r))) [] true := by
 refine ow [] Try.func106 Try.ntmps106 ?_; unfold F_slices_IndexFunc_Limpl_Instance_impl_Instance_mbFimpl_validCell_3p at h; unfold L_slices_IndexFunc_Limpl_Instance_impl_Instance_mbFimpl_validCell_3p_x2 at h; have hf_impl_validCell_3_mbp := @run_impl_validCell_3_mbp; generalize hLEN : @len = LEN, hGD : @gd = GD, hA : std = A, hP : Try.prog = P at *; cbv
 revert h; refine lc (fun x => (sparse 19 [(0, .c (.bs (LEN a0) 8 (row GD (encInstance) a0))), (1, .c (.fn 86 1 fun j => ([.bp 1 (encI .i64 a1_0)] : List AC).getD j .junk)), (7, .c (.v (.int .i64 (A.ofN (LEN a0))))), (8, .c (.v (.int .i64 x)))] [])) (fun y e s => (match y with | .inl w => e = .ret ∧ s.le (sparse 19 [(4, .c (.v (.int .i64 w)))] []) | .inr w0 => (fun (w : Unit) => e = .exit 0 ∧ s.le (sparse 19 [] [])) w0)) zb ?_ ?_
 ·intro v1 z h K hK hY; replace h := oz h; cbv; revert h; refine fk ?_ ?_ <;> intro h <;> cbv
  ·revert h; refine ra fun c14 h => ?_; revert h; refine rk [] [] (hf_impl_validCell_3_mbp _ _) (fun _ => zg (les_cons (lR _) (les_cons (le_bp (show 1 ≤ 1 from by decide) (by intro j hj; match j, hj with | 0, _ => exact rle_refl _ | (j_ + 1), h_ => exact absurd h_ (by omega))) (les_nil)))) fun y15 h => ?_; cbv; revert h; refine fk ?_ ?_ <;> intro h <;> cbv
   ·exact dy
   exact dm
  exact dy
 intro y3 h e12 s13 q11 hne; rcases y3 with y3k0 | y3m0
 ·replace h := h; obtain ⟨rfl, q11⟩ := q11; revert h; refine rz fun h => ?_; cbv; injection h with h; subst h; exact ⟨_, q11, lR _, zo, rfl⟩
 ·obtain ⟨rfl, q11⟩ := q11; cbv; refine ⟨_, q11, ?_⟩; cbv; exact df
/-- impl.Instance] -/
noncomputable def F_slices_ContainsFunc_Limpl_Instance_impl_Instance_mbFimpl_validCell_3p (a0 : List TInstance) (a1_0 : Int) : Option (Bool) :=
 (F_slices_IndexFunc_Limpl_Instance_impl_Instance_mbFimpl_validCell_3p a0 a1_0).bind fun y1 =>
 some (std.le 0 y1)
set_option maxHeartbeats 4000000 in
theorem run_slices_ContainsFunc_Limpl_Instance_impl_Instance_mbFimpl_validCell_3p (a0 : List TInstance) (a1_0 : Int) (r : Bool) (h : F_slices_ContainsFunc_Limpl_Instance_impl_Instance_mbFimpl_validCell_3p a0 a1_0 = some r) : Fun Try.prog 85 [.c (.bs (len a0) 8 (row gd (encInstance) a0)), .c (.fn 86 1 fun j => ([.bp 1 (encI .i64 a1_0)] : List AC).getD j .junk)] [] (.c (.v (.bool r))) [] true := by
 refine ow [] Try.func85 Try.ntmps85 ?_; unfold F_slices_ContainsFunc_Limpl_Instance_impl_Instance_mbFimpl_validCell_3p at h; have hf_slices_IndexFunc_Limpl_Instance_impl_Instance_mbFimpl_validCell_3p := @run_slices_IndexFunc_Limpl_Instance_impl_Instance_mbFimpl_validCell_3p; generalize hLEN : @len = LEN, hGD : @gd = GD, hA : std = A, hP : Try.prog = P at *; cbv
 revert h; refine rk [] [] (hf_slices_IndexFunc_Limpl_Instance_impl_Instance_mbFimpl_validCell_3p _ _) (fun _ => zg (les_cons (lR _) (les_cons (le_fn (by intro j hj; match j, hj with | 0, _ => exact le_bp (show 1 ≤ 1 from by decide) (by intro j hj; match j, hj with | 0, _ => exact rle_refl _ | (j_ + 1), h_ => exact absurd h_ (by omega)) | (j_ + 1), h_ => exact absurd h_ (by omega))) (les_nil)))) fun y1 h => ?_
 cbv; exact df

/-- impl.validCell -/
noncomputable def F_impl_validCell (a0 : TCell) (a1 : Int) : Option (Bool) :=
 ((
    (F_impl_IsName a0.fName).bind fun y8 =>
    br (!(y8))
    (some true)
    (br (std.lt 24 (std.ofN (len a0.fShapes)))
    (some true)
    (br (std.lt 8 (std.ofN (len a0.fLabels)))
    (some true)
    (some (std.lt 8 (std.ofN (len a0.fInstances))))))
  ) : Option (Bool)).bind fun y1 =>
 letO y1 fun w7 =>
 br w7
 (some false)
 (((
    (F_slices_ContainsFunc_Limpl_Shape_impl_Shape_mbFimpl_validCell_1 a0.fShapes).bind fun y20 =>
    br (!(y20))
    ((F_slices_ContainsFunc_Limpl_Label_impl_Label_mbFimpl_validCell_2 a0.fLabels).bind fun y22 =>
    br (!(y22))
    ((F_slices_ContainsFunc_Limpl_Instance_impl_Instance_mbFimpl_validCell_3p a0.fInstances a1).bind fun y24 =>
    some (!(y24)))
    (some false))
    (some false)
  ) : Option (Bool)).bind fun y13 =>
 letO y13 fun w19 =>
 some w19)
set_option maxHeartbeats 4000000 in
theorem run_impl_validCell (a0 : TCell) (a1 : Int) (r : Bool) (h : F_impl_validCell a0 a1 = some r) : Fun Try.prog 59 [.agg [.v (.string a0.fName), .bs (len a0.fShapes) 5 (row gd (encShape) a0.fShapes), .bs (len a0.fLabels) 4 (row gd (encLabel) a0.fLabels), .bs (len a0.fInstances) 8 (row gd (encInstance) a0.fInstances)], .c (.v (.int .i64 a1))] [] (.c (.v (.bool r))) [] true := by
 refine ow [1, 3] Try.func59 Try.ntmps59 ?_; unfold F_impl_validCell at h; have hf_impl_IsName := @run_impl_IsName; have hf_slices_ContainsFunc_Limpl_Instance_impl_Instance_mbFimpl_validCell_3p := @run_slices_ContainsFunc_Limpl_Instance_impl_Instance_mbFimpl_validCell_3p
 have hf_slices_ContainsFunc_Limpl_Label_impl_Label_mbFimpl_validCell_2 := @run_slices_ContainsFunc_Limpl_Label_impl_Label_mbFimpl_validCell_2; have hf_slices_ContainsFunc_Limpl_Shape_impl_Shape_mbFimpl_validCell_1 := @run_slices_ContainsFunc_Limpl_Shape_impl_Shape_mbFimpl_validCell_1; generalize hLEN : @len = LEN, hGD : @gd = GD, hA : std = A, hP : Try.prog = P at *; cbv
 revert h; refine cu (fun y1 => (sparse 44 [(2, .c (.ptr 128 0)), (3, .c (.ptr 192 0)), (26, .c (.v (.bool y1)))] [(128, .var [.v (.string a0.fName), .bs (LEN a0.fShapes) 5 (row GD (encShape) a0.fShapes), .bs (LEN a0.fLabels) 4 (row GD (encLabel) a0.fLabels), .bs (LEN a0.fInstances) 8 (row GD (encInstance) a0.fInstances)]), (192, .var [.v (.int .i64 a1)])])) ?_ fun w7 => rz fun h => ?_
 ·intro y1 S hS h; cbv; revert h; refine rk0 (hf_impl_IsName _) fun y8 h => ?_; cbv; revert h; refine fk ?_ ?_ <;> intro h <;> cbv
  ·exact dn
  revert h; refine fk ?_ ?_ <;> intro h <;> cbv
  ·exact dn
  revert h; refine fk ?_ ?_ <;> intro h <;> cbv
  ·exact dn
  exact dn
 cbv; revert h; refine fk ?_ ?_ <;> intro h <;> cbv
 ·exact df
 revert h; refine cu (fun y13 => (sparse 44 [(4, .c (.v (.bool y13)))] [])) ?_ fun w19 => rz fun h => ?_
 ·intro y13 S hS h; cbv; revert h; refine rk0 (hf_slices_ContainsFunc_Limpl_Shape_impl_Shape_mbFimpl_validCell_1 _) fun y20 h => ?_; cbv; revert h; refine fk ?_ ?_ <;> intro h <;> cbv
  ·revert h; refine rk0 (hf_slices_ContainsFunc_Limpl_Label_impl_Label_mbFimpl_validCell_2 _) fun y22 h => ?_; cbv; revert h; refine fk ?_ ?_ <;> intro h <;> cbv
   ·revert h; refine rk [] [] (hf_slices_ContainsFunc_Limpl_Instance_impl_Instance_mbFimpl_validCell_3p _ _) (fun _ => zg (les_cons (lR _) (les_cons (le_fn (by intro j hj; match j, hj with | 0, _ => exact le_bp (show 1 ≤ 1 from by decide) (by intro j hj; match j, hj with | 0, _ => exact rle_refl _ | (j_ + 1), h_ => exact absurd h_ (by omega)) | (j_ + 1), h_ => exact absurd h_ (by omega))) (les_nil)))) fun y24 h => ?_
    cbv; exact dn
   exact dn
  exact dn
 cbv; exact df

/-- impl.named$1 -/
noncomputable def F_impl_named_1_mbp (a0 : TCell) (a1 : ByteArray) : Option (Bool) :=
 some (std.seq a0.fName a1)
set_option maxHeartbeats 4000000 in
theorem run_impl_named_1_mbp (a0 : TCell) (a1 : ByteArray) (r : Bool) (h : F_impl_named_1_mbp a0 a1 = some r) : Fun Try.prog 89 [.agg [.v (.string a0.fName), .bs (len a0.fShapes) 5 (row gd (encShape) a0.fShapes), .bs (len a0.fLabels) 4 (row gd (encLabel) a0.fLabels), .bs (len a0.fInstances) 8 (row gd (encInstance) a0.fInstances)], .c (.bp 1 (encS a1))] [] (.c (.v (.bool r))) [] true := by
 refine ow [] Try.func89 Try.ntmps89 ?_; unfold F_impl_named_1_mbp at h; generalize hLEN : @len = LEN, hGD : @gd = GD, hA : std = A, hP : Try.prog = P at *; cbv; exact df

noncomputable def L_slices_IndexFunc_Limpl_Cell_impl_Cell_mbFimpl_named_1p_x2 (a0 : List TCell) (a1_0 : ByteArray) : (Int) → Option ((Int) ⊕ ((Int) ⊕ (Unit))) := fun x2 =>
 letO x2 fun v1 =>
 br (std.lt v1 (std.ofN (len a0)))
 (req (std.inR v1 (len a0)) <|
 (F_impl_named_1_mbp (gd a0 (std.toN v1)) a1_0).bind fun y15 =>
 br y15
 (some (.inr (.inl v1)))
 (some (.inl (std.add .i64 v1 1))))
 (some (.inr (.inr ())))
/-- impl.Cell] -/
noncomputable def F_slices_IndexFunc_Limpl_Cell_impl_Cell_mbFimpl_named_1p (a0 : List TCell) (a1_0 : ByteArray) : Option (Int) :=
 (whileP (σ := Int) (ρ := (Int) ⊕ (Unit)) (L_slices_IndexFunc_Limpl_Cell_impl_Cell_mbFimpl_named_1p_x2 a0 a1_0) 0).bind fun y3 =>
 (match y3 with
  | .inl y3k0 => (
    letO y3k0 fun w19 =>
    some w19)
  | .inr y3m0 =>
    some (-1))
set_option maxHeartbeats 4000000 in
theorem run_slices_IndexFunc_Limpl_Cell_impl_Cell_mbFimpl_named_1p (a0 : List TCell) (a1_0 : ByteArray) (r : Int) (h : F_slices_IndexFunc_Limpl_Cell_impl_Cell_mbFimpl_named_1p a0 a1_0 = some r) : Fun Try.prog 88 [.c (.bs (len a0) 4 (row gd (encCell len gd) a0)), .c (.fn 89 1 fun j => ([.bp 1 (encS a1_0)] : List AC).getD j .junk)] [] (.c (.v (.int .i64 r))) [] true := by
 refine ow [] Try.func88 Try.ntmps88 ?_; unfold F_slices_IndexFunc_Limpl_Cell_impl_Cell_mbFimpl_named_1p at h; unfold L_slices_IndexFunc_Limpl_Cell_impl_Cell_mbFimpl_named_1p_x2 at h; have hf_impl_named_1_mbp := @run_impl_named_1_mbp; generalize hLEN : @len = LEN, hGD : @gd = GD, hA : std = A, hP : Try.prog = P at *; cbv
 revert h; refine lc (fun x => (sparse 19 [(0, .c (.bs (LEN a0) 4 (row GD (encCell LEN GD) a0))), (1, .c (.fn 89 1 fun j => ([.bp 1 (encS a1_0)] : List AC).getD j .junk)), (7, .c (.v (.int .i64 (A.ofN (LEN a0))))), (8, .c (.v (.int .i64 x)))] [])) (fun y e s => (match y with | .inl w => e = .ret ∧ s.le (sparse 19 [(4, .c (.v (.int .i64 w)))] []) | .inr w0 => (fun (w : Unit) => e = .exit 0 ∧ s.le (sparse 19 [] [])) w0)) zb ?_ ?_
 ·intro v1 z h K hK hY; replace h := oz h; cbv; revert h; refine fk ?_ ?_ <;> intro h <;> cbv
  ·revert h; refine ra fun c14 h => ?_; revert h; refine rk [] [] (hf_impl_named_1_mbp _ _) (fun _ => zg (les_cons (lR _) (les_cons (le_bp (show 1 ≤ 1 from by decide) (by intro j hj; match j, hj with | 0, _ => exact rle_refl _ | (j_ + 1), h_ => exact absurd h_ (by omega))) (les_nil)))) fun y15 h => ?_; cbv; revert h; refine fk ?_ ?_ <;> intro h <;> cbv
   ·exact dy
   exact dm
  exact dy
 intro y3 h e12 s13 q11 hne; rcases y3 with y3k0 | y3m0
 ·replace h := h; obtain ⟨rfl, q11⟩ := q11; revert h; refine rz fun h => ?_; cbv; injection h with h; subst h; exact ⟨_, q11, lR _, zo, rfl⟩
 ·obtain ⟨rfl, q11⟩ := q11; cbv; refine ⟨_, q11, ?_⟩; cbv; exact df

/-- impl.named -/
noncomputable def F_impl_named (a0 : TLibrary) (a1 : ByteArray) : Option (Int) :=
 (F_slices_IndexFunc_Limpl_Cell_impl_Cell_mbFimpl_named_1p a0.fCells a1).bind fun y1 =>
 some y1
set_option maxHeartbeats 4000000 in
theorem run_impl_named (a0 : TLibrary) (a1 : ByteArray) (r : Int) (h : F_impl_named a0 a1 = some r) : Fun Try.prog 60 [.agg [.bs (len a0.fCells) 4 (row gd (encCell len gd) a0.fCells)], .c (.v (.string a1))] [] (.c (.v (.int .i64 r))) [] true := by
 refine ow [] Try.func60 Try.ntmps60 ?_; unfold F_impl_named at h; have hf_slices_IndexFunc_Limpl_Cell_impl_Cell_mbFimpl_named_1p := @run_slices_IndexFunc_Limpl_Cell_impl_Cell_mbFimpl_named_1p; generalize hLEN : @len = LEN, hGD : @gd = GD, hA : std = A, hP : Try.prog = P at *; cbv
 revert h; refine rk [] [] (hf_slices_IndexFunc_Limpl_Cell_impl_Cell_mbFimpl_named_1p _ _) (fun _ => zg (les_cons (lR _) (les_cons (le_fn (by intro j hj; match j, hj with | 0, _ => exact le_bp (show 1 ≤ 1 from by decide) (by intro j hj; match j, hj with | 0, _ => exact rle_refl _ | (j_ + 1), h_ => exact absurd h_ (by omega)) | (j_ + 1), h_ => exact absurd h_ (by omega))) (les_nil)))) fun y1 h => ?_
 cbv; exact df

noncomputable def L_impl_IsValidLibrary_x10 (a0 : TLibrary) : (Int) → Option ((Int) ⊕ ((Bool) ⊕ (Unit))) := fun x10 =>
 letO x10 fun v9 =>
 br (std.lt v9 (std.ofN (len a0.fCells)))
 (req (std.inR v9 (len a0.fCells)) <|
 ((
    (F_impl_validCell (gd a0.fCells (std.toN v9)) v9).bind fun y30 =>
    br (!(y30))
    (some true)
    ((F_impl_named (TLibrary.mk a0.fCells) (gd a0.fCells (std.toN v9)).fName).bind fun y32 =>
    some (std.not (std.eq y32 v9)))
  ) : Option (Bool)).bind fun y23 =>
 letO y23 fun w29 =>
 br w29
 (some (.inr (.inl false)))
 (some (.inl (std.add .i64 v9 1))))
 (some (.inr (.inr ())))
/-- impl.IsValidLibrary -/
noncomputable def F_impl_IsValidLibrary (a0 : TLibrary) : Option (Bool) :=
 ((
    br (std.lt (std.ofN (len a0.fCells)) 1)
    (some true)
    (some (std.lt 8 (std.ofN (len a0.fCells))))
  ) : Option (Bool)).bind fun y1 =>
 letO y1 fun w7 =>
 br w7
 (some false)
 ((whileP (σ := Int) (ρ := (Bool) ⊕ (Unit)) (L_impl_IsValidLibrary_x10 a0) 0).bind fun y11 =>
 (match y11 with
  | .inl y11k0 => (
    letO y11k0 fun w37 =>
    some w37)
  | .inr y11m0 =>
    some true))
set_option maxHeartbeats 4000000 in
theorem run_impl_IsValidLibrary (a0 : TLibrary) (r : Bool) (h : F_impl_IsValidLibrary a0 = some r) : Fun Try.prog 39 [.agg [.bs (len a0.fCells) 4 (row gd (encCell len gd) a0.fCells)]] [] (.c (.v (.bool r))) [] true := by
 refine ow [1, 6] Try.func39 Try.ntmps39 ?_; unfold F_impl_IsValidLibrary at h; unfold L_impl_IsValidLibrary_x10 at h; have hf_impl_named := @run_impl_named; have hf_impl_validCell := @run_impl_validCell; generalize hLEN : @len = LEN, hGD : @gd = GD, hA : std = A, hP : Try.prog = P at *; cbv
 revert h; refine cu (fun y1 => (sparse 36 [(1, .c (.ptr 64 0)), (14, .c (.v (.bool y1)))] [(64, .var [.bs (LEN a0.fCells) 4 (row GD (encCell LEN GD) a0.fCells)])])) (fun y1 S hS h => rg) fun w7 => rz fun h => ?_; cbv; revert h; refine fk ?_ ?_ <;> intro h <;> cbv
 ·exact df
 revert h; refine lc (fun x => (sparse 36 [(1, .c (.ptr 64 0)), (16, .c (.bs (LEN a0.fCells) 4 (row GD (encCell LEN GD) a0.fCells))), (17, .c (.v (.int .i64 (A.ofN (LEN a0.fCells))))), (18, .c (.v (.int .i64 x)))] [(64, .var [.bs (LEN a0.fCells) 4 (row GD (encCell LEN GD) a0.fCells)])])) (fun y e s => (match y with | .inl w => e = .ret ∧ s.le (sparse 36 [(2, .c (.v (.bool w)))] []) | .inr w0 => (fun (w : Unit) => e = .exit 0 ∧ s.le (sparse 36 [] [])) w0)) zb ?_ ?_
 ·intro v9 z h K hK hY; replace h := oz h; cbv; revert h; refine fk ?_ ?_ <;> intro h <;> cbv
  ·revert h; refine ra fun c22 h => ?_; revert h; refine cu (fun y23 => (sparse 36 [(1, .c (.ptr 64 0)), (16, .c (.bs (LEN a0.fCells) 4 (row GD (encCell LEN GD) a0.fCells))), (17, .c (.v (.int .i64 (A.ofN (LEN a0.fCells))))), (18, .c (.v (.int .i64 v9))), (34, .c (.v (.bool y23)))] [(64, .var [.bs (LEN a0.fCells) 4 (row GD (encCell LEN GD) a0.fCells)])])) ?_ fun w29 => rz fun h => ?_
   ·intro y23 S hS h; cbv; revert h; refine rk0 (hf_impl_validCell _ _) fun y30 h => ?_; cbv; revert h; refine fk ?_ ?_ <;> intro h <;> cbv
    ·exact dn
    revert h; refine rk0 (hf_impl_named _ _) fun y32 h => ?_; cbv; exact dn
   cbv; revert h; refine fk ?_ ?_ <;> intro h <;> cbv
   ·exact dy
   exact dm
  exact dy
 intro y11 h e20 s21 q19 hne; rcases y11 with y11k0 | y11m0
 ·replace h := h; obtain ⟨rfl, q19⟩ := q19; revert h; refine rz fun h => ?_; cbv; injection h with h; subst h; exact ⟨_, q19, lR _, zo, rfl⟩
 ·obtain ⟨rfl, q19⟩ := q19; cbv; refine ⟨_, q19, ?_⟩; cbv; exact df
/-- impl.cellCode -/
noncomputable def F_impl_cellCode (a0 : TLibrary) (a1 : Int) : Option (Int) :=
 (F_impl_IsValidLibrary (TLibrary.mk a0.fCells)).bind fun y1 =>
 br (!(y1))
 (some 1)
 ((F_impl_within a1 0 (std.sub .i64 (std.ofN (len a0.fCells)) 1)).bind fun y3 =>
 br (!(y3))
 (some 5)
 (some 0))
set_option maxHeartbeats 4000000 in
theorem run_impl_cellCode (a0 : TLibrary) (a1 : Int) (r : Int) (h : F_impl_cellCode a0 a1 = some r) : Fun Try.prog 55 [.agg [.bs (len a0.fCells) 4 (row gd (encCell len gd) a0.fCells)], .c (.v (.int .i64 a1))] [] (.c (.v (.int .i64 r))) [] true := by
 refine ow [] Try.func55 Try.ntmps55 ?_; unfold F_impl_cellCode at h; have hf_impl_IsValidLibrary := @run_impl_IsValidLibrary; have hf_impl_within := @run_impl_within; generalize hLEN : @len = LEN, hGD : @gd = GD, hA : std = A, hP : Try.prog = P at *; cbv; revert h; refine rk0 (hf_impl_IsValidLibrary _) fun y1 h => ?_; cbv; revert h; refine fk ?_ ?_ <;> intro h <;> cbv
 ·exact df
 revert h; refine rk0 (hf_impl_within _ _ _) fun y3 h => ?_; cbv; revert h; refine fk ?_ ?_ <;> intro h <;> cbv
 ·exact df
 exact df

noncomputable def L_impl_elementCount_x23 (l3 : List TCell) (v7 : List Int) (v6 : Int) : (Int × Int) → Option ((Int × Int) ⊕ ((Int))) := fun x23 =>
 letO x23.1 fun v21 =>
 letO x23.2 fun v22 =>
 br (std.lt v22 (std.ofN (len (gd l3 (std.toN v6)).fInstances)))
 (req (std.inR v22 (len (gd l3 (std.toN v6)).fInstances)) <|
 req (std.inR (gd (gd l3 (std.toN v6)).fInstances (std.toN v22)).fCell (len v7)) <|
 some (.inl (std.add .i64 v21 (std.mul .i64 (std.mul .i64 (gd (gd l3 (std.toN v6)).fInstances (std.toN v22)).fColumns (gd (gd l3 (std.toN v6)).fInstances (std.toN v22)).fRows) (gd v7 (std.nadd 0 (std.toN (gd (gd l3 (std.toN v6)).fInstances (std.toN v22)).fCell)))), std.add .i64 v22 1)))
 (some (.inr v21))
noncomputable def L_impl_elementCount_x8 (l3 : List TCell) : (Int × (List Int)) → Option ((Int × (List Int)) ⊕ (((List Int)))) := fun x8 =>
 letO x8.1 fun v6 =>
 letO x8.2 fun v7 =>
 br (std.lt v6 (std.ofN (len l3)))
 (req (std.inR v6 (len l3)) <|
 (whileP (σ := Int × Int) (ρ := (Int)) (L_impl_elementCount_x23 l3 v7 v6) (1, 0)).bind fun y24 =>
 letO y24 fun y24k0 =>
 letO y24k0 fun w38 =>
 letO ([w38] : List Int) fun l39 =>
 req (std.room (std.nadd (len v7) (len l39)) 8) <|
 letO (v7 ++ l39) fun l41 =>
 some (.inl (std.add .i64 v6 1, l41)))
 (some (.inr v7))
/-- impl.elementCount -/
noncomputable def F_impl_elementCount (a0 : TLibrary) (a1 : Int) : Option (Int) :=
 letO ([] : List Int) fun l1 =>
 req (std.upTo (std.add .i64 a1 1) (len a0.fCells)) <|
 req (std.upTo 0 (std.toN (std.add .i64 a1 1))) <|
 letO (subL a0.fCells (std.toN 0) (std.toN (std.add .i64 a1 1))) fun l3 =>
 (whileP (σ := Int × (List Int)) (ρ := ((List Int))) (L_impl_elementCount_x8 l3) (0, l1)).bind fun y9 =>
 letO y9 fun y9k0 =>
 letO y9k0 fun w45 =>
 req (std.inR a1 (len w45)) <|
 some (gd w45 (std.nadd 0 (std.toN a1)))
set_option maxHeartbeats 4000000 in
theorem run_impl_elementCount (a0 : TLibrary) (a1 : Int) (r : Int) (h : F_impl_elementCount a0 a1 = some r) : Fun Try.prog 27 [.agg [.bs (len a0.fCells) 4 (row gd (encCell len gd) a0.fCells)], .c (.v (.int .i64 a1))] [] (.c (.v (.int .i64 r))) [] true := by
 refine ow [] Try.func27 Try.ntmps27 ?_; unfold F_impl_elementCount at h; unfold L_impl_elementCount_x8 at h; unfold L_impl_elementCount_x23 at h; generalize hLEN : @len = LEN, hGD : @gd = GD, hA : std = A, hP : Try.prog = P at *; cbv; revert h; refine rl fun l1 hl1 h => ?_; have e2 : 0 = LEN l1 := by subst hl1 hLEN; rfl
 refine ⟨_, (co e2), _, row GD (encI .i64) l1, e2, wkOf ?_, ?_⟩
 ·intro i hi j hj; rw [← e2] at hi; subst hl1; subst hGD; omega
 cbv; revert h; refine rq fun c4 => rq fun c5 => rl fun l3 hl3 h => ?_; refine And.intro (by first | exact ⟨c4, c5, trivial⟩ | exact ⟨c4, c5⟩) ?_; refine ⟨.c (.bs (LEN l3) 4 (row GD (encCell LEN GD) l3)), ?_, ?_⟩
 ·subst hGD hLEN hA; exact le_sub c4 c5 hl3
 cbv
 revert h; refine ln (.exit 0) (fun x => (sparse 52 [(1, .c (.v (.int .i64 a1))), (5, .c (.os 704 0 (LEN x.2))), (16, .c (.bs (LEN l3) 4 (row GD (encCell LEN GD) l3))), (17, .c (.v (.int .i64 (A.ofN (LEN l3))))), (18, .c (.v (.int .i64 x.1)))] [(704, .arr .rw [] (LEN x.2) 1 (row GD (encI .i64) x.2))])) (fun w => (sparse 52 [(1, .c (.v (.int .i64 a1))), (5, .c (.os 704 0 (LEN w)))] [(704, .arr .rw [] (LEN w) 1 (row GD (encI .i64) w))])) zb ?_ ?_
 ·rintro ⟨v6, v7⟩ z h K hK hY; replace h := oz (oz h); dsimp only at h; cbv; revert h; refine fk ?_ ?_ <;> intro h <;> cbv
  ·revert h; refine ra fun c20 h => ?_
   revert h; refine ln (.exit 2) (fun x => (sparse 52 [(1, .c (.v (.int .i64 a1))), (5, .c (.os 704 0 (LEN v7))), (8, .c (.v (.int .i64 x.1))), (16, .c (.bs (LEN l3) 4 (row GD (encCell LEN GD) l3))), (17, .c (.v (.int .i64 (A.ofN (LEN l3))))), (18, .c (.v (.int .i64 v6))), (23, .c (.bs (LEN (GD l3 (A.toN v6)).fInstances) 8 (row GD (encInstance) (GD l3 (A.toN v6)).fInstances))), (24, .c (.v (.int .i64 (A.ofN (LEN (GD l3 (A.toN v6)).fInstances))))), (25, .c (.v (.int .i64 x.2)))] [(704, .arr .rw [] (LEN v7) 1 (row GD (encI .i64) v7))])) (fun w => (sparse 52 [(1, .c (.v (.int .i64 a1))), (5, .c (.os 704 0 (LEN v7))), (8, .c (.v (.int .i64 w))), (16, .c (.bs (LEN l3) 4 (row GD (encCell LEN GD) l3))), (17, .c (.v (.int .i64 (A.ofN (LEN l3))))), (18, .c (.v (.int .i64 v6)))] [(704, .arr .rw [] (LEN v7) 1 (row GD (encI .i64) v7))])) zb ?_ ?_
   ·rintro ⟨v21, v22⟩ z h K hK hY; replace h := oz (oz h); dsimp only at h; cbv; revert h; refine fk ?_ ?_ <;> intro h <;> cbv
    ·revert h; refine ra fun c35 h => ?_; revert h; refine ra fun c36 h => ?_; refine ai c36 ?_; exact dm
    exact dx
   intro w38 h s q32; replace h := oz (oz h); cbv; refine ⟨_, q32, ?_⟩; cbv; revert h; refine rl fun l39 hl39 h => ?_; have e40 : 1 = LEN l39 := by subst hl39 hLEN; rfl
   refine ⟨_, (co e40), _, row GD (encI .i64) l39, e40, wkOf ?_, ?_⟩
   ·intro i hi j hj; rw [← e40] at hi; subst hl39; subst hGD; obtain rfl : i = 0 := (by omega); all_goals obtain rfl : j = 0 := by omega
    all_goals rfl
   cbv; revert h; refine rq fun c43 => rl fun l41 hl41 h => ?_; have e42 := nl hA hLEN hl41; refine ⟨c43, _, (co e42), _, row GD (encI .i64) l41, e42, wkOf ?_, ?_⟩
   ·subst hGD hLEN hA; exact app_os (off := 0) (fun _ _ => rfl) hl41 (Nat.le_refl _)
   cbv; exact dm
  exact dx
 intro w45 h s q17; replace h := oz (oz h); cbv; refine ⟨_, q17, ?_⟩; cbv; revert h; refine ra fun c46 h => ?_; refine ai c46 ?_; exact df

/-- impl.elementPlace -/
noncomputable def F_impl_elementPlace (a0 : TInstance) (a1 : Int) (a2 : Int) : Option (TTransform) :=
 some (TTransform.mk a0.fPlace.fOrientation (std.add .i64 a0.fPlace.fX (std.mul .i64 a1 a0.fStepX)) (std.add .i64 a0.fPlace.fY (std.mul .i64 a2 a0.fStepY)))
set_option maxHeartbeats 4000000 in
theorem run_impl_elementPlace (a0 : TInstance) (a1 : Int) (a2 : Int) (r : TTransform) (h : F_impl_elementPlace a0 a1 a2 = some r) : Fun Try.prog 90 [.agg [.v (.int .i64 a0.fCell), .v (.int .i64 a0.fPlace.fOrientation), .v (.int .i64 a0.fPlace.fX), .v (.int .i64 a0.fPlace.fY), .v (.int .i64 a0.fColumns), .v (.int .i64 a0.fRows), .v (.int .i64 a0.fStepX), .v (.int .i64 a0.fStepY)], .c (.v (.int .i64 a1)), .c (.v (.int .i64 a2))] [] (.agg [.v (.int .i64 r.fOrientation), .v (.int .i64 r.fX), .v (.int .i64 r.fY)]) [] true := by
 refine ow [] Try.func90 Try.ntmps90 ?_ (hv := (fun _ => ⟨(by simp [AV.flat, AV.flat1, AC.flat]), trivial⟩)); unfold F_impl_elementPlace at h; generalize hLEN : @len = LEN, hGD : @gd = GD, hA : std = A, hP : Try.prog = P at *; cbv; exact df

noncomputable def L_impl_elements_x34 (a0 : TCell) (v18 : Int) (v3 : Int) : (Int × (List Telement)) → Option ((Int × (List Telement)) ⊕ (((List Telement)))) := fun x34 =>
 letO x34.1 fun v32 =>
 letO x34.2 fun v33 =>
 br (std.lt v32 (gd a0.fInstances (std.toN v3)).fColumns)
 ((F_impl_elementPlace (gd a0.fInstances (std.toN v3)) v32 v18).bind fun y46 =>
 letO ([(Telement.mk (gd a0.fInstances (std.toN v3)).fCell y46)] : List Telement) fun l48 =>
 req (std.room (std.nadd (len v33) (len l48)) 32) <|
 letO (v33 ++ l48) fun l50 =>
 some (.inl (std.add .i64 v32 1, l50)))
 (some (.inr v33))
noncomputable def L_impl_elements_x20 (a0 : TCell) (v3 : Int) : (Int × (List Telement)) → Option ((Int × (List Telement)) ⊕ (((List Telement)))) := fun x20 =>
 letO x20.1 fun v18 =>
 letO x20.2 fun v19 =>
 br (std.lt v18 (gd a0.fInstances (std.toN v3)).fRows)
 ((whileP (σ := Int × (List Telement)) (ρ := ((List Telement))) (L_impl_elements_x34 a0 v18 v3) (0, v19)).bind fun y35 =>
 letO y35 fun y35k0 =>
 letO y35k0 fun w54 =>
 some (.inl (std.add .i64 v18 1, w54)))
 (some (.inr v19))
noncomputable def L_impl_elements_x5 (a0 : TCell) : (Int × (List Telement)) → Option ((Int × (List Telement)) ⊕ (((List Telement)))) := fun x5 =>
 letO x5.1 fun v3 =>
 letO x5.2 fun v4 =>
 br (std.lt v3 (std.ofN (len a0.fInstances)))
 (req (std.inR v3 (len a0.fInstances)) <|
 (whileP (σ := Int × (List Telement)) (ρ := ((List Telement))) (L_impl_elements_x20 a0 v3) (0, v4)).bind fun y21 =>
 letO y21 fun y21k0 =>
 letO y21k0 fun w56 =>
 some (.inl (std.add .i64 v3 1, w56)))
 (some (.inr v4))
/-- impl.elements -/
noncomputable def F_impl_elements (a0 : TCell) : Option (List Telement) :=
 letO ([] : List Telement) fun l1 =>
 (whileP (σ := Int × (List Telement)) (ρ := ((List Telement))) (L_impl_elements_x5 a0) (0, l1)).bind fun y6 =>
 letO y6 fun y6k0 =>
 letO y6k0 fun w58 =>
 some w58
set_option maxHeartbeats 4000000 in
theorem run_impl_elements (a0 : TCell) (r : List Telement) (h : F_impl_elements a0 = some r) : Fun Try.prog 61 [.agg [.v (.string a0.fName), .bs (len a0.fShapes) 5 (row gd (encShape) a0.fShapes), .bs (len a0.fLabels) 4 (row gd (encLabel) a0.fLabels), .bs (len a0.fInstances) 8 (row gd (encInstance) a0.fInstances)]] [] (.c (.os 64000 0 (len r))) [(64000, .arr .rw [] (len r) 4 (row gd (encelement) r))] true := by
 refine ow [] Try.func61 Try.ntmps61 ?_ (hv := (fun _ => ⟨trivial, ⟨fun i _ j _ => val_flat (vl_encelement _ _), trivial⟩⟩)); unfold F_impl_elements at h; unfold L_impl_elements_x5 at h; unfold L_impl_elements_x20 at h; unfold L_impl_elements_x34 at h; have hf_impl_elementPlace := @run_impl_elementPlace; generalize hLEN : @len = LEN, hGD : @gd = GD, hA : std = A, hP : Try.prog = P at *; cbv
 revert h; refine rl fun l1 hl1 h => ?_; have e2 : 0 = LEN l1 := by subst hl1 hLEN; rfl
 refine ⟨_, (co e2), _, row GD (encelement) l1, e2, wkOf ?_, ?_⟩
 ·intro i hi j hj; rw [← e2] at hi; subst hl1; subst hGD; omega
 cbv
 revert h; refine ln (.exit 0) (fun x => (sparse 40 [(3, .c (.os 512 0 (LEN x.2))), (10, .c (.bs (LEN a0.fInstances) 8 (row GD (encInstance) a0.fInstances))), (11, .c (.v (.int .i64 (A.ofN (LEN a0.fInstances))))), (12, .c (.v (.int .i64 x.1)))] [(512, .arr .rw [] (LEN x.2) 4 (row GD (encelement) x.2))])) (fun w => (sparse 40 [(3, .c (.os 512 0 (LEN w)))] [(512, .arr .rw [] (LEN w) 4 (row GD (encelement) w))])) zb ?_ ?_
 ·rintro ⟨v3, v4⟩ z h K hK hY; replace h := oz (oz h); dsimp only at h; cbv; revert h; refine fk ?_ ?_ <;> intro h <;> cbv
  ·revert h; refine ra fun c17 h => ?_
   revert h; refine ln (.exit 2) (fun x => (sparse 40 [(3, .c (.os 512 0 (LEN x.2))), (5, .c (.ptr 320 0)), (10, .c (.bs (LEN a0.fInstances) 8 (row GD (encInstance) a0.fInstances))), (11, .c (.v (.int .i64 (A.ofN (LEN a0.fInstances))))), (12, .c (.v (.int .i64 v3))), (17, .c (.v (.int .i64 (GD a0.fInstances (A.toN v3)).fRows))), (18, .c (.v (.int .i64 x.1)))] [(512, .arr .rw [] (LEN x.2) 4 (row GD (encelement) x.2)), (320, .var [.v (.int .i64 (GD a0.fInstances (A.toN v3)).fCell), .v (.int .i64 (GD a0.fInstances (A.toN v3)).fPlace.fOrientation), .v (.int .i64 (GD a0.fInstances (A.toN v3)).fPlace.fX), .v (.int .i64 (GD a0.fInstances (A.toN v3)).fPlace.fY), .v (.int .i64 (GD a0.fInstances (A.toN v3)).fColumns), .v (.int .i64 (GD a0.fInstances (A.toN v3)).fRows), .v (.int .i64 (GD a0.fInstances (A.toN v3)).fStepX), .v (.int .i64 (GD a0.fInstances (A.toN v3)).fStepY)])])) (fun w => (sparse 40 [(3, .c (.os 512 0 (LEN w))), (10, .c (.bs (LEN a0.fInstances) 8 (row GD (encInstance) a0.fInstances))), (11, .c (.v (.int .i64 (A.ofN (LEN a0.fInstances))))), (12, .c (.v (.int .i64 v3)))] [(512, .arr .rw [] (LEN w) 4 (row GD (encelement) w))])) zb ?_ ?_
   ·rintro ⟨v18, v19⟩ z h K hK hY; replace h := oz (oz h); dsimp only at h; cbv; revert h; refine fk ?_ ?_ <;> intro h <;> cbv
    ·revert h; refine ln (.exit 4) (fun x => (sparse 40 [(3, .c (.os 512 0 (LEN x.2))), (5, .c (.ptr 320 0)), (6, .c (.v (.int .i64 v18))), (10, .c (.bs (LEN a0.fInstances) 8 (row GD (encInstance) a0.fInstances))), (11, .c (.v (.int .i64 (A.ofN (LEN a0.fInstances))))), (12, .c (.v (.int .i64 v3))), (17, .c (.v (.int .i64 (GD a0.fInstances (A.toN v3)).fRows))), (18, .c (.v (.int .i64 v18))), (22, .c (.v (.int .i64 (GD a0.fInstances (A.toN v3)).fColumns))), (23, .c (.v (.int .i64 x.1)))] [(512, .arr .rw [] (LEN x.2) 4 (row GD (encelement) x.2)), (320, .var [.v (.int .i64 (GD a0.fInstances (A.toN v3)).fCell), .v (.int .i64 (GD a0.fInstances (A.toN v3)).fPlace.fOrientation), .v (.int .i64 (GD a0.fInstances (A.toN v3)).fPlace.fX), .v (.int .i64 (GD a0.fInstances (A.toN v3)).fPlace.fY), .v (.int .i64 (GD a0.fInstances (A.toN v3)).fColumns), .v (.int .i64 (GD a0.fInstances (A.toN v3)).fRows), .v (.int .i64 (GD a0.fInstances (A.toN v3)).fStepX), .v (.int .i64 (GD a0.fInstances (A.toN v3)).fStepY)])])) (fun w => (sparse 40 [(3, .c (.os 512 0 (LEN w))), (5, .c (.ptr 320 0)), (10, .c (.bs (LEN a0.fInstances) 8 (row GD (encInstance) a0.fInstances))), (11, .c (.v (.int .i64 (A.ofN (LEN a0.fInstances))))), (12, .c (.v (.int .i64 v3))), (17, .c (.v (.int .i64 (GD a0.fInstances (A.toN v3)).fRows))), (18, .c (.v (.int .i64 v18)))] [(512, .arr .rw [] (LEN w) 4 (row GD (encelement) w)), (320, .var [.v (.int .i64 (GD a0.fInstances (A.toN v3)).fCell), .v (.int .i64 (GD a0.fInstances (A.toN v3)).fPlace.fOrientation), .v (.int .i64 (GD a0.fInstances (A.toN v3)).fPlace.fX), .v (.int .i64 (GD a0.fInstances (A.toN v3)).fPlace.fY), .v (.int .i64 (GD a0.fInstances (A.toN v3)).fColumns), .v (.int .i64 (GD a0.fInstances (A.toN v3)).fRows), .v (.int .i64 (GD a0.fInstances (A.toN v3)).fStepX), .v (.int .i64 (GD a0.fInstances (A.toN v3)).fStepY)])])) zb ?_ ?_
     ·rintro ⟨v32, v33⟩ z h K hK hY; replace h := oz (oz h); dsimp only at h; cbv; revert h; refine fk ?_ ?_ <;> intro h <;> cbv
      ·revert h; refine rk0 (hf_impl_elementPlace _ _ _) fun y46 h => ?_; cbv; revert h; refine rl fun l48 hl48 h => ?_; have e49 : 1 = LEN l48 := by subst hl48 hLEN; rfl
       refine ⟨_, (co e49), _, row GD (encelement) l48, e49, wkOf ?_, ?_⟩
       ·intro i hi j hj; rw [← e49] at hi; subst hl48; subst hGD; obtain rfl : i = 0 := (by omega) <;> obtain rfl | rfl | rfl | rfl : j = 0 ∨ j = 1 ∨ j = 2 ∨ j = 3 := (by omega)
        all_goals rfl
       cbv; revert h; refine rq fun c52 => rl fun l50 hl50 h => ?_; have e51 := nl hA hLEN hl50; refine ⟨c52, _, (co e51), _, row GD (encelement) l50, e51, wkOf ?_, ?_⟩
       ·subst hGD hLEN hA; exact app_os (off := 0) (pl_encelement) hl50 (Nat.le_refl _)
       cbv; exact dm
      exact dx
     intro w54 h s q43; replace h := oz (oz h); cbv; refine ⟨_, q43, ?_⟩; cbv; exact dm
    exact dx
   intro w56 h s q29; replace h := oz (oz h); cbv; refine ⟨_, q29, ?_⟩; cbv; exact dm
  exact dx
 intro w58 h s q14; replace h := oz (oz h); cbv; refine ⟨_, q14, ?_⟩; cbv; injection h with h; subst h; exact ⟨_, le_ren 512 64000 (by decide) rfl, lR _, zo, rfl⟩

/-- slices.Clone[[]int64,int64] -/
noncomputable def F_slices_Clone_Lint64_int64 (a0 : List Int) : Option (List Int) :=
 nilB (len a0)
 (some ([] : List Int))
 (letO ([] : List Int) fun l1 =>
 req (std.room (std.nadd (len l1) (len a0)) 8) <|
 letO (l1 ++ a0) fun l3 =>
 some l3)
set_option maxHeartbeats 4000000 in
theorem run_slices_Clone_Lint64_int64 (a0 : List Int) (r : List Int) (h : F_slices_Clone_Lint64_int64 a0 = some r) : Fun Try.prog 44 [.c (.bs (len a0) 1 (row gd (encI .i64) a0))] [] (.c (.os 64000 0 (len r))) [(64000, .arr .rw [] (len r) 1 (row gd (encI .i64) r))] true := by
 refine ow [] Try.func44 Try.ntmps44 ?_ (hv := (fun _ => ⟨trivial, ⟨fun i _ j _ => val_flat (rfl), trivial⟩⟩)); unfold F_slices_Clone_Lint64_int64 at h; generalize hLEN : @len = LEN, hGD : @gd = GD, hA : std = A, hP : Try.prog = P at *; cbv; obtain ⟨h, hz7⟩ := of_nilB h; refine And.intro (fun hn6 => ?_) ?_
 ·have h := hz7 hn6; clear hz7; cbv; injection h with h; subst h; refine ⟨(sparse 8 [(2, .c (.os 64000 0 (LEN ([] : List Int))))] [(64000, .arr .rw [] (LEN ([] : List Int)) 1 (row GD (encI .i64) ([] : List Int)))]), ?_, ?_⟩
  ·refine St.le_trans (le_nilT 2 64000 1 (row GD (encI .i64) ([] : List Int)) (by decide) rfl) ?_; subst hLEN; exact zb
  ·subst hLEN; exact ⟨lR _, zo, rfl⟩
 ·clear hz7; cbv; revert h; refine rl fun l1 hl1 h => ?_; have e2 : 0 = LEN l1 := by subst hl1 hLEN; rfl
  refine ⟨_, (co e2), _, row GD (encI .i64) l1, e2, wkOf ?_, ?_⟩
  ·intro i hi j hj; rw [← e2] at hi; subst hl1; subst hGD; omega
  cbv; revert h; refine rq fun c5 => rl fun l3 hl3 h => ?_; have e4 := nl hA hLEN hl3; refine ⟨c5, _, (co e4), _, row GD (encI .i64) l3, e4, wkOf ?_, ?_⟩
  ·subst hGD hLEN hA; exact app_bs (fun _ _ => rfl) hl3 (Nat.le_refl _)
  cbv; injection h with h; subst h; exact ⟨_, le_ren 320 64000 (by decide) rfl, lR _, zo, rfl⟩

noncomputable def L_impl_turn_x13  : (Int × Int × Int) → Option ((Int × Int × Int) ⊕ ((Int × Int))) := fun x13 =>
 letO x13.1 fun v10 =>
 letO x13.2.1 fun v11 =>
 letO x13.2.2 fun v12 =>
 br (std.lt 0 v10)
 (some (.inl (std.sub .i64 v10 1, std.sub .i64 0 v12, v11)))
 (some (.inr (v11, v12)))
/-- impl.turn -/
noncomputable def F_impl_turn (a0 : Int) (a1 : TPoint) : Option (TPoint) :=
 ((
    br (std.le 4 a0)
    (some (std.sub .i64 0 a1.fY))
    (some a1.fY)
  ) : Option (Int)).bind fun y1 =>
 letO y1 fun w7 =>
 req (std.nz 4) <|
 (whileP (σ := Int × Int × Int) (ρ := (Int × Int)) L_impl_turn_x13 (std.rem a0 4, a1.fX, w7)).bind fun y14 =>
 letO y14 fun y14k0 =>
 letO y14k0.1 fun w26 =>
 letO y14k0.2 fun w27 =>
 some (TPoint.mk w26 w27)
set_option maxHeartbeats 4000000 in
theorem run_impl_turn (a0 : Int) (a1 : TPoint) (r : TPoint) (h : F_impl_turn a0 a1 = some r) : Fun Try.prog 77 [.c (.v (.int .i64 a0)), .agg [.v (.int .i64 a1.fX), .v (.int .i64 a1.fY)]] [] (.agg [.v (.int .i64 r.fX), .v (.int .i64 r.fY)]) [] true := by
 refine ow [100007] Try.func77 Try.ntmps77 ?_ (hv := (fun _ => ⟨(by simp [AV.flat, AV.flat1, AC.flat]), trivial⟩)); unfold F_impl_turn at h; unfold L_impl_turn_x13 at h; generalize hLEN : @len = LEN, hGD : @gd = GD, hA : std = A, hP : Try.prog = P at *; cbv
 revert h; refine cu (fun y1 => some (sparse 25 [(0, .c (.v (.int .i64 a0))), (3, .c (.ptr 192 0)), (4, .c (.ptr 256 0))] [(192, .var [.v (.int .i64 a1.fX), .v (.int .i64 y1)]), (256, .var [.v (.int .i64 0), .v (.int .i64 0)])])) (fun y1 S hS h => rg) fun w7 => rz fun h => ?_; cbv; revert h; refine ra fun c9 h => ?_
 revert h; refine ln (.exit 0) (fun x => (sparse 25 [(3, .c (.ptr 192 0)), (4, .c (.ptr 256 0)), (5, .c (.v (.int .i64 x.1)))] [(192, .var [.v (.int .i64 x.2.1), .v (.int .i64 x.2.2)]), (256, .var [.v (.int .i64 0), .v (.int .i64 0)])])) (fun w => (sparse 25 [(3, .c (.ptr 192 0)), (4, .c (.ptr 256 0))] [(192, .var [.v (.int .i64 w.1), .v (.int .i64 w.2)]), (256, .var [.v (.int .i64 0), .v (.int .i64 0)])])) zb ?_ ?_
 ·rintro ⟨v10, v11, v12⟩ z h K hK hY; replace h := oz (oz (oz h)); dsimp only at h; cbv; revert h; refine fk ?_ ?_ <;> intro h <;> cbv
  ·exact dm
  exact dx
 rintro ⟨w26, w27⟩ h s q22; replace h := oz (oz (oz h)); dsimp only at h; cbv; refine ⟨_, q22, ?_⟩; cbv; exact df
/-- impl.move -/
noncomputable def F_impl_move (a0 : TTransform) (a1 : TPoint) : Option (TPoint) :=
 (F_impl_turn a0.fOrientation a1).bind fun y1 =>
 some (TPoint.mk (std.add .i64 y1.fX a0.fX) (std.add .i64 y1.fY a0.fY))
set_option maxHeartbeats 4000000 in
theorem run_impl_move (a0 : TTransform) (a1 : TPoint) (r : TPoint) (h : F_impl_move a0 a1 = some r) : Fun Try.prog 58 [.agg [.v (.int .i64 a0.fOrientation), .v (.int .i64 a0.fX), .v (.int .i64 a0.fY)], .agg [.v (.int .i64 a1.fX), .v (.int .i64 a1.fY)]] [] (.agg [.v (.int .i64 r.fX), .v (.int .i64 r.fY)]) [] true := by
 refine ow [] Try.func58 Try.ntmps58 ?_ (hv := (fun _ => ⟨(by simp [AV.flat, AV.flat1, AC.flat]), trivial⟩)); unfold F_impl_move at h; have hf_impl_turn := @run_impl_turn; generalize hLEN : @len = LEN, hGD : @gd = GD, hA : std = A, hP : Try.prog = P at *; cbv; revert h; refine rk0 (hf_impl_turn _ _) fun y1 h => ?_; cbv; exact df

/-- impl.composed -/
noncomputable def F_impl_composed (a0 : Int) (a1 : Int) : Option (Int) :=
 req (std.nz 4) <|
 req (std.nz 4) <|
 ((
    br (std.le 4 a1)
    (req (std.nz 4) <|
    req (std.nz 4) <|
    some (std.sub .i64 (std.add .i64 (std.rem a1 4) 4) (std.rem a0 4)))
    (some (std.add .i64 (std.rem a1 4) (std.rem a0 4)))
  ) : Option (Int)).bind fun y3 =>
 letO y3 fun w9 =>
 req (std.nz 4) <|
 ((
    br (std.not (std.beq (std.le 4 a0) (std.le 4 a1)))
    (some (std.add .i64 (std.rem w9 4) 4))
    (some (std.rem w9 4))
  ) : Option (Int)).bind fun y14 =>
 letO y14 fun w20 =>
 some w20
set_option maxHeartbeats 4000000 in
theorem run_impl_composed (a0 : Int) (a1 : Int) (r : Int) (h : F_impl_composed a0 a1 = some r) : Fun Try.prog 91 [.c (.v (.int .i64 a0)), .c (.v (.int .i64 a1))] [] (.c (.v (.int .i64 r))) [] true := by
 refine ow [100013, 100026] Try.func91 Try.ntmps91 ?_; unfold F_impl_composed at h; generalize hLEN : @len = LEN, hGD : @gd = GD, hA : std = A, hP : Try.prog = P at *; cbv; revert h; refine ra fun c1 h => ?_; revert h; refine ra fun c2 h => ?_
 revert h; refine cu (fun y3 => some (sparse 30 [(0, .c (.v (.int .i64 a0))), (1, .c (.v (.int .i64 a1))), (5, .c (.v (.int .i64 y3)))] [])) (fun y3 S hS h => rg) fun w9 => rz fun h => ?_; cbv; revert h; refine ra fun c13 h => ?_; revert h; refine cu (fun y14 => some (sparse 30 [(6, .c (.v (.int .i64 y14)))] [])) (fun y14 S hS h => rg) fun w20 => rz fun h => ?_; cbv; exact df

/-- impl.compose -/
noncomputable def F_impl_compose (a0 : TTransform) (a1 : TTransform) : Option (TTransform) :=
 (F_impl_move (TTransform.mk a1.fOrientation a1.fX a1.fY) (TPoint.mk a0.fX a0.fY)).bind fun y1 =>
 (F_impl_composed a0.fOrientation a1.fOrientation).bind fun y3 =>
 some (TTransform.mk y3 y1.fX y1.fY)
set_option maxHeartbeats 4000000 in
theorem run_impl_compose (a0 : TTransform) (a1 : TTransform) (r : TTransform) (h : F_impl_compose a0 a1 = some r) : Fun Try.prog 62 [.agg [.v (.int .i64 a0.fOrientation), .v (.int .i64 a0.fX), .v (.int .i64 a0.fY)], .agg [.v (.int .i64 a1.fOrientation), .v (.int .i64 a1.fX), .v (.int .i64 a1.fY)]] [] (.agg [.v (.int .i64 r.fOrientation), .v (.int .i64 r.fX), .v (.int .i64 r.fY)]) [] true := by
 refine ow [] Try.func62 Try.ntmps62 ?_ (hv := (fun _ => ⟨(by simp [AV.flat, AV.flat1, AC.flat]), trivial⟩)); unfold F_impl_compose at h; have hf_impl_composed := @run_impl_composed; have hf_impl_move := @run_impl_move; generalize hLEN : @len = LEN, hGD : @gd = GD, hA : std = A, hP : Try.prog = P at *; cbv; revert h; refine rk0 (hf_impl_move _ _) fun y1 h => ?_; cbv
 revert h; refine rk0 (hf_impl_composed _ _) fun y3 h => ?_; cbv; exact df

noncomputable def L_impl_below_mbxb_x11 (a0 : TLibrary) (a2 : TOccurrence) (F_REC_impl_below_mbxb : TLibrary → (List TOccurrence) → TOccurrence → Option (List TOccurrence)) (y7 : (List Telement)) : (Int × (List TOccurrence)) → Option ((Int × (List TOccurrence)) ⊕ (((List TOccurrence)))) := fun x11 =>
 letO x11.1 fun v9 =>
 letO x11.2 fun v10 =>
 br (std.lt v9 (std.ofN (len y7)))
 (req (std.inR v9 (len y7)) <|
 (F_slices_Clone_Lint64_int64 a2.fPath).bind fun y24 =>
 letO ([v9] : List Int) fun l26 =>
 req (std.room (std.nadd (len y24) (len l26)) 8) <|
 letO (y24 ++ l26) fun l28 =>
 (F_impl_compose (gd y7 (std.nadd 0 (std.toN v9))).gplace a2.fPlace).bind fun y31 =>
 (F_REC_impl_below_mbxb a0 v10 (TOccurrence.mk (gd y7 (std.nadd 0 (std.toN v9))).gcell y31 l28)).bind fun y33 =>
 some (.inl (std.add .i64 v9 1, y33)))
 (some (.inr v10))
/-- impl.below -/
noncomputable def FS_impl_below_mbxb (F_REC_impl_below_mbxb : TLibrary → (List TOccurrence) → TOccurrence → Option (List TOccurrence)) (a0 : TLibrary) (a1 : List TOccurrence) (a2 : TOccurrence) : Option (List TOccurrence) :=
 letO ([a2] : List TOccurrence) fun l1 =>
 req (std.room (std.nadd (len a1) (len l1)) 56) <|
 letO (a1 ++ l1) fun l3 =>
 req (std.inR a2.fCell (len a0.fCells)) <|
 (F_impl_elements (gd a0.fCells (std.toN a2.fCell))).bind fun y7 =>
 (whileP (σ := Int × (List TOccurrence)) (ρ := ((List TOccurrence))) (L_impl_below_mbxb_x11 a0 a2 F_REC_impl_below_mbxb y7) (0, l3)).bind fun y12 =>
 letO y12 fun y12k0 =>
 letO y12k0 fun w36 =>
 some w36
set_option maxHeartbeats 4000000 in
theorem runS_impl_below_mbxb (F_REC_impl_below_mbxb : TLibrary → (List TOccurrence) → TOccurrence → Option (List TOccurrence)) (hf_REC_impl_below_mbxb : ∀ (a0 : TLibrary) (a1 : List TOccurrence) (a2 : TOccurrence) (r : List TOccurrence), F_REC_impl_below_mbxb a0 a1 a2 = some r → Fun Try.prog 56 [.agg [.bs (len a0.fCells) 4 (row gd (encCell len gd) a0.fCells)], .c (.os 5 0 (len a1)), .agg [.v (.int .i64 a2.fCell), .v (.int .i64 a2.fPlace.fOrientation), .v (.int .i64 a2.fPlace.fX), .v (.int .i64 a2.fPlace.fY), .bs (len a2.fPath) 1 (row gd (encI .i64) a2.fPath)]] [(5, .arr .rw [] (len a1) 5 (row gd (encOccurrence len gd) a1))] (.c (.os 64000 0 (len r))) [(64000, .arr .rw [] (len r) 5 (row gd (encOccurrence len gd) r))] false) (a0 : TLibrary) (a1 : List TOccurrence) (a2 : TOccurrence) (r : List TOccurrence) (h : FS_impl_below_mbxb F_REC_impl_below_mbxb a0 a1 a2 = some r) : Fun Try.prog 56 [.agg [.bs (len a0.fCells) 4 (row gd (encCell len gd) a0.fCells)], .c (.os 5 0 (len a1)), .agg [.v (.int .i64 a2.fCell), .v (.int .i64 a2.fPlace.fOrientation), .v (.int .i64 a2.fPlace.fX), .v (.int .i64 a2.fPlace.fY), .bs (len a2.fPath) 1 (row gd (encI .i64) a2.fPath)]] [(5, .arr .rw [] (len a1) 5 (row gd (encOccurrence len gd) a1))] (.c (.os 64000 0 (len r))) [(64000, .arr .rw [] (len r) 5 (row gd (encOccurrence len gd) r))] false := by
 refine ow [] Try.func56 Try.ntmps56 ?_ (hw := ⟨fun i _ j _ k hk => (noref (plain_nil (pl_encOccurrence _ _)) hk).elim, trivial⟩) (hv := (fun h => by cases h)); unfold FS_impl_below_mbxb at h; unfold L_impl_below_mbxb_x11 at h; have hf_impl_compose := @run_impl_compose; have hf_impl_elements := @run_impl_elements; have hf_slices_Clone_Lint64_int64 := @run_slices_Clone_Lint64_int64
 generalize hLEN : @len = LEN, hGD : @gd = GD, hA : std = A, hP : Try.prog = P at *; cbv; revert h; refine rl fun l1 hl1 h => ?_; have e2 : 1 = LEN l1 := by subst hl1 hLEN; rfl
 refine ⟨_, (co e2), _, row GD (encOccurrence LEN GD) l1, e2, wkOf ?_, ?_⟩
 ·intro i hi j hj; rw [← e2] at hi; subst hl1; subst hGD; obtain rfl : i = 0 := (by omega) <;> obtain rfl | rfl | rfl | rfl | rfl : j = 0 ∨ j = 1 ∨ j = 2 ∨ j = 3 ∨ j = 4 := (by omega)
  all_goals rfl
 cbv; revert h; refine rq fun c5 => rl fun l3 hl3 h => ?_; have e4 := nl hA hLEN hl3; refine ⟨c5, _, (co e4), _, row GD (encOccurrence LEN GD) l3, e4, wkOf ?_, ?_⟩
 ·subst hGD hLEN hA; exact app_os (off := 0) (pl_encOccurrence) hl3 (Nat.le_refl _)
 cbv; revert h; refine ra fun c6 h => ?_; revert h; refine rk [] [(64000, 1280)] (hf_impl_elements _) (fun _ => zf) fun y7 h => ⟨_, rfl, _, _, rfl, fun _ _ _ _ => .refl _, ?_⟩
 cbv
 revert h; refine ln (.exit 0) (fun x => (sparse 47 [(1, .c (.os 62000 0 (LEN x.2))), (3, .c (.ptr 192 0)), (5, .c (.ptr 320 0)), (20, .c (.os 1280 0 (LEN y7))), (21, .c (.v (.int .i64 (A.ofN (LEN y7))))), (22, .c (.v (.int .i64 x.1)))] [(62000, .arr .rw [] (LEN x.2) 5 (row GD (encOccurrence LEN GD) x.2)), (192, .var [.bs (LEN a0.fCells) 4 (row GD (encCell LEN GD) a0.fCells)]), (320, .var [.v (.int .i64 a2.fCell), .v (.int .i64 a2.fPlace.fOrientation), .v (.int .i64 a2.fPlace.fX), .v (.int .i64 a2.fPlace.fY), .bs (LEN a2.fPath) 1 (row GD (encI .i64) a2.fPath)]), (1280, .arr .rw [] (LEN y7) 4 (row GD (encelement) y7))])) (fun w => (sparse 47 [(1, .c (.os 62000 0 (LEN w)))] [(62000, .arr .rw [] (LEN w) 5 (row GD (encOccurrence LEN GD) w))])) ?_ ?_ ?_
 ·show St.le _ _; refine St.le_trans (le_ren 832 62000 (by decide) rfl) ?_; exact zb
 ·rintro ⟨v9, v10⟩ z h K hK hY; replace h := oz (oz h); dsimp only at h; cbv; revert h; refine fk ?_ ?_ <;> intro h <;> cbv
  ·revert h; refine ra fun c23 h => ?_; refine ai c23 ?_; revert h; refine rk [] [(64000, 1856)] (hf_slices_Clone_Lint64_int64 _) (fun _ => zf) fun y24 h => ⟨_, rfl, _, _, rfl, fun _ _ _ _ => .refl _, ?_⟩
   cbv; revert h; refine rl fun l26 hl26 h => ?_; have e27 : 1 = LEN l26 := by subst hl26 hLEN; rfl
   refine ⟨_, (co e27), _, row GD (encI .i64) l26, e27, wkOf ?_, ?_⟩
   ·intro i hi j hj; rw [← e27] at hi; subst hl26; subst hGD; obtain rfl : i = 0 := (by omega); all_goals obtain rfl : j = 0 := by omega
    all_goals rfl
   cbv; revert h; refine rq fun c30 => rl fun l28 hl28 h => ?_; have e29 := nl hA hLEN hl28; refine ⟨c30, _, (co e29), _, row GD (encI .i64) l28, e29, wkOf ?_, ?_⟩
   ·subst hGD hLEN hA; exact app_os (off := 0) (fun _ _ => rfl) hl28 (Nat.le_refl _)
   cbv; revert h; refine rk0 (hf_impl_compose _ _) fun y31 h => ?_; cbv
   revert h; refine rk [(5, 62000)] [(64000, 2816)] (hf_REC_impl_below_mbxb _ _ _) (fun _ => zg (les_cons (lR _) (les_cons (lR _) (les_cons (le_agg ⟨lR _, lR _, lR _, lR _, give_os (fun _ _ => rfl) rfl rfl rfl, trivial⟩) (les_nil))))) fun y33 h => ⟨_, rfl, _, _, rfl, fun _ _ _ _ => .refl _, _, _, rfl, fun _ _ _ _ => .refl _, ?_⟩
   cbv; injection h with h; refine hK _ h.symm _ ?_; refine St.le_trans (le_ren 2816 62000 (by decide) rfl) ?_; exact zb
  exact dx
 intro w36 h s q20; replace h := oz (oz h); cbv; refine ⟨_, q20, ?_⟩; cbv; injection h with h; subst h; exact ⟨_, le_ren 62000 64000 (by decide) rfl, lR _, zo, rfl⟩
/-- as deep as this -/
noncomputable def FR_impl_below_mbxb : Nat → TLibrary → (List TOccurrence) → TOccurrence → Option (List TOccurrence)
 | 0 => fun _ _ _ => none
 | k + 1 => FS_impl_below_mbxb (FR_impl_below_mbxb k)
theorem runR_impl_below_mbxb : ∀ (k : Nat) (a0 : TLibrary) (a1 : List TOccurrence) (a2 : TOccurrence) (r : List TOccurrence), FR_impl_below_mbxb k a0 a1 a2 = some r → Fun Try.prog 56 [.agg [.bs (len a0.fCells) 4 (row gd (encCell len gd) a0.fCells)], .c (.os 5 0 (len a1)), .agg [.v (.int .i64 a2.fCell), .v (.int .i64 a2.fPlace.fOrientation), .v (.int .i64 a2.fPlace.fX), .v (.int .i64 a2.fPlace.fY), .bs (len a2.fPath) 1 (row gd (encI .i64) a2.fPath)]] [(5, .arr .rw [] (len a1) 5 (row gd (encOccurrence len gd) a1))] (.c (.os 64000 0 (len r))) [(64000, .arr .rw [] (len r) 5 (row gd (encOccurrence len gd) r))] false := by
 intro k
 induction k with
 | zero => intro a0 a1 a2 r h; cases h
 | succ k ih => exact fun a0 a1 a2 r h => runS_impl_below_mbxb (FR_impl_below_mbxb k) ih a0 a1 a2 r h
/-- impl.below -/
noncomputable def F_impl_below_mbxb (a0 : TLibrary) (a1 : List TOccurrence) (a2 : TOccurrence) : Option (List TOccurrence) := FR_impl_below_mbxb 64 a0 a1 a2
theorem run_impl_below_mbxb (a0 : TLibrary) (a1 : List TOccurrence) (a2 : TOccurrence) (r : List TOccurrence) (h : F_impl_below_mbxb a0 a1 a2 = some r) : Fun Try.prog 56 [.agg [.bs (len a0.fCells) 4 (row gd (encCell len gd) a0.fCells)], .c (.os 5 0 (len a1)), .agg [.v (.int .i64 a2.fCell), .v (.int .i64 a2.fPlace.fOrientation), .v (.int .i64 a2.fPlace.fX), .v (.int .i64 a2.fPlace.fY), .bs (len a2.fPath) 1 (row gd (encI .i64) a2.fPath)]] [(5, .arr .rw [] (len a1) 5 (row gd (encOccurrence len gd) a1))] (.c (.os 64000 0 (len r))) [(64000, .arr .rw [] (len r) 5 (row gd (encOccurrence len gd) r))] false := runR_impl_below_mbxb 64 a0 a1 a2 r h

noncomputable def L_impl_below_mbnb_x11 (a0 : TLibrary) (a2 : TOccurrence) (y7 : (List Telement)) : (Int × (List TOccurrence)) → Option ((Int × (List TOccurrence)) ⊕ (((List TOccurrence)))) := fun x11 =>
 letO x11.1 fun v9 =>
 letO x11.2 fun v10 =>
 br (std.lt v9 (std.ofN (len y7)))
 (req (std.inR v9 (len y7)) <|
 (F_slices_Clone_Lint64_int64 a2.fPath).bind fun y24 =>
 letO ([v9] : List Int) fun l26 =>
 req (std.room (std.nadd (len y24) (len l26)) 8) <|
 letO (y24 ++ l26) fun l28 =>
 (F_impl_compose (gd y7 (std.nadd 0 (std.toN v9))).gplace a2.fPlace).bind fun y31 =>
 (F_impl_below_mbxb a0 v10 (TOccurrence.mk (gd y7 (std.nadd 0 (std.toN v9))).gcell y31 l28)).bind fun y33 =>
 some (.inl (std.add .i64 v9 1, y33)))
 (some (.inr v10))
/-- impl.below -/
noncomputable def F_impl_below_mbnb (a0 : TLibrary) (a1 : List TOccurrence) (a2 : TOccurrence) : Option (List TOccurrence) :=
 letO ([a2] : List TOccurrence) fun l1 =>
 req (std.room (std.nadd 0 (len l1)) 56) <|
 letO (([] : List TOccurrence) ++ l1) fun l3 =>
 req (std.inR a2.fCell (len a0.fCells)) <|
 (F_impl_elements (gd a0.fCells (std.toN a2.fCell))).bind fun y7 =>
 (whileP (σ := Int × (List TOccurrence)) (ρ := ((List TOccurrence))) (L_impl_below_mbnb_x11 a0 a2 y7) (0, l3)).bind fun y12 =>
 letO y12 fun y12k0 =>
 letO y12k0 fun w36 =>
 some w36
set_option maxHeartbeats 4000000 in
theorem run_impl_below_mbnb (a0 : TLibrary) (a1 : List TOccurrence) (a2 : TOccurrence) (r : List TOccurrence) (h : F_impl_below_mbnb a0 a1 a2 = some r) : Fun Try.prog 56 [.agg [.bs (len a0.fCells) 4 (row gd (encCell len gd) a0.fCells)], .c (.v (.slice none 0 0)), .agg [.v (.int .i64 a2.fCell), .v (.int .i64 a2.fPlace.fOrientation), .v (.int .i64 a2.fPlace.fX), .v (.int .i64 a2.fPlace.fY), .bs (len a2.fPath) 1 (row gd (encI .i64) a2.fPath)]] [] (.c (.os 64000 0 (len r))) [(64000, .arr .rw [] (len r) 5 (row gd (encOccurrence len gd) r))] false := by
 refine ow [] Try.func56 Try.ntmps56 ?_ (hv := (fun h => by cases h)); unfold F_impl_below_mbnb at h; unfold L_impl_below_mbnb_x11 at h; have hf_impl_below_mbxb := @run_impl_below_mbxb; have hf_impl_compose := @run_impl_compose; have hf_impl_elements := @run_impl_elements; have hf_slices_Clone_Lint64_int64 := @run_slices_Clone_Lint64_int64
 generalize hLEN : @len = LEN, hGD : @gd = GD, hA : std = A, hP : Try.prog = P at *; cbv; revert h; refine rl fun l1 hl1 h => ?_; have e2 : 1 = LEN l1 := by subst hl1 hLEN; rfl
 refine ⟨_, (co e2), _, row GD (encOccurrence LEN GD) l1, e2, wkOf ?_, ?_⟩
 ·intro i hi j hj; rw [← e2] at hi; subst hl1; subst hGD; obtain rfl : i = 0 := (by omega) <;> obtain rfl | rfl | rfl | rfl | rfl : j = 0 ∨ j = 1 ∨ j = 2 ∨ j = 3 ∨ j = 4 := (by omega)
  all_goals rfl
 cbv; revert h; refine rq fun c5 => rl fun l3 hl3 h => ?_; have e4 := nz hA hLEN hl3; refine ⟨c5, _, (co e4), _, row GD (encOccurrence LEN GD) l3, e4, wkOf ?_, ?_⟩
 ·subst hGD hLEN hA; exact app_nil_os (off := 0) (pl_encOccurrence) hl3 (Nat.le_refl _)
 cbv; revert h; refine ra fun c6 h => ?_; revert h; refine rk [] [(64000, 1280)] (hf_impl_elements _) (fun _ => zf) fun y7 h => ⟨_, rfl, _, _, rfl, fun _ _ _ _ => .refl _, ?_⟩
 cbv
 revert h; refine ln (.exit 0) (fun x => (sparse 47 [(1, .c (.os 62000 0 (LEN x.2))), (3, .c (.ptr 192 0)), (5, .c (.ptr 320 0)), (20, .c (.os 1280 0 (LEN y7))), (21, .c (.v (.int .i64 (A.ofN (LEN y7))))), (22, .c (.v (.int .i64 x.1)))] [(62000, .arr .rw [] (LEN x.2) 5 (row GD (encOccurrence LEN GD) x.2)), (192, .var [.bs (LEN a0.fCells) 4 (row GD (encCell LEN GD) a0.fCells)]), (320, .var [.v (.int .i64 a2.fCell), .v (.int .i64 a2.fPlace.fOrientation), .v (.int .i64 a2.fPlace.fX), .v (.int .i64 a2.fPlace.fY), .bs (LEN a2.fPath) 1 (row GD (encI .i64) a2.fPath)]), (1280, .arr .rw [] (LEN y7) 4 (row GD (encelement) y7))])) (fun w => (sparse 47 [(1, .c (.os 62000 0 (LEN w)))] [(62000, .arr .rw [] (LEN w) 5 (row GD (encOccurrence LEN GD) w))])) ?_ ?_ ?_
 ·show St.le _ _; refine St.le_trans (le_ren 832 62000 (by decide) rfl) ?_; exact zb
 ·rintro ⟨v9, v10⟩ z h K hK hY; replace h := oz (oz h); dsimp only at h; cbv; revert h; refine fk ?_ ?_ <;> intro h <;> cbv
  ·revert h; refine ra fun c23 h => ?_; refine ai c23 ?_; revert h; refine rk [] [(64000, 1856)] (hf_slices_Clone_Lint64_int64 _) (fun _ => zf) fun y24 h => ⟨_, rfl, _, _, rfl, fun _ _ _ _ => .refl _, ?_⟩
   cbv; revert h; refine rl fun l26 hl26 h => ?_; have e27 : 1 = LEN l26 := by subst hl26 hLEN; rfl
   refine ⟨_, (co e27), _, row GD (encI .i64) l26, e27, wkOf ?_, ?_⟩
   ·intro i hi j hj; rw [← e27] at hi; subst hl26; subst hGD; obtain rfl : i = 0 := (by omega); all_goals obtain rfl : j = 0 := by omega
    all_goals rfl
   cbv; revert h; refine rq fun c30 => rl fun l28 hl28 h => ?_; have e29 := nl hA hLEN hl28; refine ⟨c30, _, (co e29), _, row GD (encI .i64) l28, e29, wkOf ?_, ?_⟩
   ·subst hGD hLEN hA; exact app_os (off := 0) (fun _ _ => rfl) hl28 (Nat.le_refl _)
   cbv; revert h; refine rk0 (hf_impl_compose _ _) fun y31 h => ?_; cbv
   revert h; refine rk [(5, 62000)] [(64000, 2816)] (hf_impl_below_mbxb _ _ _) (fun _ => zg (les_cons (lR _) (les_cons (lR _) (les_cons (le_agg ⟨lR _, lR _, lR _, lR _, give_os (fun _ _ => rfl) rfl rfl rfl, trivial⟩) (les_nil))))) fun y33 h => ⟨_, rfl, _, _, rfl, fun _ _ _ _ => .refl _, _, _, rfl, fun _ _ _ _ => .refl _, ?_⟩
   cbv; injection h with h; refine hK _ h.symm _ ?_; refine St.le_trans (le_ren 2816 62000 (by decide) rfl) ?_; exact zb
  exact dx
 intro w36 h s q20; replace h := oz (oz h); cbv; refine ⟨_, q20, ?_⟩; cbv; injection h with h; subst h; exact ⟨_, le_ren 62000 64000 (by decide) rfl, lR _, zo, rfl⟩

noncomputable def L_impl_Occurrences_x8 (y5 : (List TOccurrence)) : (Int) → Option ((Int) ⊕ ((Int) ⊕ (Unit))) := fun x8 =>
 letO x8 fun v7 =>
 br (std.lt v7 (std.ofN (len y5)))
 (req (std.inR v7 (len y5)) <|
 (F_impl_IsValidTransform (gd y5 (std.nadd 0 (std.toN v7))).fPlace).bind fun y21 =>
 br (!(y21))
 (some (.inr (.inl 2)))
 (some (.inl (std.add .i64 v7 1))))
 (some (.inr (.inr ())))
/-- impl.Occurrences -/
noncomputable def F_impl_Occurrences (a0 : TLibrary) (a1 : Int) : Option ((List TOccurrence) × Int) :=
 (F_impl_cellCode a0 a1).bind fun y1 =>
 br (std.not (std.eq y1 0))
 (some (([] : List TOccurrence), y1))
 ((F_impl_elementCount a0 a1).bind fun y3 =>
 br (std.lt 200 y3)
 (some (([] : List TOccurrence), (3 : Int)))
 ((F_impl_below_mbnb a0 ([] : List TOccurrence) (TOccurrence.mk a1 (TTransform.mk 0 0 0) ([] : List Int))).bind fun y5 =>
 (whileP (σ := Int) (ρ := (Int) ⊕ (Unit)) (L_impl_Occurrences_x8 y5) 0).bind fun y9 =>
 (match y9 with
  | .inl y9k0 => (
    letO y9k0 fun w25 =>
    some (([] : List TOccurrence), w25))
  | .inr y9m0 =>
    some (y5, (0 : Int)))))
set_option maxHeartbeats 4000000 in
theorem run_impl_Occurrences (a0 : TLibrary) (a1 : Int) (r : (List TOccurrence) × Int) (h : F_impl_Occurrences a0 a1 = some r) : Fun Try.prog 37 [.agg [.bs (len a0.fCells) 4 (row gd (encCell len gd) a0.fCells)], .c (.v (.int .i64 a1))] [] (.tup [.c (.os 64000 0 (len r.1)), .c (.v (.int .i64 r.2))]) [(64000, .arr .rw [] (len r.1) 5 (row gd (encOccurrence len gd) r.1))] false := by
 refine ow [] Try.func37 Try.ntmps37 ?_ (hv := (fun h => by cases h)); unfold F_impl_Occurrences at h; unfold L_impl_Occurrences_x8 at h; have hf_impl_IsValidTransform := @run_impl_IsValidTransform; have hf_impl_below_mbnb := @run_impl_below_mbnb; have hf_impl_cellCode := @run_impl_cellCode; have hf_impl_elementCount := @run_impl_elementCount
 generalize hLEN : @len = LEN, hGD : @gd = GD, hA : std = A, hP : Try.prog = P at *; cbv; revert h; refine rk0 (hf_impl_cellCode _ _) fun y1 h => ?_; cbv; revert h; refine fk ?_ ?_ <;> intro h <;> cbv
 ·injection h with h; subst h; refine ⟨(sparse 36 [(4, .c (.os 64000 0 (LEN ([] : List TOccurrence)))), (5, .c (.v (.int .i64 y1)))] [(64000, .arr .rw [] (LEN ([] : List TOccurrence)) 5 (row GD (encOccurrence LEN GD) ([] : List TOccurrence)))]), ?_, ?_⟩
  ·refine St.le_trans (le_nilT 4 64000 5 (row GD (encOccurrence LEN GD) ([] : List TOccurrence)) (by decide) rfl) ?_; subst hLEN; exact zb
  ·subst hLEN; exact ⟨lR _, zo, rfl⟩
 revert h; refine rk0 (hf_impl_elementCount _ _) fun y3 h => ?_; cbv; revert h; refine fk ?_ ?_ <;> intro h <;> cbv
 ·injection h with h; subst h; refine ⟨(sparse 36 [(4, .c (.os 64000 0 (LEN ([] : List TOccurrence)))), (5, .c (.v (.int .i64 3)))] [(64000, .arr .rw [] (LEN ([] : List TOccurrence)) 5 (row GD (encOccurrence LEN GD) ([] : List TOccurrence)))]), ?_, ?_⟩
  ·refine St.le_trans (le_nilT 4 64000 5 (row GD (encOccurrence LEN GD) ([] : List TOccurrence)) (by decide) rfl) ?_; subst hLEN; exact zb
  ·subst hLEN; exact ⟨lR _, zo, rfl⟩
 revert h; refine rk [] [(64000, 1472)] (hf_impl_below_mbnb _ _ _) (fun _ => zg (les_cons (lR _) (les_cons (lR _) (les_cons (le_agg ⟨lR _, lR _, lR _, lR _, (by subst hLEN; exact le_nil_bs), trivial⟩) (les_nil))))) fun y5 h => ⟨_, rfl, _, _, rfl, fun _ _ _ _ => .refl _, ?_⟩
 cbv
 revert h; refine lc (fun x => (sparse 36 [(7, .c (.os 1472 0 (LEN y5))), (24, .c (.os 1472 0 (LEN y5))), (25, .c (.v (.int .i64 (A.ofN (LEN y5))))), (26, .c (.v (.int .i64 x)))] [(1472, .arr .rw [] (LEN y5) 5 (row GD (encOccurrence LEN GD) y5))])) (fun y e s => (match y with | .inl w => e = .ret ∧ s.le (sparse 36 [(4, .c (.v (.slice none 0 0))), (5, .c (.v (.int .i64 w)))] []) | .inr w0 => (fun (w : Unit) => e = .exit 0 ∧ s.le (sparse 36 [(7, .c (.os 1472 0 (LEN y5)))] [(1472, .arr .rw [] (LEN y5) 5 (row GD (encOccurrence LEN GD) y5))])) w0)) zb ?_ ?_
 ·intro v7 z h K hK hY; replace h := oz h; cbv; revert h; refine fk ?_ ?_ <;> intro h <;> cbv
  ·revert h; refine ra fun c20 h => ?_; refine ai c20 ?_; revert h; refine rk0 (hf_impl_IsValidTransform _) fun y21 h => ?_; cbv; revert h; refine fk ?_ ?_ <;> intro h <;> cbv
   ·exact dy
   exact dm
  exact dy
 intro y9 h e18 s19 q17 hne; rcases y9 with y9k0 | y9m0
 ·replace h := h; obtain ⟨rfl, q17⟩ := q17; revert h; refine rz fun h => ?_; cbv; injection h with h; subst h; refine ⟨(sparse 36 [(4, .c (.os 64000 0 (LEN ([] : List TOccurrence)))), (5, .c (.v (.int .i64 y9k0)))] [(64000, .arr .rw [] (LEN ([] : List TOccurrence)) 5 (row GD (encOccurrence LEN GD) ([] : List TOccurrence)))]), ?_, ?_⟩
  ·refine St.le_trans q17 ?_; refine St.le_trans (le_nilT 4 64000 5 (row GD (encOccurrence LEN GD) ([] : List TOccurrence)) (by decide) rfl) ?_; subst hLEN; exact zb
  ·subst hLEN; exact ⟨lR _, zo, rfl⟩
 ·obtain ⟨rfl, q17⟩ := q17; cbv; refine ⟨_, q17, ?_⟩; cbv; injection h with h; subst h; exact ⟨_, le_ren 1472 64000 (by decide) rfl, lR _, zo, rfl⟩
end Go.Proofs.Ytpobpihakgegbaa.AM
