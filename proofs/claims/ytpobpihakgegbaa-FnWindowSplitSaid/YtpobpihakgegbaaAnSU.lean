/-
  What the functions that the law reaches compute, and that they do. No condition.
-/
import Derived.Test.YtpobpihakgegbaaAnSW
namespace Go.Proofs.Ytpobpihakgegbaa.AM
open Go Go.Proofs Go.RowKit
set_option linter.unusedVariables false
set_option linter.unusedSimpArgs false
set_option maxRecDepth 100000

/-- impl.VisitedCount -/
noncomputable def F_impl_VisitedCount (a0 : TLibrary) (a1 : Int) (a2 : TRect) : Option (Int) :=
 ((
    (F_impl_hasCell (TLibrary.mk a0.fCells) a1).bind fun y8 =>
    br (!(y8))
    (some true)
    ((F_impl_IsValidRect a2).bind fun y10 =>
    br (!(y10))
    (some true)
    ((F_impl_elementCount (TLibrary.mk a0.fCells) a1).bind fun y12 =>
    some (std.lt 200 y12)))
  ) : Option (Bool)).bind fun y1 =>
 letO y1 fun w7 =>
 br w7
 (some (-1))
 ((F_impl_visited (TLibrary.mk a0.fCells) a1 a2).bind fun y16 =>
 some (std.ofN (len y16)))
set_option maxHeartbeats 4000000 in
theorem run_impl_VisitedCount (a0 : TLibrary) (a1 : Int) (a2 : TRect) (r : Int) (h : F_impl_VisitedCount a0 a1 a2 = some r) : Fun Try.prog 12 [.agg [.bs (len a0.fCells) 4 (row gd (encCell len gd) a0.fCells)], .c (.v (.int .i64 a1)), .agg [.v (.int .i64 a2.fX0), .v (.int .i64 a2.fY0), .v (.int .i64 a2.fX1), .v (.int .i64 a2.fY1)]] [] (.c (.v (.int .i64 r))) [] true := by
 refine ow [1] Try.func12 Try.ntmps12 ?_; unfold F_impl_VisitedCount at h; have hf_impl_IsValidRect := @run_impl_IsValidRect; have hf_impl_elementCount := @run_impl_elementCount; have hf_impl_hasCell := @run_impl_hasCell; have hf_impl_visited := @run_impl_visited; generalize hLEN : @len = LEN, hGD : @gd = GD, hA : std = A, hP : Try.prog = P at *; cbv
 revert h; refine cu (fun y1 => (sparse 27 [(1, .c (.v (.int .i64 a1))), (3, .c (.ptr 192 0)), (5, .c (.ptr 320 0)), (21, .c (.v (.bool y1)))] [(192, .var [.bs (LEN a0.fCells) 4 (row GD (encCell LEN GD) a0.fCells)]), (320, .var [.v (.int .i64 a2.fX0), .v (.int .i64 a2.fY0), .v (.int .i64 a2.fX1), .v (.int .i64 a2.fY1)])])) ?_ fun w7 => rz fun h => ?_
 ·intro y1 S hS h; cbv; revert h; refine rk0 (hf_impl_hasCell _ _) fun y8 h => ?_; cbv; revert h; refine fk ?_ ?_ <;> intro h <;> cbv
  ·exact dn
  revert h; refine rk0 (hf_impl_IsValidRect _) fun y10 h => ?_; cbv; revert h; refine fk ?_ ?_ <;> intro h <;> cbv
  ·exact dn
  revert h; refine rk0 (hf_impl_elementCount _ _) fun y12 h => ?_; cbv; exact dn
 cbv; revert h; refine fk ?_ ?_ <;> intro h <;> cbv
 ·exact df
 revert h; refine rk [] [(64000, 1600)] (hf_impl_visited _ _ _) (fun _ => zf) fun y16 h => ⟨_, rfl, _, _, rfl, fun _ _ _ _ => .refl _, ?_⟩
 cbv; exact df

noncomputable def L_spec_IsName_x2 (a0 : ByteArray) : (Int) → Option ((Int) ⊕ ((Unit) ⊕ (Unit))) := fun x2 =>
 letO x2 fun v1 =>
 br (std.lt v1 (std.ofN (std.slen a0)))
 (((
    req (std.inR v1 (std.slen a0)) <|
    br (std.le 97 (std.sat a0 (std.toN v1)))
    (req (std.inR v1 (std.slen a0)) <|
    br (std.le (std.sat a0 (std.toN v1)) 122)
    (some false)
    (req (std.inR v1 (std.slen a0)) <|
    br (std.le 48 (std.sat a0 (std.toN v1)))
    (req (std.inR v1 (std.slen a0)) <|
    some (!(std.le (std.sat a0 (std.toN v1)) 57)))
    (some true)))
    (req (std.inR v1 (std.slen a0)) <|
    br (std.le 48 (std.sat a0 (std.toN v1)))
    (req (std.inR v1 (std.slen a0)) <|
    some (!(std.le (std.sat a0 (std.toN v1)) 57)))
    (some true))
  ) : Option (Bool)).bind fun y14 =>
 letO y14 fun w20 =>
 br w20
 (some (.inr (.inl ())))
 (some (.inl (std.add .i64 v1 1))))
 (some (.inr (.inr ())))
/-- spec.IsName -/
noncomputable def F_spec_IsName (a0 : ByteArray) : Option (Bool) :=
 (whileP (σ := Int) (ρ := (Unit) ⊕ (Unit)) (L_spec_IsName_x2 a0) 0).bind fun y3 =>
 (match y3 with
  | .inl y3k0 => (
    some false)
  | .inr y3m0 =>
    ((
       br (std.le 1 (std.ofN (std.slen a0)))
       (some (std.le (std.ofN (std.slen a0)) 8))
       (some false)
     ) : Option (Bool)).bind fun y33 =>
    letO y33 fun w39 =>
    some w39)
set_option maxHeartbeats 4000000 in
theorem run_spec_IsName (a0 : ByteArray) (r : Bool) (h : F_spec_IsName a0 = some r) : Fun Try.prog 92 [.c (.v (.string a0))] [] (.c (.v (.bool r))) [] true := by
 refine ow [4, 6] Try.func92 Try.ntmps92 ?_; unfold F_spec_IsName at h; unfold L_spec_IsName_x2 at h; generalize hLEN : @len = LEN, hGD : @gd = GD, hA : std = A, hP : Try.prog = P at *; cbv
 revert h; refine lc (fun x => (sparse 41 [(0, .c (.v (.string a0))), (3, .c (.v (.int .i64 x)))] [])) (fun y e s => (match y with | .inl w => e = .ret ∧ s.le (sparse 41 [(2, .c (.v (.bool false)))] []) | .inr w0 => (fun (w : Unit) => e = .exit 0 ∧ s.le (sparse 41 [(0, .c (.v (.string a0)))] [])) w0)) zb ?_ ?_
 ·intro v1 z h K hK hY; replace h := oz h; cbv; revert h; refine fk ?_ ?_ <;> intro h <;> cbv
  ·revert h; refine cu (fun y14 => (sparse 41 [(0, .c (.v (.string a0))), (3, .c (.v (.int .i64 v1))), (32, .c (.v (.bool y14)))] [])) (fun y14 S hS h => rg) fun w20 => rz fun h => ?_; cbv; revert h; refine fk ?_ ?_ <;> intro h <;> cbv
   ·exact dy
   exact dm
  exact dy
 intro y3 h e12 s13 q11 hne; rcases y3 with y3k0 | y3m0
 ·replace h := h; obtain ⟨rfl, q11⟩ := q11; cbv; injection h with h; subst h; exact ⟨_, q11, lR _, zo, rfl⟩
 ·obtain ⟨rfl, q11⟩ := q11; cbv; refine ⟨_, q11, ?_⟩; cbv; revert h; refine cu (fun y33 => (sparse 41 [(2, .c (.v (.bool y33)))] [])) (fun y33 S hS h => rg) fun w39 => rz fun h => ?_; cbv; exact df

/-- spec.l09In -/
noncomputable def F_spec_l09In (a0 : Int) (a1 : Int) (a2 : Int) : Option (Bool) :=
 ((
    br (std.le a1 a0)
    (some (std.le a0 a2))
    (some false)
  ) : Option (Bool)).bind fun y1 =>
 letO y1 fun w7 =>
 some w7
set_option maxHeartbeats 4000000 in
theorem run_spec_l09In (a0 : Int) (a1 : Int) (a2 : Int) (r : Bool) (h : F_spec_l09In a0 a1 a2 = some r) : Fun Try.prog 49 [.c (.v (.int .i64 a0)), .c (.v (.int .i64 a1)), .c (.v (.int .i64 a2))] [] (.c (.v (.bool r))) [] true := by
 refine ow [1] Try.func49 Try.ntmps49 ?_; unfold F_spec_l09In at h; generalize hLEN : @len = LEN, hGD : @gd = GD, hA : std = A, hP : Try.prog = P at *; cbv; revert h; refine cu (fun y1 => (sparse 15 [(6, .c (.v (.bool y1)))] [])) (fun y1 S hS h => rg) fun w7 => rz fun h => ?_; cbv; exact df

/-- spec.l09Layer -/
noncomputable def F_spec_l09Layer (a0 : Int) : Option (Bool) :=
 (F_spec_l09In a0 0 7).bind fun y1 =>
 some y1
set_option maxHeartbeats 4000000 in
theorem run_spec_l09Layer (a0 : Int) (r : Bool) (h : F_spec_l09Layer a0 = some r) : Fun Try.prog 107 [.c (.v (.int .i64 a0))] [] (.c (.v (.bool r))) [] true := by
 refine ow [] Try.func107 Try.ntmps107 ?_; unfold F_spec_l09Layer at h; have hf_spec_l09In := @run_spec_l09In; generalize hLEN : @len = LEN, hGD : @gd = GD, hA : std = A, hP : Try.prog = P at *; cbv; revert h; refine rk0 (hf_spec_l09In _ _ _) fun y1 h => ?_; cbv; exact df

/-- spec.l09Rect -/
noncomputable def F_spec_l09Rect (a0 : TRect) : Option (Bool) :=
 ((
    br (std.le (-40) a0.fX0)
    (br (std.lt a0.fX0 a0.fX1)
    (br (std.le a0.fX1 40)
    (br (std.le (-40) a0.fY0)
    (br (std.lt a0.fY0 a0.fY1)
    (some (std.le a0.fY1 40))
    (some false))
    (some false))
    (some false))
    (some false))
    (some false)
  ) : Option (Bool)).bind fun y1 =>
 letO y1 fun w7 =>
 some w7
set_option maxHeartbeats 4000000 in
theorem run_spec_l09Rect (a0 : TRect) (r : Bool) (h : F_spec_l09Rect a0 = some r) : Fun Try.prog 29 [.agg [.v (.int .i64 a0.fX0), .v (.int .i64 a0.fY0), .v (.int .i64 a0.fX1), .v (.int .i64 a0.fY1)]] [] (.c (.v (.bool r))) [] true := by
 refine ow [1] Try.func29 Try.ntmps29 ?_; unfold F_spec_l09Rect at h; generalize hLEN : @len = LEN, hGD : @gd = GD, hA : std = A, hP : Try.prog = P at *; cbv; revert h; refine cu (fun y1 => (sparse 35 [(2, .c (.v (.bool y1)))] [])) (fun y1 S hS h => rg) fun w7 => rz fun h => ?_; cbv; exact df

/-- spec.l09Shape -/
noncomputable def F_spec_l09Shape (a0 : TShape) : Option (Bool) :=
 ((
    (F_spec_l09Layer a0.fLayer).bind fun y8 =>
    br y8
    ((F_spec_l09Rect a0.fBox).bind fun y10 =>
    some y10)
    (some false)
  ) : Option (Bool)).bind fun y1 =>
 letO y1 fun w7 =>
 some w7
set_option maxHeartbeats 4000000 in
theorem run_spec_l09Shape (a0 : TShape) (r : Bool) (h : F_spec_l09Shape a0 = some r) : Fun Try.prog 93 [.agg [.v (.int .i64 a0.fLayer), .v (.int .i64 a0.fBox.fX0), .v (.int .i64 a0.fBox.fY0), .v (.int .i64 a0.fBox.fX1), .v (.int .i64 a0.fBox.fY1)]] [] (.c (.v (.bool r))) [] true := by
 refine ow [1] Try.func93 Try.ntmps93 ?_; unfold F_spec_l09Shape at h; have hf_spec_l09Layer := @run_spec_l09Layer; have hf_spec_l09Rect := @run_spec_l09Rect; generalize hLEN : @len = LEN, hGD : @gd = GD, hA : std = A, hP : Try.prog = P at *; cbv; revert h; refine cu (fun y1 => (sparse 11 [(2, .c (.v (.bool y1)))] [])) ?_ fun w7 => rz fun h => ?_
 ·intro y1 S hS h; cbv; revert h; refine rk0 (hf_spec_l09Layer _) fun y8 h => ?_; cbv; revert h; refine fk ?_ ?_ <;> intro h <;> cbv
  ·revert h; refine rk0 (hf_spec_l09Rect _) fun y10 h => ?_; cbv; exact dn
  exact dn
 cbv; exact df
/-- spec.l09Unit -/
noncomputable def F_spec_l09Unit (a0 : TPoint) : Option (Bool) :=
 ((
    (F_spec_l09In a0.fX (-40) 39).bind fun y8 =>
    br y8
    ((F_spec_l09In a0.fY (-40) 39).bind fun y10 =>
    some y10)
    (some false)
  ) : Option (Bool)).bind fun y1 =>
 letO y1 fun w7 =>
 some w7
set_option maxHeartbeats 4000000 in
theorem run_spec_l09Unit (a0 : TPoint) (r : Bool) (h : F_spec_l09Unit a0 = some r) : Fun Try.prog 108 [.agg [.v (.int .i64 a0.fX), .v (.int .i64 a0.fY)]] [] (.c (.v (.bool r))) [] true := by
 refine ow [1] Try.func108 Try.ntmps108 ?_; unfold F_spec_l09Unit at h; have hf_spec_l09In := @run_spec_l09In; generalize hLEN : @len = LEN, hGD : @gd = GD, hA : std = A, hP : Try.prog = P at *; cbv; revert h; refine cu (fun y1 => (sparse 11 [(2, .c (.v (.bool y1)))] [])) ?_ fun w7 => rz fun h => ?_
 ·intro y1 S hS h; cbv; revert h; refine rk0 (hf_spec_l09In _ _ _) fun y8 h => ?_; cbv; revert h; refine fk ?_ ?_ <;> intro h <;> cbv
  ·revert h; refine rk0 (hf_spec_l09In _ _ _) fun y10 h => ?_; cbv; exact dn
  exact dn
 cbv; exact df

/-- spec.l09Label -/
noncomputable def F_spec_l09Label (a0 : TLabel) : Option (Bool) :=
 ((
    (F_spec_l09Layer a0.fLayer).bind fun y8 =>
    br y8
    ((F_spec_l09Unit a0.fAt).bind fun y10 =>
    br y10
    ((F_spec_IsName a0.fName).bind fun y12 =>
    some y12)
    (some false))
    (some false)
  ) : Option (Bool)).bind fun y1 =>
 letO y1 fun w7 =>
 some w7
set_option maxHeartbeats 4000000 in
theorem run_spec_l09Label (a0 : TLabel) (r : Bool) (h : F_spec_l09Label a0 = some r) : Fun Try.prog 94 [.agg [.v (.int .i64 a0.fLayer), .v (.int .i64 a0.fAt.fX), .v (.int .i64 a0.fAt.fY), .v (.string a0.fName)]] [] (.c (.v (.bool r))) [] true := by
 refine ow [1] Try.func94 Try.ntmps94 ?_; unfold F_spec_l09Label at h; have hf_spec_IsName := @run_spec_IsName; have hf_spec_l09Layer := @run_spec_l09Layer; have hf_spec_l09Unit := @run_spec_l09Unit; generalize hLEN : @len = LEN, hGD : @gd = GD, hA : std = A, hP : Try.prog = P at *; cbv; revert h; refine cu (fun y1 => (sparse 16 [(2, .c (.v (.bool y1)))] [])) ?_ fun w7 => rz fun h => ?_
 ·intro y1 S hS h; cbv; revert h; refine rk0 (hf_spec_l09Layer _) fun y8 h => ?_; cbv; revert h; refine fk ?_ ?_ <;> intro h <;> cbv
  ·revert h; refine rk0 (hf_spec_l09Unit _) fun y10 h => ?_; cbv; revert h; refine fk ?_ ?_ <;> intro h <;> cbv
   ·revert h; refine rk0 (hf_spec_IsName _) fun y12 h => ?_; cbv; exact dn
   exact dn
  exact dn
 cbv; exact df

/-- spec.l09Transform -/
noncomputable def F_spec_l09Transform (a0 : TTransform) : Option (Bool) :=
 ((
    (F_spec_l09In a0.fOrientation 0 7).bind fun y8 =>
    br y8
    ((F_spec_l09In a0.fX (-80) 80).bind fun y10 =>
    br y10
    ((F_spec_l09In a0.fY (-80) 80).bind fun y12 =>
    some y12)
    (some false))
    (some false)
  ) : Option (Bool)).bind fun y1 =>
 letO y1 fun w7 =>
 some w7
set_option maxHeartbeats 4000000 in
theorem run_spec_l09Transform (a0 : TTransform) (r : Bool) (h : F_spec_l09Transform a0 = some r) : Fun Try.prog 109 [.agg [.v (.int .i64 a0.fOrientation), .v (.int .i64 a0.fX), .v (.int .i64 a0.fY)]] [] (.c (.v (.bool r))) [] true := by
 refine ow [1] Try.func109 Try.ntmps109 ?_; unfold F_spec_l09Transform at h; have hf_spec_l09In := @run_spec_l09In; generalize hLEN : @len = LEN, hGD : @gd = GD, hA : std = A, hP : Try.prog = P at *; cbv; revert h; refine cu (fun y1 => (sparse 16 [(2, .c (.v (.bool y1)))] [])) ?_ fun w7 => rz fun h => ?_
 ·intro y1 S hS h; cbv; revert h; refine rk0 (hf_spec_l09In _ _ _) fun y8 h => ?_; cbv; revert h; refine fk ?_ ?_ <;> intro h <;> cbv
  ·revert h; refine rk0 (hf_spec_l09In _ _ _) fun y10 h => ?_; cbv; revert h; refine fk ?_ ?_ <;> intro h <;> cbv
   ·revert h; refine rk0 (hf_spec_l09In _ _ _) fun y12 h => ?_; cbv; exact dn
   exact dn
  exact dn
 cbv; exact df

/-- spec.l09Instance -/
noncomputable def F_spec_l09Instance (a0 : TInstance) (a1 : Int) : Option (Bool) :=
 ((
    (F_spec_l09In a0.fCell 0 (std.sub .i64 a1 1)).bind fun y8 =>
    br (!(y8))
    (some true)
    ((F_spec_l09Transform a0.fPlace).bind fun y10 =>
    br (!(y10))
    (some true)
    ((F_spec_l09In a0.fColumns 1 4).bind fun y12 =>
    br (!(y12))
    (some true)
    ((F_spec_l09In a0.fRows 1 4).bind fun y14 =>
    some (!(y14)))))
  ) : Option (Bool)).bind fun y1 =>
 letO y1 fun w7 =>
 br w7
 (some false)
 (((
    (F_spec_l09In a0.fStepX (-80) 80).bind fun y26 =>
    br (!(y26))
    (some true)
    ((F_spec_l09In a0.fStepY (-80) 80).bind fun y28 =>
    some (!(y28)))
  ) : Option (Bool)).bind fun y19 =>
 letO y19 fun w25 =>
 br w25
 (some false)
 (((
    br (std.lt 1 a0.fColumns)
    (br (std.lt 1 a0.fRows)
    (some true)
    (some (std.eq a0.fStepY 0)))
    (br (std.eq a0.fStepX 0)
    (br (std.lt 1 a0.fRows)
    (some true)
    (some (std.eq a0.fStepY 0)))
    (some false))
  ) : Option (Bool)).bind fun y31 =>
 letO y31 fun w37 =>
 some w37))
set_option maxHeartbeats 4000000 in
theorem run_spec_l09Instance (a0 : TInstance) (a1 : Int) (r : Bool) (h : F_spec_l09Instance a0 a1 = some r) : Fun Try.prog 95 [.agg [.v (.int .i64 a0.fCell), .v (.int .i64 a0.fPlace.fOrientation), .v (.int .i64 a0.fPlace.fX), .v (.int .i64 a0.fPlace.fY), .v (.int .i64 a0.fColumns), .v (.int .i64 a0.fRows), .v (.int .i64 a0.fStepX), .v (.int .i64 a0.fStepY)], .c (.v (.int .i64 a1))] [] (.c (.v (.bool r))) [] true := by
 refine ow [1, 3, 5] Try.func95 Try.ntmps95 ?_; unfold F_spec_l09Instance at h; have hf_spec_l09In := @run_spec_l09In; have hf_spec_l09Transform := @run_spec_l09Transform; generalize hLEN : @len = LEN, hGD : @gd = GD, hA : std = A, hP : Try.prog = P at *; cbv
 revert h; refine cu (fun y1 => (sparse 57 [(2, .c (.ptr 128 0)), (28, .c (.v (.bool y1)))] [(128, .var [.v (.int .i64 a0.fCell), .v (.int .i64 a0.fPlace.fOrientation), .v (.int .i64 a0.fPlace.fX), .v (.int .i64 a0.fPlace.fY), .v (.int .i64 a0.fColumns), .v (.int .i64 a0.fRows), .v (.int .i64 a0.fStepX), .v (.int .i64 a0.fStepY)])])) ?_ fun w7 => rz fun h => ?_
 ·intro y1 S hS h; cbv; revert h; refine rk0 (hf_spec_l09In _ _ _) fun y8 h => ?_; cbv; revert h; refine fk ?_ ?_ <;> intro h <;> cbv
  ·exact dn
  revert h; refine rk0 (hf_spec_l09Transform _) fun y10 h => ?_; cbv; revert h; refine fk ?_ ?_ <;> intro h <;> cbv
  ·exact dn
  revert h; refine rk0 (hf_spec_l09In _ _ _) fun y12 h => ?_; cbv; revert h; refine fk ?_ ?_ <;> intro h <;> cbv
  ·exact dn
  revert h; refine rk0 (hf_spec_l09In _ _ _) fun y14 h => ?_; cbv; exact dn
 cbv; revert h; refine fk ?_ ?_ <;> intro h <;> cbv
 ·exact df
 revert h; refine cu (fun y19 => (sparse 57 [(2, .c (.ptr 128 0)), (38, .c (.v (.bool y19)))] [(128, .var [.v (.int .i64 a0.fCell), .v (.int .i64 a0.fPlace.fOrientation), .v (.int .i64 a0.fPlace.fX), .v (.int .i64 a0.fPlace.fY), .v (.int .i64 a0.fColumns), .v (.int .i64 a0.fRows), .v (.int .i64 a0.fStepX), .v (.int .i64 a0.fStepY)])])) ?_ fun w25 => rz fun h => ?_
 ·intro y19 S hS h; cbv; revert h; refine rk0 (hf_spec_l09In _ _ _) fun y26 h => ?_; cbv; revert h; refine fk ?_ ?_ <;> intro h <;> cbv
  ·exact dn
  revert h; refine rk0 (hf_spec_l09In _ _ _) fun y28 h => ?_; cbv; exact dn
 cbv; revert h; refine fk ?_ ?_ <;> intro h <;> cbv
 ·exact df
 revert h; refine cu (fun y31 => (sparse 57 [(4, .c (.v (.bool y31)))] [])) (fun y31 S hS h => rg) fun w37 => rz fun h => ?_; cbv; exact df

noncomputable def L_spec_l09Cell_x52 (a0 : TCell) (a1 : Int) : (Int) → Option ((Int) ⊕ ((Bool) ⊕ (Unit))) := fun x52 =>
 letO x52 fun v51 =>
 br (std.lt v51 (std.ofN (len a0.fInstances)))
 (req (std.inR v51 (len a0.fInstances)) <|
 (F_spec_l09Instance (gd a0.fInstances (std.toN v51)) a1).bind fun y65 =>
 br (!(y65))
 (some (.inr (.inl false)))
 (some (.inl (std.add .i64 v51 1))))
 (some (.inr (.inr ())))
noncomputable def L_spec_l09Cell_x33 (a0 : TCell) : (Int) → Option ((Int) ⊕ ((Bool) ⊕ (Unit))) := fun x33 =>
 letO x33 fun v32 =>
 br (std.lt v32 (std.ofN (len a0.fLabels)))
 (req (std.inR v32 (len a0.fLabels)) <|
 (F_spec_l09Label (gd a0.fLabels (std.toN v32))).bind fun y46 =>
 br (!(y46))
 (some (.inr (.inl false)))
 (some (.inl (std.add .i64 v32 1))))
 (some (.inr (.inr ())))
noncomputable def L_spec_l09Cell_x14 (a0 : TCell) : (Int) → Option ((Int) ⊕ ((Bool) ⊕ (Unit))) := fun x14 =>
 letO x14 fun v13 =>
 br (std.lt v13 (std.ofN (len a0.fShapes)))
 (req (std.inR v13 (len a0.fShapes)) <|
 (F_spec_l09Shape (gd a0.fShapes (std.toN v13))).bind fun y27 =>
 br (!(y27))
 (some (.inr (.inl false)))
 (some (.inl (std.add .i64 v13 1))))
 (some (.inr (.inr ())))
/-- spec.l09Cell -/
noncomputable def F_spec_l09Cell (a0 : TCell) (a1 : Int) : Option (Bool) :=
 ((
    (F_spec_IsName a0.fName).bind fun y8 =>
    br (!(y8))
    (some true)
    (br (std.lt 24 (std.ofN (len a0.fShapes)))
    (some true)
    (br (std.lt 8 (std.ofN (len a0.fLabels)))
    (some true)
    (some (std.lt 8 (std.ofN (len a0.fInstances))))))
  ) : Option (Bool)).bind fun y1 =>
 letO y1 fun w7 =>
 br w7
 (some false)
 ((whileP (σ := Int) (ρ := (Bool) ⊕ (Unit)) (L_spec_l09Cell_x14 a0) 0).bind fun y15 =>
 (match y15 with
  | .inl y15k0 => (
    letO y15k0 fun w31 =>
    some w31)
  | .inr y15m0 =>
    (whileP (σ := Int) (ρ := (Bool) ⊕ (Unit)) (L_spec_l09Cell_x33 a0) 0).bind fun y34 =>
    (match y34 with
     | .inl y34k0 => (
       letO y34k0 fun w50 =>
       some w50)
     | .inr y34m0 =>
       (whileP (σ := Int) (ρ := (Bool) ⊕ (Unit)) (L_spec_l09Cell_x52 a0 a1) 0).bind fun y53 =>
       (match y53 with
        | .inl y53k0 => (
          letO y53k0 fun w69 =>
          some w69)
        | .inr y53m0 =>
          some true))))
set_option maxHeartbeats 4000000 in
theorem run_spec_l09Cell (a0 : TCell) (a1 : Int) (r : Bool) (h : F_spec_l09Cell a0 a1 = some r) : Fun Try.prog 65 [.agg [.v (.string a0.fName), .bs (len a0.fShapes) 5 (row gd (encShape) a0.fShapes), .bs (len a0.fLabels) 4 (row gd (encLabel) a0.fLabels), .bs (len a0.fInstances) 8 (row gd (encInstance) a0.fInstances)], .c (.v (.int .i64 a1))] [] (.c (.v (.bool r))) [] true := by
 refine ow [1] Try.func65 Try.ntmps65 ?_; unfold F_spec_l09Cell at h; unfold L_spec_l09Cell_x14 at h; unfold L_spec_l09Cell_x33 at h; unfold L_spec_l09Cell_x52 at h; have hf_spec_IsName := @run_spec_IsName; have hf_spec_l09Instance := @run_spec_l09Instance; have hf_spec_l09Label := @run_spec_l09Label; have hf_spec_l09Shape := @run_spec_l09Shape
 generalize hLEN : @len = LEN, hGD : @gd = GD, hA : std = A, hP : Try.prog = P at *; cbv
 revert h; refine cu (fun y1 => (sparse 73 [(1, .c (.v (.int .i64 a1))), (2, .c (.ptr 128 0)), (29, .c (.v (.bool y1)))] [(128, .var [.v (.string a0.fName), .bs (LEN a0.fShapes) 5 (row GD (encShape) a0.fShapes), .bs (LEN a0.fLabels) 4 (row GD (encLabel) a0.fLabels), .bs (LEN a0.fInstances) 8 (row GD (encInstance) a0.fInstances)])])) ?_ fun w7 => rz fun h => ?_
 ·intro y1 S hS h; cbv; revert h; refine rk0 (hf_spec_IsName _) fun y8 h => ?_; cbv; revert h; refine fk ?_ ?_ <;> intro h <;> cbv
  ·exact dn
  revert h; refine fk ?_ ?_ <;> intro h <;> cbv
  ·exact dn
  revert h; refine fk ?_ ?_ <;> intro h <;> cbv
  ·exact dn
  exact dn
 cbv; revert h; refine fk ?_ ?_ <;> intro h <;> cbv
 ·exact df
 revert h; refine lc (fun x => (sparse 73 [(1, .c (.v (.int .i64 a1))), (2, .c (.ptr 128 0)), (5, .c (.v (.int .i64 x)))] [(128, .var [.v (.string a0.fName), .bs (LEN a0.fShapes) 5 (row GD (encShape) a0.fShapes), .bs (LEN a0.fLabels) 4 (row GD (encLabel) a0.fLabels), .bs (LEN a0.fInstances) 8 (row GD (encInstance) a0.fInstances)])])) (fun y e s => (match y with | .inl w => e = .ret ∧ s.le (sparse 73 [(4, .c (.v (.bool w)))] []) | .inr w0 => (fun (w : Unit) => e = .exit 0 ∧ s.le (sparse 73 [(1, .c (.v (.int .i64 a1))), (2, .c (.ptr 128 0))] [(128, .var [.v (.string a0.fName), .bs (LEN a0.fShapes) 5 (row GD (encShape) a0.fShapes), .bs (LEN a0.fLabels) 4 (row GD (encLabel) a0.fLabels), .bs (LEN a0.fInstances) 8 (row GD (encInstance) a0.fInstances)])])) w0)) zb ?_ ?_
 ·intro v13 z h K hK hY; replace h := oz h; cbv; revert h; refine fk ?_ ?_ <;> intro h <;> cbv
  ·revert h; refine ra fun c26 h => ?_; revert h; refine rk0 (hf_spec_l09Shape _) fun y27 h => ?_; cbv; revert h; refine fk ?_ ?_ <;> intro h <;> cbv
   ·exact dy
   exact dm
  exact dy
 intro y15 h e24 s25 q23 hne; rcases y15 with y15k0 | y15m0
 ·replace h := h; obtain ⟨rfl, q23⟩ := q23; revert h; refine rz fun h => ?_; cbv; injection h with h; subst h; exact ⟨_, q23, lR _, zo, rfl⟩
 ·obtain ⟨rfl, q23⟩ := q23; cbv; refine ⟨_, q23, ?_⟩; cbv
  revert h; refine lc (fun x => (sparse 73 [(1, .c (.v (.int .i64 a1))), (2, .c (.ptr 128 0)), (6, .c (.v (.int .i64 x)))] [(128, .var [.v (.string a0.fName), .bs (LEN a0.fShapes) 5 (row GD (encShape) a0.fShapes), .bs (LEN a0.fLabels) 4 (row GD (encLabel) a0.fLabels), .bs (LEN a0.fInstances) 8 (row GD (encInstance) a0.fInstances)])])) (fun y e s => (match y with | .inl w => e = .ret ∧ s.le (sparse 73 [(4, .c (.v (.bool w)))] []) | .inr w0 => (fun (w : Unit) => e = .exit 2 ∧ s.le (sparse 73 [(1, .c (.v (.int .i64 a1))), (2, .c (.ptr 128 0))] [(128, .var [.v (.string a0.fName), .bs (LEN a0.fShapes) 5 (row GD (encShape) a0.fShapes), .bs (LEN a0.fLabels) 4 (row GD (encLabel) a0.fLabels), .bs (LEN a0.fInstances) 8 (row GD (encInstance) a0.fInstances)])])) w0)) zb ?_ ?_
  ·intro v32 z h K hK hY; replace h := oz h; cbv; revert h; refine fk ?_ ?_ <;> intro h <;> cbv
   ·revert h; refine ra fun c45 h => ?_; revert h; refine rk0 (hf_spec_l09Label _) fun y46 h => ?_; cbv; revert h; refine fk ?_ ?_ <;> intro h <;> cbv
    ·exact dy
    exact dm
   exact dy
  intro y34 h e43 s44 q42 hne; rcases y34 with y34k0 | y34m0
  ·replace h := h; obtain ⟨rfl, q42⟩ := q42; revert h; refine rz fun h => ?_; cbv; injection h with h; subst h; exact ⟨_, q42, lR _, zo, rfl⟩
  ·obtain ⟨rfl, q42⟩ := q42; cbv; refine ⟨_, q42, ?_⟩; cbv
   revert h; refine lc (fun x => (sparse 73 [(1, .c (.v (.int .i64 a1))), (2, .c (.ptr 128 0)), (7, .c (.v (.int .i64 x)))] [(128, .var [.v (.string a0.fName), .bs (LEN a0.fShapes) 5 (row GD (encShape) a0.fShapes), .bs (LEN a0.fLabels) 4 (row GD (encLabel) a0.fLabels), .bs (LEN a0.fInstances) 8 (row GD (encInstance) a0.fInstances)])])) (fun y e s => (match y with | .inl w => e = .ret ∧ s.le (sparse 73 [(4, .c (.v (.bool w)))] []) | .inr w0 => (fun (w : Unit) => e = .exit 4 ∧ s.le (sparse 73 [] [])) w0)) zb ?_ ?_
   ·intro v51 z h K hK hY; replace h := oz h; cbv; revert h; refine fk ?_ ?_ <;> intro h <;> cbv
    ·revert h; refine ra fun c64 h => ?_; revert h; refine rk0 (hf_spec_l09Instance _ _) fun y65 h => ?_; cbv; revert h; refine fk ?_ ?_ <;> intro h <;> cbv
     ·exact dy
     exact dm
    exact dy
   intro y53 h e62 s63 q61 hne; rcases y53 with y53k0 | y53m0
   ·replace h := h; obtain ⟨rfl, q61⟩ := q61; revert h; refine rz fun h => ?_; cbv; injection h with h; subst h; exact ⟨_, q61, lR _, zo, rfl⟩
   ·obtain ⟨rfl, q61⟩ := q61; cbv; refine ⟨_, q61, ?_⟩; cbv; exact df

noncomputable def L_spec_IsValidLibrary_x26 (a0 : TLibrary) (v9 : Int) : (Int) → Option ((Int) ⊕ ((Bool) ⊕ (Unit))) := fun x26 =>
 letO x26 fun v25 =>
 br (std.lt v25 v9)
 (req (std.inR v25 (len a0.fCells)) <|
 req (std.inR v9 (len a0.fCells)) <|
 br (std.seq (gd a0.fCells (std.toN v25)).fName (gd a0.fCells (std.toN v9)).fName)
 (some (.inr (.inl false)))
 (some (.inl (std.add .i64 v25 1))))
 (some (.inr (.inr ())))
noncomputable def L_spec_IsValidLibrary_x10 (a0 : TLibrary) : (Int) → Option ((Int) ⊕ ((Bool) ⊕ (Unit))) := fun x10 =>
 letO x10 fun v9 =>
 br (std.lt v9 (std.ofN (len a0.fCells)))
 (req (std.inR v9 (len a0.fCells)) <|
 (F_spec_l09Cell (gd a0.fCells (std.toN v9)) v9).bind fun y23 =>
 br (!(y23))
 (some (.inr (.inl false)))
 ((whileP (σ := Int) (ρ := (Bool) ⊕ (Unit)) (L_spec_IsValidLibrary_x26 a0 v9) 0).bind fun y27 =>
 (match y27 with
  | .inl y27k0 => (
    letO y27k0 fun w42 =>
    some (.inr (.inl w42)))
  | .inr y27m0 =>
    some (.inl (std.add .i64 v9 1)))))
 (some (.inr (.inr ())))
/-- spec.IsValidLibrary -/
noncomputable def F_spec_IsValidLibrary (a0 : TLibrary) : Option (Bool) :=
 ((
    br (std.lt (std.ofN (len a0.fCells)) 1)
    (some true)
    (some (std.lt 8 (std.ofN (len a0.fCells))))
  ) : Option (Bool)).bind fun y1 =>
 letO y1 fun w7 =>
 br w7
 (some false)
 ((whileP (σ := Int) (ρ := (Bool) ⊕ (Unit)) (L_spec_IsValidLibrary_x10 a0) 0).bind fun y11 =>
 (match y11 with
  | .inl y11k0 => (
    letO y11k0 fun w45 =>
    some w45)
  | .inr y11m0 =>
    some true))
set_option maxHeartbeats 4000000 in
theorem run_spec_IsValidLibrary (a0 : TLibrary) (r : Bool) (h : F_spec_IsValidLibrary a0 = some r) : Fun Try.prog 48 [.agg [.bs (len a0.fCells) 4 (row gd (encCell len gd) a0.fCells)]] [] (.c (.v (.bool r))) [] true := by
 refine ow [1] Try.func48 Try.ntmps48 ?_; unfold F_spec_IsValidLibrary at h; unfold L_spec_IsValidLibrary_x10 at h; unfold L_spec_IsValidLibrary_x26 at h; have hf_spec_l09Cell := @run_spec_l09Cell; generalize hLEN : @len = LEN, hGD : @gd = GD, hA : std = A, hP : Try.prog = P at *; cbv
 revert h; refine cu (fun y1 => (sparse 48 [(1, .c (.ptr 64 0)), (14, .c (.v (.bool y1)))] [(64, .var [.bs (LEN a0.fCells) 4 (row GD (encCell LEN GD) a0.fCells)])])) (fun y1 S hS h => rg) fun w7 => rz fun h => ?_; cbv; revert h; refine fk ?_ ?_ <;> intro h <;> cbv
 ·exact df
 revert h; refine lc (fun x => (sparse 48 [(1, .c (.ptr 64 0)), (3, .c (.v (.int .i64 x)))] [(64, .var [.bs (LEN a0.fCells) 4 (row GD (encCell LEN GD) a0.fCells)])])) (fun y e s => (match y with | .inl w => e = .ret ∧ s.le (sparse 48 [(2, .c (.v (.bool w)))] []) | .inr w0 => (fun (w : Unit) => e = .exit 0 ∧ s.le (sparse 48 [] [])) w0)) zb ?_ ?_
 ·intro v9 z h K hK hY; replace h := oz h; cbv; revert h; refine fk ?_ ?_ <;> intro h <;> cbv
  ·revert h; refine ra fun c22 h => ?_; revert h; refine rk0 (hf_spec_l09Cell _ _) fun y23 h => ?_; cbv; revert h; refine fk ?_ ?_ <;> intro h <;> cbv
   ·exact dy
   revert h; refine lc (fun x => (sparse 48 [(1, .c (.ptr 64 0)), (3, .c (.v (.int .i64 v9))), (4, .c (.v (.int .i64 x)))] [(64, .var [.bs (LEN a0.fCells) 4 (row GD (encCell LEN GD) a0.fCells)])])) (fun y e s => (match y with | .inl w => e = .ret ∧ s.le (sparse 48 [(2, .c (.v (.bool w)))] []) | .inr w0 => (fun (w : Unit) => e = .exit 2 ∧ s.le (sparse 48 [(1, .c (.ptr 64 0)), (3, .c (.v (.int .i64 v9)))] [(64, .var [.bs (LEN a0.fCells) 4 (row GD (encCell LEN GD) a0.fCells)])])) w0)) zb ?_ ?_
   ·intro v25 z h K hK hY; replace h := oz h; cbv; revert h; refine fk ?_ ?_ <;> intro h <;> cbv
    ·revert h; refine ra fun c38 h => ?_; revert h; refine ra fun c39 h => ?_; revert h; refine fk ?_ ?_ <;> intro h <;> cbv
     ·exact dy
     exact dm
    exact dy
   intro y27 h e36 s37 q35 hne; rcases y27 with y27k0 | y27m0
   ·replace h := h; obtain ⟨rfl, q35⟩ := q35; revert h; refine rl fun w42 hw42 h => ?_; have hw42 : w42 = y27k0 := hw42; subst hw42; cbv; injection h with h; refine hY _ h.symm _ _ (And.intro rfl ?_) (by intro hh; cases hh); refine St.le_trans q35 ?_; exact zb
   ·obtain ⟨rfl, q35⟩ := q35; cbv; refine ⟨_, q35, ?_⟩; cbv; exact dm
  exact dy
 intro y11 h e20 s21 q19 hne; rcases y11 with y11k0 | y11m0
 ·replace h := h; obtain ⟨rfl, q19⟩ := q19; revert h; refine rz fun h => ?_; cbv; injection h with h; subst h; exact ⟨_, q19, lR _, zo, rfl⟩
 ·obtain ⟨rfl, q19⟩ := q19; cbv; refine ⟨_, q19, ?_⟩; cbv; exact df
/-- spec.l09Has -/
noncomputable def F_spec_l09Has (a0 : TLibrary) (a1 : Int) : Option (Bool) :=
 ((
    (F_spec_IsValidLibrary (TLibrary.mk a0.fCells)).bind fun y8 =>
    br y8
    ((F_spec_l09In a1 0 (std.sub .i64 (std.ofN (len a0.fCells)) 1)).bind fun y10 =>
    some y10)
    (some false)
  ) : Option (Bool)).bind fun y1 =>
 letO y1 fun w7 =>
 some w7
set_option maxHeartbeats 4000000 in
theorem run_spec_l09Has (a0 : TLibrary) (a1 : Int) (r : Bool) (h : F_spec_l09Has a0 a1 = some r) : Fun Try.prog 28 [.agg [.bs (len a0.fCells) 4 (row gd (encCell len gd) a0.fCells)], .c (.v (.int .i64 a1))] [] (.c (.v (.bool r))) [] true := by
 refine ow [1] Try.func28 Try.ntmps28 ?_; unfold F_spec_l09Has at h; have hf_spec_IsValidLibrary := @run_spec_IsValidLibrary; have hf_spec_l09In := @run_spec_l09In; generalize hLEN : @len = LEN, hGD : @gd = GD, hA : std = A, hP : Try.prog = P at *; cbv; revert h; refine cu (fun y1 => (sparse 15 [(4, .c (.v (.bool y1)))] [])) ?_ fun w7 => rz fun h => ?_
 ·intro y1 S hS h; cbv; revert h; refine rk0 (hf_spec_IsValidLibrary _) fun y8 h => ?_; cbv; revert h; refine fk ?_ ?_ <;> intro h <;> cbv
  ·revert h; refine rk0 (hf_spec_l09In _ _ _) fun y10 h => ?_; cbv; exact dn
  exact dn
 cbv; exact df

noncomputable def L_spec_ElementCount_x22 (a0 : TLibrary) (v6 : List Int) (v5 : Int) : (Int × Int) → Option ((Int × Int) ⊕ ((Int))) := fun x22 =>
 letO x22.1 fun v20 =>
 letO x22.2 fun v21 =>
 br (std.lt v21 (std.ofN (len (gd a0.fCells (std.toN v5)).fInstances)))
 (req (std.inR v21 (len (gd a0.fCells (std.toN v5)).fInstances)) <|
 req (std.inR v21 (len (gd a0.fCells (std.toN v5)).fInstances)) <|
 req (std.inR v21 (len (gd a0.fCells (std.toN v5)).fInstances)) <|
 req (std.inR (gd (gd a0.fCells (std.toN v5)).fInstances (std.toN v21)).fCell (len v6)) <|
 some (.inl (std.add .i64 v20 (std.mul .i64 (std.mul .i64 (gd (gd a0.fCells (std.toN v5)).fInstances (std.toN v21)).fColumns (gd (gd a0.fCells (std.toN v5)).fInstances (std.toN v21)).fRows) (gd v6 (std.nadd 0 (std.toN (gd (gd a0.fCells (std.toN v5)).fInstances (std.toN v21)).fCell)))), std.add .i64 v21 1)))
 (some (.inr v20))
noncomputable def L_spec_ElementCount_x7 (a0 : TLibrary) : (Int × (List Int)) → Option ((Int × (List Int)) ⊕ (((List Int)))) := fun x7 =>
 letO x7.1 fun v5 =>
 letO x7.2 fun v6 =>
 br (std.lt v5 (std.ofN (len a0.fCells)))
 (req (std.inR v5 (len a0.fCells)) <|
 (whileP (σ := Int × Int) (ρ := (Int)) (L_spec_ElementCount_x22 a0 v6 v5) (1, 0)).bind fun y23 =>
 letO y23 fun y23k0 =>
 letO y23k0 fun w39 =>
 letO ([w39] : List Int) fun l40 =>
 req (std.room (std.nadd (len v6) (len l40)) 8) <|
 letO (v6 ++ l40) fun l42 =>
 some (.inl (std.add .i64 v5 1, l42)))
 (some (.inr v6))
/-- spec.ElementCount -/
noncomputable def F_spec_ElementCount (a0 : TLibrary) (a1 : Int) : Option (Int) :=
 (F_spec_l09Has a0 a1).bind fun y1 =>
 br (!(y1))
 (some (-1))
 (letO ([] : List Int) fun l3 =>
 (whileP (σ := Int × (List Int)) (ρ := ((List Int))) (L_spec_ElementCount_x7 a0) (0, l3)).bind fun y8 =>
 letO y8 fun y8k0 =>
 letO y8k0 fun w46 =>
 req (std.inR a1 (len w46)) <|
 some (gd w46 (std.nadd 0 (std.toN a1))))
set_option maxHeartbeats 4000000 in
theorem run_spec_ElementCount (a0 : TLibrary) (a1 : Int) (r : Int) (h : F_spec_ElementCount a0 a1 = some r) : Fun Try.prog 30 [.agg [.bs (len a0.fCells) 4 (row gd (encCell len gd) a0.fCells)], .c (.v (.int .i64 a1))] [] (.c (.v (.int .i64 r))) [] true := by
 refine ow [] Try.func30 Try.ntmps30 ?_; unfold F_spec_ElementCount at h; unfold L_spec_ElementCount_x7 at h; unfold L_spec_ElementCount_x22 at h; have hf_spec_l09Has := @run_spec_l09Has; generalize hLEN : @len = LEN, hGD : @gd = GD, hA : std = A, hP : Try.prog = P at *; cbv; revert h; refine rk0 (hf_spec_l09Has _ _) fun y1 h => ?_; cbv; revert h; refine fk ?_ ?_ <;> intro h <;> cbv
 ·exact df
 revert h; refine rl fun l3 hl3 h => ?_; have e4 : 0 = LEN l3 := by subst hl3 hLEN; rfl
 refine ⟨_, (co e4), _, row GD (encI .i64) l3, e4, wkOf ?_, ?_⟩
 ·intro i hi j hj; rw [← e4] at hi; subst hl3; subst hGD; omega
 cbv
 revert h; refine ln (.exit 0) (fun x => (sparse 64 [(1, .c (.v (.int .i64 a1))), (2, .c (.ptr 128 0)), (5, .c (.os 896 0 (LEN x.2))), (6, .c (.v (.int .i64 x.1)))] [(128, .var [.bs (LEN a0.fCells) 4 (row GD (encCell LEN GD) a0.fCells)]), (896, .arr .rw [] (LEN x.2) 1 (row GD (encI .i64) x.2))])) (fun w => (sparse 64 [(1, .c (.v (.int .i64 a1))), (5, .c (.os 896 0 (LEN w)))] [(896, .arr .rw [] (LEN w) 1 (row GD (encI .i64) w))])) zb ?_ ?_
 ·rintro ⟨v5, v6⟩ z h K hK hY; replace h := oz (oz h); dsimp only at h; cbv; revert h; refine fk ?_ ?_ <;> intro h <;> cbv
  ·revert h; refine ra fun c19 h => ?_
   revert h; refine ln (.exit 2) (fun x => (sparse 64 [(1, .c (.v (.int .i64 a1))), (2, .c (.ptr 128 0)), (5, .c (.os 896 0 (LEN v6))), (6, .c (.v (.int .i64 v5))), (7, .c (.v (.int .i64 x.1))), (8, .c (.bs (LEN (GD a0.fCells (A.toN v5)).fInstances) 8 (row GD (encInstance) (GD a0.fCells (A.toN v5)).fInstances))), (9, .c (.v (.int .i64 x.2)))] [(128, .var [.bs (LEN a0.fCells) 4 (row GD (encCell LEN GD) a0.fCells)]), (896, .arr .rw [] (LEN v6) 1 (row GD (encI .i64) v6))])) (fun w => (sparse 64 [(1, .c (.v (.int .i64 a1))), (2, .c (.ptr 128 0)), (5, .c (.os 896 0 (LEN v6))), (6, .c (.v (.int .i64 v5))), (7, .c (.v (.int .i64 w)))] [(128, .var [.bs (LEN a0.fCells) 4 (row GD (encCell LEN GD) a0.fCells)]), (896, .arr .rw [] (LEN v6) 1 (row GD (encI .i64) v6))])) zb ?_ ?_
   ·rintro ⟨v20, v21⟩ z h K hK hY; replace h := oz (oz h); dsimp only at h; cbv; revert h; refine fk ?_ ?_ <;> intro h <;> cbv
    ·revert h; refine ra fun c34 h => ?_; revert h; refine ra fun c35 h => ?_; revert h; refine ra fun c36 h => ?_; revert h; refine ra fun c37 h => ?_; refine ai c37 ?_; exact dm
    exact dx
   intro w39 h s q31; replace h := oz (oz h); cbv; refine ⟨_, q31, ?_⟩; cbv; revert h; refine rl fun l40 hl40 h => ?_; have e41 : 1 = LEN l40 := by subst hl40 hLEN; rfl
   refine ⟨_, (co e41), _, row GD (encI .i64) l40, e41, wkOf ?_, ?_⟩
   ·intro i hi j hj; rw [← e41] at hi; subst hl40; subst hGD; obtain rfl : i = 0 := (by omega); all_goals obtain rfl : j = 0 := by omega
    all_goals rfl
   cbv; revert h; refine rq fun c44 => rl fun l42 hl42 h => ?_; have e43 := nl hA hLEN hl42; refine ⟨c44, _, (co e43), _, row GD (encI .i64) l42, e43, wkOf ?_, ?_⟩
   ·subst hGD hLEN hA; exact app_os (off := 0) (fun _ _ => rfl) hl42 (Nat.le_refl _)
   cbv; exact dm
  exact dx
 intro w46 h s q16; replace h := oz (oz h); cbv; refine ⟨_, q16, ?_⟩; cbv; revert h; refine ra fun c47 h => ?_; refine ai c47 ?_; exact df

/-- spec.l10Hull -/
noncomputable def F_spec_l10Hull (a0 : TRect) (a1 : TRect) : Option (TRect) :=
 some (TRect.mk (std.imin a0.fX0 a1.fX0) (std.imin a0.fY0 a1.fY0) (std.imax a0.fX1 a1.fX1) (std.imax a0.fY1 a1.fY1))
set_option maxHeartbeats 4000000 in
theorem run_spec_l10Hull (a0 : TRect) (a1 : TRect) (r : TRect) (h : F_spec_l10Hull a0 a1 = some r) : Fun Try.prog 98 [.agg [.v (.int .i64 a0.fX0), .v (.int .i64 a0.fY0), .v (.int .i64 a0.fX1), .v (.int .i64 a0.fY1)], .agg [.v (.int .i64 a1.fX0), .v (.int .i64 a1.fY0), .v (.int .i64 a1.fX1), .v (.int .i64 a1.fY1)]] [] (.agg [.v (.int .i64 r.fX0), .v (.int .i64 r.fY0), .v (.int .i64 r.fX1), .v (.int .i64 r.fY1)]) [] true := by
 refine ow [] Try.func98 Try.ntmps98 ?_ (hv := (fun _ => ⟨(by simp [AV.flat, AV.flat1, AC.flat]), trivial⟩)); unfold F_spec_l10Hull at h; generalize hLEN : @len = LEN, hGD : @gd = GD, hA : std = A, hP : Try.prog = P at *; cbv; exact df

noncomputable def L_spec_l12Own_x53 (w46 : List TRect) : (Int × Int × Int × Int × Int) → Option ((Int × Int × Int × Int × Int) ⊕ ((Int × Int × Int × Int))) := fun x53 =>
 letO x53.1 fun v48 =>
 letO x53.2.1 fun v49 =>
 letO x53.2.2.1 fun v50 =>
 letO x53.2.2.2.1 fun v51 =>
 letO x53.2.2.2.2 fun v52 =>
 br (std.lt v48 (std.ofN (len w46)))
 (req (std.inR v48 (len w46)) <|
 (F_spec_l10Hull (TRect.mk v49 v50 v51 v52) (gd w46 (std.nadd 0 (std.toN v48)))).bind fun y66 =>
 some (.inl (std.add .i64 v48 1, y66.fX0, y66.fY0, y66.fX1, y66.fY1)))
 (some (.inr (v49, v50, v51, v52)))
noncomputable def L_spec_l12Own_x27 (a0 : TCell) : (Int × (List TRect)) → Option ((Int × (List TRect)) ⊕ (((List TRect)))) := fun x27 =>
 letO x27.1 fun v25 =>
 letO x27.2 fun v26 =>
 br (std.lt v25 (std.ofN (len a0.fLabels)))
 (req (std.inR v25 (len a0.fLabels)) <|
 letO ([(TRect.mk (gd a0.fLabels (std.toN v25)).fAt.fX (gd a0.fLabels (std.toN v25)).fAt.fY (std.add .i64 (gd a0.fLabels (std.toN v25)).fAt.fX 1) (std.add .i64 (gd a0.fLabels (std.toN v25)).fAt.fY 1))] : List TRect) fun l40 =>
 req (std.room (std.nadd (len v26) (len l40)) 32) <|
 letO (v26 ++ l40) fun l42 =>
 some (.inl (std.add .i64 v25 1, l42)))
 (some (.inr v26))
noncomputable def L_spec_l12Own_x5 (a0 : TCell) : (Int × (List TRect)) → Option ((Int × (List TRect)) ⊕ (((List TRect)))) := fun x5 =>
 letO x5.1 fun v3 =>
 letO x5.2 fun v4 =>
 br (std.lt v3 (std.ofN (len a0.fShapes)))
 (req (std.inR v3 (len a0.fShapes)) <|
 letO ([(gd a0.fShapes (std.toN v3)).fBox] : List TRect) fun l18 =>
 req (std.room (std.nadd (len v4) (len l18)) 32) <|
 letO (v4 ++ l18) fun l20 =>
 some (.inl (std.add .i64 v3 1, l20)))
 (some (.inr v4))
/-- spec.l12Own -/
noncomputable def F_spec_l12Own (a0 : TCell) : Option (TRect × Bool) :=
 letO ([] : List TRect) fun l1 =>
 (whileP (σ := Int × (List TRect)) (ρ := ((List TRect))) (L_spec_l12Own_x5 a0) (0, l1)).bind fun y6 =>
 letO y6 fun y6k0 =>
 letO y6k0 fun w24 =>
 (whileP (σ := Int × (List TRect)) (ρ := ((List TRect))) (L_spec_l12Own_x27 a0) (0, w24)).bind fun y28 =>
 letO y28 fun y28k0 =>
 letO y28k0 fun w46 =>
 br (std.eq (std.ofN (len w46)) 0)
 (some ((TRect.mk 0 0 0 0), false))
 (req (std.inR 0 (len w46)) <|
 (whileP (σ := Int × Int × Int × Int × Int) (ρ := (Int × Int × Int × Int)) (L_spec_l12Own_x53 w46) (1, (gd w46 (std.nadd 0 (std.toN 0))).fX0, (gd w46 (std.nadd 0 (std.toN 0))).fY0, (gd w46 (std.nadd 0 (std.toN 0))).fX1, (gd w46 (std.nadd 0 (std.toN 0))).fY1)).bind fun y54 =>
 letO y54 fun y54k0 =>
 letO y54k0.1 fun w69 =>
 letO y54k0.2.1 fun w70 =>
 letO y54k0.2.2.1 fun w71 =>
 letO y54k0.2.2.2 fun w72 =>
 some ((TRect.mk w69 w70 w71 w72), true))
set_option maxHeartbeats 4000000 in
theorem run_spec_l12Own (a0 : TCell) (r : TRect × Bool) (h : F_spec_l12Own a0 = some r) : Fun Try.prog 96 [.agg [.v (.string a0.fName), .bs (len a0.fShapes) 5 (row gd (encShape) a0.fShapes), .bs (len a0.fLabels) 4 (row gd (encLabel) a0.fLabels), .bs (len a0.fInstances) 8 (row gd (encInstance) a0.fInstances)]] [] (.tup [.agg [.v (.int .i64 r.1.fX0), .v (.int .i64 r.1.fY0), .v (.int .i64 r.1.fX1), .v (.int .i64 r.1.fY1)], .c (.v (.bool r.2))]) [] true := by
 refine ow [] Try.func96 Try.ntmps96 ?_ (hv := (fun _ => ⟨(by simp [AV.flat, AV.flat1, AC.flat]), trivial⟩)); unfold F_spec_l12Own at h; unfold L_spec_l12Own_x5 at h; unfold L_spec_l12Own_x27 at h; unfold L_spec_l12Own_x53 at h; have hf_spec_l10Hull := @run_spec_l10Hull; generalize hLEN : @len = LEN, hGD : @gd = GD, hA : std = A, hP : Try.prog = P at *; cbv; revert h; refine rl fun l1 hl1 h => ?_
 have e2 : 0 = LEN l1 := by subst hl1 hLEN; rfl
 refine ⟨_, (co e2), _, row GD (encRect) l1, e2, wkOf ?_, ?_⟩
 ·intro i hi j hj; rw [← e2] at hi; subst hl1; subst hGD; omega
 cbv
 revert h; refine ln (.exit 0) (fun x => (sparse 74 [(1, .c (.ptr 64 0)), (2, .c (.ptr 128 0)), (4, .c (.os 640 0 (LEN x.2))), (5, .c (.v (.int .i64 x.1)))] [(64, .var [.v (.string a0.fName), .bs (LEN a0.fShapes) 5 (row GD (encShape) a0.fShapes), .bs (LEN a0.fLabels) 4 (row GD (encLabel) a0.fLabels), .bs (LEN a0.fInstances) 8 (row GD (encInstance) a0.fInstances)]), (128, .var [.v (.int .i64 0), .v (.int .i64 0), .v (.int .i64 0), .v (.int .i64 0)]), (640, .arr .rw [] (LEN x.2) 4 (row GD (encRect) x.2))])) (fun w => (sparse 74 [(1, .c (.ptr 64 0)), (2, .c (.ptr 128 0)), (4, .c (.os 640 0 (LEN w)))] [(64, .var [.v (.string a0.fName), .bs (LEN a0.fShapes) 5 (row GD (encShape) a0.fShapes), .bs (LEN a0.fLabels) 4 (row GD (encLabel) a0.fLabels), .bs (LEN a0.fInstances) 8 (row GD (encInstance) a0.fInstances)]), (128, .var [.v (.int .i64 0), .v (.int .i64 0), .v (.int .i64 0), .v (.int .i64 0)]), (640, .arr .rw [] (LEN w) 4 (row GD (encRect) w))])) zb ?_ ?_
 ·rintro ⟨v3, v4⟩ z h K hK hY; replace h := oz (oz h); dsimp only at h; cbv; revert h; refine fk ?_ ?_ <;> intro h <;> cbv
  ·revert h; refine ra fun c17 h => ?_; revert h; refine rl fun l18 hl18 h => ?_; have e19 : 1 = LEN l18 := by subst hl18 hLEN; rfl
   refine ⟨_, (co e19), _, row GD (encRect) l18, e19, wkOf ?_, ?_⟩
   ·intro i hi j hj; rw [← e19] at hi; subst hl18; subst hGD; obtain rfl : i = 0 := (by omega) <;> obtain rfl | rfl | rfl | rfl : j = 0 ∨ j = 1 ∨ j = 2 ∨ j = 3 := (by omega)
    all_goals rfl
   cbv; revert h; refine rq fun c22 => rl fun l20 hl20 h => ?_; have e21 := nl hA hLEN hl20; refine ⟨c22, _, (co e21), _, row GD (encRect) l20, e21, wkOf ?_, ?_⟩
   ·subst hGD hLEN hA; exact app_os (off := 0) (pl_encRect) hl20 (Nat.le_refl _)
   cbv; exact dm
  exact dx
 intro w24 h s q14; replace h := oz (oz h); cbv; refine ⟨_, q14, ?_⟩; cbv
 revert h; refine ln (.exit 2) (fun x => (sparse 74 [(1, .c (.ptr 64 0)), (2, .c (.ptr 128 0)), (4, .c (.os 640 0 (LEN x.2))), (6, .c (.v (.int .i64 x.1)))] [(64, .var [.v (.string a0.fName), .bs (LEN a0.fShapes) 5 (row GD (encShape) a0.fShapes), .bs (LEN a0.fLabels) 4 (row GD (encLabel) a0.fLabels), .bs (LEN a0.fInstances) 8 (row GD (encInstance) a0.fInstances)]), (128, .var [.v (.int .i64 0), .v (.int .i64 0), .v (.int .i64 0), .v (.int .i64 0)]), (640, .arr .rw [] (LEN x.2) 4 (row GD (encRect) x.2))])) (fun w => (sparse 74 [(2, .c (.ptr 128 0)), (4, .c (.os 640 0 (LEN w)))] [(128, .var [.v (.int .i64 0), .v (.int .i64 0), .v (.int .i64 0), .v (.int .i64 0)]), (640, .arr .rw [] (LEN w) 4 (row GD (encRect) w))])) zb ?_ ?_
 ·rintro ⟨v25, v26⟩ z h K hK hY; replace h := oz (oz h); dsimp only at h; cbv; revert h; refine fk ?_ ?_ <;> intro h <;> cbv
  ·revert h; refine ra fun c39 h => ?_; revert h; refine rl fun l40 hl40 h => ?_; have e41 : 1 = LEN l40 := by subst hl40 hLEN; rfl
   refine ⟨_, (co e41), _, row GD (encRect) l40, e41, wkOf ?_, ?_⟩
   ·intro i hi j hj; rw [← e41] at hi; subst hl40; subst hGD; obtain rfl : i = 0 := (by omega) <;> obtain rfl | rfl | rfl | rfl : j = 0 ∨ j = 1 ∨ j = 2 ∨ j = 3 := (by omega)
    all_goals rfl
   cbv; revert h; refine rq fun c44 => rl fun l42 hl42 h => ?_; have e43 := nl hA hLEN hl42; refine ⟨c44, _, (co e43), _, row GD (encRect) l42, e43, wkOf ?_, ?_⟩
   ·subst hGD hLEN hA; exact app_os (off := 0) (pl_encRect) hl42 (Nat.le_refl _)
   cbv; exact dm
  exact dx
 intro w46 h s q36; replace h := oz (oz h); cbv; refine ⟨_, q36, ?_⟩; cbv; revert h; refine fk ?_ ?_ <;> intro h <;> cbv
 ·exact df
 revert h; refine ra fun c47 h => ?_; refine ai c47 ?_
 revert h; refine ln (.exit 4) (fun x => (sparse 74 [(2, .c (.ptr 128 0)), (4, .c (.os 640 0 (LEN w46))), (8, .c (.ptr 512 0)), (9, .c (.v (.int .i64 x.1)))] [(128, .var [.v (.int .i64 0), .v (.int .i64 0), .v (.int .i64 0), .v (.int .i64 0)]), (640, .arr .rw [] (LEN w46) 4 (row GD (encRect) w46)), (512, .var [.v (.int .i64 x.2.1), .v (.int .i64 x.2.2.1), .v (.int .i64 x.2.2.2.1), .v (.int .i64 x.2.2.2.2)])])) (fun w => (sparse 74 [(2, .c (.ptr 128 0)), (8, .c (.ptr 512 0))] [(128, .var [.v (.int .i64 0), .v (.int .i64 0), .v (.int .i64 0), .v (.int .i64 0)]), (512, .var [.v (.int .i64 w.1), .v (.int .i64 w.2.1), .v (.int .i64 w.2.2.1), .v (.int .i64 w.2.2.2)])])) zb ?_ ?_
 ·rintro ⟨v48, v49, v50, v51, v52⟩ z h K hK hY; replace h := oz (oz (oz (oz (oz h)))); dsimp only at h; cbv; revert h; refine fk ?_ ?_ <;> intro h <;> cbv
  ·revert h; refine ra fun c65 h => ?_; refine ai c65 ?_; revert h; refine rk0 (hf_spec_l10Hull _ _) fun y66 h => ?_; cbv; exact dm
  exact dx
 rintro ⟨w69, w70, w71, w72⟩ h s q62; replace h := oz (oz (oz (oz (oz h)))); dsimp only at h; cbv; refine ⟨_, q62, ?_⟩; cbv; exact df

noncomputable def L_spec_l10Point_x13  : (Int × Int × Int) → Option ((Int × Int × Int) ⊕ ((Int × Int))) := fun x13 =>
 letO x13.1 fun v10 =>
 letO x13.2.1 fun v11 =>
 letO x13.2.2 fun v12 =>
 br (std.lt 0 v12)
 (some (.inl (std.sub .i64 0 v11, v10, std.sub .i64 v12 1)))
 (some (.inr (v10, v11)))
/-- spec.l10Point -/
noncomputable def F_spec_l10Point (a0 : TTransform) (a1 : TPoint) : Option (TPoint) :=
 ((
    br (std.le 4 a0.fOrientation)
    (some (std.sub .i64 0 a1.fY))
    (some a1.fY)
  ) : Option (Int)).bind fun y1 =>
 letO y1 fun w7 =>
 req (std.nz 4) <|
 (whileP (σ := Int × Int × Int) (ρ := (Int × Int)) L_spec_l10Point_x13 (a1.fX, w7, std.rem a0.fOrientation 4)).bind fun y14 =>
 letO y14 fun y14k0 =>
 letO y14k0.1 fun w26 =>
 letO y14k0.2 fun w27 =>
 some (TPoint.mk (std.add .i64 w26 a0.fX) (std.add .i64 w27 a0.fY))
set_option maxHeartbeats 4000000 in
theorem run_spec_l10Point (a0 : TTransform) (a1 : TPoint) (r : TPoint) (h : F_spec_l10Point a0 a1 = some r) : Fun Try.prog 99 [.agg [.v (.int .i64 a0.fOrientation), .v (.int .i64 a0.fX), .v (.int .i64 a0.fY)], .agg [.v (.int .i64 a1.fX), .v (.int .i64 a1.fY)]] [] (.agg [.v (.int .i64 r.fX), .v (.int .i64 r.fY)]) [] true := by
 refine ow [100014] Try.func99 Try.ntmps99 ?_ (hv := (fun _ => ⟨(by simp [AV.flat, AV.flat1, AC.flat]), trivial⟩)); unfold F_spec_l10Point at h; unfold L_spec_l10Point_x13 at h; generalize hLEN : @len = LEN, hGD : @gd = GD, hA : std = A, hP : Try.prog = P at *; cbv
 revert h; refine cu (fun y1 => some (sparse 36 [(2, .c (.ptr 128 0)), (4, .c (.ptr 256 0)), (5, .c (.v (.int .i64 a1.fX))), (6, .c (.v (.int .i64 y1)))] [(128, .var [.v (.int .i64 a0.fOrientation), .v (.int .i64 a0.fX), .v (.int .i64 a0.fY)]), (256, .var [.v (.int .i64 0), .v (.int .i64 0)])])) (fun y1 S hS h => rg) fun w7 => rz fun h => ?_; cbv; revert h; refine ra fun c9 h => ?_
 revert h; refine ln (.exit 0) (fun x => (sparse 36 [(2, .c (.ptr 128 0)), (4, .c (.ptr 256 0)), (5, .c (.v (.int .i64 x.1))), (6, .c (.v (.int .i64 x.2.1))), (7, .c (.v (.int .i64 x.2.2)))] [(128, .var [.v (.int .i64 a0.fOrientation), .v (.int .i64 a0.fX), .v (.int .i64 a0.fY)]), (256, .var [.v (.int .i64 0), .v (.int .i64 0)])])) (fun w => (sparse 36 [(2, .c (.ptr 128 0)), (4, .c (.ptr 256 0)), (5, .c (.v (.int .i64 w.1))), (6, .c (.v (.int .i64 w.2)))] [(128, .var [.v (.int .i64 a0.fOrientation), .v (.int .i64 a0.fX), .v (.int .i64 a0.fY)]), (256, .var [.v (.int .i64 0), .v (.int .i64 0)])])) zb ?_ ?_
 ·rintro ⟨v10, v11, v12⟩ z h K hK hY; replace h := oz (oz (oz h)); dsimp only at h; cbv; revert h; refine fk ?_ ?_ <;> intro h <;> cbv
  ·exact dm
  exact dx
 rintro ⟨w26, w27⟩ h s q22; replace h := oz (oz (oz h)); dsimp only at h; cbv; refine ⟨_, q22, ?_⟩; cbv; exact df

/-- spec.l10Rect -/
noncomputable def F_spec_l10Rect (a0 : TTransform) (a1 : TRect) : Option (TRect) :=
 (F_spec_l10Point a0 (TPoint.mk a1.fX0 a1.fY0)).bind fun y1 =>
 (F_spec_l10Point a0 (TPoint.mk a1.fX1 a1.fY1)).bind fun y3 =>
 some (TRect.mk (std.imin y1.fX y3.fX) (std.imin y1.fY y3.fY) (std.imax y1.fX y3.fX) (std.imax y1.fY y3.fY))
set_option maxHeartbeats 4000000 in
theorem run_spec_l10Rect (a0 : TTransform) (a1 : TRect) (r : TRect) (h : F_spec_l10Rect a0 a1 = some r) : Fun Try.prog 70 [.agg [.v (.int .i64 a0.fOrientation), .v (.int .i64 a0.fX), .v (.int .i64 a0.fY)], .agg [.v (.int .i64 a1.fX0), .v (.int .i64 a1.fY0), .v (.int .i64 a1.fX1), .v (.int .i64 a1.fY1)]] [] (.agg [.v (.int .i64 r.fX0), .v (.int .i64 r.fY0), .v (.int .i64 r.fX1), .v (.int .i64 r.fY1)]) [] true := by
 refine ow [] Try.func70 Try.ntmps70 ?_ (hv := (fun _ => ⟨(by simp [AV.flat, AV.flat1, AC.flat]), trivial⟩)); unfold F_spec_l10Rect at h; have hf_spec_l10Point := @run_spec_l10Point; generalize hLEN : @len = LEN, hGD : @gd = GD, hA : std = A, hP : Try.prog = P at *; cbv; revert h; refine rk0 (hf_spec_l10Point _ _) fun y1 h => ?_; cbv; revert h; refine rk0 (hf_spec_l10Point _ _) fun y3 h => ?_; cbv
 exact df
/-- spec.l10Element -/
noncomputable def F_spec_l10Element (a0 : TInstance) (a1 : Int) (a2 : Int) : Option (TTransform) :=
 some (TTransform.mk a0.fPlace.fOrientation (std.add .i64 a0.fPlace.fX (std.mul .i64 a1 a0.fStepX)) (std.add .i64 a0.fPlace.fY (std.mul .i64 a2 a0.fStepY)))
set_option maxHeartbeats 4000000 in
theorem run_spec_l10Element (a0 : TInstance) (a1 : Int) (a2 : Int) (r : TTransform) (h : F_spec_l10Element a0 a1 a2 = some r) : Fun Try.prog 68 [.agg [.v (.int .i64 a0.fCell), .v (.int .i64 a0.fPlace.fOrientation), .v (.int .i64 a0.fPlace.fX), .v (.int .i64 a0.fPlace.fY), .v (.int .i64 a0.fColumns), .v (.int .i64 a0.fRows), .v (.int .i64 a0.fStepX), .v (.int .i64 a0.fStepY)], .c (.v (.int .i64 a1)), .c (.v (.int .i64 a2))] [] (.agg [.v (.int .i64 r.fOrientation), .v (.int .i64 r.fX), .v (.int .i64 r.fY)]) [] true := by
 refine ow [] Try.func68 Try.ntmps68 ?_ (hv := (fun _ => ⟨(by simp [AV.flat, AV.flat1, AC.flat]), trivial⟩)); unfold F_spec_l10Element at h; generalize hLEN : @len = LEN, hGD : @gd = GD, hA : std = A, hP : Try.prog = P at *; cbv; exact df

noncomputable def L_spec_l12Array_x25 (a0 : TInstance) (a1 : TRect) (v3 : Int) : (Int × Int × Int × Int × Int) → Option ((Int × Int × Int × Int × Int) ⊕ ((Int × Int × Int × Int))) := fun x25 =>
 letO x25.1 fun v20 =>
 letO x25.2.1 fun v21 =>
 letO x25.2.2.1 fun v22 =>
 letO x25.2.2.2.1 fun v23 =>
 letO x25.2.2.2.2 fun v24 =>
 br (std.lt v20 a0.fColumns)
 ((F_spec_l10Element a0 v20 v3).bind fun y37 =>
 (F_spec_l10Rect y37 (TRect.mk a1.fX0 a1.fY0 a1.fX1 a1.fY1)).bind fun y39 =>
 (F_spec_l10Hull (TRect.mk v21 v22 v23 v24) y39).bind fun y41 =>
 some (.inl (std.add .i64 v20 1, y41.fX0, y41.fY0, y41.fX1, y41.fY1)))
 (some (.inr (v21, v22, v23, v24)))
noncomputable def L_spec_l12Array_x8 (a0 : TInstance) (a1 : TRect) : (Int × Int × Int × Int × Int) → Option ((Int × Int × Int × Int × Int) ⊕ ((Int × Int × Int × Int))) := fun x8 =>
 letO x8.1 fun v3 =>
 letO x8.2.1 fun v4 =>
 letO x8.2.2.1 fun v5 =>
 letO x8.2.2.2.1 fun v6 =>
 letO x8.2.2.2.2 fun v7 =>
 br (std.lt v3 a0.fRows)
 ((whileP (σ := Int × Int × Int × Int × Int) (ρ := (Int × Int × Int × Int)) (L_spec_l12Array_x25 a0 a1 v3) (0, v4, v5, v6, v7)).bind fun y26 =>
 letO y26 fun y26k0 =>
 letO y26k0.1 fun w44 =>
 letO y26k0.2.1 fun w45 =>
 letO y26k0.2.2.1 fun w46 =>
 letO y26k0.2.2.2 fun w47 =>
 some (.inl (std.add .i64 v3 1, w44, w45, w46, w47)))
 (some (.inr (v4, v5, v6, v7)))
/-- spec.l12Array -/
noncomputable def F_spec_l12Array (a0 : TInstance) (a1 : TRect) : Option (TRect) :=
 (F_spec_l10Rect a0.fPlace (TRect.mk a1.fX0 a1.fY0 a1.fX1 a1.fY1)).bind fun y1 =>
 (whileP (σ := Int × Int × Int × Int × Int) (ρ := (Int × Int × Int × Int)) (L_spec_l12Array_x8 a0 a1) (0, y1.fX0, y1.fY0, y1.fX1, y1.fY1)).bind fun y9 =>
 letO y9 fun y9k0 =>
 letO y9k0.1 fun w49 =>
 letO y9k0.2.1 fun w50 =>
 letO y9k0.2.2.1 fun w51 =>
 letO y9k0.2.2.2 fun w52 =>
 some (TRect.mk w49 w50 w51 w52)
set_option maxHeartbeats 4000000 in
theorem run_spec_l12Array (a0 : TInstance) (a1 : TRect) (r : TRect) (h : F_spec_l12Array a0 a1 = some r) : Fun Try.prog 97 [.agg [.v (.int .i64 a0.fCell), .v (.int .i64 a0.fPlace.fOrientation), .v (.int .i64 a0.fPlace.fX), .v (.int .i64 a0.fPlace.fY), .v (.int .i64 a0.fColumns), .v (.int .i64 a0.fRows), .v (.int .i64 a0.fStepX), .v (.int .i64 a0.fStepY)], .agg [.v (.int .i64 a1.fX0), .v (.int .i64 a1.fY0), .v (.int .i64 a1.fX1), .v (.int .i64 a1.fY1)]] [] (.agg [.v (.int .i64 r.fX0), .v (.int .i64 r.fY0), .v (.int .i64 r.fX1), .v (.int .i64 r.fY1)]) [] true := by
 refine ow [] Try.func97 Try.ntmps97 ?_ (hv := (fun _ => ⟨(by simp [AV.flat, AV.flat1, AC.flat]), trivial⟩)); unfold F_spec_l12Array at h; unfold L_spec_l12Array_x8 at h; unfold L_spec_l12Array_x25 at h; have hf_spec_l10Element := @run_spec_l10Element; have hf_spec_l10Hull := @run_spec_l10Hull; have hf_spec_l10Rect := @run_spec_l10Rect
 generalize hLEN : @len = LEN, hGD : @gd = GD, hA : std = A, hP : Try.prog = P at *; cbv; revert h; refine rk0 (hf_spec_l10Rect _ _) fun y1 h => ?_; cbv
 revert h; refine ln (.exit 0) (fun x => (sparse 33 [(2, .c (.ptr 128 0)), (3, .c (.ptr 192 0)), (4, .c (.ptr 256 0)), (5, .c (.ptr 320 0)), (6, .c (.v (.int .i64 x.1)))] [(128, .var [.v (.int .i64 a0.fCell), .v (.int .i64 a0.fPlace.fOrientation), .v (.int .i64 a0.fPlace.fX), .v (.int .i64 a0.fPlace.fY), .v (.int .i64 a0.fColumns), .v (.int .i64 a0.fRows), .v (.int .i64 a0.fStepX), .v (.int .i64 a0.fStepY)]), (192, .var [.v (.int .i64 a1.fX0), .v (.int .i64 a1.fY0), .v (.int .i64 a1.fX1), .v (.int .i64 a1.fY1)]), (256, .var [.v (.int .i64 0), .v (.int .i64 0), .v (.int .i64 0), .v (.int .i64 0)]), (320, .var [.v (.int .i64 x.2.1), .v (.int .i64 x.2.2.1), .v (.int .i64 x.2.2.2.1), .v (.int .i64 x.2.2.2.2)])])) (fun w => (sparse 33 [(4, .c (.ptr 256 0)), (5, .c (.ptr 320 0))] [(256, .var [.v (.int .i64 0), .v (.int .i64 0), .v (.int .i64 0), .v (.int .i64 0)]), (320, .var [.v (.int .i64 w.1), .v (.int .i64 w.2.1), .v (.int .i64 w.2.2.1), .v (.int .i64 w.2.2.2)])])) zb ?_ ?_
 ·rintro ⟨v3, v4, v5, v6, v7⟩ z h K hK hY; replace h := oz (oz (oz (oz (oz h)))); dsimp only at h; cbv; revert h; refine fk ?_ ?_ <;> intro h <;> cbv
  ·revert h; refine ln (.exit 2) (fun x => (sparse 33 [(2, .c (.ptr 128 0)), (3, .c (.ptr 192 0)), (4, .c (.ptr 256 0)), (5, .c (.ptr 320 0)), (6, .c (.v (.int .i64 v3))), (7, .c (.v (.int .i64 x.1)))] [(128, .var [.v (.int .i64 a0.fCell), .v (.int .i64 a0.fPlace.fOrientation), .v (.int .i64 a0.fPlace.fX), .v (.int .i64 a0.fPlace.fY), .v (.int .i64 a0.fColumns), .v (.int .i64 a0.fRows), .v (.int .i64 a0.fStepX), .v (.int .i64 a0.fStepY)]), (192, .var [.v (.int .i64 a1.fX0), .v (.int .i64 a1.fY0), .v (.int .i64 a1.fX1), .v (.int .i64 a1.fY1)]), (256, .var [.v (.int .i64 0), .v (.int .i64 0), .v (.int .i64 0), .v (.int .i64 0)]), (320, .var [.v (.int .i64 x.2.1), .v (.int .i64 x.2.2.1), .v (.int .i64 x.2.2.2.1), .v (.int .i64 x.2.2.2.2)])])) (fun w => (sparse 33 [(2, .c (.ptr 128 0)), (3, .c (.ptr 192 0)), (4, .c (.ptr 256 0)), (5, .c (.ptr 320 0)), (6, .c (.v (.int .i64 v3)))] [(128, .var [.v (.int .i64 a0.fCell), .v (.int .i64 a0.fPlace.fOrientation), .v (.int .i64 a0.fPlace.fX), .v (.int .i64 a0.fPlace.fY), .v (.int .i64 a0.fColumns), .v (.int .i64 a0.fRows), .v (.int .i64 a0.fStepX), .v (.int .i64 a0.fStepY)]), (192, .var [.v (.int .i64 a1.fX0), .v (.int .i64 a1.fY0), .v (.int .i64 a1.fX1), .v (.int .i64 a1.fY1)]), (256, .var [.v (.int .i64 0), .v (.int .i64 0), .v (.int .i64 0), .v (.int .i64 0)]), (320, .var [.v (.int .i64 w.1), .v (.int .i64 w.2.1), .v (.int .i64 w.2.2.1), .v (.int .i64 w.2.2.2)])])) zb ?_ ?_
   ·rintro ⟨v20, v21, v22, v23, v24⟩ z h K hK hY; replace h := oz (oz (oz (oz (oz h)))); dsimp only at h; cbv; revert h; refine fk ?_ ?_ <;> intro h <;> cbv
    ·revert h; refine rk0 (hf_spec_l10Element _ _ _) fun y37 h => ?_; cbv; revert h; refine rk0 (hf_spec_l10Rect _ _) fun y39 h => ?_; cbv; revert h; refine rk0 (hf_spec_l10Hull _ _) fun y41 h => ?_; cbv; exact dm
    exact dx
   rintro ⟨w44, w45, w46, w47⟩ h s q34; replace h := oz (oz (oz (oz (oz h)))); dsimp only at h; cbv; refine ⟨_, q34, ?_⟩; cbv; exact dm
  exact dx
 rintro ⟨w49, w50, w51, w52⟩ h s q17; replace h := oz (oz (oz (oz (oz h)))); dsimp only at h; cbv; refine ⟨_, q17, ?_⟩; cbv; exact df

noncomputable def L_spec_l12Box_x30 (a0 : TLibrary) (v5 : Int) (v6 : List TRect) (v7 : List Bool) : (Bool × Int × Int × Int × Int × Int) → Option ((Bool × Int × Int × Int × Int × Int) ⊕ ((Bool × Int × Int × Int × Int))) := fun x30 =>
 letO x30.1 fun v24 =>
 letO x30.2.1 fun v25 =>
 letO x30.2.2.1 fun v26 =>
 letO x30.2.2.2.1 fun v27 =>
 letO x30.2.2.2.2.1 fun v28 =>
 letO x30.2.2.2.2.2 fun v29 =>
 br (std.lt v25 (std.ofN (len (gd a0.fCells (std.toN v5)).fInstances)))
 (req (std.inR v25 (len (gd a0.fCells (std.toN v5)).fInstances)) <|
 req (std.inR (gd (gd a0.fCells (std.toN v5)).fInstances (std.toN v25)).fCell (len v7)) <|
 ((
    br (gd v7 (std.nadd 0 (std.toN (gd (gd a0.fCells (std.toN v5)).fInstances (std.toN v25)).fCell)))
    (req (std.inR v25 (len (gd a0.fCells (std.toN v5)).fInstances)) <|
    req (std.inR v25 (len (gd a0.fCells (std.toN v5)).fInstances)) <|
    req (std.inR (gd (gd a0.fCells (std.toN v5)).fInstances (std.toN v25)).fCell (len v6)) <|
    (F_spec_l12Array (gd (gd a0.fCells (std.toN v5)).fInstances (std.toN v25)) (gd v6 (std.nadd 0 (std.toN (gd (gd a0.fCells (std.toN v5)).fInstances (std.toN v25)).fCell)))).bind fun y58 =>
    ((
       br v24
       ((F_spec_l10Hull (TRect.mk v26 v27 v28 v29) y58).bind fun y70 =>
       some (y70.fX0, y70.fY0, y70.fX1, y70.fY1))
       (some (y58.fX0, y58.fY0, y58.fX1, y58.fY1))
     ) : Option (Int × Int × Int × Int)).bind fun y60 =>
    letO y60.1 fun w66 =>
    letO y60.2.1 fun w67 =>
    letO y60.2.2.1 fun w68 =>
    letO y60.2.2.2 fun w69 =>
    some (true, w66, w67, w68, w69))
    (some (v24, v26, v27, v28, v29))
  ) : Option (Bool × Int × Int × Int × Int)).bind fun y44 =>
 letO y44.1 fun w50 =>
 letO y44.2.1 fun w51 =>
 letO y44.2.2.1 fun w52 =>
 letO y44.2.2.2.1 fun w53 =>
 letO y44.2.2.2.2 fun w54 =>
 some (.inl (w50, std.add .i64 v25 1, w51, w52, w53, w54)))
 (some (.inr (v24, v26, v27, v28, v29)))
noncomputable def L_spec_l12Box_x8 (a0 : TLibrary) (a1 : Int) : (Int × (List TRect) × (List Bool)) → Option ((Int × (List TRect) × (List Bool)) ⊕ (((List TRect) × (List Bool)))) := fun x8 =>
 letO x8.1 fun v5 =>
 letO x8.2.1 fun v6 =>
 letO x8.2.2 fun v7 =>
 br (std.le v5 a1)
 (req (std.inR v5 (len a0.fCells)) <|
 (F_spec_l12Own (gd a0.fCells (std.toN v5))).bind fun y21 =>
 req (std.inR v5 (len a0.fCells)) <|
 (whileP (σ := Bool × Int × Int × Int × Int × Int) (ρ := (Bool × Int × Int × Int × Int)) (L_spec_l12Box_x30 a0 v5 v6 v7) (y21.2, 0, y21.1.fX0, y21.1.fY0, y21.1.fX1, y21.1.fY1)).bind fun y31 =>
 letO y31 fun y31k0 =>
 letO y31k0.1 fun w75 =>
 letO y31k0.2.1 fun w76 =>
 letO y31k0.2.2.1 fun w77 =>
 letO y31k0.2.2.2.1 fun w78 =>
 letO y31k0.2.2.2.2 fun w79 =>
 letO ([(TRect.mk w76 w77 w78 w79)] : List TRect) fun l80 =>
 req (std.room (std.nadd (len v6) (len l80)) 32) <|
 letO (v6 ++ l80) fun l82 =>
 letO ([w75] : List Bool) fun l85 =>
 req (std.room (std.nadd (len v7) (len l85)) 1) <|
 letO (v7 ++ l85) fun l87 =>
 some (.inl (std.add .i64 v5 1, l82, l87)))
 (some (.inr (v6, v7)))
/-- spec.l12Box -/
noncomputable def F_spec_l12Box (a0 : TLibrary) (a1 : Int) : Option (TRect × Bool) :=
 letO ([] : List TRect) fun l1 =>
 letO ([] : List Bool) fun l3 =>
 (whileP (σ := Int × (List TRect) × (List Bool)) (ρ := ((List TRect) × (List Bool))) (L_spec_l12Box_x8 a0 a1) (0, l1, l3)).bind fun y9 =>
 letO y9 fun y9k0 =>
 letO y9k0.1 fun w91 =>
 letO y9k0.2 fun w92 =>
 req (std.inR a1 (len w91)) <|
 req (std.inR a1 (len w92)) <|
 some ((gd w91 (std.nadd 0 (std.toN a1))), gd w92 (std.nadd 0 (std.toN a1)))
set_option maxHeartbeats 4000000 in
theorem run_spec_l12Box (a0 : TLibrary) (a1 : Int) (r : TRect × Bool) (h : F_spec_l12Box a0 a1 = some r) : Fun Try.prog 66 [.agg [.bs (len a0.fCells) 4 (row gd (encCell len gd) a0.fCells)], .c (.v (.int .i64 a1))] [] (.tup [.agg [.v (.int .i64 r.1.fX0), .v (.int .i64 r.1.fY0), .v (.int .i64 r.1.fX1), .v (.int .i64 r.1.fY1)], .c (.v (.bool r.2))]) [] true := by
 refine ow [100049, 100063] Try.func66 Try.ntmps66 ?_ (hv := (fun _ => ⟨(by simp [AV.flat, AV.flat1, AC.flat]), trivial⟩)); unfold F_spec_l12Box at h; unfold L_spec_l12Box_x8 at h; unfold L_spec_l12Box_x30 at h; have hf_spec_l10Hull := @run_spec_l10Hull; have hf_spec_l12Array := @run_spec_l12Array; have hf_spec_l12Own := @run_spec_l12Own
 generalize hLEN : @len = LEN, hGD : @gd = GD, hA : std = A, hP : Try.prog = P at *; cbv; revert h; refine rl fun l1 hl1 h => ?_; have e2 : 0 = LEN l1 := by subst hl1 hLEN; rfl
 refine ⟨_, (co e2), _, row GD (encRect) l1, e2, wkOf ?_, ?_⟩
 ·intro i hi j hj; rw [← e2] at hi; subst hl1; subst hGD; omega
 cbv; revert h; refine rl fun l3 hl3 h => ?_; have e4 : 0 = LEN l3 := by subst hl3 hLEN; rfl
 refine ⟨_, (co e4), _, row GD (encB) l3, e4, wkOf ?_, ?_⟩
 ·intro i hi j hj; rw [← e4] at hi; subst hl3; subst hGD; omega
 cbv
 revert h; refine ln (.exit 0) (fun x => (sparse 84 [(1, .c (.v (.int .i64 a1))), (2, .c (.ptr 128 0)), (4, .c (.ptr 256 0)), (6, .c (.os 896 0 (LEN x.2.1))), (7, .c (.os 960 0 (LEN x.2.2))), (8, .c (.v (.int .i64 x.1)))] [(128, .var [.bs (LEN a0.fCells) 4 (row GD (encCell LEN GD) a0.fCells)]), (256, .var [.v (.int .i64 0), .v (.int .i64 0), .v (.int .i64 0), .v (.int .i64 0)]), (896, .arr .rw [] (LEN x.2.1) 4 (row GD (encRect) x.2.1)), (960, .arr .rw [] (LEN x.2.2) 1 (row GD (encB) x.2.2))])) (fun w => (sparse 84 [(1, .c (.v (.int .i64 a1))), (4, .c (.ptr 256 0)), (6, .c (.os 896 0 (LEN w.1))), (7, .c (.os 960 0 (LEN w.2)))] [(256, .var [.v (.int .i64 0), .v (.int .i64 0), .v (.int .i64 0), .v (.int .i64 0)]), (896, .arr .rw [] (LEN w.1) 4 (row GD (encRect) w.1)), (960, .arr .rw [] (LEN w.2) 1 (row GD (encB) w.2))])) zb ?_ ?_
 ·rintro ⟨v5, v6, v7⟩ z h K hK hY; replace h := oz (oz (oz h)); dsimp only at h; cbv; revert h; refine fk ?_ ?_ <;> intro h <;> cbv
  ·revert h; refine ra fun c20 h => ?_; revert h; refine rk0 (hf_spec_l12Own _) fun y21 h => ?_; cbv; revert h; refine ra fun c23 h => ?_
   revert h; refine ln (.exit 2) (fun x => (sparse 84 [(1, .c (.v (.int .i64 a1))), (2, .c (.ptr 128 0)), (4, .c (.ptr 256 0)), (6, .c (.os 896 0 (LEN v6))), (7, .c (.os 960 0 (LEN v7))), (8, .c (.v (.int .i64 v5))), (9, .c (.ptr 576 0)), (10, .c (.v (.bool x.1))), (11, .c (.bs (LEN (GD a0.fCells (A.toN v5)).fInstances) 8 (row GD (encInstance) (GD a0.fCells (A.toN v5)).fInstances))), (12, .c (.v (.int .i64 x.2.1)))] [(128, .var [.bs (LEN a0.fCells) 4 (row GD (encCell LEN GD) a0.fCells)]), (256, .var [.v (.int .i64 0), .v (.int .i64 0), .v (.int .i64 0), .v (.int .i64 0)]), (896, .arr .rw [] (LEN v6) 4 (row GD (encRect) v6)), (960, .arr .rw [] (LEN v7) 1 (row GD (encB) v7)), (576, .var [.v (.int .i64 x.2.2.1), .v (.int .i64 x.2.2.2.1), .v (.int .i64 x.2.2.2.2.1), .v (.int .i64 x.2.2.2.2.2)])])) (fun w => (sparse 84 [(1, .c (.v (.int .i64 a1))), (2, .c (.ptr 128 0)), (4, .c (.ptr 256 0)), (6, .c (.os 896 0 (LEN v6))), (7, .c (.os 960 0 (LEN v7))), (8, .c (.v (.int .i64 v5))), (9, .c (.ptr 576 0)), (10, .c (.v (.bool w.1)))] [(128, .var [.bs (LEN a0.fCells) 4 (row GD (encCell LEN GD) a0.fCells)]), (256, .var [.v (.int .i64 0), .v (.int .i64 0), .v (.int .i64 0), .v (.int .i64 0)]), (896, .arr .rw [] (LEN v6) 4 (row GD (encRect) v6)), (960, .arr .rw [] (LEN v7) 1 (row GD (encB) v7)), (576, .var [.v (.int .i64 w.2.1), .v (.int .i64 w.2.2.1), .v (.int .i64 w.2.2.2.1), .v (.int .i64 w.2.2.2.2)])])) zb ?_ ?_
   ·rintro ⟨v24, v25, v26, v27, v28, v29⟩ z h K hK hY; replace h := oz (oz (oz (oz (oz (oz h))))); dsimp only at h; cbv; revert h; refine fk ?_ ?_ <;> intro h <;> cbv
    ·revert h; refine ra fun c42 h => ?_; revert h; refine ra fun c43 h => ?_; refine ai c43 ?_
     revert h; refine cu (fun y44 => some (sparse 84 [(1, .c (.v (.int .i64 a1))), (2, .c (.ptr 128 0)), (4, .c (.ptr 256 0)), (6, .c (.os 896 0 (LEN v6))), (7, .c (.os 960 0 (LEN v7))), (8, .c (.v (.int .i64 v5))), (9, .c (.ptr 576 0)), (10, .c (.v (.bool y44.1))), (11, .c (.bs (LEN (GD a0.fCells (A.toN v5)).fInstances) 8 (row GD (encInstance) (GD a0.fCells (A.toN v5)).fInstances))), (12, .c (.v (.int .i64 v25)))] [(128, .var [.bs (LEN a0.fCells) 4 (row GD (encCell LEN GD) a0.fCells)]), (256, .var [.v (.int .i64 0), .v (.int .i64 0), .v (.int .i64 0), .v (.int .i64 0)]), (896, .arr .rw [] (LEN v6) 4 (row GD (encRect) v6)), (960, .arr .rw [] (LEN v7) 1 (row GD (encB) v7)), (576, .var [.v (.int .i64 y44.2.1), .v (.int .i64 y44.2.2.1), .v (.int .i64 y44.2.2.2.1), .v (.int .i64 y44.2.2.2.2)])])) ?_ ?_
     ·intro y44 S hS h; cbv; revert h; refine fk ?_ ?_ <;> intro h <;> cbv
      ·revert h; refine ra fun c55 h => ?_; revert h; refine ra fun c56 h => ?_; revert h; refine ra fun c57 h => ?_; refine ai c57 ?_; revert h; refine rk0 (hf_spec_l12Array _ _) fun y58 h => ?_; cbv
       revert h; refine cu (fun y60 => some (sparse 84 [(1, .c (.v (.int .i64 a1))), (2, .c (.ptr 128 0)), (4, .c (.ptr 256 0)), (6, .c (.os 896 0 (LEN v6))), (7, .c (.os 960 0 (LEN v7))), (8, .c (.v (.int .i64 v5))), (9, .c (.ptr 576 0)), (11, .c (.bs (LEN (GD a0.fCells (A.toN v5)).fInstances) 8 (row GD (encInstance) (GD a0.fCells (A.toN v5)).fInstances))), (12, .c (.v (.int .i64 v25))), (13, .c (.ptr 832 0))] [(128, .var [.bs (LEN a0.fCells) 4 (row GD (encCell LEN GD) a0.fCells)]), (256, .var [.v (.int .i64 0), .v (.int .i64 0), .v (.int .i64 0), .v (.int .i64 0)]), (896, .arr .rw [] (LEN v6) 4 (row GD (encRect) v6)), (960, .arr .rw [] (LEN v7) 1 (row GD (encB) v7)), (576, .var [.v (.int .i64 v26), .v (.int .i64 v27), .v (.int .i64 v28), .v (.int .i64 v29)]), (832, .var [.v (.int .i64 y60.1), .v (.int .i64 y60.2.1), .v (.int .i64 y60.2.2.1), .v (.int .i64 y60.2.2.2)])])) ?_ ?_
       ·intro y60 S hS h; cbv; revert h; refine fk ?_ ?_ <;> intro h <;> cbv
        ·revert h; refine rk0 (hf_spec_l10Hull _ _) fun y70 h => ?_; cbv; exact dn
        exact dn
       rintro ⟨w66, w67, w68, w69⟩ h; replace h := oz (oz (oz (oz h))); dsimp only at h; cbv; exact dn
      exact dn
     rintro ⟨w50, w51, w52, w53, w54⟩ h; replace h := oz (oz (oz (oz (oz h)))); dsimp only at h; cbv; exact dm
    exact dx
   rintro ⟨w75, w76, w77, w78, w79⟩ h s q39; replace h := oz (oz (oz (oz (oz (oz h))))); dsimp only at h; cbv; refine ⟨_, q39, ?_⟩; cbv; revert h; refine rl fun l80 hl80 h => ?_; have e81 : 1 = LEN l80 := by subst hl80 hLEN; rfl
   refine ⟨_, (co e81), _, row GD (encRect) l80, e81, wkOf ?_, ?_⟩
   ·intro i hi j hj; rw [← e81] at hi; subst hl80; subst hGD; obtain rfl : i = 0 := (by omega) <;> obtain rfl | rfl | rfl | rfl : j = 0 ∨ j = 1 ∨ j = 2 ∨ j = 3 := (by omega)
    all_goals rfl
   cbv; revert h; refine rq fun c84 => rl fun l82 hl82 h => ?_; have e83 := nl hA hLEN hl82; refine ⟨c84, _, (co e83), _, row GD (encRect) l82, e83, wkOf ?_, ?_⟩
   ·subst hGD hLEN hA; exact app_os (off := 0) (pl_encRect) hl82 (Nat.le_refl _)
   cbv; revert h; refine rl fun l85 hl85 h => ?_; have e86 : 1 = LEN l85 := by subst hl85 hLEN; rfl
   refine ⟨_, (co e86), _, row GD (encB) l85, e86, wkOf ?_, ?_⟩
   ·intro i hi j hj; rw [← e86] at hi; subst hl85; subst hGD; obtain rfl : i = 0 := (by omega); all_goals obtain rfl : j = 0 := by omega
    all_goals rfl
   cbv; revert h; refine rq fun c89 => rl fun l87 hl87 h => ?_; have e88 := nl hA hLEN hl87; refine ⟨c89, _, (co e88), _, row GD (encB) l87, e88, wkOf ?_, ?_⟩
   ·subst hGD hLEN hA; exact app_os (off := 0) (fun _ _ => rfl) hl87 (Nat.le_refl _)
   cbv; exact dm
  exact dx
 rintro ⟨w91, w92⟩ h s q17; replace h := oz (oz (oz h)); dsimp only at h; cbv; refine ⟨_, q17, ?_⟩; cbv; revert h; refine ra fun c93 h => ?_; refine ai c93 ?_; revert h; refine ra fun c94 h => ?_; refine ai c94 ?_; exact df

/-- spec.l10After -/
noncomputable def F_spec_l10After (a0 : TTransform) (a1 : TTransform) : Option (TTransform) :=
 req (std.nz 4) <|
 req (std.nz 4) <|
 ((
    br (std.le 4 a0.fOrientation)
    (some (std.sub .i64 0 (std.rem a1.fOrientation 4), std.sub .i64 1 (std.quo .i64 a1.fOrientation 4)))
    (some (std.rem a1.fOrientation 4, std.quo .i64 a1.fOrientation 4))
  ) : Option (Int × Int)).bind fun y3 =>
 letO y3.1 fun w9 =>
 letO y3.2 fun w10 =>
 (F_spec_l10Point a0 (TPoint.mk a1.fX a1.fY)).bind fun y12 =>
 req (std.nz 4) <|
 req (std.nz 4) <|
 some (TTransform.mk (std.add .i64 (std.rem (std.add .i64 (std.add .i64 (std.rem a0.fOrientation 4) w9) 4) 4) (std.mul .i64 4 w10)) y12.fX y12.fY)
set_option maxHeartbeats 4000000 in
theorem run_spec_l10After (a0 : TTransform) (a1 : TTransform) (r : TTransform) (h : F_spec_l10After a0 a1 = some r) : Fun Try.prog 67 [.agg [.v (.int .i64 a0.fOrientation), .v (.int .i64 a0.fX), .v (.int .i64 a0.fY)], .agg [.v (.int .i64 a1.fOrientation), .v (.int .i64 a1.fX), .v (.int .i64 a1.fY)]] [] (.agg [.v (.int .i64 r.fOrientation), .v (.int .i64 r.fX), .v (.int .i64 r.fY)]) [] true := by
 refine ow [100016] Try.func67 Try.ntmps67 ?_ (hv := (fun _ => ⟨(by simp [AV.flat, AV.flat1, AC.flat]), trivial⟩)); unfold F_spec_l10After at h; have hf_spec_l10Point := @run_spec_l10Point; generalize hLEN : @len = LEN, hGD : @gd = GD, hA : std = A, hP : Try.prog = P at *; cbv; revert h; refine ra fun c1 h => ?_; revert h; refine ra fun c2 h => ?_
 revert h; refine cu (fun y3 => some (sparse 43 [(2, .c (.ptr 128 0)), (3, .c (.ptr 192 0)), (4, .c (.ptr 256 0)), (5, .c (.v (.int .i64 y3.1))), (6, .c (.v (.int .i64 y3.2)))] [(128, .var [.v (.int .i64 a0.fOrientation), .v (.int .i64 a0.fX), .v (.int .i64 a0.fY)]), (192, .var [.v (.int .i64 a1.fOrientation), .v (.int .i64 a1.fX), .v (.int .i64 a1.fY)]), (256, .var [.v (.int .i64 0), .v (.int .i64 0), .v (.int .i64 0)])])) (fun y3 S hS h => rg) ?_
 rintro ⟨w9, w10⟩ h; replace h := oz (oz h); dsimp only at h; cbv; revert h; refine rk0 (hf_spec_l10Point _ _) fun y12 h => ?_; cbv; revert h; refine ra fun c14 h => ?_; revert h; refine ra fun c15 h => ?_; exact df

/-- spec.l11Overlap -/
noncomputable def F_spec_l11Overlap (a0 : TRect) (a1 : TRect) : Option (Bool) :=
 ((
    br (std.lt a0.fX0 a1.fX1)
    (br (std.lt a1.fX0 a0.fX1)
    (br (std.lt a0.fY0 a1.fY1)
    (some (std.lt a1.fY0 a0.fY1))
    (some false))
    (some false))
    (some false)
  ) : Option (Bool)).bind fun y1 =>
 letO y1 fun w7 =>
 some w7
set_option maxHeartbeats 4000000 in
theorem run_spec_l11Overlap (a0 : TRect) (a1 : TRect) (r : Bool) (h : F_spec_l11Overlap a0 a1 = some r) : Fun Try.prog 69 [.agg [.v (.int .i64 a0.fX0), .v (.int .i64 a0.fY0), .v (.int .i64 a0.fX1), .v (.int .i64 a0.fY1)], .agg [.v (.int .i64 a1.fX0), .v (.int .i64 a1.fY0), .v (.int .i64 a1.fX1), .v (.int .i64 a1.fY1)]] [] (.c (.v (.bool r))) [] true := by
 refine ow [1] Try.func69 Try.ntmps69 ?_; unfold F_spec_l11Overlap at h; generalize hLEN : @len = LEN, hGD : @gd = GD, hA : std = A, hP : Try.prog = P at *; cbv; revert h; refine cu (fun y1 => (sparse 31 [(4, .c (.v (.bool y1)))] [])) (fun y1 S hS h => rg) fun w7 => rz fun h => ?_; cbv; exact df

noncomputable def L_spec_l12Visit_mbxbb_x44 (a0 : TLibrary) (a2 : TOccurrence) (a3 : TRect) (F_REC_spec_l12Visit_mbxbb : TLibrary → (List TOccurrence) → TOccurrence → TRect → Option (List TOccurrence)) (v26 : Int) (v8 : Int) (y23 : TRect × Bool) : (Int × Int × (List TOccurrence)) → Option ((Int × Int × (List TOccurrence)) ⊕ ((Int × (List TOccurrence)))) := fun x44 =>
 letO x44.1 fun v41 =>
 letO x44.2.1 fun v42 =>
 letO x44.2.2 fun v43 =>
 req (std.inR v8 (len (gd a0.fCells (std.toN a2.fCell)).fInstances)) <|
 br (std.lt v42 (gd (gd a0.fCells (std.toN a2.fCell)).fInstances (std.toN v8)).fColumns)
 (req (std.inR v8 (len (gd a0.fCells (std.toN a2.fCell)).fInstances)) <|
 (F_spec_l10Element (gd (gd a0.fCells (std.toN a2.fCell)).fInstances (std.toN v8)) v42 v26).bind fun y58 =>
 (F_spec_l10After a2.fPlace y58).bind fun y60 =>
 ((
    br y23.2
    ((F_spec_l10Rect y60 y23.1).bind fun y69 =>
    (F_spec_l11Overlap y69 a3).bind fun y71 =>
    some y71)
    (some false)
  ) : Option (Bool)).bind fun y62 =>
 letO y62 fun w68 =>
 ((
    br w68
    (letO ([] : List Int) fun l81 =>
    req (std.room (std.nadd (len l81) (len a2.fPath)) 8) <|
    letO (l81 ++ a2.fPath) fun l83 =>
    letO ([v41] : List Int) fun l86 =>
    req (std.room (std.nadd (len l83) (len l86)) 8) <|
    letO (l83 ++ l86) fun l88 =>
    req (std.inR v8 (len (gd a0.fCells (std.toN a2.fCell)).fInstances)) <|
    (F_REC_spec_l12Visit_mbxbb (TLibrary.mk a0.fCells) v43 (TOccurrence.mk (gd (gd a0.fCells (std.toN a2.fCell)).fInstances (std.toN v8)).fCell y60 l88) a3).bind fun y92 =>
    some y92)
    (some v43)
  ) : Option ((List TOccurrence))).bind fun y74 =>
 letO y74 fun w80 =>
 some (.inl (std.add .i64 v41 1, std.add .i64 v42 1, w80)))
 (some (.inr (v41, v43)))
noncomputable def L_spec_l12Visit_mbxbb_x28 (a0 : TLibrary) (a2 : TOccurrence) (a3 : TRect) (F_REC_spec_l12Visit_mbxbb : TLibrary → (List TOccurrence) → TOccurrence → TRect → Option (List TOccurrence)) (v8 : Int) (y23 : TRect × Bool) : (Int × Int × (List TOccurrence)) → Option ((Int × Int × (List TOccurrence)) ⊕ ((Int × (List TOccurrence)))) := fun x28 =>
 letO x28.1 fun v25 =>
 letO x28.2.1 fun v26 =>
 letO x28.2.2 fun v27 =>
 req (std.inR v8 (len (gd a0.fCells (std.toN a2.fCell)).fInstances)) <|
 br (std.lt v26 (gd (gd a0.fCells (std.toN a2.fCell)).fInstances (std.toN v8)).fRows)
 ((whileP (σ := Int × Int × (List TOccurrence)) (ρ := (Int × (List TOccurrence))) (L_spec_l12Visit_mbxbb_x44 a0 a2 a3 F_REC_spec_l12Visit_mbxbb v26 v8 y23) (v25, 0, v27)).bind fun y45 =>
 letO y45 fun y45k0 =>
 letO y45k0.1 fun w96 =>
 letO y45k0.2 fun w97 =>
 some (.inl (w96, std.add .i64 v26 1, w97)))
 (some (.inr (v25, v27)))
noncomputable def L_spec_l12Visit_mbxbb_x10 (a0 : TLibrary) (a2 : TOccurrence) (a3 : TRect) (F_REC_spec_l12Visit_mbxbb : TLibrary → (List TOccurrence) → TOccurrence → TRect → Option (List TOccurrence)) : (Int × Int × (List TOccurrence)) → Option ((Int × Int × (List TOccurrence)) ⊕ (((List TOccurrence)))) := fun x10 =>
 letO x10.1 fun v7 =>
 letO x10.2.1 fun v8 =>
 letO x10.2.2 fun v9 =>
 br (std.lt v8 (std.ofN (len (gd a0.fCells (std.toN a2.fCell)).fInstances)))
 (req (std.inR v8 (len (gd a0.fCells (std.toN a2.fCell)).fInstances)) <|
 (F_spec_l12Box (TLibrary.mk a0.fCells) (gd (gd a0.fCells (std.toN a2.fCell)).fInstances (std.toN v8)).fCell).bind fun y23 =>
 (whileP (σ := Int × Int × (List TOccurrence)) (ρ := (Int × (List TOccurrence))) (L_spec_l12Visit_mbxbb_x28 a0 a2 a3 F_REC_spec_l12Visit_mbxbb v8 y23) (v7, 0, v9)).bind fun y29 =>
 letO y29 fun y29k0 =>
 letO y29k0.1 fun w99 =>
 letO y29k0.2 fun w100 =>
 some (.inl (w99, std.add .i64 v8 1, w100)))
 (some (.inr v9))
/-- spec.l12Visit -/
noncomputable def FS_spec_l12Visit_mbxbb (F_REC_spec_l12Visit_mbxbb : TLibrary → (List TOccurrence) → TOccurrence → TRect → Option (List TOccurrence)) (a0 : TLibrary) (a1 : List TOccurrence) (a2 : TOccurrence) (a3 : TRect) : Option (List TOccurrence) :=
 letO ([a2] : List TOccurrence) fun l1 =>
 req (std.room (std.nadd (len a1) (len l1)) 56) <|
 letO (a1 ++ l1) fun l3 =>
 req (std.inR a2.fCell (len a0.fCells)) <|
 (whileP (σ := Int × Int × (List TOccurrence)) (ρ := ((List TOccurrence))) (L_spec_l12Visit_mbxbb_x10 a0 a2 a3 F_REC_spec_l12Visit_mbxbb) (0, 0, l3)).bind fun y11 =>
 letO y11 fun y11k0 =>
 letO y11k0 fun w102 =>
 some w102
set_option maxHeartbeats 4000000 in
theorem runS_spec_l12Visit_mbxbb (F_REC_spec_l12Visit_mbxbb : TLibrary → (List TOccurrence) → TOccurrence → TRect → Option (List TOccurrence)) (hf_REC_spec_l12Visit_mbxbb : ∀ (a0 : TLibrary) (a1 : List TOccurrence) (a2 : TOccurrence) (a3 : TRect) (r : List TOccurrence), F_REC_spec_l12Visit_mbxbb a0 a1 a2 a3 = some r → Fun Try.prog 50 [.agg [.bs (len a0.fCells) 4 (row gd (encCell len gd) a0.fCells)], .c (.os 5 0 (len a1)), .agg [.v (.int .i64 a2.fCell), .v (.int .i64 a2.fPlace.fOrientation), .v (.int .i64 a2.fPlace.fX), .v (.int .i64 a2.fPlace.fY), .bs (len a2.fPath) 1 (row gd (encI .i64) a2.fPath)], .agg [.v (.int .i64 a3.fX0), .v (.int .i64 a3.fY0), .v (.int .i64 a3.fX1), .v (.int .i64 a3.fY1)]] [(5, .arr .rw [] (len a1) 5 (row gd (encOccurrence len gd) a1))] (.c (.os 64000 0 (len r))) [(64000, .arr .rw [] (len r) 5 (row gd (encOccurrence len gd) r))] false) (a0 : TLibrary) (a1 : List TOccurrence) (a2 : TOccurrence) (a3 : TRect) (r : List TOccurrence) (h : FS_spec_l12Visit_mbxbb F_REC_spec_l12Visit_mbxbb a0 a1 a2 a3 = some r) : Fun Try.prog 50 [.agg [.bs (len a0.fCells) 4 (row gd (encCell len gd) a0.fCells)], .c (.os 5 0 (len a1)), .agg [.v (.int .i64 a2.fCell), .v (.int .i64 a2.fPlace.fOrientation), .v (.int .i64 a2.fPlace.fX), .v (.int .i64 a2.fPlace.fY), .bs (len a2.fPath) 1 (row gd (encI .i64) a2.fPath)], .agg [.v (.int .i64 a3.fX0), .v (.int .i64 a3.fY0), .v (.int .i64 a3.fX1), .v (.int .i64 a3.fY1)]] [(5, .arr .rw [] (len a1) 5 (row gd (encOccurrence len gd) a1))] (.c (.os 64000 0 (len r))) [(64000, .arr .rw [] (len r) 5 (row gd (encOccurrence len gd) r))] false := by
 refine ow [15, 100080] Try.func50 Try.ntmps50 ?_ (hw := ⟨fun i _ j _ k hk => (noref (plain_nil (pl_encOccurrence _ _)) hk).elim, trivial⟩) (hv := (fun h => by cases h)); unfold FS_spec_l12Visit_mbxbb at h; unfold L_spec_l12Visit_mbxbb_x10 at h; unfold L_spec_l12Visit_mbxbb_x28 at h; unfold L_spec_l12Visit_mbxbb_x44 at h; have hf_spec_l10After := @run_spec_l10After
 have hf_spec_l10Element := @run_spec_l10Element; have hf_spec_l10Rect := @run_spec_l10Rect; have hf_spec_l11Overlap := @run_spec_l11Overlap; have hf_spec_l12Box := @run_spec_l12Box; generalize hLEN : @len = LEN, hGD : @gd = GD, hA : std = A, hP : Try.prog = P at *; cbv; revert h; refine rl fun l1 hl1 h => ?_; have e2 : 1 = LEN l1 := by subst hl1 hLEN; rfl
 refine ⟨_, (co e2), _, row GD (encOccurrence LEN GD) l1, e2, wkOf ?_, ?_⟩
 ·intro i hi j hj; rw [← e2] at hi; subst hl1; subst hGD; obtain rfl : i = 0 := (by omega) <;> obtain rfl | rfl | rfl | rfl | rfl : j = 0 ∨ j = 1 ∨ j = 2 ∨ j = 3 ∨ j = 4 := (by omega)
  all_goals rfl
 cbv; revert h; refine rq fun c5 => rl fun l3 hl3 h => ?_; have e4 := nl hA hLEN hl3; refine ⟨c5, _, (co e4), _, row GD (encOccurrence LEN GD) l3, e4, wkOf ?_, ?_⟩
 ·subst hGD hLEN hA; exact app_os (off := 0) (pl_encOccurrence) hl3 (Nat.le_refl _)
 cbv; revert h; refine ra fun c6 h => ?_
 revert h; refine ln (.exit 0) (fun x => (sparse 103 [(1, .c (.os 62000 0 (LEN x.2.2))), (4, .c (.ptr 256 0)), (6, .c (.ptr 384 0)), (7, .c (.ptr 448 0)), (9, .c (.v (.int .i64 x.1))), (10, .c (.bs (LEN (GD a0.fCells (A.toN a2.fCell)).fInstances) 8 (row GD (encInstance) (GD a0.fCells (A.toN a2.fCell)).fInstances))), (11, .c (.v (.int .i64 x.2.1)))] [(62000, .arr .rw [] (LEN x.2.2) 5 (row GD (encOccurrence LEN GD) x.2.2)), (256, .var [.bs (LEN a0.fCells) 4 (row GD (encCell LEN GD) a0.fCells)]), (384, .var [.v (.int .i64 a2.fCell), .v (.int .i64 a2.fPlace.fOrientation), .v (.int .i64 a2.fPlace.fX), .v (.int .i64 a2.fPlace.fY), .bs (LEN a2.fPath) 1 (row GD (encI .i64) a2.fPath)]), (448, .var [.v (.int .i64 a3.fX0), .v (.int .i64 a3.fY0), .v (.int .i64 a3.fX1), .v (.int .i64 a3.fY1)])])) (fun w => (sparse 103 [(1, .c (.os 62000 0 (LEN w)))] [(62000, .arr .rw [] (LEN w) 5 (row GD (encOccurrence LEN GD) w))])) ?_ ?_ ?_
 ·show St.le _ _; refine St.le_trans (le_ren 1344 62000 (by decide) rfl) ?_; exact zb
 ·rintro ⟨v7, v8, v9⟩ z h K hK hY; replace h := oz (oz (oz h)); dsimp only at h; cbv; revert h; refine fk ?_ ?_ <;> intro h <;> cbv
  ·revert h; refine ra fun c22 h => ?_; revert h; refine rk0 (hf_spec_l12Box _ _) fun y23 h => ?_; cbv
   revert h; refine ln (.exit 2) (fun x => (sparse 103 [(1, .c (.os 62000 0 (LEN x.2.2))), (4, .c (.ptr 256 0)), (6, .c (.ptr 384 0)), (7, .c (.ptr 448 0)), (9, .c (.v (.int .i64 x.1))), (10, .c (.bs (LEN (GD a0.fCells (A.toN a2.fCell)).fInstances) 8 (row GD (encInstance) (GD a0.fCells (A.toN a2.fCell)).fInstances))), (11, .c (.v (.int .i64 v8))), (12, .c (.ptr 768 0)), (13, .c (.v (.bool y23.2))), (14, .c (.v (.int .i64 x.2.1)))] [(62000, .arr .rw [] (LEN x.2.2) 5 (row GD (encOccurrence LEN GD) x.2.2)), (256, .var [.bs (LEN a0.fCells) 4 (row GD (encCell LEN GD) a0.fCells)]), (384, .var [.v (.int .i64 a2.fCell), .v (.int .i64 a2.fPlace.fOrientation), .v (.int .i64 a2.fPlace.fX), .v (.int .i64 a2.fPlace.fY), .bs (LEN a2.fPath) 1 (row GD (encI .i64) a2.fPath)]), (448, .var [.v (.int .i64 a3.fX0), .v (.int .i64 a3.fY0), .v (.int .i64 a3.fX1), .v (.int .i64 a3.fY1)]), (768, .var [.v (.int .i64 y23.1.fX0), .v (.int .i64 y23.1.fY0), .v (.int .i64 y23.1.fX1), .v (.int .i64 y23.1.fY1)])])) (fun w => (sparse 103 [(1, .c (.os 62000 0 (LEN w.2))), (4, .c (.ptr 256 0)), (6, .c (.ptr 384 0)), (7, .c (.ptr 448 0)), (9, .c (.v (.int .i64 w.1))), (10, .c (.bs (LEN (GD a0.fCells (A.toN a2.fCell)).fInstances) 8 (row GD (encInstance) (GD a0.fCells (A.toN a2.fCell)).fInstances))), (11, .c (.v (.int .i64 v8)))] [(62000, .arr .rw [] (LEN w.2) 5 (row GD (encOccurrence LEN GD) w.2)), (256, .var [.bs (LEN a0.fCells) 4 (row GD (encCell LEN GD) a0.fCells)]), (384, .var [.v (.int .i64 a2.fCell), .v (.int .i64 a2.fPlace.fOrientation), .v (.int .i64 a2.fPlace.fX), .v (.int .i64 a2.fPlace.fY), .bs (LEN a2.fPath) 1 (row GD (encI .i64) a2.fPath)]), (448, .var [.v (.int .i64 a3.fX0), .v (.int .i64 a3.fY0), .v (.int .i64 a3.fX1), .v (.int .i64 a3.fY1)])])) zb ?_ ?_
   ·rintro ⟨v25, v26, v27⟩ z h K hK hY; replace h := oz (oz (oz h)); dsimp only at h; cbv; revert h; refine ra fun c40 h => ?_; revert h; refine fk ?_ ?_ <;> intro h <;> cbv
    ·revert h; refine ln (.exit 4) (fun x => (sparse 103 [(1, .c (.os 62000 0 (LEN x.2.2))), (4, .c (.ptr 256 0)), (6, .c (.ptr 384 0)), (7, .c (.ptr 448 0)), (9, .c (.v (.int .i64 x.1))), (10, .c (.bs (LEN (GD a0.fCells (A.toN a2.fCell)).fInstances) 8 (row GD (encInstance) (GD a0.fCells (A.toN a2.fCell)).fInstances))), (11, .c (.v (.int .i64 v8))), (12, .c (.ptr 768 0)), (13, .c (.v (.bool y23.2))), (14, .c (.v (.int .i64 v26))), (15, .c (.v (.int .i64 x.2.1)))] [(62000, .arr .rw [] (LEN x.2.2) 5 (row GD (encOccurrence LEN GD) x.2.2)), (256, .var [.bs (LEN a0.fCells) 4 (row GD (encCell LEN GD) a0.fCells)]), (384, .var [.v (.int .i64 a2.fCell), .v (.int .i64 a2.fPlace.fOrientation), .v (.int .i64 a2.fPlace.fX), .v (.int .i64 a2.fPlace.fY), .bs (LEN a2.fPath) 1 (row GD (encI .i64) a2.fPath)]), (448, .var [.v (.int .i64 a3.fX0), .v (.int .i64 a3.fY0), .v (.int .i64 a3.fX1), .v (.int .i64 a3.fY1)]), (768, .var [.v (.int .i64 y23.1.fX0), .v (.int .i64 y23.1.fY0), .v (.int .i64 y23.1.fX1), .v (.int .i64 y23.1.fY1)])])) (fun w => (sparse 103 [(1, .c (.os 62000 0 (LEN w.2))), (4, .c (.ptr 256 0)), (6, .c (.ptr 384 0)), (7, .c (.ptr 448 0)), (9, .c (.v (.int .i64 w.1))), (10, .c (.bs (LEN (GD a0.fCells (A.toN a2.fCell)).fInstances) 8 (row GD (encInstance) (GD a0.fCells (A.toN a2.fCell)).fInstances))), (11, .c (.v (.int .i64 v8))), (12, .c (.ptr 768 0)), (13, .c (.v (.bool y23.2))), (14, .c (.v (.int .i64 v26)))] [(62000, .arr .rw [] (LEN w.2) 5 (row GD (encOccurrence LEN GD) w.2)), (256, .var [.bs (LEN a0.fCells) 4 (row GD (encCell LEN GD) a0.fCells)]), (384, .var [.v (.int .i64 a2.fCell), .v (.int .i64 a2.fPlace.fOrientation), .v (.int .i64 a2.fPlace.fX), .v (.int .i64 a2.fPlace.fY), .bs (LEN a2.fPath) 1 (row GD (encI .i64) a2.fPath)]), (448, .var [.v (.int .i64 a3.fX0), .v (.int .i64 a3.fY0), .v (.int .i64 a3.fX1), .v (.int .i64 a3.fY1)]), (768, .var [.v (.int .i64 y23.1.fX0), .v (.int .i64 y23.1.fY0), .v (.int .i64 y23.1.fX1), .v (.int .i64 y23.1.fY1)])])) zb ?_ ?_
     ·rintro ⟨v41, v42, v43⟩ z h K hK hY; replace h := oz (oz (oz h)); dsimp only at h; cbv; revert h; refine ra fun c56 h => ?_; revert h; refine fk ?_ ?_ <;> intro h <;> cbv
      ·revert h; refine ra fun c57 h => ?_; revert h; refine rk0 (hf_spec_l10Element _ _ _) fun y58 h => ?_; cbv; revert h; refine rk0 (hf_spec_l10After _ _) fun y60 h => ?_; cbv
       revert h; refine cu (fun y62 => (sparse 103 [(1, .c (.os 62000 0 (LEN v43))), (4, .c (.ptr 256 0)), (6, .c (.ptr 384 0)), (7, .c (.ptr 448 0)), (9, .c (.v (.int .i64 v41))), (10, .c (.bs (LEN (GD a0.fCells (A.toN a2.fCell)).fInstances) 8 (row GD (encInstance) (GD a0.fCells (A.toN a2.fCell)).fInstances))), (11, .c (.v (.int .i64 v8))), (12, .c (.ptr 768 0)), (13, .c (.v (.bool y23.2))), (14, .c (.v (.int .i64 v26))), (15, .c (.v (.int .i64 v42))), (16, .c (.ptr 1024 0)), (80, .c (.v (.bool y62)))] [(62000, .arr .rw [] (LEN v43) 5 (row GD (encOccurrence LEN GD) v43)), (256, .var [.bs (LEN a0.fCells) 4 (row GD (encCell LEN GD) a0.fCells)]), (384, .var [.v (.int .i64 a2.fCell), .v (.int .i64 a2.fPlace.fOrientation), .v (.int .i64 a2.fPlace.fX), .v (.int .i64 a2.fPlace.fY), .bs (LEN a2.fPath) 1 (row GD (encI .i64) a2.fPath)]), (448, .var [.v (.int .i64 a3.fX0), .v (.int .i64 a3.fY0), .v (.int .i64 a3.fX1), .v (.int .i64 a3.fY1)]), (768, .var [.v (.int .i64 y23.1.fX0), .v (.int .i64 y23.1.fY0), .v (.int .i64 y23.1.fX1), .v (.int .i64 y23.1.fY1)]), (1024, .var [.v (.int .i64 y60.fOrientation), .v (.int .i64 y60.fX), .v (.int .i64 y60.fY)])])) ?_ fun w68 => rz fun h => ?_
       ·intro y62 S hS h; cbv; revert h; refine fk ?_ ?_ <;> intro h <;> cbv
        ·revert h; refine rk0 (hf_spec_l10Rect _ _) fun y69 h => ?_; cbv; revert h; refine rk0 (hf_spec_l11Overlap _ _) fun y71 h => ?_; cbv; exact dn
        exact dn
       cbv
       revert h; refine cu (fun y74 => some (sparse 103 [(1, .c (.os 6336 0 (LEN y74))), (4, .c (.ptr 256 0)), (6, .c (.ptr 384 0)), (7, .c (.ptr 448 0)), (9, .c (.v (.int .i64 v41))), (10, .c (.bs (LEN (GD a0.fCells (A.toN a2.fCell)).fInstances) 8 (row GD (encInstance) (GD a0.fCells (A.toN a2.fCell)).fInstances))), (11, .c (.v (.int .i64 v8))), (12, .c (.ptr 768 0)), (13, .c (.v (.bool y23.2))), (14, .c (.v (.int .i64 v26))), (15, .c (.v (.int .i64 v42)))] [(6336, .arr .rw [] (LEN y74) 5 (row GD (encOccurrence LEN GD) y74)), (256, .var [.bs (LEN a0.fCells) 4 (row GD (encCell LEN GD) a0.fCells)]), (384, .var [.v (.int .i64 a2.fCell), .v (.int .i64 a2.fPlace.fOrientation), .v (.int .i64 a2.fPlace.fX), .v (.int .i64 a2.fPlace.fY), .bs (LEN a2.fPath) 1 (row GD (encI .i64) a2.fPath)]), (448, .var [.v (.int .i64 a3.fX0), .v (.int .i64 a3.fY0), .v (.int .i64 a3.fX1), .v (.int .i64 a3.fY1)]), (768, .var [.v (.int .i64 y23.1.fX0), .v (.int .i64 y23.1.fY0), .v (.int .i64 y23.1.fX1), .v (.int .i64 y23.1.fY1)])])) ?_ fun w80 => rz fun h => ?_
       ·intro y74 S hS h; cbv; revert h; refine fk ?_ ?_ <;> intro h <;> cbv
        ·revert h; refine rl fun l81 hl81 h => ?_; have e82 : 0 = LEN l81 := by subst hl81 hLEN; rfl
         refine ⟨_, (co e82), _, row GD (encI .i64) l81, e82, wkOf ?_, ?_⟩
         ·intro i hi j hj; rw [← e82] at hi; subst hl81; subst hGD; omega
         cbv; revert h; refine rq fun c85 => rl fun l83 hl83 h => ?_; have e84 := nl hA hLEN hl83; refine ⟨c85, _, (co e84), _, row GD (encI .i64) l83, e84, wkOf ?_, ?_⟩
         ·subst hGD hLEN hA; exact app_bs (fun _ _ => rfl) hl83 (Nat.le_refl _)
         cbv; revert h; refine rl fun l86 hl86 h => ?_; have e87 : 1 = LEN l86 := by subst hl86 hLEN; rfl
         refine ⟨_, (co e87), _, row GD (encI .i64) l86, e87, wkOf ?_, ?_⟩
         ·intro i hi j hj; rw [← e87] at hi; subst hl86; subst hGD; obtain rfl : i = 0 := (by omega); all_goals obtain rfl : j = 0 := by omega
          all_goals rfl
         cbv; revert h; refine rq fun c90 => rl fun l88 hl88 h => ?_; have e89 := nl hA hLEN hl88; refine ⟨c90, _, (co e89), _, row GD (encI .i64) l88, e89, wkOf ?_, ?_⟩
         ·subst hGD hLEN hA; exact app_os (off := 0) (fun _ _ => rfl) hl88 (Nat.le_refl _)
         cbv; revert h; refine ra fun c91 h => ?_
         revert h; refine rk [(5, 62000)] [(64000, 6336)] (hf_REC_spec_l12Visit_mbxbb _ _ _ _) (fun _ => zg (les_cons (lR _) (les_cons (lR _) (les_cons (le_agg ⟨lR _, lR _, lR _, lR _, give_os (fun _ _ => rfl) rfl rfl rfl, trivial⟩) (les_cons (lR _) (les_nil)))))) fun y92 h => ⟨_, rfl, _, _, rfl, fun _ _ _ _ => .refl _, _, _, rfl, fun _ _ _ _ => .refl _, ?_⟩
         cbv; exact dn
        injection h with h; subst h; subst hS; show St.le _ _; refine St.le_trans (le_ren 62000 6336 (by decide) rfl) ?_; exact zb
       cbv; injection h with h; refine hK _ h.symm _ ?_; refine St.le_trans (le_ren 6336 62000 (by decide) rfl) ?_; exact zb
      exact dx
     rintro ⟨w96, w97⟩ h s q53; replace h := oz (oz (oz h)); dsimp only at h; cbv; refine ⟨_, q53, ?_⟩; cbv; exact dm
    exact dx
   rintro ⟨w99, w100⟩ h s q37; replace h := oz (oz (oz h)); dsimp only at h; cbv; refine ⟨_, q37, ?_⟩; cbv; exact dm
  exact dx
 intro w102 h s q19; replace h := oz (oz h); cbv; refine ⟨_, q19, ?_⟩; cbv; injection h with h; subst h; exact ⟨_, le_ren 62000 64000 (by decide) rfl, lR _, zo, rfl⟩
/-- as deep as this -/
noncomputable def FR_spec_l12Visit_mbxbb : Nat → TLibrary → (List TOccurrence) → TOccurrence → TRect → Option (List TOccurrence)
 | 0 => fun _ _ _ _ => none
 | k + 1 => FS_spec_l12Visit_mbxbb (FR_spec_l12Visit_mbxbb k)
theorem runR_spec_l12Visit_mbxbb : ∀ (k : Nat) (a0 : TLibrary) (a1 : List TOccurrence) (a2 : TOccurrence) (a3 : TRect) (r : List TOccurrence), FR_spec_l12Visit_mbxbb k a0 a1 a2 a3 = some r → Fun Try.prog 50 [.agg [.bs (len a0.fCells) 4 (row gd (encCell len gd) a0.fCells)], .c (.os 5 0 (len a1)), .agg [.v (.int .i64 a2.fCell), .v (.int .i64 a2.fPlace.fOrientation), .v (.int .i64 a2.fPlace.fX), .v (.int .i64 a2.fPlace.fY), .bs (len a2.fPath) 1 (row gd (encI .i64) a2.fPath)], .agg [.v (.int .i64 a3.fX0), .v (.int .i64 a3.fY0), .v (.int .i64 a3.fX1), .v (.int .i64 a3.fY1)]] [(5, .arr .rw [] (len a1) 5 (row gd (encOccurrence len gd) a1))] (.c (.os 64000 0 (len r))) [(64000, .arr .rw [] (len r) 5 (row gd (encOccurrence len gd) r))] false := by
 intro k
 induction k with
 | zero => intro a0 a1 a2 a3 r h; cases h
 | succ k ih => exact fun a0 a1 a2 a3 r h => runS_spec_l12Visit_mbxbb (FR_spec_l12Visit_mbxbb k) ih a0 a1 a2 a3 r h
/-- spec.l12Visit -/
noncomputable def F_spec_l12Visit_mbxbb (a0 : TLibrary) (a1 : List TOccurrence) (a2 : TOccurrence) (a3 : TRect) : Option (List TOccurrence) := FR_spec_l12Visit_mbxbb 64 a0 a1 a2 a3
theorem run_spec_l12Visit_mbxbb (a0 : TLibrary) (a1 : List TOccurrence) (a2 : TOccurrence) (a3 : TRect) (r : List TOccurrence) (h : F_spec_l12Visit_mbxbb a0 a1 a2 a3 = some r) : Fun Try.prog 50 [.agg [.bs (len a0.fCells) 4 (row gd (encCell len gd) a0.fCells)], .c (.os 5 0 (len a1)), .agg [.v (.int .i64 a2.fCell), .v (.int .i64 a2.fPlace.fOrientation), .v (.int .i64 a2.fPlace.fX), .v (.int .i64 a2.fPlace.fY), .bs (len a2.fPath) 1 (row gd (encI .i64) a2.fPath)], .agg [.v (.int .i64 a3.fX0), .v (.int .i64 a3.fY0), .v (.int .i64 a3.fX1), .v (.int .i64 a3.fY1)]] [(5, .arr .rw [] (len a1) 5 (row gd (encOccurrence len gd) a1))] (.c (.os 64000 0 (len r))) [(64000, .arr .rw [] (len r) 5 (row gd (encOccurrence len gd) r))] false := runR_spec_l12Visit_mbxbb 64 a0 a1 a2 a3 r h
end Go.Proofs.Ytpobpihakgegbaa.AM
