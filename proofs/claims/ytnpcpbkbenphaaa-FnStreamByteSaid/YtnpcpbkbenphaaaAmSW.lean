/-
  What the functions that the law reaches compute, and that they do. No condition.
-/
import Derived.Test.YtnpcpbkbenphaaaAmSV
namespace Go.Proofs.Ytnpcpbkbenphaaa.AM
open Go Go.Proofs Go.RowKit
set_option linter.unusedVariables false
set_option linter.unusedSimpArgs false
set_option maxRecDepth 100000

/-- spec.l09Transform -/
noncomputable def F_spec_l09Transform (a0 : TTransform) : Option (Bool) :=
 ((
    (F_spec_l09In a0.fOrientation 0 7).bind fun y8 =>
    br y8
    ((F_spec_l09In a0.fX (-80) 80).bind fun y10 =>
    br y10
    ((F_spec_l09In a0.fY (-80) 80).bind fun y12 =>
    some y12)
    (some false))
    (some false)
  ) : Option (Bool)).bind fun y1 =>
 letO y1 fun w7 =>
 some w7
set_option maxHeartbeats 4000000 in
theorem run_spec_l09Transform (a0 : TTransform) (r : Bool) (h : F_spec_l09Transform a0 = some r) : Fun Try.prog 78 [.agg [.v (.int .i64 a0.fOrientation), .v (.int .i64 a0.fX), .v (.int .i64 a0.fY)]] [] (.c (.v (.bool r))) [] true := by
 refine ow [1] Try.func78 Try.ntmps78 ?_; unfold F_spec_l09Transform at h; have hf_spec_l09In := @run_spec_l09In; generalize hLEN : @len = LEN, hGD : @gd = GD, hA : std = A, hP : Try.prog = P at *; cbv; revert h; refine cu (fun y1 => (sparse 16 [(2, .c (.v (.bool y1)))] [])) ?_ fun w7 => rz fun h => ?_
 ·intro y1 S hS h; cbv; revert h; refine rk0 (hf_spec_l09In _ _ _) fun y8 h => ?_; cbv; revert h; refine fk ?_ ?_ <;> intro h <;> cbv
  ·revert h; refine rk0 (hf_spec_l09In _ _ _) fun y10 h => ?_; cbv; revert h; refine fk ?_ ?_ <;> intro h <;> cbv
   ·revert h; refine rk0 (hf_spec_l09In _ _ _) fun y12 h => ?_; cbv; exact dn
   exact dn
  exact dn
 cbv; exact df

/-- spec.l09Instance -/
noncomputable def F_spec_l09Instance (a0 : TInstance) (a1 : Int) : Option (Bool) :=
 ((
    (F_spec_l09In a0.fCell 0 (std.sub .i64 a1 1)).bind fun y8 =>
    br (!(y8))
    (some true)
    ((F_spec_l09Transform a0.fPlace).bind fun y10 =>
    br (!(y10))
    (some true)
    ((F_spec_l09In a0.fColumns 1 4).bind fun y12 =>
    br (!(y12))
    (some true)
    ((F_spec_l09In a0.fRows 1 4).bind fun y14 =>
    some (!(y14)))))
  ) : Option (Bool)).bind fun y1 =>
 letO y1 fun w7 =>
 br w7
 (some false)
 (((
    (F_spec_l09In a0.fStepX (-80) 80).bind fun y26 =>
    br (!(y26))
    (some true)
    ((F_spec_l09In a0.fStepY (-80) 80).bind fun y28 =>
    some (!(y28)))
  ) : Option (Bool)).bind fun y19 =>
 letO y19 fun w25 =>
 br w25
 (some false)
 (((
    br (std.lt 1 a0.fColumns)
    (br (std.lt 1 a0.fRows)
    (some true)
    (some (std.eq a0.fStepY 0)))
    (br (std.eq a0.fStepX 0)
    (br (std.lt 1 a0.fRows)
    (some true)
    (some (std.eq a0.fStepY 0)))
    (some false))
  ) : Option (Bool)).bind fun y31 =>
 letO y31 fun w37 =>
 some w37))
set_option maxHeartbeats 4000000 in
theorem run_spec_l09Instance (a0 : TInstance) (a1 : Int) (r : Bool) (h : F_spec_l09Instance a0 a1 = some r) : Fun Try.prog 49 [.agg [.v (.int .i64 a0.fCell), .v (.int .i64 a0.fPlace.fOrientation), .v (.int .i64 a0.fPlace.fX), .v (.int .i64 a0.fPlace.fY), .v (.int .i64 a0.fColumns), .v (.int .i64 a0.fRows), .v (.int .i64 a0.fStepX), .v (.int .i64 a0.fStepY)], .c (.v (.int .i64 a1))] [] (.c (.v (.bool r))) [] true := by
 refine ow [1, 3, 5] Try.func49 Try.ntmps49 ?_; unfold F_spec_l09Instance at h; have hf_spec_l09In := @run_spec_l09In; have hf_spec_l09Transform := @run_spec_l09Transform; generalize hLEN : @len = LEN, hGD : @gd = GD, hA : std = A, hP : Try.prog = P at *; cbv
 revert h; refine cu (fun y1 => (sparse 57 [(2, .c (.ptr 128 0)), (28, .c (.v (.bool y1)))] [(128, .var [.v (.int .i64 a0.fCell), .v (.int .i64 a0.fPlace.fOrientation), .v (.int .i64 a0.fPlace.fX), .v (.int .i64 a0.fPlace.fY), .v (.int .i64 a0.fColumns), .v (.int .i64 a0.fRows), .v (.int .i64 a0.fStepX), .v (.int .i64 a0.fStepY)])])) ?_ fun w7 => rz fun h => ?_
 ·intro y1 S hS h; cbv; revert h; refine rk0 (hf_spec_l09In _ _ _) fun y8 h => ?_; cbv; revert h; refine fk ?_ ?_ <;> intro h <;> cbv
  ·exact dn
  revert h; refine rk0 (hf_spec_l09Transform _) fun y10 h => ?_; cbv; revert h; refine fk ?_ ?_ <;> intro h <;> cbv
  ·exact dn
  revert h; refine rk0 (hf_spec_l09In _ _ _) fun y12 h => ?_; cbv; revert h; refine fk ?_ ?_ <;> intro h <;> cbv
  ·exact dn
  revert h; refine rk0 (hf_spec_l09In _ _ _) fun y14 h => ?_; cbv; exact dn
 cbv; revert h; refine fk ?_ ?_ <;> intro h <;> cbv
 ·exact df
 revert h; refine cu (fun y19 => (sparse 57 [(2, .c (.ptr 128 0)), (38, .c (.v (.bool y19)))] [(128, .var [.v (.int .i64 a0.fCell), .v (.int .i64 a0.fPlace.fOrientation), .v (.int .i64 a0.fPlace.fX), .v (.int .i64 a0.fPlace.fY), .v (.int .i64 a0.fColumns), .v (.int .i64 a0.fRows), .v (.int .i64 a0.fStepX), .v (.int .i64 a0.fStepY)])])) ?_ fun w25 => rz fun h => ?_
 ·intro y19 S hS h; cbv; revert h; refine rk0 (hf_spec_l09In _ _ _) fun y26 h => ?_; cbv; revert h; refine fk ?_ ?_ <;> intro h <;> cbv
  ·exact dn
  revert h; refine rk0 (hf_spec_l09In _ _ _) fun y28 h => ?_; cbv; exact dn
 cbv; revert h; refine fk ?_ ?_ <;> intro h <;> cbv
 ·exact df
 revert h; refine cu (fun y31 => (sparse 57 [(4, .c (.v (.bool y31)))] [])) (fun y31 S hS h => rg) fun w37 => rz fun h => ?_; cbv; exact df

noncomputable def L_spec_l09Cell_x52 (a0 : TCell) (a1 : Int) : (Int) → Option ((Int) ⊕ ((Bool) ⊕ (Unit))) := fun x52 =>
 letO x52 fun v51 =>
 br (std.lt v51 (std.ofN (len a0.fInstances)))
 (req (std.inR v51 (len a0.fInstances)) <|
 (F_spec_l09Instance (gd a0.fInstances (std.toN v51)) a1).bind fun y65 =>
 br (!(y65))
 (some (.inr (.inl false)))
 (some (.inl (std.add .i64 v51 1))))
 (some (.inr (.inr ())))
noncomputable def L_spec_l09Cell_x33 (a0 : TCell) : (Int) → Option ((Int) ⊕ ((Bool) ⊕ (Unit))) := fun x33 =>
 letO x33 fun v32 =>
 br (std.lt v32 (std.ofN (len a0.fLabels)))
 (req (std.inR v32 (len a0.fLabels)) <|
 (F_spec_l09Label (gd a0.fLabels (std.toN v32))).bind fun y46 =>
 br (!(y46))
 (some (.inr (.inl false)))
 (some (.inl (std.add .i64 v32 1))))
 (some (.inr (.inr ())))
noncomputable def L_spec_l09Cell_x14 (a0 : TCell) : (Int) → Option ((Int) ⊕ ((Bool) ⊕ (Unit))) := fun x14 =>
 letO x14 fun v13 =>
 br (std.lt v13 (std.ofN (len a0.fShapes)))
 (req (std.inR v13 (len a0.fShapes)) <|
 (F_spec_l09Shape (gd a0.fShapes (std.toN v13))).bind fun y27 =>
 br (!(y27))
 (some (.inr (.inl false)))
 (some (.inl (std.add .i64 v13 1))))
 (some (.inr (.inr ())))
/-- spec.l09Cell -/
noncomputable def F_spec_l09Cell (a0 : TCell) (a1 : Int) : Option (Bool) :=
 ((
    (F_spec_IsName a0.fName).bind fun y8 =>
    br (!(y8))
    (some true)
    (br (std.lt 24 (std.ofN (len a0.fShapes)))
    (some true)
    (br (std.lt 8 (std.ofN (len a0.fLabels)))
    (some true)
    (some (std.lt 8 (std.ofN (len a0.fInstances))))))
  ) : Option (Bool)).bind fun y1 =>
 letO y1 fun w7 =>
 br w7
 (some false)
 ((whileP (σ := Int) (ρ := (Bool) ⊕ (Unit)) (L_spec_l09Cell_x14 a0) 0).bind fun y15 =>
 (match y15 with
  | .inl y15k0 => (
    letO y15k0 fun w31 =>
    some w31)
  | .inr y15m0 =>
    (whileP (σ := Int) (ρ := (Bool) ⊕ (Unit)) (L_spec_l09Cell_x33 a0) 0).bind fun y34 =>
    (match y34 with
     | .inl y34k0 => (
       letO y34k0 fun w50 =>
       some w50)
     | .inr y34m0 =>
       (whileP (σ := Int) (ρ := (Bool) ⊕ (Unit)) (L_spec_l09Cell_x52 a0 a1) 0).bind fun y53 =>
       (match y53 with
        | .inl y53k0 => (
          letO y53k0 fun w69 =>
          some w69)
        | .inr y53m0 =>
          some true))))
set_option maxHeartbeats 4000000 in
theorem run_spec_l09Cell (a0 : TCell) (a1 : Int) (r : Bool) (h : F_spec_l09Cell a0 a1 = some r) : Fun Try.prog 30 [.agg [.v (.string a0.fName), .bs (len a0.fShapes) 5 (row gd (encShape) a0.fShapes), .bs (len a0.fLabels) 4 (row gd (encLabel) a0.fLabels), .bs (len a0.fInstances) 8 (row gd (encInstance) a0.fInstances)], .c (.v (.int .i64 a1))] [] (.c (.v (.bool r))) [] true := by
 refine ow [1] Try.func30 Try.ntmps30 ?_; unfold F_spec_l09Cell at h; unfold L_spec_l09Cell_x14 at h; unfold L_spec_l09Cell_x33 at h; unfold L_spec_l09Cell_x52 at h; have hf_spec_IsName := @run_spec_IsName; have hf_spec_l09Instance := @run_spec_l09Instance; have hf_spec_l09Label := @run_spec_l09Label; have hf_spec_l09Shape := @run_spec_l09Shape
 generalize hLEN : @len = LEN, hGD : @gd = GD, hA : std = A, hP : Try.prog = P at *; cbv
 revert h; refine cu (fun y1 => (sparse 73 [(1, .c (.v (.int .i64 a1))), (2, .c (.ptr 128 0)), (29, .c (.v (.bool y1)))] [(128, .var [.v (.string a0.fName), .bs (LEN a0.fShapes) 5 (row GD (encShape) a0.fShapes), .bs (LEN a0.fLabels) 4 (row GD (encLabel) a0.fLabels), .bs (LEN a0.fInstances) 8 (row GD (encInstance) a0.fInstances)])])) ?_ fun w7 => rz fun h => ?_
 ·intro y1 S hS h; cbv; revert h; refine rk0 (hf_spec_IsName _) fun y8 h => ?_; cbv; revert h; refine fk ?_ ?_ <;> intro h <;> cbv
  ·exact dn
  revert h; refine fk ?_ ?_ <;> intro h <;> cbv
  ·exact dn
  revert h; refine fk ?_ ?_ <;> intro h <;> cbv
  ·exact dn
  exact dn
 cbv; revert h; refine fk ?_ ?_ <;> intro h <;> cbv
 ·exact df
 revert h; refine lc (fun x => (sparse 73 [(1, .c (.v (.int .i64 a1))), (2, .c (.ptr 128 0)), (5, .c (.v (.int .i64 x)))] [(128, .var [.v (.string a0.fName), .bs (LEN a0.fShapes) 5 (row GD (encShape) a0.fShapes), .bs (LEN a0.fLabels) 4 (row GD (encLabel) a0.fLabels), .bs (LEN a0.fInstances) 8 (row GD (encInstance) a0.fInstances)])])) (fun y e s => (match y with | .inl w => e = .ret ∧ s.le (sparse 73 [(4, .c (.v (.bool w)))] []) | .inr w0 => (fun (w : Unit) => e = .exit 0 ∧ s.le (sparse 73 [(1, .c (.v (.int .i64 a1))), (2, .c (.ptr 128 0))] [(128, .var [.v (.string a0.fName), .bs (LEN a0.fShapes) 5 (row GD (encShape) a0.fShapes), .bs (LEN a0.fLabels) 4 (row GD (encLabel) a0.fLabels), .bs (LEN a0.fInstances) 8 (row GD (encInstance) a0.fInstances)])])) w0)) zb ?_ ?_
 ·intro v13 z h K hK hY; replace h := oz h; cbv; revert h; refine fk ?_ ?_ <;> intro h <;> cbv
  ·revert h; refine ra fun c26 h => ?_; revert h; refine rk0 (hf_spec_l09Shape _) fun y27 h => ?_; cbv; revert h; refine fk ?_ ?_ <;> intro h <;> cbv
   ·exact dy
   exact dm
  exact dy
 intro y15 h e24 s25 q23 hne; rcases y15 with y15k0 | y15m0
 ·replace h := h; obtain ⟨rfl, q23⟩ := q23; revert h; refine rz fun h => ?_; cbv; injection h with h; subst h; exact ⟨_, q23, lR _, zo, rfl⟩
 ·obtain ⟨rfl, q23⟩ := q23; cbv; refine ⟨_, q23, ?_⟩; cbv
  revert h; refine lc (fun x => (sparse 73 [(1, .c (.v (.int .i64 a1))), (2, .c (.ptr 128 0)), (6, .c (.v (.int .i64 x)))] [(128, .var [.v (.string a0.fName), .bs (LEN a0.fShapes) 5 (row GD (encShape) a0.fShapes), .bs (LEN a0.fLabels) 4 (row GD (encLabel) a0.fLabels), .bs (LEN a0.fInstances) 8 (row GD (encInstance) a0.fInstances)])])) (fun y e s => (match y with | .inl w => e = .ret ∧ s.le (sparse 73 [(4, .c (.v (.bool w)))] []) | .inr w0 => (fun (w : Unit) => e = .exit 2 ∧ s.le (sparse 73 [(1, .c (.v (.int .i64 a1))), (2, .c (.ptr 128 0))] [(128, .var [.v (.string a0.fName), .bs (LEN a0.fShapes) 5 (row GD (encShape) a0.fShapes), .bs (LEN a0.fLabels) 4 (row GD (encLabel) a0.fLabels), .bs (LEN a0.fInstances) 8 (row GD (encInstance) a0.fInstances)])])) w0)) zb ?_ ?_
  ·intro v32 z h K hK hY; replace h := oz h; cbv; revert h; refine fk ?_ ?_ <;> intro h <;> cbv
   ·revert h; refine ra fun c45 h => ?_; revert h; refine rk0 (hf_spec_l09Label _) fun y46 h => ?_; cbv; revert h; refine fk ?_ ?_ <;> intro h <;> cbv
    ·exact dy
    exact dm
   exact dy
  intro y34 h e43 s44 q42 hne; rcases y34 with y34k0 | y34m0
  ·replace h := h; obtain ⟨rfl, q42⟩ := q42; revert h; refine rz fun h => ?_; cbv; injection h with h; subst h; exact ⟨_, q42, lR _, zo, rfl⟩
  ·obtain ⟨rfl, q42⟩ := q42; cbv; refine ⟨_, q42, ?_⟩; cbv
   revert h; refine lc (fun x => (sparse 73 [(1, .c (.v (.int .i64 a1))), (2, .c (.ptr 128 0)), (7, .c (.v (.int .i64 x)))] [(128, .var [.v (.string a0.fName), .bs (LEN a0.fShapes) 5 (row GD (encShape) a0.fShapes), .bs (LEN a0.fLabels) 4 (row GD (encLabel) a0.fLabels), .bs (LEN a0.fInstances) 8 (row GD (encInstance) a0.fInstances)])])) (fun y e s => (match y with | .inl w => e = .ret ∧ s.le (sparse 73 [(4, .c (.v (.bool w)))] []) | .inr w0 => (fun (w : Unit) => e = .exit 4 ∧ s.le (sparse 73 [] [])) w0)) zb ?_ ?_
   ·intro v51 z h K hK hY; replace h := oz h; cbv; revert h; refine fk ?_ ?_ <;> intro h <;> cbv
    ·revert h; refine ra fun c64 h => ?_; revert h; refine rk0 (hf_spec_l09Instance _ _) fun y65 h => ?_; cbv; revert h; refine fk ?_ ?_ <;> intro h <;> cbv
     ·exact dy
     exact dm
    exact dy
   intro y53 h e62 s63 q61 hne; rcases y53 with y53k0 | y53m0
   ·replace h := h; obtain ⟨rfl, q61⟩ := q61; revert h; refine rz fun h => ?_; cbv; injection h with h; subst h; exact ⟨_, q61, lR _, zo, rfl⟩
   ·obtain ⟨rfl, q61⟩ := q61; cbv; refine ⟨_, q61, ?_⟩; cbv; exact df

noncomputable def L_spec_IsValidLibrary_x26 (a0 : TLibrary) (v9 : Int) : (Int) → Option ((Int) ⊕ ((Bool) ⊕ (Unit))) := fun x26 =>
 letO x26 fun v25 =>
 br (std.lt v25 v9)
 (req (std.inR v25 (len a0.fCells)) <|
 req (std.inR v9 (len a0.fCells)) <|
 br (std.seq (gd a0.fCells (std.toN v25)).fName (gd a0.fCells (std.toN v9)).fName)
 (some (.inr (.inl false)))
 (some (.inl (std.add .i64 v25 1))))
 (some (.inr (.inr ())))
noncomputable def L_spec_IsValidLibrary_x10 (a0 : TLibrary) : (Int) → Option ((Int) ⊕ ((Bool) ⊕ (Unit))) := fun x10 =>
 letO x10 fun v9 =>
 br (std.lt v9 (std.ofN (len a0.fCells)))
 (req (std.inR v9 (len a0.fCells)) <|
 (F_spec_l09Cell (gd a0.fCells (std.toN v9)) v9).bind fun y23 =>
 br (!(y23))
 (some (.inr (.inl false)))
 ((whileP (σ := Int) (ρ := (Bool) ⊕ (Unit)) (L_spec_IsValidLibrary_x26 a0 v9) 0).bind fun y27 =>
 (match y27 with
  | .inl y27k0 => (
    letO y27k0 fun w42 =>
    some (.inr (.inl w42)))
  | .inr y27m0 =>
    some (.inl (std.add .i64 v9 1)))))
 (some (.inr (.inr ())))
/-- spec.IsValidLibrary -/
noncomputable def F_spec_IsValidLibrary (a0 : TLibrary) : Option (Bool) :=
 ((
    br (std.lt (std.ofN (len a0.fCells)) 1)
    (some true)
    (some (std.lt 8 (std.ofN (len a0.fCells))))
  ) : Option (Bool)).bind fun y1 =>
 letO y1 fun w7 =>
 br w7
 (some false)
 ((whileP (σ := Int) (ρ := (Bool) ⊕ (Unit)) (L_spec_IsValidLibrary_x10 a0) 0).bind fun y11 =>
 (match y11 with
  | .inl y11k0 => (
    letO y11k0 fun w45 =>
    some w45)
  | .inr y11m0 =>
    some true))
set_option maxHeartbeats 4000000 in
theorem run_spec_IsValidLibrary (a0 : TLibrary) (r : Bool) (h : F_spec_IsValidLibrary a0 = some r) : Fun Try.prog 14 [.agg [.bs (len a0.fCells) 4 (row gd (encCell len gd) a0.fCells)]] [] (.c (.v (.bool r))) [] true := by
 refine ow [1] Try.func14 Try.ntmps14 ?_; unfold F_spec_IsValidLibrary at h; unfold L_spec_IsValidLibrary_x10 at h; unfold L_spec_IsValidLibrary_x26 at h; have hf_spec_l09Cell := @run_spec_l09Cell; generalize hLEN : @len = LEN, hGD : @gd = GD, hA : std = A, hP : Try.prog = P at *; cbv
 revert h; refine cu (fun y1 => (sparse 48 [(1, .c (.ptr 64 0)), (14, .c (.v (.bool y1)))] [(64, .var [.bs (LEN a0.fCells) 4 (row GD (encCell LEN GD) a0.fCells)])])) (fun y1 S hS h => rg) fun w7 => rz fun h => ?_; cbv; revert h; refine fk ?_ ?_ <;> intro h <;> cbv
 ·exact df
 revert h; refine lc (fun x => (sparse 48 [(1, .c (.ptr 64 0)), (3, .c (.v (.int .i64 x)))] [(64, .var [.bs (LEN a0.fCells) 4 (row GD (encCell LEN GD) a0.fCells)])])) (fun y e s => (match y with | .inl w => e = .ret ∧ s.le (sparse 48 [(2, .c (.v (.bool w)))] []) | .inr w0 => (fun (w : Unit) => e = .exit 0 ∧ s.le (sparse 48 [] [])) w0)) zb ?_ ?_
 ·intro v9 z h K hK hY; replace h := oz h; cbv; revert h; refine fk ?_ ?_ <;> intro h <;> cbv
  ·revert h; refine ra fun c22 h => ?_; revert h; refine rk0 (hf_spec_l09Cell _ _) fun y23 h => ?_; cbv; revert h; refine fk ?_ ?_ <;> intro h <;> cbv
   ·exact dy
   revert h; refine lc (fun x => (sparse 48 [(1, .c (.ptr 64 0)), (3, .c (.v (.int .i64 v9))), (4, .c (.v (.int .i64 x)))] [(64, .var [.bs (LEN a0.fCells) 4 (row GD (encCell LEN GD) a0.fCells)])])) (fun y e s => (match y with | .inl w => e = .ret ∧ s.le (sparse 48 [(2, .c (.v (.bool w)))] []) | .inr w0 => (fun (w : Unit) => e = .exit 2 ∧ s.le (sparse 48 [(1, .c (.ptr 64 0)), (3, .c (.v (.int .i64 v9)))] [(64, .var [.bs (LEN a0.fCells) 4 (row GD (encCell LEN GD) a0.fCells)])])) w0)) zb ?_ ?_
   ·intro v25 z h K hK hY; replace h := oz h; cbv; revert h; refine fk ?_ ?_ <;> intro h <;> cbv
    ·revert h; refine ra fun c38 h => ?_; revert h; refine ra fun c39 h => ?_; revert h; refine fk ?_ ?_ <;> intro h <;> cbv
     ·exact dy
     exact dm
    exact dy
   intro y27 h e36 s37 q35 hne; rcases y27 with y27k0 | y27m0
   ·replace h := h; obtain ⟨rfl, q35⟩ := q35; revert h; refine rl fun w42 hw42 h => ?_; have hw42 : w42 = y27k0 := hw42; subst hw42; cbv; injection h with h; refine hY _ h.symm _ _ (And.intro rfl ?_) (by intro hh; cases hh); refine St.le_trans q35 ?_; exact zb
   ·obtain ⟨rfl, q35⟩ := q35; cbv; refine ⟨_, q35, ?_⟩; cbv; exact dm
  exact dy
 intro y11 h e20 s21 q19 hne; rcases y11 with y11k0 | y11m0
 ·replace h := h; obtain ⟨rfl, q19⟩ := q19; revert h; refine rz fun h => ?_; cbv; injection h with h; subst h; exact ⟨_, q19, lR _, zo, rfl⟩
 ·obtain ⟨rfl, q19⟩ := q19; cbv; refine ⟨_, q19, ?_⟩; cbv; exact df

/-- spec.l13Byte -/
noncomputable def F_spec_l13Byte (a0 : Int) : Option (ByteArray) :=
 letO ([std.conv .u8 a0] : List Int) fun l1 =>
 some (std.ofBytes (len l1) (fun i => gd l1 (0 + i)))
set_option maxHeartbeats 4000000 in
theorem run_spec_l13Byte (a0 : Int) (r : ByteArray) (h : F_spec_l13Byte a0 = some r) : Fun Try.prog 16 [.c (.v (.int .i64 a0))] [] (.c (.v (.string r))) [] true := by
 refine ow [] Try.func16 Try.ntmps16 ?_; unfold F_spec_l13Byte at h; generalize hLEN : @len = LEN, hGD : @gd = GD, hA : std = A, hP : Try.prog = P at *; cbv; revert h; refine rl fun l1 hl1 h => ?_; have e2 : 1 = LEN l1 := by subst hl1 hLEN; rfl
 refine ⟨_, (co e2), _, row GD (encI .u8) l1, e2, wkOf ?_, ?_⟩
 ·intro i hi j hj; rw [← e2] at hi; subst hl1; subst hGD; obtain rfl : i = 0 := (by omega); all_goals obtain rfl : j = 0 := by omega
  all_goals rfl
 cbv; refine ⟨fun _ _ => rfl, ?_⟩; exact df

/-- spec.l13Two -/
noncomputable def F_spec_l13Two (a0 : Int) : Option (ByteArray) :=
 req (std.nneg 8) <|
 letO ([std.conv .u8 (std.shr .i64 a0 8), std.conv .u8 a0] : List Int) fun l2 =>
 some (std.ofBytes (len l2) (fun i => gd l2 (0 + i)))
set_option maxHeartbeats 4000000 in
theorem run_spec_l13Two (a0 : Int) (r : ByteArray) (h : F_spec_l13Two a0 = some r) : Fun Try.prog 18 [.c (.v (.int .i64 a0))] [] (.c (.v (.string r))) [] true := by
 refine ow [] Try.func18 Try.ntmps18 ?_; unfold F_spec_l13Two at h; generalize hLEN : @len = LEN, hGD : @gd = GD, hA : std = A, hP : Try.prog = P at *; cbv; revert h; refine ra fun c1 h => ?_; revert h; refine rl fun l2 hl2 h => ?_; have e3 : 2 = LEN l2 := by subst hl2 hLEN; rfl
 refine ⟨_, (co e3), _, row GD (encI .u8) l2, e3, wkOf ?_, ?_⟩
 ·intro i hi j hj; rw [← e3] at hi; subst hl2; subst hGD; obtain rfl | rfl : i = 0 ∨ i = 1 := (by omega); all_goals obtain rfl : j = 0 := by omega
  all_goals rfl
 cbv; refine ⟨fun _ _ => rfl, ?_⟩; exact df
noncomputable def L_spec_Checksum16_x3 (a0 : ByteArray) : (Int × Int) → Option ((Int × Int) ⊕ ((Int))) := fun x3 =>
 letO x3.1 fun v1 =>
 letO x3.2 fun v2 =>
 br (std.lt v2 (std.ofN (std.slen a0)))
 (req (std.inR v2 (std.slen a0)) <|
 req (std.nz 65521) <|
 some (.inl (std.rem (std.add .i64 (std.add .i64 (std.mul .i64 31 v1) (std.conv .i64 (std.sat a0 (std.toN v2)))) 1) 65521, std.add .i64 v2 1)))
 (some (.inr v1))
/-- spec.Checksum16 -/
noncomputable def F_spec_Checksum16 (a0 : ByteArray) : Option (Int) :=
 (whileP (σ := Int × Int) (ρ := (Int)) (L_spec_Checksum16_x3 a0) (1, 0)).bind fun y4 =>
 letO y4 fun y4k0 =>
 letO y4k0 fun w18 =>
 some w18
set_option maxHeartbeats 4000000 in
theorem run_spec_Checksum16 (a0 : ByteArray) (r : Int) (h : F_spec_Checksum16 a0 = some r) : Fun Try.prog 19 [.c (.v (.string a0))] [] (.c (.v (.int .i64 r))) [] true := by
 refine ow [] Try.func19 Try.ntmps19 ?_; unfold F_spec_Checksum16 at h; unfold L_spec_Checksum16_x3 at h; generalize hLEN : @len = LEN, hGD : @gd = GD, hA : std = A, hP : Try.prog = P at *; cbv; revert h; refine ln (.exit 0) (fun x => (sparse 21 [(0, .c (.v (.string a0))), (3, .c (.v (.int .i64 x.1))), (4, .c (.v (.int .i64 x.2)))] [])) (fun w => (sparse 21 [(3, .c (.v (.int .i64 w)))] [])) zb ?_ ?_
 ·rintro ⟨v1, v2⟩ z h K hK hY; replace h := oz (oz h); dsimp only at h; cbv; revert h; refine fk ?_ ?_ <;> intro h <;> cbv
  ·revert h; refine ra fun c15 h => ?_; revert h; refine ra fun c16 h => ?_; exact dm
  exact dx
 intro w18 h s q12; replace h := oz (oz h); cbv; refine ⟨_, q12, ?_⟩; cbv; exact df

/-- spec.l14Record -/
noncomputable def F_spec_l14Record (a0 : Int) (a1 : ByteArray) : Option (ByteArray) :=
 (F_spec_l13Two (std.add .i64 (std.ofN (std.slen a1)) 5)).bind fun y1 =>
 (F_spec_l13Byte a0).bind fun y3 =>
 req (std.room (std.nadd (std.slen y1) (std.slen y3)) 1) <|
 req (std.room (std.nadd (std.slen (std.scat y1 y3)) (std.slen a1)) 1) <|
 (F_spec_Checksum16 (std.scat (std.scat y1 y3) a1)).bind fun y7 =>
 (F_spec_l13Two y7).bind fun y9 =>
 req (std.room (std.nadd (std.slen (std.scat (std.scat y1 y3) a1)) (std.slen y9)) 1) <|
 some (std.scat (std.scat (std.scat y1 y3) a1) y9)
set_option maxHeartbeats 4000000 in
theorem run_spec_l14Record (a0 : Int) (a1 : ByteArray) (r : ByteArray) (h : F_spec_l14Record a0 a1 = some r) : Fun Try.prog 15 [.c (.v (.int .i64 a0)), .c (.v (.string a1))] [] (.c (.v (.string r))) [] true := by
 refine ow [] Try.func15 Try.ntmps15 ?_; unfold F_spec_l14Record at h; have hf_spec_Checksum16 := @run_spec_Checksum16; have hf_spec_l13Byte := @run_spec_l13Byte; have hf_spec_l13Two := @run_spec_l13Two; generalize hLEN : @len = LEN, hGD : @gd = GD, hA : std = A, hP : Try.prog = P at *; cbv; revert h; refine rk0 (hf_spec_l13Two _) fun y1 h => ?_; cbv
 revert h; refine rk0 (hf_spec_l13Byte _) fun y3 h => ?_; cbv; revert h; refine ra fun c5 h => ?_; revert h; refine ra fun c6 h => ?_; revert h; refine rk0 (hf_spec_Checksum16 _) fun y7 h => ?_; cbv; revert h; refine rk0 (hf_spec_l13Two _) fun y9 h => ?_; cbv; revert h; refine ra fun c11 h => ?_; exact df

/-- spec.l13Name -/
noncomputable def F_spec_l13Name (a0 : ByteArray) : Option (ByteArray) :=
 (F_spec_l13Byte (std.ofN (std.slen a0))).bind fun y1 =>
 req (std.room (std.nadd (std.slen y1) (std.slen a0)) 1) <|
 some (std.scat y1 a0)
set_option maxHeartbeats 4000000 in
theorem run_spec_l13Name (a0 : ByteArray) (r : ByteArray) (h : F_spec_l13Name a0 = some r) : Fun Try.prog 31 [.c (.v (.string a0))] [] (.c (.v (.string r))) [] true := by
 refine ow [] Try.func31 Try.ntmps31 ?_; unfold F_spec_l13Name at h; have hf_spec_l13Byte := @run_spec_l13Byte; generalize hLEN : @len = LEN, hGD : @gd = GD, hA : std = A, hP : Try.prog = P at *; cbv; revert h; refine rk0 (hf_spec_l13Byte _) fun y1 h => ?_; cbv; revert h; refine ra fun c3 h => ?_; exact df

/-- spec.l13Coordinate -/
noncomputable def F_spec_l13Coordinate (a0 : Int) : Option (ByteArray) :=
 (F_spec_l13Two (std.add .i64 a0 32768)).bind fun y1 =>
 some y1
set_option maxHeartbeats 4000000 in
theorem run_spec_l13Coordinate (a0 : Int) (r : ByteArray) (h : F_spec_l13Coordinate a0 = some r) : Fun Try.prog 50 [.c (.v (.int .i64 a0))] [] (.c (.v (.string r))) [] true := by
 refine ow [] Try.func50 Try.ntmps50 ?_; unfold F_spec_l13Coordinate at h; have hf_spec_l13Two := @run_spec_l13Two; generalize hLEN : @len = LEN, hGD : @gd = GD, hA : std = A, hP : Try.prog = P at *; cbv; revert h; refine rk0 (hf_spec_l13Two _) fun y1 h => ?_; cbv; exact df

/-- spec.l13ShapeBytes -/
noncomputable def F_spec_l13ShapeBytes (a0 : TShape) : Option (ByteArray) :=
 (F_spec_l13Byte a0.fLayer).bind fun y1 =>
 (F_spec_l13Coordinate a0.fBox.fX0).bind fun y3 =>
 req (std.room (std.nadd (std.slen y1) (std.slen y3)) 1) <|
 (F_spec_l13Coordinate a0.fBox.fY0).bind fun y6 =>
 req (std.room (std.nadd (std.slen (std.scat y1 y3)) (std.slen y6)) 1) <|
 (F_spec_l13Coordinate a0.fBox.fX1).bind fun y9 =>
 req (std.room (std.nadd (std.slen (std.scat (std.scat y1 y3) y6)) (std.slen y9)) 1) <|
 (F_spec_l13Coordinate a0.fBox.fY1).bind fun y12 =>
 req (std.room (std.nadd (std.slen (std.scat (std.scat (std.scat y1 y3) y6) y9)) (std.slen y12)) 1) <|
 some (std.scat (std.scat (std.scat (std.scat y1 y3) y6) y9) y12)
set_option maxHeartbeats 4000000 in
theorem run_spec_l13ShapeBytes (a0 : TShape) (r : ByteArray) (h : F_spec_l13ShapeBytes a0 = some r) : Fun Try.prog 32 [.agg [.v (.int .i64 a0.fLayer), .v (.int .i64 a0.fBox.fX0), .v (.int .i64 a0.fBox.fY0), .v (.int .i64 a0.fBox.fX1), .v (.int .i64 a0.fBox.fY1)]] [] (.c (.v (.string r))) [] true := by
 refine ow [] Try.func32 Try.ntmps32 ?_; unfold F_spec_l13ShapeBytes at h; have hf_spec_l13Byte := @run_spec_l13Byte; have hf_spec_l13Coordinate := @run_spec_l13Coordinate; generalize hLEN : @len = LEN, hGD : @gd = GD, hA : std = A, hP : Try.prog = P at *; cbv; revert h; refine rk0 (hf_spec_l13Byte _) fun y1 h => ?_; cbv; revert h; refine rk0 (hf_spec_l13Coordinate _) fun y3 h => ?_; cbv
 revert h; refine ra fun c5 h => ?_; revert h; refine rk0 (hf_spec_l13Coordinate _) fun y6 h => ?_; cbv; revert h; refine ra fun c8 h => ?_; revert h; refine rk0 (hf_spec_l13Coordinate _) fun y9 h => ?_; cbv; revert h; refine ra fun c11 h => ?_; revert h; refine rk0 (hf_spec_l13Coordinate _) fun y12 h => ?_; cbv; revert h; refine ra fun c14 h => ?_; exact df

/-- spec.l13LabelBytes -/
noncomputable def F_spec_l13LabelBytes (a0 : TLabel) : Option (ByteArray) :=
 (F_spec_l13Byte a0.fLayer).bind fun y1 =>
 (F_spec_l13Coordinate a0.fAt.fX).bind fun y3 =>
 req (std.room (std.nadd (std.slen y1) (std.slen y3)) 1) <|
 (F_spec_l13Coordinate a0.fAt.fY).bind fun y6 =>
 req (std.room (std.nadd (std.slen (std.scat y1 y3)) (std.slen y6)) 1) <|
 (F_spec_l13Name a0.fName).bind fun y9 =>
 req (std.room (std.nadd (std.slen (std.scat (std.scat y1 y3) y6)) (std.slen y9)) 1) <|
 some (std.scat (std.scat (std.scat y1 y3) y6) y9)
set_option maxHeartbeats 4000000 in
theorem run_spec_l13LabelBytes (a0 : TLabel) (r : ByteArray) (h : F_spec_l13LabelBytes a0 = some r) : Fun Try.prog 33 [.agg [.v (.int .i64 a0.fLayer), .v (.int .i64 a0.fAt.fX), .v (.int .i64 a0.fAt.fY), .v (.string a0.fName)]] [] (.c (.v (.string r))) [] true := by
 refine ow [] Try.func33 Try.ntmps33 ?_; unfold F_spec_l13LabelBytes at h; have hf_spec_l13Byte := @run_spec_l13Byte; have hf_spec_l13Coordinate := @run_spec_l13Coordinate; have hf_spec_l13Name := @run_spec_l13Name; generalize hLEN : @len = LEN, hGD : @gd = GD, hA : std = A, hP : Try.prog = P at *; cbv; revert h; refine rk0 (hf_spec_l13Byte _) fun y1 h => ?_; cbv
 revert h; refine rk0 (hf_spec_l13Coordinate _) fun y3 h => ?_; cbv; revert h; refine ra fun c5 h => ?_; revert h; refine rk0 (hf_spec_l13Coordinate _) fun y6 h => ?_; cbv; revert h; refine ra fun c8 h => ?_; revert h; refine rk0 (hf_spec_l13Name _) fun y9 h => ?_; cbv; revert h; refine ra fun c11 h => ?_; exact df
/-- spec.l13InstanceBytes -/
noncomputable def F_spec_l13InstanceBytes (a0 : TInstance) : Option (ByteArray) :=
 (F_spec_l13Byte a0.fCell).bind fun y1 =>
 (F_spec_l13Byte a0.fPlace.fOrientation).bind fun y3 =>
 req (std.room (std.nadd (std.slen y1) (std.slen y3)) 1) <|
 (F_spec_l13Coordinate a0.fPlace.fX).bind fun y6 =>
 req (std.room (std.nadd (std.slen (std.scat y1 y3)) (std.slen y6)) 1) <|
 (F_spec_l13Coordinate a0.fPlace.fY).bind fun y9 =>
 req (std.room (std.nadd (std.slen (std.scat (std.scat y1 y3) y6)) (std.slen y9)) 1) <|
 (F_spec_l13Byte a0.fColumns).bind fun y12 =>
 req (std.room (std.nadd (std.slen (std.scat (std.scat (std.scat y1 y3) y6) y9)) (std.slen y12)) 1) <|
 (F_spec_l13Byte a0.fRows).bind fun y15 =>
 req (std.room (std.nadd (std.slen (std.scat (std.scat (std.scat (std.scat y1 y3) y6) y9) y12)) (std.slen y15)) 1) <|
 (F_spec_l13Coordinate a0.fStepX).bind fun y18 =>
 req (std.room (std.nadd (std.slen (std.scat (std.scat (std.scat (std.scat (std.scat y1 y3) y6) y9) y12) y15)) (std.slen y18)) 1) <|
 (F_spec_l13Coordinate a0.fStepY).bind fun y21 =>
 req (std.room (std.nadd (std.slen (std.scat (std.scat (std.scat (std.scat (std.scat (std.scat y1 y3) y6) y9) y12) y15) y18)) (std.slen y21)) 1) <|
 some (std.scat (std.scat (std.scat (std.scat (std.scat (std.scat (std.scat y1 y3) y6) y9) y12) y15) y18) y21)
set_option maxHeartbeats 4000000 in
theorem run_spec_l13InstanceBytes (a0 : TInstance) (r : ByteArray) (h : F_spec_l13InstanceBytes a0 = some r) : Fun Try.prog 51 [.agg [.v (.int .i64 a0.fCell), .v (.int .i64 a0.fPlace.fOrientation), .v (.int .i64 a0.fPlace.fX), .v (.int .i64 a0.fPlace.fY), .v (.int .i64 a0.fColumns), .v (.int .i64 a0.fRows), .v (.int .i64 a0.fStepX), .v (.int .i64 a0.fStepY)]] [] (.c (.v (.string r))) [] true := by
 refine ow [] Try.func51 Try.ntmps51 ?_; unfold F_spec_l13InstanceBytes at h; have hf_spec_l13Byte := @run_spec_l13Byte; have hf_spec_l13Coordinate := @run_spec_l13Coordinate; generalize hLEN : @len = LEN, hGD : @gd = GD, hA : std = A, hP : Try.prog = P at *; cbv; revert h; refine rk0 (hf_spec_l13Byte _) fun y1 h => ?_; cbv; revert h; refine rk0 (hf_spec_l13Byte _) fun y3 h => ?_; cbv
 revert h; refine ra fun c5 h => ?_; revert h; refine rk0 (hf_spec_l13Coordinate _) fun y6 h => ?_; cbv; revert h; refine ra fun c8 h => ?_; revert h; refine rk0 (hf_spec_l13Coordinate _) fun y9 h => ?_; cbv; revert h; refine ra fun c11 h => ?_; revert h; refine rk0 (hf_spec_l13Byte _) fun y12 h => ?_; cbv; revert h; refine ra fun c14 h => ?_; revert h; refine rk0 (hf_spec_l13Byte _) fun y15 h => ?_
 cbv; revert h; refine ra fun c17 h => ?_; revert h; refine rk0 (hf_spec_l13Coordinate _) fun y18 h => ?_; cbv; revert h; refine ra fun c20 h => ?_; revert h; refine rk0 (hf_spec_l13Coordinate _) fun y21 h => ?_; cbv; revert h; refine ra fun c23 h => ?_; exact df

/-- spec.l14Instance -/
noncomputable def F_spec_l14Instance (a0 : TLibrary) (a1 : TInstance) : Option (ByteArray) :=
 req (std.inR a1.fCell (len a0.fCells)) <|
 (F_spec_l13Name (gd a0.fCells (std.toN a1.fCell)).fName).bind fun y2 =>
 (F_spec_l13InstanceBytes a1).bind fun y4 =>
 req (std.upTo 1 (std.slen y4)) <|
 req (std.room (std.nadd (std.slen y2) (std.slen (std.ssub y4 (std.toN 1) (std.slen y4)))) 1) <|
 some (std.scat y2 (std.ssub y4 (std.toN 1) (std.slen y4)))
set_option maxHeartbeats 4000000 in
theorem run_spec_l14Instance (a0 : TLibrary) (a1 : TInstance) (r : ByteArray) (h : F_spec_l14Instance a0 a1 = some r) : Fun Try.prog 34 [.agg [.bs (len a0.fCells) 4 (row gd (encCell len gd) a0.fCells)], .agg [.v (.int .i64 a1.fCell), .v (.int .i64 a1.fPlace.fOrientation), .v (.int .i64 a1.fPlace.fX), .v (.int .i64 a1.fPlace.fY), .v (.int .i64 a1.fColumns), .v (.int .i64 a1.fRows), .v (.int .i64 a1.fStepX), .v (.int .i64 a1.fStepY)]] [] (.c (.v (.string r))) [] true := by
 refine ow [] Try.func34 Try.ntmps34 ?_; unfold F_spec_l14Instance at h; have hf_spec_l13InstanceBytes := @run_spec_l13InstanceBytes; have hf_spec_l13Name := @run_spec_l13Name; generalize hLEN : @len = LEN, hGD : @gd = GD, hA : std = A, hP : Try.prog = P at *; cbv; revert h; refine ra fun c1 h => ?_; revert h; refine rk0 (hf_spec_l13Name _) fun y2 h => ?_; cbv
 revert h; refine rk0 (hf_spec_l13InstanceBytes _) fun y4 h => ?_; cbv; revert h; refine ra fun c6 h => ?_; revert h; refine ra fun c7 h => ?_; exact df

noncomputable def L_spec_l14Cell_x52 (a0 : TLibrary) (a1 : Int) : (ByteArray × Int) → Option ((ByteArray × Int) ⊕ ((ByteArray))) := fun x52 =>
 letO x52.1 fun v50 =>
 letO x52.2 fun v51 =>
 br (std.lt v51 (std.ofN (len (gd a0.fCells (std.toN a1)).fInstances)))
 (req (std.inR v51 (len (gd a0.fCells (std.toN a1)).fInstances)) <|
 (F_spec_l14Instance (TLibrary.mk a0.fCells) (gd (gd a0.fCells (std.toN a1)).fInstances (std.toN v51))).bind fun y65 =>
 (F_spec_l14Record 5 y65).bind fun y67 =>
 req (std.room (std.nadd (std.slen v50) (std.slen y67)) 1) <|
 some (.inl (std.scat v50 y67, std.add .i64 v51 1)))
 (some (.inr v50))
noncomputable def L_spec_l14Cell_x30 (a0 : TLibrary) (a1 : Int) : (ByteArray × Int) → Option ((ByteArray × Int) ⊕ ((ByteArray))) := fun x30 =>
 letO x30.1 fun v28 =>
 letO x30.2 fun v29 =>
 br (std.lt v29 (std.ofN (len (gd a0.fCells (std.toN a1)).fLabels)))
 (req (std.inR v29 (len (gd a0.fCells (std.toN a1)).fLabels)) <|
 (F_spec_l13LabelBytes (gd (gd a0.fCells (std.toN a1)).fLabels (std.toN v29))).bind fun y43 =>
 (F_spec_l14Record 4 y43).bind fun y45 =>
 req (std.room (std.nadd (std.slen v28) (std.slen y45)) 1) <|
 some (.inl (std.scat v28 y45, std.add .i64 v29 1)))
 (some (.inr v28))
noncomputable def L_spec_l14Cell_x8 (a0 : TLibrary) (a1 : Int) : (ByteArray × Int) → Option ((ByteArray × Int) ⊕ ((ByteArray))) := fun x8 =>
 letO x8.1 fun v6 =>
 letO x8.2 fun v7 =>
 br (std.lt v7 (std.ofN (len (gd a0.fCells (std.toN a1)).fShapes)))
 (req (std.inR v7 (len (gd a0.fCells (std.toN a1)).fShapes)) <|
 (F_spec_l13ShapeBytes (gd (gd a0.fCells (std.toN a1)).fShapes (std.toN v7))).bind fun y21 =>
 (F_spec_l14Record 3 y21).bind fun y23 =>
 req (std.room (std.nadd (std.slen v6) (std.slen y23)) 1) <|
 some (.inl (std.scat v6 y23, std.add .i64 v7 1)))
 (some (.inr v6))
/-- spec.l14Cell -/
noncomputable def F_spec_l14Cell (a0 : TLibrary) (a1 : Int) : Option (ByteArray) :=
 req (std.inR a1 (len a0.fCells)) <|
 (F_spec_l13Name (gd a0.fCells (std.toN a1)).fName).bind fun y2 =>
 (F_spec_l14Record 2 y2).bind fun y4 =>
 (whileP (σ := ByteArray × Int) (ρ := (ByteArray)) (L_spec_l14Cell_x8 a0 a1) (y4, 0)).bind fun y9 =>
 letO y9 fun y9k0 =>
 letO y9k0 fun w27 =>
 (whileP (σ := ByteArray × Int) (ρ := (ByteArray)) (L_spec_l14Cell_x30 a0 a1) (w27, 0)).bind fun y31 =>
 letO y31 fun y31k0 =>
 letO y31k0 fun w49 =>
 (whileP (σ := ByteArray × Int) (ρ := (ByteArray)) (L_spec_l14Cell_x52 a0 a1) (w49, 0)).bind fun y53 =>
 letO y53 fun y53k0 =>
 letO y53k0 fun w71 =>
 (F_spec_l13Byte (std.ofN (len (gd a0.fCells (std.toN a1)).fShapes))).bind fun y72 =>
 (F_spec_l13Byte (std.ofN (len (gd a0.fCells (std.toN a1)).fLabels))).bind fun y74 =>
 req (std.room (std.nadd (std.slen y72) (std.slen y74)) 1) <|
 (F_spec_l13Byte (std.ofN (len (gd a0.fCells (std.toN a1)).fInstances))).bind fun y77 =>
 req (std.room (std.nadd (std.slen (std.scat y72 y74)) (std.slen y77)) 1) <|
 (F_spec_l14Record 6 (std.scat (std.scat y72 y74) y77)).bind fun y80 =>
 req (std.room (std.nadd (std.slen w71) (std.slen y80)) 1) <|
 some (std.scat w71 y80)
set_option maxHeartbeats 4000000 in
theorem run_spec_l14Cell (a0 : TLibrary) (a1 : Int) (r : ByteArray) (h : F_spec_l14Cell a0 a1 = some r) : Fun Try.prog 17 [.agg [.bs (len a0.fCells) 4 (row gd (encCell len gd) a0.fCells)], .c (.v (.int .i64 a1))] [] (.c (.v (.string r))) [] true := by
 refine ow [] Try.func17 Try.ntmps17 ?_; unfold F_spec_l14Cell at h; unfold L_spec_l14Cell_x8 at h; unfold L_spec_l14Cell_x30 at h; unfold L_spec_l14Cell_x52 at h; have hf_spec_l13Byte := @run_spec_l13Byte; have hf_spec_l13LabelBytes := @run_spec_l13LabelBytes; have hf_spec_l13Name := @run_spec_l13Name; have hf_spec_l13ShapeBytes := @run_spec_l13ShapeBytes
 have hf_spec_l14Instance := @run_spec_l14Instance; have hf_spec_l14Record := @run_spec_l14Record; generalize hLEN : @len = LEN, hGD : @gd = GD, hA : std = A, hP : Try.prog = P at *; cbv; revert h; refine ra fun c1 h => ?_; revert h; refine rk0 (hf_spec_l13Name _) fun y2 h => ?_; cbv; revert h; refine rk0 (hf_spec_l14Record _ _) fun y4 h => ?_; cbv
 revert h; refine ln (.exit 0) (fun x => (sparse 85 [(2, .c (.ptr 128 0)), (5, .c (.ptr 320 0)), (6, .c (.v (.string x.1))), (7, .c (.v (.int .i64 x.2)))] [(128, .var [.bs (LEN a0.fCells) 4 (row GD (encCell LEN GD) a0.fCells)]), (320, .var [.v (.string (GD a0.fCells (A.toN a1)).fName), .bs (LEN (GD a0.fCells (A.toN a1)).fShapes) 5 (row GD (encShape) (GD a0.fCells (A.toN a1)).fShapes), .bs (LEN (GD a0.fCells (A.toN a1)).fLabels) 4 (row GD (encLabel) (GD a0.fCells (A.toN a1)).fLabels), .bs (LEN (GD a0.fCells (A.toN a1)).fInstances) 8 (row GD (encInstance) (GD a0.fCells (A.toN a1)).fInstances)])])) (fun w => (sparse 85 [(2, .c (.ptr 128 0)), (5, .c (.ptr 320 0)), (6, .c (.v (.string w)))] [(128, .var [.bs (LEN a0.fCells) 4 (row GD (encCell LEN GD) a0.fCells)]), (320, .var [.v (.string (GD a0.fCells (A.toN a1)).fName), .bs (LEN (GD a0.fCells (A.toN a1)).fShapes) 5 (row GD (encShape) (GD a0.fCells (A.toN a1)).fShapes), .bs (LEN (GD a0.fCells (A.toN a1)).fLabels) 4 (row GD (encLabel) (GD a0.fCells (A.toN a1)).fLabels), .bs (LEN (GD a0.fCells (A.toN a1)).fInstances) 8 (row GD (encInstance) (GD a0.fCells (A.toN a1)).fInstances)])])) zb ?_ ?_
 ·rintro ⟨v6, v7⟩ z h K hK hY; replace h := oz (oz h); dsimp only at h; cbv; revert h; refine fk ?_ ?_ <;> intro h <;> cbv
  ·revert h; refine ra fun c20 h => ?_; revert h; refine rk0 (hf_spec_l13ShapeBytes _) fun y21 h => ?_; cbv; revert h; refine rk0 (hf_spec_l14Record _ _) fun y23 h => ?_; cbv; revert h; refine ra fun c25 h => ?_; exact dm
  exact dx
 intro w27 h s q17; replace h := oz (oz h); cbv; refine ⟨_, q17, ?_⟩; cbv
 revert h; refine ln (.exit 2) (fun x => (sparse 85 [(2, .c (.ptr 128 0)), (5, .c (.ptr 320 0)), (6, .c (.v (.string x.1))), (8, .c (.v (.int .i64 x.2)))] [(128, .var [.bs (LEN a0.fCells) 4 (row GD (encCell LEN GD) a0.fCells)]), (320, .var [.v (.string (GD a0.fCells (A.toN a1)).fName), .bs (LEN (GD a0.fCells (A.toN a1)).fShapes) 5 (row GD (encShape) (GD a0.fCells (A.toN a1)).fShapes), .bs (LEN (GD a0.fCells (A.toN a1)).fLabels) 4 (row GD (encLabel) (GD a0.fCells (A.toN a1)).fLabels), .bs (LEN (GD a0.fCells (A.toN a1)).fInstances) 8 (row GD (encInstance) (GD a0.fCells (A.toN a1)).fInstances)])])) (fun w => (sparse 85 [(2, .c (.ptr 128 0)), (5, .c (.ptr 320 0)), (6, .c (.v (.string w)))] [(128, .var [.bs (LEN a0.fCells) 4 (row GD (encCell LEN GD) a0.fCells)]), (320, .var [.v (.string (GD a0.fCells (A.toN a1)).fName), .bs (LEN (GD a0.fCells (A.toN a1)).fShapes) 5 (row GD (encShape) (GD a0.fCells (A.toN a1)).fShapes), .bs (LEN (GD a0.fCells (A.toN a1)).fLabels) 4 (row GD (encLabel) (GD a0.fCells (A.toN a1)).fLabels), .bs (LEN (GD a0.fCells (A.toN a1)).fInstances) 8 (row GD (encInstance) (GD a0.fCells (A.toN a1)).fInstances)])])) zb ?_ ?_
 ·rintro ⟨v28, v29⟩ z h K hK hY; replace h := oz (oz h); dsimp only at h; cbv; revert h; refine fk ?_ ?_ <;> intro h <;> cbv
  ·revert h; refine ra fun c42 h => ?_; revert h; refine rk0 (hf_spec_l13LabelBytes _) fun y43 h => ?_; cbv; revert h; refine rk0 (hf_spec_l14Record _ _) fun y45 h => ?_; cbv; revert h; refine ra fun c47 h => ?_; exact dm
  exact dx
 intro w49 h s q39; replace h := oz (oz h); cbv; refine ⟨_, q39, ?_⟩; cbv
 revert h; refine ln (.exit 4) (fun x => (sparse 85 [(2, .c (.ptr 128 0)), (5, .c (.ptr 320 0)), (6, .c (.v (.string x.1))), (9, .c (.v (.int .i64 x.2)))] [(128, .var [.bs (LEN a0.fCells) 4 (row GD (encCell LEN GD) a0.fCells)]), (320, .var [.v (.string (GD a0.fCells (A.toN a1)).fName), .bs (LEN (GD a0.fCells (A.toN a1)).fShapes) 5 (row GD (encShape) (GD a0.fCells (A.toN a1)).fShapes), .bs (LEN (GD a0.fCells (A.toN a1)).fLabels) 4 (row GD (encLabel) (GD a0.fCells (A.toN a1)).fLabels), .bs (LEN (GD a0.fCells (A.toN a1)).fInstances) 8 (row GD (encInstance) (GD a0.fCells (A.toN a1)).fInstances)])])) (fun w => (sparse 85 [(5, .c (.ptr 320 0)), (6, .c (.v (.string w)))] [(320, .var [.v (.string (GD a0.fCells (A.toN a1)).fName), .bs (LEN (GD a0.fCells (A.toN a1)).fShapes) 5 (row GD (encShape) (GD a0.fCells (A.toN a1)).fShapes), .bs (LEN (GD a0.fCells (A.toN a1)).fLabels) 4 (row GD (encLabel) (GD a0.fCells (A.toN a1)).fLabels), .bs (LEN (GD a0.fCells (A.toN a1)).fInstances) 8 (row GD (encInstance) (GD a0.fCells (A.toN a1)).fInstances)])])) zb ?_ ?_
 ·rintro ⟨v50, v51⟩ z h K hK hY; replace h := oz (oz h); dsimp only at h; cbv; revert h; refine fk ?_ ?_ <;> intro h <;> cbv
  ·revert h; refine ra fun c64 h => ?_; revert h; refine rk0 (hf_spec_l14Instance _ _) fun y65 h => ?_; cbv; revert h; refine rk0 (hf_spec_l14Record _ _) fun y67 h => ?_; cbv; revert h; refine ra fun c69 h => ?_; exact dm
  exact dx
 intro w71 h s q61; replace h := oz (oz h); cbv; refine ⟨_, q61, ?_⟩; cbv; revert h; refine rk0 (hf_spec_l13Byte _) fun y72 h => ?_; cbv; revert h; refine rk0 (hf_spec_l13Byte _) fun y74 h => ?_; cbv; revert h; refine ra fun c76 h => ?_; revert h; refine rk0 (hf_spec_l13Byte _) fun y77 h => ?_; cbv; revert h; refine ra fun c79 h => ?_; revert h; refine rk0 (hf_spec_l14Record _ _) fun y80 h => ?_
 cbv; revert h; refine ra fun c82 h => ?_; exact df

noncomputable def L_spec_LibraryStream_x12 (a0 : TLibrary) : (ByteArray × Int) → Option ((ByteArray × Int) ⊕ ((ByteArray))) := fun x12 =>
 letO x12.1 fun v10 =>
 letO x12.2 fun v11 =>
 br (std.lt v11 (std.ofN (len a0.fCells)))
 ((F_spec_l14Cell (TLibrary.mk a0.fCells) v11).bind fun y24 =>
 req (std.room (std.nadd (std.slen v10) (std.slen y24)) 1) <|
 some (.inl (std.scat v10 y24, std.add .i64 v11 1)))
 (some (.inr v10))
/-- spec.LibraryStream -/
noncomputable def F_spec_LibraryStream (a0 : TLibrary) : Option (ByteArray) :=
 (F_spec_IsValidLibrary (TLibrary.mk a0.fCells)).bind fun y1 =>
 br (!(y1))
 (some (ByteArray.mk #[]))
 ((F_spec_l13Byte 1).bind fun y3 =>
 (F_spec_l13Byte (std.ofN (len a0.fCells))).bind fun y5 =>
 req (std.room (std.nadd (std.slen y3) (std.slen y5)) 1) <|
 (F_spec_l14Record 1 (std.scat y3 y5)).bind fun y8 =>
 (whileP (σ := ByteArray × Int) (ρ := (ByteArray)) (L_spec_LibraryStream_x12 a0) (y8, 0)).bind fun y13 =>
 letO y13 fun y13k0 =>
 letO y13k0 fun w28 =>
 (F_spec_Checksum16 w28).bind fun y29 =>
 (F_spec_l13Two y29).bind fun y31 =>
 (F_spec_l14Record 7 y31).bind fun y33 =>
 req (std.room (std.nadd (std.slen w28) (std.slen y33)) 1) <|
 some (std.scat w28 y33))
set_option maxHeartbeats 4000000 in
theorem run_spec_LibraryStream (a0 : TLibrary) (r : ByteArray) (h : F_spec_LibraryStream a0 = some r) : Fun Try.prog 6 [.agg [.bs (len a0.fCells) 4 (row gd (encCell len gd) a0.fCells)]] [] (.c (.v (.string r))) [] true := by
 refine ow [] Try.func6 Try.ntmps6 ?_; unfold F_spec_LibraryStream at h; unfold L_spec_LibraryStream_x12 at h; have hf_spec_Checksum16 := @run_spec_Checksum16; have hf_spec_IsValidLibrary := @run_spec_IsValidLibrary; have hf_spec_l13Byte := @run_spec_l13Byte; have hf_spec_l13Two := @run_spec_l13Two; have hf_spec_l14Cell := @run_spec_l14Cell; have hf_spec_l14Record := @run_spec_l14Record
 generalize hLEN : @len = LEN, hGD : @gd = GD, hA : std = A, hP : Try.prog = P at *; cbv; revert h; refine rk0 (hf_spec_IsValidLibrary _) fun y1 h => ?_; cbv; revert h; refine fk ?_ ?_ <;> intro h <;> cbv
 ·exact df
 revert h; refine rk0 (hf_spec_l13Byte _) fun y3 h => ?_; cbv; revert h; refine rk0 (hf_spec_l13Byte _) fun y5 h => ?_; cbv; revert h; refine ra fun c7 h => ?_; revert h; refine rk0 (hf_spec_l14Record _ _) fun y8 h => ?_; cbv
 revert h; refine ln (.exit 0) (fun x => (sparse 33 [(1, .c (.ptr 64 0)), (3, .c (.v (.string x.1))), (4, .c (.v (.int .i64 x.2)))] [(64, .var [.bs (LEN a0.fCells) 4 (row GD (encCell LEN GD) a0.fCells)])])) (fun w => (sparse 33 [(3, .c (.v (.string w)))] [])) zb ?_ ?_
 ·rintro ⟨v10, v11⟩ z h K hK hY; replace h := oz (oz h); dsimp only at h; cbv; revert h; refine fk ?_ ?_ <;> intro h <;> cbv
  ·revert h; refine rk0 (hf_spec_l14Cell _ _) fun y24 h => ?_; cbv; revert h; refine ra fun c26 h => ?_; exact dm
  exact dx
 intro w28 h s q21; replace h := oz (oz h); cbv; refine ⟨_, q21, ?_⟩; cbv; revert h; refine rk0 (hf_spec_Checksum16 _) fun y29 h => ?_; cbv; revert h; refine rk0 (hf_spec_l13Two _) fun y31 h => ?_; cbv; revert h; refine rk0 (hf_spec_l14Record _ _) fun y33 h => ?_; cbv; revert h; refine ra fun c35 h => ?_; exact df

noncomputable def L_impl_IsName_x2 (a0 : ByteArray) : (Int) → Option ((Int) ⊕ ((Unit) ⊕ (Unit))) := fun x2 =>
 letO x2 fun v1 =>
 br (std.lt v1 (std.ofN (std.slen a0)))
 (((
    req (std.inR v1 (std.slen a0)) <|
    br (std.lt (std.sat a0 (std.toN v1)) 97)
    (req (std.inR v1 (std.slen a0)) <|
    br (std.lt (std.sat a0 (std.toN v1)) 48)
    (some true)
    (req (std.inR v1 (std.slen a0)) <|
    some (std.lt 57 (std.sat a0 (std.toN v1)))))
    (req (std.inR v1 (std.slen a0)) <|
    br (std.lt 122 (std.sat a0 (std.toN v1)))
    (req (std.inR v1 (std.slen a0)) <|
    br (std.lt (std.sat a0 (std.toN v1)) 48)
    (some true)
    (req (std.inR v1 (std.slen a0)) <|
    some (std.lt 57 (std.sat a0 (std.toN v1)))))
    (some false))
  ) : Option (Bool)).bind fun y14 =>
 letO y14 fun w20 =>
 br w20
 (some (.inr (.inl ())))
 (some (.inl (std.add .i64 v1 1))))
 (some (.inr (.inr ())))
/-- impl.IsName -/
noncomputable def F_impl_IsName (a0 : ByteArray) : Option (Bool) :=
 (whileP (σ := Int) (ρ := (Unit) ⊕ (Unit)) (L_impl_IsName_x2 a0) 0).bind fun y3 =>
 (match y3 with
  | .inl y3k0 => (
    some false)
  | .inr y3m0 =>
    ((
       br (std.le 1 (std.ofN (std.slen a0)))
       (some (std.le (std.ofN (std.slen a0)) 8))
       (some false)
     ) : Option (Bool)).bind fun y33 =>
    letO y33 fun w39 =>
    some w39)
set_option maxHeartbeats 4000000 in
theorem run_impl_IsName (a0 : ByteArray) (r : Bool) (h : F_impl_IsName a0 = some r) : Fun Try.prog 52 [.c (.v (.string a0))] [] (.c (.v (.bool r))) [] true := by
 refine ow [4, 6] Try.func52 Try.ntmps52 ?_; unfold F_impl_IsName at h; unfold L_impl_IsName_x2 at h; generalize hLEN : @len = LEN, hGD : @gd = GD, hA : std = A, hP : Try.prog = P at *; cbv
 revert h; refine lc (fun x => (sparse 40 [(0, .c (.v (.string a0))), (3, .c (.v (.int .i64 x)))] [])) (fun y e s => (match y with | .inl w => e = .ret ∧ s.le (sparse 40 [(2, .c (.v (.bool false)))] []) | .inr w0 => (fun (w : Unit) => e = .exit 0 ∧ s.le (sparse 40 [(0, .c (.v (.string a0)))] [])) w0)) zb ?_ ?_
 ·intro v1 z h K hK hY; replace h := oz h; cbv; revert h; refine fk ?_ ?_ <;> intro h <;> cbv
  ·revert h; refine cu (fun y14 => (sparse 40 [(0, .c (.v (.string a0))), (3, .c (.v (.int .i64 v1))), (31, .c (.v (.bool y14)))] [])) (fun y14 S hS h => rg) fun w20 => rz fun h => ?_; cbv; revert h; refine fk ?_ ?_ <;> intro h <;> cbv
   ·exact dy
   exact dm
  exact dy
 intro y3 h e12 s13 q11 hne; rcases y3 with y3k0 | y3m0
 ·replace h := h; obtain ⟨rfl, q11⟩ := q11; cbv; injection h with h; subst h; exact ⟨_, q11, lR _, zo, rfl⟩
 ·obtain ⟨rfl, q11⟩ := q11; cbv; refine ⟨_, q11, ?_⟩; cbv; revert h; refine cu (fun y33 => (sparse 40 [(2, .c (.v (.bool y33)))] [])) (fun y33 S hS h => rg) fun w39 => rz fun h => ?_; cbv; exact df

/-- impl.within -/
noncomputable def F_impl_within (a0 : Int) (a1 : Int) (a2 : Int) : Option (Bool) :=
 ((
    br (std.le a1 a0)
    (some (std.le a0 a2))
    (some false)
  ) : Option (Bool)).bind fun y1 =>
 letO y1 fun w7 =>
 some w7
set_option maxHeartbeats 4000000 in
theorem run_impl_within (a0 : Int) (a1 : Int) (a2 : Int) (r : Bool) (h : F_impl_within a0 a1 a2 = some r) : Fun Try.prog 37 [.c (.v (.int .i64 a0)), .c (.v (.int .i64 a1)), .c (.v (.int .i64 a2))] [] (.c (.v (.bool r))) [] true := by
 refine ow [1] Try.func37 Try.ntmps37 ?_; unfold F_impl_within at h; generalize hLEN : @len = LEN, hGD : @gd = GD, hA : std = A, hP : Try.prog = P at *; cbv; revert h; refine cu (fun y1 => (sparse 15 [(6, .c (.v (.bool y1)))] [])) (fun y1 S hS h => rg) fun w7 => rz fun h => ?_; cbv; exact df
/-- impl.IsValidRect -/
noncomputable def F_impl_IsValidRect (a0 : TRect) : Option (Bool) :=
 ((
    br (std.le (-40) a0.fX0)
    (br (std.lt a0.fX0 a0.fX1)
    (br (std.le a0.fX1 40)
    (br (std.le (-40) a0.fY0)
    (br (std.lt a0.fY0 a0.fY1)
    (some (std.le a0.fY1 40))
    (some false))
    (some false))
    (some false))
    (some false))
    (some false)
  ) : Option (Bool)).bind fun y1 =>
 letO y1 fun w7 =>
 some w7
set_option maxHeartbeats 4000000 in
theorem run_impl_IsValidRect (a0 : TRect) (r : Bool) (h : F_impl_IsValidRect a0 = some r) : Fun Try.prog 80 [.agg [.v (.int .i64 a0.fX0), .v (.int .i64 a0.fY0), .v (.int .i64 a0.fX1), .v (.int .i64 a0.fY1)]] [] (.c (.v (.bool r))) [] true := by
 refine ow [1] Try.func80 Try.ntmps80 ?_; unfold F_impl_IsValidRect at h; generalize hLEN : @len = LEN, hGD : @gd = GD, hA : std = A, hP : Try.prog = P at *; cbv; revert h; refine cu (fun y1 => (sparse 35 [(2, .c (.v (.bool y1)))] [])) (fun y1 S hS h => rg) fun w7 => rz fun h => ?_; cbv; exact df

/-- impl.validShape -/
noncomputable def F_impl_validShape (a0 : TShape) : Option (Bool) :=
 ((
    (F_impl_within a0.fLayer 0 7).bind fun y8 =>
    br y8
    ((F_impl_IsValidRect a0.fBox).bind fun y10 =>
    some y10)
    (some false)
  ) : Option (Bool)).bind fun y1 =>
 letO y1 fun w7 =>
 some w7
set_option maxHeartbeats 4000000 in
theorem run_impl_validShape (a0 : TShape) (r : Bool) (h : F_impl_validShape a0 = some r) : Fun Try.prog 55 [.agg [.v (.int .i64 a0.fLayer), .v (.int .i64 a0.fBox.fX0), .v (.int .i64 a0.fBox.fY0), .v (.int .i64 a0.fBox.fX1), .v (.int .i64 a0.fBox.fY1)]] [] (.c (.v (.bool r))) [] true := by
 refine ow [1] Try.func55 Try.ntmps55 ?_; unfold F_impl_validShape at h; have hf_impl_IsValidRect := @run_impl_IsValidRect; have hf_impl_within := @run_impl_within; generalize hLEN : @len = LEN, hGD : @gd = GD, hA : std = A, hP : Try.prog = P at *; cbv; revert h; refine cu (fun y1 => (sparse 11 [(2, .c (.v (.bool y1)))] [])) ?_ fun w7 => rz fun h => ?_
 ·intro y1 S hS h; cbv; revert h; refine rk0 (hf_impl_within _ _ _) fun y8 h => ?_; cbv; revert h; refine fk ?_ ?_ <;> intro h <;> cbv
  ·revert h; refine rk0 (hf_impl_IsValidRect _) fun y10 h => ?_; cbv; exact dn
  exact dn
 cbv; exact df

/-- impl.validCell$1 -/
noncomputable def F_impl_validCell_1 (a0 : TShape) : Option (Bool) :=
 (F_impl_validShape (TShape.mk a0.fLayer a0.fBox)).bind fun y1 =>
 some (!(y1))
set_option maxHeartbeats 4000000 in
theorem run_impl_validCell_1 (a0 : TShape) (r : Bool) (h : F_impl_validCell_1 a0 = some r) : Fun Try.prog 54 [.agg [.v (.int .i64 a0.fLayer), .v (.int .i64 a0.fBox.fX0), .v (.int .i64 a0.fBox.fY0), .v (.int .i64 a0.fBox.fX1), .v (.int .i64 a0.fBox.fY1)]] [] (.c (.v (.bool r))) [] true := by
 refine ow [] Try.func54 Try.ntmps54 ?_; unfold F_impl_validCell_1 at h; have hf_impl_validShape := @run_impl_validShape; generalize hLEN : @len = LEN, hGD : @gd = GD, hA : std = A, hP : Try.prog = P at *; cbv; revert h; refine rk0 (hf_impl_validShape _) fun y1 h => ?_; cbv; exact df

noncomputable def L_slices_IndexFunc_Limpl_Shape_impl_Shape_mbFimpl_validCell_1_x2 (a0 : List TShape) : (Int) → Option ((Int) ⊕ ((Int) ⊕ (Unit))) := fun x2 =>
 letO x2 fun v1 =>
 br (std.lt v1 (std.ofN (len a0)))
 (req (std.inR v1 (len a0)) <|
 (F_impl_validCell_1 (gd a0 (std.toN v1))).bind fun y15 =>
 br y15
 (some (.inr (.inl v1)))
 (some (.inl (std.add .i64 v1 1))))
 (some (.inr (.inr ())))
/-- impl.Shape] -/
noncomputable def F_slices_IndexFunc_Limpl_Shape_impl_Shape_mbFimpl_validCell_1 (a0 : List TShape) : Option (Int) :=
 (whileP (σ := Int) (ρ := (Int) ⊕ (Unit)) (L_slices_IndexFunc_Limpl_Shape_impl_Shape_mbFimpl_validCell_1_x2 a0) 0).bind fun y3 =>
 (match y3 with
  | .inl y3k0 => (
    letO y3k0 fun w19 =>
    some w19)
  | .inr y3m0 =>
    some (-1))
set_option maxHeartbeats 4000000 in
theorem run_slices_IndexFunc_Limpl_Shape_impl_Shape_mbFimpl_validCell_1 (a0 : List TShape) (r : Int) (h : F_slices_IndexFunc_Limpl_Shape_impl_Shape_mbFimpl_validCell_1 a0 = some r) : Fun Try.prog 79 [.c (.bs (len a0) 5 (row gd (encShape) a0)), .c (.fn 54 0 fun _ => .junk)] [] (.c (.v (.int .i64 r))) [] true := by
 refine ow [] Try.func79 Try.ntmps79 ?_; unfold F_slices_IndexFunc_Limpl_Shape_impl_Shape_mbFimpl_validCell_1 at h; unfold L_slices_IndexFunc_Limpl_Shape_impl_Shape_mbFimpl_validCell_1_x2 at h; have hf_impl_validCell_1 := @run_impl_validCell_1; generalize hLEN : @len = LEN, hGD : @gd = GD, hA : std = A, hP : Try.prog = P at *; cbv
 revert h; refine lc (fun x => (sparse 19 [(0, .c (.bs (LEN a0) 5 (row GD (encShape) a0))), (1, .c (.fn 54 0 fun _ => .junk)), (7, .c (.v (.int .i64 (A.ofN (LEN a0))))), (8, .c (.v (.int .i64 x)))] [])) (fun y e s => (match y with | .inl w => e = .ret ∧ s.le (sparse 19 [(4, .c (.v (.int .i64 w)))] []) | .inr w0 => (fun (w : Unit) => e = .exit 0 ∧ s.le (sparse 19 [] [])) w0)) zb ?_ ?_
 ·intro v1 z h K hK hY; replace h := oz h; cbv; revert h; refine fk ?_ ?_ <;> intro h <;> cbv
  ·revert h; refine ra fun c14 h => ?_; revert h; refine rk0 (hf_impl_validCell_1 _) fun y15 h => ?_; cbv; revert h; refine fk ?_ ?_ <;> intro h <;> cbv
   ·exact dy
   exact dm
  exact dy
 intro y3 h e12 s13 q11 hne; rcases y3 with y3k0 | y3m0
 ·replace h := h; obtain ⟨rfl, q11⟩ := q11; revert h; refine rz fun h => ?_; cbv; injection h with h; subst h; exact ⟨_, q11, lR _, zo, rfl⟩
 ·obtain ⟨rfl, q11⟩ := q11; cbv; refine ⟨_, q11, ?_⟩; cbv; exact df

/-- impl.Shape] -/
noncomputable def F_slices_ContainsFunc_Limpl_Shape_impl_Shape_mbFimpl_validCell_1 (a0 : List TShape) : Option (Bool) :=
 (F_slices_IndexFunc_Limpl_Shape_impl_Shape_mbFimpl_validCell_1 a0).bind fun y1 =>
 some (std.le 0 y1)
set_option maxHeartbeats 4000000 in
theorem run_slices_ContainsFunc_Limpl_Shape_impl_Shape_mbFimpl_validCell_1 (a0 : List TShape) (r : Bool) (h : F_slices_ContainsFunc_Limpl_Shape_impl_Shape_mbFimpl_validCell_1 a0 = some r) : Fun Try.prog 53 [.c (.bs (len a0) 5 (row gd (encShape) a0)), .c (.fn 54 0 fun _ => .junk)] [] (.c (.v (.bool r))) [] true := by
 refine ow [] Try.func53 Try.ntmps53 ?_; unfold F_slices_ContainsFunc_Limpl_Shape_impl_Shape_mbFimpl_validCell_1 at h; have hf_slices_IndexFunc_Limpl_Shape_impl_Shape_mbFimpl_validCell_1 := @run_slices_IndexFunc_Limpl_Shape_impl_Shape_mbFimpl_validCell_1; generalize hLEN : @len = LEN, hGD : @gd = GD, hA : std = A, hP : Try.prog = P at *; cbv
 revert h; refine rk0 (hf_slices_IndexFunc_Limpl_Shape_impl_Shape_mbFimpl_validCell_1 _) fun y1 h => ?_; cbv; exact df

/-- impl.isUnitCell -/
noncomputable def F_impl_isUnitCell (a0 : TPoint) : Option (Bool) :=
 ((
    (F_impl_within a0.fX (-40) 39).bind fun y8 =>
    br y8
    ((F_impl_within a0.fY (-40) 39).bind fun y10 =>
    some y10)
    (some false)
  ) : Option (Bool)).bind fun y1 =>
 letO y1 fun w7 =>
 some w7
set_option maxHeartbeats 4000000 in
theorem run_impl_isUnitCell (a0 : TPoint) (r : Bool) (h : F_impl_isUnitCell a0 = some r) : Fun Try.prog 82 [.agg [.v (.int .i64 a0.fX), .v (.int .i64 a0.fY)]] [] (.c (.v (.bool r))) [] true := by
 refine ow [1] Try.func82 Try.ntmps82 ?_; unfold F_impl_isUnitCell at h; have hf_impl_within := @run_impl_within; generalize hLEN : @len = LEN, hGD : @gd = GD, hA : std = A, hP : Try.prog = P at *; cbv; revert h; refine cu (fun y1 => (sparse 11 [(2, .c (.v (.bool y1)))] [])) ?_ fun w7 => rz fun h => ?_
 ·intro y1 S hS h; cbv; revert h; refine rk0 (hf_impl_within _ _ _) fun y8 h => ?_; cbv; revert h; refine fk ?_ ?_ <;> intro h <;> cbv
  ·revert h; refine rk0 (hf_impl_within _ _ _) fun y10 h => ?_; cbv; exact dn
  exact dn
 cbv; exact df
/-- impl.validLabel -/
noncomputable def F_impl_validLabel (a0 : TLabel) : Option (Bool) :=
 ((
    (F_impl_within a0.fLayer 0 7).bind fun y8 =>
    br y8
    ((F_impl_isUnitCell a0.fAt).bind fun y10 =>
    br y10
    ((F_impl_IsName a0.fName).bind fun y12 =>
    some y12)
    (some false))
    (some false)
  ) : Option (Bool)).bind fun y1 =>
 letO y1 fun w7 =>
 some w7
set_option maxHeartbeats 4000000 in
theorem run_impl_validLabel (a0 : TLabel) (r : Bool) (h : F_impl_validLabel a0 = some r) : Fun Try.prog 58 [.agg [.v (.int .i64 a0.fLayer), .v (.int .i64 a0.fAt.fX), .v (.int .i64 a0.fAt.fY), .v (.string a0.fName)]] [] (.c (.v (.bool r))) [] true := by
 refine ow [1] Try.func58 Try.ntmps58 ?_; unfold F_impl_validLabel at h; have hf_impl_IsName := @run_impl_IsName; have hf_impl_isUnitCell := @run_impl_isUnitCell; have hf_impl_within := @run_impl_within; generalize hLEN : @len = LEN, hGD : @gd = GD, hA : std = A, hP : Try.prog = P at *; cbv; revert h; refine cu (fun y1 => (sparse 16 [(2, .c (.v (.bool y1)))] [])) ?_ fun w7 => rz fun h => ?_
 ·intro y1 S hS h; cbv; revert h; refine rk0 (hf_impl_within _ _ _) fun y8 h => ?_; cbv; revert h; refine fk ?_ ?_ <;> intro h <;> cbv
  ·revert h; refine rk0 (hf_impl_isUnitCell _) fun y10 h => ?_; cbv; revert h; refine fk ?_ ?_ <;> intro h <;> cbv
   ·revert h; refine rk0 (hf_impl_IsName _) fun y12 h => ?_; cbv; exact dn
   exact dn
  exact dn
 cbv; exact df

/-- impl.validCell$2 -/
noncomputable def F_impl_validCell_2 (a0 : TLabel) : Option (Bool) :=
 (F_impl_validLabel (TLabel.mk a0.fLayer a0.fAt a0.fName)).bind fun y1 =>
 some (!(y1))
set_option maxHeartbeats 4000000 in
theorem run_impl_validCell_2 (a0 : TLabel) (r : Bool) (h : F_impl_validCell_2 a0 = some r) : Fun Try.prog 57 [.agg [.v (.int .i64 a0.fLayer), .v (.int .i64 a0.fAt.fX), .v (.int .i64 a0.fAt.fY), .v (.string a0.fName)]] [] (.c (.v (.bool r))) [] true := by
 refine ow [] Try.func57 Try.ntmps57 ?_; unfold F_impl_validCell_2 at h; have hf_impl_validLabel := @run_impl_validLabel; generalize hLEN : @len = LEN, hGD : @gd = GD, hA : std = A, hP : Try.prog = P at *; cbv; revert h; refine rk0 (hf_impl_validLabel _) fun y1 h => ?_; cbv; exact df

noncomputable def L_slices_IndexFunc_Limpl_Label_impl_Label_mbFimpl_validCell_2_x2 (a0 : List TLabel) : (Int) → Option ((Int) ⊕ ((Int) ⊕ (Unit))) := fun x2 =>
 letO x2 fun v1 =>
 br (std.lt v1 (std.ofN (len a0)))
 (req (std.inR v1 (len a0)) <|
 (F_impl_validCell_2 (gd a0 (std.toN v1))).bind fun y15 =>
 br y15
 (some (.inr (.inl v1)))
 (some (.inl (std.add .i64 v1 1))))
 (some (.inr (.inr ())))
/-- impl.Label] -/
noncomputable def F_slices_IndexFunc_Limpl_Label_impl_Label_mbFimpl_validCell_2 (a0 : List TLabel) : Option (Int) :=
 (whileP (σ := Int) (ρ := (Int) ⊕ (Unit)) (L_slices_IndexFunc_Limpl_Label_impl_Label_mbFimpl_validCell_2_x2 a0) 0).bind fun y3 =>
 (match y3 with
  | .inl y3k0 => (
    letO y3k0 fun w19 =>
    some w19)
  | .inr y3m0 =>
    some (-1))
set_option maxHeartbeats 4000000 in
theorem run_slices_IndexFunc_Limpl_Label_impl_Label_mbFimpl_validCell_2 (a0 : List TLabel) (r : Int) (h : F_slices_IndexFunc_Limpl_Label_impl_Label_mbFimpl_validCell_2 a0 = some r) : Fun Try.prog 81 [.c (.bs (len a0) 4 (row gd (encLabel) a0)), .c (.fn 57 0 fun _ => .junk)] [] (.c (.v (.int .i64 r))) [] true := by
 refine ow [] Try.func81 Try.ntmps81 ?_; unfold F_slices_IndexFunc_Limpl_Label_impl_Label_mbFimpl_validCell_2 at h; unfold L_slices_IndexFunc_Limpl_Label_impl_Label_mbFimpl_validCell_2_x2 at h; have hf_impl_validCell_2 := @run_impl_validCell_2; generalize hLEN : @len = LEN, hGD : @gd = GD, hA : std = A, hP : Try.prog = P at *; cbv
 revert h; refine lc (fun x => (sparse 19 [(0, .c (.bs (LEN a0) 4 (row GD (encLabel) a0))), (1, .c (.fn 57 0 fun _ => .junk)), (7, .c (.v (.int .i64 (A.ofN (LEN a0))))), (8, .c (.v (.int .i64 x)))] [])) (fun y e s => (match y with | .inl w => e = .ret ∧ s.le (sparse 19 [(4, .c (.v (.int .i64 w)))] []) | .inr w0 => (fun (w : Unit) => e = .exit 0 ∧ s.le (sparse 19 [] [])) w0)) zb ?_ ?_
 ·intro v1 z h K hK hY; replace h := oz h; cbv; revert h; refine fk ?_ ?_ <;> intro h <;> cbv
  ·revert h; refine ra fun c14 h => ?_; revert h; refine rk0 (hf_impl_validCell_2 _) fun y15 h => ?_; cbv; revert h; refine fk ?_ ?_ <;> intro h <;> cbv
   ·exact dy
   exact dm
  exact dy
 intro y3 h e12 s13 q11 hne; rcases y3 with y3k0 | y3m0
 ·replace h := h; obtain ⟨rfl, q11⟩ := q11; revert h; refine rz fun h => ?_; cbv; injection h with h; subst h; exact ⟨_, q11, lR _, zo, rfl⟩
 ·obtain ⟨rfl, q11⟩ := q11; cbv; refine ⟨_, q11, ?_⟩; cbv; exact df

/-- impl.Label] -/
noncomputable def F_slices_ContainsFunc_Limpl_Label_impl_Label_mbFimpl_validCell_2 (a0 : List TLabel) : Option (Bool) :=
 (F_slices_IndexFunc_Limpl_Label_impl_Label_mbFimpl_validCell_2 a0).bind fun y1 =>
 some (std.le 0 y1)
set_option maxHeartbeats 4000000 in
theorem run_slices_ContainsFunc_Limpl_Label_impl_Label_mbFimpl_validCell_2 (a0 : List TLabel) (r : Bool) (h : F_slices_ContainsFunc_Limpl_Label_impl_Label_mbFimpl_validCell_2 a0 = some r) : Fun Try.prog 56 [.c (.bs (len a0) 4 (row gd (encLabel) a0)), .c (.fn 57 0 fun _ => .junk)] [] (.c (.v (.bool r))) [] true := by
 refine ow [] Try.func56 Try.ntmps56 ?_; unfold F_slices_ContainsFunc_Limpl_Label_impl_Label_mbFimpl_validCell_2 at h; have hf_slices_IndexFunc_Limpl_Label_impl_Label_mbFimpl_validCell_2 := @run_slices_IndexFunc_Limpl_Label_impl_Label_mbFimpl_validCell_2; generalize hLEN : @len = LEN, hGD : @gd = GD, hA : std = A, hP : Try.prog = P at *; cbv
 revert h; refine rk0 (hf_slices_IndexFunc_Limpl_Label_impl_Label_mbFimpl_validCell_2 _) fun y1 h => ?_; cbv; exact df

/-- impl.IsValidTransform -/
noncomputable def F_impl_IsValidTransform (a0 : TTransform) : Option (Bool) :=
 ((
    (F_impl_within a0.fOrientation 0 7).bind fun y8 =>
    br y8
    ((F_impl_within a0.fX (-80) 80).bind fun y10 =>
    br y10
    ((F_impl_within a0.fY (-80) 80).bind fun y12 =>
    some y12)
    (some false))
    (some false)
  ) : Option (Bool)).bind fun y1 =>
 letO y1 fun w7 =>
 some w7
set_option maxHeartbeats 4000000 in
theorem run_impl_IsValidTransform (a0 : TTransform) (r : Bool) (h : F_impl_IsValidTransform a0 = some r) : Fun Try.prog 84 [.agg [.v (.int .i64 a0.fOrientation), .v (.int .i64 a0.fX), .v (.int .i64 a0.fY)]] [] (.c (.v (.bool r))) [] true := by
 refine ow [1] Try.func84 Try.ntmps84 ?_; unfold F_impl_IsValidTransform at h; have hf_impl_within := @run_impl_within; generalize hLEN : @len = LEN, hGD : @gd = GD, hA : std = A, hP : Try.prog = P at *; cbv; revert h; refine cu (fun y1 => (sparse 16 [(2, .c (.v (.bool y1)))] [])) ?_ fun w7 => rz fun h => ?_
 ·intro y1 S hS h; cbv; revert h; refine rk0 (hf_impl_within _ _ _) fun y8 h => ?_; cbv; revert h; refine fk ?_ ?_ <;> intro h <;> cbv
  ·revert h; refine rk0 (hf_impl_within _ _ _) fun y10 h => ?_; cbv; revert h; refine fk ?_ ?_ <;> intro h <;> cbv
   ·revert h; refine rk0 (hf_impl_within _ _ _) fun y12 h => ?_; cbv; exact dn
   exact dn
  exact dn
 cbv; exact df

/-- impl.validInstance -/
noncomputable def F_impl_validInstance (a0 : TInstance) (a1 : Int) : Option (Bool) :=
 ((
    (F_impl_within a0.fCell 0 (std.sub .i64 a1 1)).bind fun y8 =>
    br y8
    ((F_impl_IsValidTransform a0.fPlace).bind fun y10 =>
    br y10
    ((F_impl_within a0.fColumns 1 4).bind fun y12 =>
    br y12
    ((F_impl_within a0.fRows 1 4).bind fun y14 =>
    br y14
    ((F_impl_within a0.fStepX (-80) 80).bind fun y16 =>
    br y16
    ((F_impl_within a0.fStepY (-80) 80).bind fun y18 =>
    br y18
    (br (std.eq a0.fStepX 0)
    (br (std.eq a0.fStepY 0)
    (some true)
    (some (std.lt 1 a0.fRows)))
    (br (std.lt 1 a0.fColumns)
    (br (std.eq a0.fStepY 0)
    (some true)
    (some (std.lt 1 a0.fRows)))
    (some false)))
    (some false))
    (some false))
    (some false))
    (some false))
    (some false))
    (some false)
  ) : Option (Bool)).bind fun y1 =>
 letO y1 fun w7 =>
 some w7
set_option maxHeartbeats 4000000 in
theorem run_impl_validInstance (a0 : TInstance) (a1 : Int) (r : Bool) (h : F_impl_validInstance a0 a1 = some r) : Fun Try.prog 61 [.agg [.v (.int .i64 a0.fCell), .v (.int .i64 a0.fPlace.fOrientation), .v (.int .i64 a0.fPlace.fX), .v (.int .i64 a0.fPlace.fY), .v (.int .i64 a0.fColumns), .v (.int .i64 a0.fRows), .v (.int .i64 a0.fStepX), .v (.int .i64 a0.fStepY)], .c (.v (.int .i64 a1))] [] (.c (.v (.bool r))) [] true := by
 refine ow [1] Try.func61 Try.ntmps61 ?_; unfold F_impl_validInstance at h; have hf_impl_IsValidTransform := @run_impl_IsValidTransform; have hf_impl_within := @run_impl_within; generalize hLEN : @len = LEN, hGD : @gd = GD, hA : std = A, hP : Try.prog = P at *; cbv; revert h; refine cu (fun y1 => (sparse 55 [(4, .c (.v (.bool y1)))] [])) ?_ fun w7 => rz fun h => ?_
 ·intro y1 S hS h; cbv; revert h; refine rk0 (hf_impl_within _ _ _) fun y8 h => ?_; cbv; revert h; refine fk ?_ ?_ <;> intro h <;> cbv
  ·revert h; refine rk0 (hf_impl_IsValidTransform _) fun y10 h => ?_; cbv; revert h; refine fk ?_ ?_ <;> intro h <;> cbv
   ·revert h; refine rk0 (hf_impl_within _ _ _) fun y12 h => ?_; cbv; revert h; refine fk ?_ ?_ <;> intro h <;> cbv
    ·revert h; refine rk0 (hf_impl_within _ _ _) fun y14 h => ?_; cbv; revert h; refine fk ?_ ?_ <;> intro h <;> cbv
     ·revert h; refine rk0 (hf_impl_within _ _ _) fun y16 h => ?_; cbv; revert h; refine fk ?_ ?_ <;> intro h <;> cbv
      ·revert h; refine rk0 (hf_impl_within _ _ _) fun y18 h => ?_; cbv; revert h; refine fk ?_ ?_ <;> intro h <;> cbv
       ·revert h; refine fk ?_ ?_ <;> intro h <;> cbv
        ·revert h; refine fk ?_ ?_ <;> intro h <;> cbv
         ·exact dn
         exact dn
        revert h; refine fk ?_ ?_ <;> intro h <;> cbv
        ·revert h; refine fk ?_ ?_ <;> intro h <;> cbv
         ·exact dn
         exact dn
        exact dn
       exact dn
      exact dn
     exact dn
    exact dn
   exact dn
  exact dn
 cbv; exact df
/-- impl.validCell$3 -/
noncomputable def F_impl_validCell_3_mbp (a0 : TInstance) (a1 : Int) : Option (Bool) :=
 (F_impl_validInstance (TInstance.mk a0.fCell a0.fPlace a0.fColumns a0.fRows a0.fStepX a0.fStepY) a1).bind fun y1 =>
 some (!(y1))
set_option maxHeartbeats 4000000 in
theorem run_impl_validCell_3_mbp (a0 : TInstance) (a1 : Int) (r : Bool) (h : F_impl_validCell_3_mbp a0 a1 = some r) : Fun Try.prog 60 [.agg [.v (.int .i64 a0.fCell), .v (.int .i64 a0.fPlace.fOrientation), .v (.int .i64 a0.fPlace.fX), .v (.int .i64 a0.fPlace.fY), .v (.int .i64 a0.fColumns), .v (.int .i64 a0.fRows), .v (.int .i64 a0.fStepX), .v (.int .i64 a0.fStepY)], .c (.bp 1 (encI .i64 a1))] [] (.c (.v (.bool r))) [] true := by
 refine ow [] Try.func60 Try.ntmps60 ?_; unfold F_impl_validCell_3_mbp at h; have hf_impl_validInstance := @run_impl_validInstance; generalize hLEN : @len = LEN, hGD : @gd = GD, hA : std = A, hP : Try.prog = P at *; cbv; revert h; refine rk0 (hf_impl_validInstance _ _) fun y1 h => ?_; cbv; exact df

noncomputable def L_slices_IndexFunc_Limpl_Instance_impl_Instance_mbFimpl_validCell_3p_x2 (a0 : List TInstance) (a1_0 : Int) : (Int) → Option ((Int) ⊕ ((Int) ⊕ (Unit))) := fun x2 =>
 letO x2 fun v1 =>
 br (std.lt v1 (std.ofN (len a0)))
 (req (std.inR v1 (len a0)) <|
 (F_impl_validCell_3_mbp (gd a0 (std.toN v1)) a1_0).bind fun y15 =>
 br y15
 (some (.inr (.inl v1)))
 (some (.inl (std.add .i64 v1 1))))
 (some (.inr (.inr ())))
/-- impl.Instance] -/
noncomputable def F_slices_IndexFunc_Limpl_Instance_impl_Instance_mbFimpl_validCell_3p (a0 : List TInstance) (a1_0 : Int) : Option (Int) :=
 (whileP (σ := Int) (ρ := (Int) ⊕ (Unit)) (L_slices_IndexFunc_Limpl_Instance_impl_Instance_mbFimpl_validCell_3p_x2 a0 a1_0) 0).bind fun y3 =>
 (match y3 with
  | .inl y3k0 => (
    letO y3k0 fun w19 =>
    some w19)
  | .inr y3m0 =>
    some (-1))
set_option maxHeartbeats 4000000 in
theorem run_slices_IndexFunc_Limpl_Instance_impl_Instance_mbFimpl_validCell_3p (a0 : List TInstance) (a1_0 : Int) (r : Int) (h : F_slices_IndexFunc_Limpl_Instance_impl_Instance_mbFimpl_validCell_3p a0 a1_0 = some r) : Fun Try.prog 83 [.c (.bs (len a0) 8 (row gd (encInstance) a0)), .c (.fn 60 1 fun j => ([.bp 1 (encI .i64 a1_0)] : List AC).getD j .junk)] [] (.c (.v (.int .i64 r))) [] true := by
 refine ow [] Try.func83 Try.ntmps83 ?_; unfold F_slices_IndexFunc_Limpl_Instance_impl_Instance_mbFimpl_validCell_3p at h; unfold L_slices_IndexFunc_Limpl_Instance_impl_Instance_mbFimpl_validCell_3p_x2 at h; have hf_impl_validCell_3_mbp := @run_impl_validCell_3_mbp; generalize hLEN : @len = LEN, hGD : @gd = GD, hA : std = A, hP : Try.prog = P at *; cbv
 revert h; refine lc (fun x => (sparse 19 [(0, .c (.bs (LEN a0) 8 (row GD (encInstance) a0))), (1, .c (.fn 60 1 fun j => ([.bp 1 (encI .i64 a1_0)] : List AC).getD j .junk)), (7, .c (.v (.int .i64 (A.ofN (LEN a0))))), (8, .c (.v (.int .i64 x)))] [])) (fun y e s => (match y with | .inl w => e = .ret ∧ s.le (sparse 19 [(4, .c (.v (.int .i64 w)))] []) | .inr w0 => (fun (w : Unit) => e = .exit 0 ∧ s.le (sparse 19 [] [])) w0)) zb ?_ ?_
 ·intro v1 z h K hK hY; replace h := oz h; cbv; revert h; refine fk ?_ ?_ <;> intro h <;> cbv
  ·revert h; refine ra fun c14 h => ?_; revert h; refine rk [] [] (hf_impl_validCell_3_mbp _ _) (fun _ => zg (les_cons (lR _) (les_cons (le_bp (show 1 ≤ 1 from by decide) (by intro j hj; match j, hj with | 0, _ => exact rle_refl _ | (j_ + 1), h_ => exact absurd h_ (by omega))) (les_nil)))) fun y15 h => ?_; cbv; revert h; refine fk ?_ ?_ <;> intro h <;> cbv
   ·exact dy
   exact dm
  exact dy
 intro y3 h e12 s13 q11 hne; rcases y3 with y3k0 | y3m0
 ·replace h := h; obtain ⟨rfl, q11⟩ := q11; revert h; refine rz fun h => ?_; cbv; injection h with h; subst h; exact ⟨_, q11, lR _, zo, rfl⟩
 ·obtain ⟨rfl, q11⟩ := q11; cbv; refine ⟨_, q11, ?_⟩; cbv; exact df

/-- impl.Instance] -/
noncomputable def F_slices_ContainsFunc_Limpl_Instance_impl_Instance_mbFimpl_validCell_3p (a0 : List TInstance) (a1_0 : Int) : Option (Bool) :=
 (F_slices_IndexFunc_Limpl_Instance_impl_Instance_mbFimpl_validCell_3p a0 a1_0).bind fun y1 =>
 some (std.le 0 y1)
set_option maxHeartbeats 4000000 in
theorem run_slices_ContainsFunc_Limpl_Instance_impl_Instance_mbFimpl_validCell_3p (a0 : List TInstance) (a1_0 : Int) (r : Bool) (h : F_slices_ContainsFunc_Limpl_Instance_impl_Instance_mbFimpl_validCell_3p a0 a1_0 = some r) : Fun Try.prog 59 [.c (.bs (len a0) 8 (row gd (encInstance) a0)), .c (.fn 60 1 fun j => ([.bp 1 (encI .i64 a1_0)] : List AC).getD j .junk)] [] (.c (.v (.bool r))) [] true := by
 refine ow [] Try.func59 Try.ntmps59 ?_; unfold F_slices_ContainsFunc_Limpl_Instance_impl_Instance_mbFimpl_validCell_3p at h; have hf_slices_IndexFunc_Limpl_Instance_impl_Instance_mbFimpl_validCell_3p := @run_slices_IndexFunc_Limpl_Instance_impl_Instance_mbFimpl_validCell_3p; generalize hLEN : @len = LEN, hGD : @gd = GD, hA : std = A, hP : Try.prog = P at *; cbv
 revert h; refine rk [] [] (hf_slices_IndexFunc_Limpl_Instance_impl_Instance_mbFimpl_validCell_3p _ _) (fun _ => zg (les_cons (lR _) (les_cons (le_fn (by intro j hj; match j, hj with | 0, _ => exact le_bp (show 1 ≤ 1 from by decide) (by intro j hj; match j, hj with | 0, _ => exact rle_refl _ | (j_ + 1), h_ => exact absurd h_ (by omega)) | (j_ + 1), h_ => exact absurd h_ (by omega))) (les_nil)))) fun y1 h => ?_
 cbv; exact df

/-- impl.validCell -/
noncomputable def F_impl_validCell (a0 : TCell) (a1 : Int) : Option (Bool) :=
 ((
    (F_impl_IsName a0.fName).bind fun y8 =>
    br (!(y8))
    (some true)
    (br (std.lt 24 (std.ofN (len a0.fShapes)))
    (some true)
    (br (std.lt 8 (std.ofN (len a0.fLabels)))
    (some true)
    (some (std.lt 8 (std.ofN (len a0.fInstances))))))
  ) : Option (Bool)).bind fun y1 =>
 letO y1 fun w7 =>
 br w7
 (some false)
 (((
    (F_slices_ContainsFunc_Limpl_Shape_impl_Shape_mbFimpl_validCell_1 a0.fShapes).bind fun y20 =>
    br (!(y20))
    ((F_slices_ContainsFunc_Limpl_Label_impl_Label_mbFimpl_validCell_2 a0.fLabels).bind fun y22 =>
    br (!(y22))
    ((F_slices_ContainsFunc_Limpl_Instance_impl_Instance_mbFimpl_validCell_3p a0.fInstances a1).bind fun y24 =>
    some (!(y24)))
    (some false))
    (some false)
  ) : Option (Bool)).bind fun y13 =>
 letO y13 fun w19 =>
 some w19)
set_option maxHeartbeats 4000000 in
theorem run_impl_validCell (a0 : TCell) (a1 : Int) (r : Bool) (h : F_impl_validCell a0 a1 = some r) : Fun Try.prog 35 [.agg [.v (.string a0.fName), .bs (len a0.fShapes) 5 (row gd (encShape) a0.fShapes), .bs (len a0.fLabels) 4 (row gd (encLabel) a0.fLabels), .bs (len a0.fInstances) 8 (row gd (encInstance) a0.fInstances)], .c (.v (.int .i64 a1))] [] (.c (.v (.bool r))) [] true := by
 refine ow [1, 3] Try.func35 Try.ntmps35 ?_; unfold F_impl_validCell at h; have hf_impl_IsName := @run_impl_IsName; have hf_slices_ContainsFunc_Limpl_Instance_impl_Instance_mbFimpl_validCell_3p := @run_slices_ContainsFunc_Limpl_Instance_impl_Instance_mbFimpl_validCell_3p
 have hf_slices_ContainsFunc_Limpl_Label_impl_Label_mbFimpl_validCell_2 := @run_slices_ContainsFunc_Limpl_Label_impl_Label_mbFimpl_validCell_2; have hf_slices_ContainsFunc_Limpl_Shape_impl_Shape_mbFimpl_validCell_1 := @run_slices_ContainsFunc_Limpl_Shape_impl_Shape_mbFimpl_validCell_1; generalize hLEN : @len = LEN, hGD : @gd = GD, hA : std = A, hP : Try.prog = P at *; cbv
 revert h; refine cu (fun y1 => (sparse 44 [(2, .c (.ptr 128 0)), (3, .c (.ptr 192 0)), (26, .c (.v (.bool y1)))] [(128, .var [.v (.string a0.fName), .bs (LEN a0.fShapes) 5 (row GD (encShape) a0.fShapes), .bs (LEN a0.fLabels) 4 (row GD (encLabel) a0.fLabels), .bs (LEN a0.fInstances) 8 (row GD (encInstance) a0.fInstances)]), (192, .var [.v (.int .i64 a1)])])) ?_ fun w7 => rz fun h => ?_
 ·intro y1 S hS h; cbv; revert h; refine rk0 (hf_impl_IsName _) fun y8 h => ?_; cbv; revert h; refine fk ?_ ?_ <;> intro h <;> cbv
  ·exact dn
  revert h; refine fk ?_ ?_ <;> intro h <;> cbv
  ·exact dn
  revert h; refine fk ?_ ?_ <;> intro h <;> cbv
  ·exact dn
  exact dn
 cbv; revert h; refine fk ?_ ?_ <;> intro h <;> cbv
 ·exact df
 revert h; refine cu (fun y13 => (sparse 44 [(4, .c (.v (.bool y13)))] [])) ?_ fun w19 => rz fun h => ?_
 ·intro y13 S hS h; cbv; revert h; refine rk0 (hf_slices_ContainsFunc_Limpl_Shape_impl_Shape_mbFimpl_validCell_1 _) fun y20 h => ?_; cbv; revert h; refine fk ?_ ?_ <;> intro h <;> cbv
  ·revert h; refine rk0 (hf_slices_ContainsFunc_Limpl_Label_impl_Label_mbFimpl_validCell_2 _) fun y22 h => ?_; cbv; revert h; refine fk ?_ ?_ <;> intro h <;> cbv
   ·revert h; refine rk [] [] (hf_slices_ContainsFunc_Limpl_Instance_impl_Instance_mbFimpl_validCell_3p _ _) (fun _ => zg (les_cons (lR _) (les_cons (le_fn (by intro j hj; match j, hj with | 0, _ => exact le_bp (show 1 ≤ 1 from by decide) (by intro j hj; match j, hj with | 0, _ => exact rle_refl _ | (j_ + 1), h_ => exact absurd h_ (by omega)) | (j_ + 1), h_ => exact absurd h_ (by omega))) (les_nil)))) fun y24 h => ?_
    cbv; exact dn
   exact dn
  exact dn
 cbv; exact df

/-- impl.named$1 -/
noncomputable def F_impl_named_1_mbp (a0 : TCell) (a1 : ByteArray) : Option (Bool) :=
 some (std.seq a0.fName a1)
set_option maxHeartbeats 4000000 in
theorem run_impl_named_1_mbp (a0 : TCell) (a1 : ByteArray) (r : Bool) (h : F_impl_named_1_mbp a0 a1 = some r) : Fun Try.prog 63 [.agg [.v (.string a0.fName), .bs (len a0.fShapes) 5 (row gd (encShape) a0.fShapes), .bs (len a0.fLabels) 4 (row gd (encLabel) a0.fLabels), .bs (len a0.fInstances) 8 (row gd (encInstance) a0.fInstances)], .c (.bp 1 (encS a1))] [] (.c (.v (.bool r))) [] true := by
 refine ow [] Try.func63 Try.ntmps63 ?_; unfold F_impl_named_1_mbp at h; generalize hLEN : @len = LEN, hGD : @gd = GD, hA : std = A, hP : Try.prog = P at *; cbv; exact df

noncomputable def L_slices_IndexFunc_Limpl_Cell_impl_Cell_mbFimpl_named_1p_x2 (a0 : List TCell) (a1_0 : ByteArray) : (Int) → Option ((Int) ⊕ ((Int) ⊕ (Unit))) := fun x2 =>
 letO x2 fun v1 =>
 br (std.lt v1 (std.ofN (len a0)))
 (req (std.inR v1 (len a0)) <|
 (F_impl_named_1_mbp (gd a0 (std.toN v1)) a1_0).bind fun y15 =>
 br y15
 (some (.inr (.inl v1)))
 (some (.inl (std.add .i64 v1 1))))
 (some (.inr (.inr ())))
/-- impl.Cell] -/
noncomputable def F_slices_IndexFunc_Limpl_Cell_impl_Cell_mbFimpl_named_1p (a0 : List TCell) (a1_0 : ByteArray) : Option (Int) :=
 (whileP (σ := Int) (ρ := (Int) ⊕ (Unit)) (L_slices_IndexFunc_Limpl_Cell_impl_Cell_mbFimpl_named_1p_x2 a0 a1_0) 0).bind fun y3 =>
 (match y3 with
  | .inl y3k0 => (
    letO y3k0 fun w19 =>
    some w19)
  | .inr y3m0 =>
    some (-1))
set_option maxHeartbeats 4000000 in
theorem run_slices_IndexFunc_Limpl_Cell_impl_Cell_mbFimpl_named_1p (a0 : List TCell) (a1_0 : ByteArray) (r : Int) (h : F_slices_IndexFunc_Limpl_Cell_impl_Cell_mbFimpl_named_1p a0 a1_0 = some r) : Fun Try.prog 62 [.c (.bs (len a0) 4 (row gd (encCell len gd) a0)), .c (.fn 63 1 fun j => ([.bp 1 (encS a1_0)] : List AC).getD j .junk)] [] (.c (.v (.int .i64 r))) [] true := by
 refine ow [] Try.func62 Try.ntmps62 ?_; unfold F_slices_IndexFunc_Limpl_Cell_impl_Cell_mbFimpl_named_1p at h; unfold L_slices_IndexFunc_Limpl_Cell_impl_Cell_mbFimpl_named_1p_x2 at h; have hf_impl_named_1_mbp := @run_impl_named_1_mbp; generalize hLEN : @len = LEN, hGD : @gd = GD, hA : std = A, hP : Try.prog = P at *; cbv
 revert h; refine lc (fun x => (sparse 19 [(0, .c (.bs (LEN a0) 4 (row GD (encCell LEN GD) a0))), (1, .c (.fn 63 1 fun j => ([.bp 1 (encS a1_0)] : List AC).getD j .junk)), (7, .c (.v (.int .i64 (A.ofN (LEN a0))))), (8, .c (.v (.int .i64 x)))] [])) (fun y e s => (match y with | .inl w => e = .ret ∧ s.le (sparse 19 [(4, .c (.v (.int .i64 w)))] []) | .inr w0 => (fun (w : Unit) => e = .exit 0 ∧ s.le (sparse 19 [] [])) w0)) zb ?_ ?_
 ·intro v1 z h K hK hY; replace h := oz h; cbv; revert h; refine fk ?_ ?_ <;> intro h <;> cbv
  ·revert h; refine ra fun c14 h => ?_; revert h; refine rk [] [] (hf_impl_named_1_mbp _ _) (fun _ => zg (les_cons (lR _) (les_cons (le_bp (show 1 ≤ 1 from by decide) (by intro j hj; match j, hj with | 0, _ => exact rle_refl _ | (j_ + 1), h_ => exact absurd h_ (by omega))) (les_nil)))) fun y15 h => ?_; cbv; revert h; refine fk ?_ ?_ <;> intro h <;> cbv
   ·exact dy
   exact dm
  exact dy
 intro y3 h e12 s13 q11 hne; rcases y3 with y3k0 | y3m0
 ·replace h := h; obtain ⟨rfl, q11⟩ := q11; revert h; refine rz fun h => ?_; cbv; injection h with h; subst h; exact ⟨_, q11, lR _, zo, rfl⟩
 ·obtain ⟨rfl, q11⟩ := q11; cbv; refine ⟨_, q11, ?_⟩; cbv; exact df
/-- impl.named -/
noncomputable def F_impl_named (a0 : TLibrary) (a1 : ByteArray) : Option (Int) :=
 (F_slices_IndexFunc_Limpl_Cell_impl_Cell_mbFimpl_named_1p a0.fCells a1).bind fun y1 =>
 some y1
set_option maxHeartbeats 4000000 in
theorem run_impl_named (a0 : TLibrary) (a1 : ByteArray) (r : Int) (h : F_impl_named a0 a1 = some r) : Fun Try.prog 36 [.agg [.bs (len a0.fCells) 4 (row gd (encCell len gd) a0.fCells)], .c (.v (.string a1))] [] (.c (.v (.int .i64 r))) [] true := by
 refine ow [] Try.func36 Try.ntmps36 ?_; unfold F_impl_named at h; have hf_slices_IndexFunc_Limpl_Cell_impl_Cell_mbFimpl_named_1p := @run_slices_IndexFunc_Limpl_Cell_impl_Cell_mbFimpl_named_1p; generalize hLEN : @len = LEN, hGD : @gd = GD, hA : std = A, hP : Try.prog = P at *; cbv
 revert h; refine rk [] [] (hf_slices_IndexFunc_Limpl_Cell_impl_Cell_mbFimpl_named_1p _ _) (fun _ => zg (les_cons (lR _) (les_cons (le_fn (by intro j hj; match j, hj with | 0, _ => exact le_bp (show 1 ≤ 1 from by decide) (by intro j hj; match j, hj with | 0, _ => exact rle_refl _ | (j_ + 1), h_ => exact absurd h_ (by omega)) | (j_ + 1), h_ => exact absurd h_ (by omega))) (les_nil)))) fun y1 h => ?_
 cbv; exact df

noncomputable def L_impl_IsValidLibrary_x10 (a0 : TLibrary) : (Int) → Option ((Int) ⊕ ((Bool) ⊕ (Unit))) := fun x10 =>
 letO x10 fun v9 =>
 br (std.lt v9 (std.ofN (len a0.fCells)))
 (req (std.inR v9 (len a0.fCells)) <|
 ((
    (F_impl_validCell (gd a0.fCells (std.toN v9)) v9).bind fun y30 =>
    br (!(y30))
    (some true)
    ((F_impl_named (TLibrary.mk a0.fCells) (gd a0.fCells (std.toN v9)).fName).bind fun y32 =>
    some (std.not (std.eq y32 v9)))
  ) : Option (Bool)).bind fun y23 =>
 letO y23 fun w29 =>
 br w29
 (some (.inr (.inl false)))
 (some (.inl (std.add .i64 v9 1))))
 (some (.inr (.inr ())))
/-- impl.IsValidLibrary -/
noncomputable def F_impl_IsValidLibrary (a0 : TLibrary) : Option (Bool) :=
 ((
    br (std.lt (std.ofN (len a0.fCells)) 1)
    (some true)
    (some (std.lt 8 (std.ofN (len a0.fCells))))
  ) : Option (Bool)).bind fun y1 =>
 letO y1 fun w7 =>
 br w7
 (some false)
 ((whileP (σ := Int) (ρ := (Bool) ⊕ (Unit)) (L_impl_IsValidLibrary_x10 a0) 0).bind fun y11 =>
 (match y11 with
  | .inl y11k0 => (
    letO y11k0 fun w37 =>
    some w37)
  | .inr y11m0 =>
    some true))
set_option maxHeartbeats 4000000 in
theorem run_impl_IsValidLibrary (a0 : TLibrary) (r : Bool) (h : F_impl_IsValidLibrary a0 = some r) : Fun Try.prog 20 [.agg [.bs (len a0.fCells) 4 (row gd (encCell len gd) a0.fCells)]] [] (.c (.v (.bool r))) [] true := by
 refine ow [1, 6] Try.func20 Try.ntmps20 ?_; unfold F_impl_IsValidLibrary at h; unfold L_impl_IsValidLibrary_x10 at h; have hf_impl_named := @run_impl_named; have hf_impl_validCell := @run_impl_validCell; generalize hLEN : @len = LEN, hGD : @gd = GD, hA : std = A, hP : Try.prog = P at *; cbv
 revert h; refine cu (fun y1 => (sparse 36 [(1, .c (.ptr 64 0)), (14, .c (.v (.bool y1)))] [(64, .var [.bs (LEN a0.fCells) 4 (row GD (encCell LEN GD) a0.fCells)])])) (fun y1 S hS h => rg) fun w7 => rz fun h => ?_; cbv; revert h; refine fk ?_ ?_ <;> intro h <;> cbv
 ·exact df
 revert h; refine lc (fun x => (sparse 36 [(1, .c (.ptr 64 0)), (16, .c (.bs (LEN a0.fCells) 4 (row GD (encCell LEN GD) a0.fCells))), (17, .c (.v (.int .i64 (A.ofN (LEN a0.fCells))))), (18, .c (.v (.int .i64 x)))] [(64, .var [.bs (LEN a0.fCells) 4 (row GD (encCell LEN GD) a0.fCells)])])) (fun y e s => (match y with | .inl w => e = .ret ∧ s.le (sparse 36 [(2, .c (.v (.bool w)))] []) | .inr w0 => (fun (w : Unit) => e = .exit 0 ∧ s.le (sparse 36 [] [])) w0)) zb ?_ ?_
 ·intro v9 z h K hK hY; replace h := oz h; cbv; revert h; refine fk ?_ ?_ <;> intro h <;> cbv
  ·revert h; refine ra fun c22 h => ?_; revert h; refine cu (fun y23 => (sparse 36 [(1, .c (.ptr 64 0)), (16, .c (.bs (LEN a0.fCells) 4 (row GD (encCell LEN GD) a0.fCells))), (17, .c (.v (.int .i64 (A.ofN (LEN a0.fCells))))), (18, .c (.v (.int .i64 v9))), (34, .c (.v (.bool y23)))] [(64, .var [.bs (LEN a0.fCells) 4 (row GD (encCell LEN GD) a0.fCells)])])) ?_ fun w29 => rz fun h => ?_
   ·intro y23 S hS h; cbv; revert h; refine rk0 (hf_impl_validCell _ _) fun y30 h => ?_; cbv; revert h; refine fk ?_ ?_ <;> intro h <;> cbv
    ·exact dn
    revert h; refine rk0 (hf_impl_named _ _) fun y32 h => ?_; cbv; exact dn
   cbv; revert h; refine fk ?_ ?_ <;> intro h <;> cbv
   ·exact dy
   exact dm
  exact dy
 intro y11 h e20 s21 q19 hne; rcases y11 with y11k0 | y11m0
 ·replace h := h; obtain ⟨rfl, q19⟩ := q19; revert h; refine rz fun h => ?_; cbv; injection h with h; subst h; exact ⟨_, q19, lR _, zo, rfl⟩
 ·obtain ⟨rfl, q19⟩ := q19; cbv; refine ⟨_, q19, ?_⟩; cbv; exact df

/-- impl.two -/
noncomputable def F_impl_two_mnb (a0 : List Int) (a1 : Int) : Option (List Int) :=
 req (std.nneg 8) <|
 letO ([std.conv .u8 (std.shr .i64 a1 8), std.conv .u8 a1] : List Int) fun l2 =>
 req (std.room (std.nadd 0 (len l2)) 1) <|
 letO (([] : List Int) ++ l2) fun l4 =>
 some l4
set_option maxHeartbeats 4000000 in
theorem run_impl_two_mnb (a0 : List Int) (a1 : Int) (r : List Int) (h : F_impl_two_mnb a0 a1 = some r) : Fun Try.prog 23 [.c (.v (.slice none 0 0)), .c (.v (.int .i64 a1))] [] (.c (.os 64000 0 (len r))) [(64000, .arr .rw [] (len r) 1 (row gd (encI .u8) r))] true := by
 refine ow [] Try.func23 Try.ntmps23 ?_ (hv := (fun _ => ⟨trivial, ⟨fun i _ j _ => val_flat (rfl), trivial⟩⟩)); unfold F_impl_two_mnb at h; generalize hLEN : @len = LEN, hGD : @gd = GD, hA : std = A, hP : Try.prog = P at *; cbv; revert h; refine ra fun c1 h => ?_; revert h; refine rl fun l2 hl2 h => ?_; have e3 : 2 = LEN l2 := by subst hl2 hLEN; rfl
 refine ⟨_, (co e3), _, row GD (encI .u8) l2, e3, wkOf ?_, ?_⟩
 ·intro i hi j hj; rw [← e3] at hi; subst hl2; subst hGD; obtain rfl | rfl : i = 0 ∨ i = 1 := (by omega); all_goals obtain rfl : j = 0 := by omega
  all_goals rfl
 cbv; revert h; refine rq fun c6 => rl fun l4 hl4 h => ?_; have e5 := nz hA hLEN hl4; refine ⟨c6, _, (co e5), _, row GD (encI .u8) l4, e5, wkOf ?_, ?_⟩
 ·subst hGD hLEN hA; exact app_nil_os (off := 0) (fun _ _ => rfl) hl4 (Nat.le_refl _)
 cbv; injection h with h; subst h; exact ⟨_, le_ren 768 64000 (by decide) rfl, lR _, zo, rfl⟩

noncomputable def L_impl_Checksum16_x3 (a0 : ByteArray) : (Int × Int) → Option ((Int × Int) ⊕ ((Int))) := fun x3 =>
 letO x3.1 fun v1 =>
 letO x3.2 fun v2 =>
 br (std.lt v2 (std.ofN (std.slen a0)))
 (req (std.inR v2 (std.slen a0)) <|
 req (std.nz 65521) <|
 some (.inl (std.rem (std.add .i64 (std.add .i64 (std.mul .i64 31 v1) (std.conv .i64 (std.sat a0 (std.toN v2)))) 1) 65521, std.add .i64 v2 1)))
 (some (.inr v1))
/-- impl.Checksum16 -/
noncomputable def F_impl_Checksum16 (a0 : ByteArray) : Option (Int) :=
 (whileP (σ := Int × Int) (ρ := (Int)) (L_impl_Checksum16_x3 a0) (1, 0)).bind fun y4 =>
 letO y4 fun y4k0 =>
 letO y4k0 fun w18 =>
 some w18
set_option maxHeartbeats 4000000 in
theorem run_impl_Checksum16 (a0 : ByteArray) (r : Int) (h : F_impl_Checksum16 a0 = some r) : Fun Try.prog 8 [.c (.v (.string a0))] [] (.c (.v (.int .i64 r))) [] true := by
 refine ow [] Try.func8 Try.ntmps8 ?_; unfold F_impl_Checksum16 at h; unfold L_impl_Checksum16_x3 at h; generalize hLEN : @len = LEN, hGD : @gd = GD, hA : std = A, hP : Try.prog = P at *; cbv; revert h; refine ln (.exit 0) (fun x => (sparse 21 [(0, .c (.v (.string a0))), (3, .c (.v (.int .i64 x.1))), (4, .c (.v (.int .i64 x.2)))] [])) (fun w => (sparse 21 [(3, .c (.v (.int .i64 w)))] [])) zb ?_ ?_
 ·rintro ⟨v1, v2⟩ z h K hK hY; replace h := oz (oz h); dsimp only at h; cbv; revert h; refine fk ?_ ?_ <;> intro h <;> cbv
  ·revert h; refine ra fun c15 h => ?_; revert h; refine ra fun c16 h => ?_; exact dm
  exact dx
 intro w18 h s q12; replace h := oz (oz h); cbv; refine ⟨_, q12, ?_⟩; cbv; exact df

/-- impl.two -/
noncomputable def F_impl_two_mob (a0 : List Int) (a1 : Int) : Option (List Int) :=
 req (std.nneg 8) <|
 letO ([std.conv .u8 (std.shr .i64 a1 8), std.conv .u8 a1] : List Int) fun l2 =>
 req (std.room (std.nadd (len a0) (len l2)) 1) <|
 letO (a0 ++ l2) fun l4 =>
 some l4
set_option maxHeartbeats 4000000 in
theorem run_impl_two_mob (a0 : List Int) (a1 : Int) (r : List Int) (h : F_impl_two_mob a0 a1 = some r) : Fun Try.prog 23 [.c (.os 5 0 (len a0)), .c (.v (.int .i64 a1))] [(5, .arr .rw [] (len a0) 1 (row gd (encI .u8) a0))] (.c (.os 64000 0 (len r))) [(64000, .arr .rw [] (len r) 1 (row gd (encI .u8) r))] true := by
 refine ow [] Try.func23 Try.ntmps23 ?_ (hw := ⟨fun i _ j _ k hk => (noref (plain_nil (rfl)) hk).elim, trivial⟩) (hv := (fun _ => ⟨trivial, ⟨fun i _ j _ => val_flat (rfl), trivial⟩⟩)); unfold F_impl_two_mob at h; generalize hLEN : @len = LEN, hGD : @gd = GD, hA : std = A, hP : Try.prog = P at *; cbv; revert h; refine ra fun c1 h => ?_; revert h; refine rl fun l2 hl2 h => ?_
 have e3 : 2 = LEN l2 := by subst hl2 hLEN; rfl
 refine ⟨_, (co e3), _, row GD (encI .u8) l2, e3, wkOf ?_, ?_⟩
 ·intro i hi j hj; rw [← e3] at hi; subst hl2; subst hGD; obtain rfl | rfl : i = 0 ∨ i = 1 := (by omega); all_goals obtain rfl : j = 0 := by omega
  all_goals rfl
 cbv; revert h; refine rq fun c6 => rl fun l4 hl4 h => ?_; have e5 := nl hA hLEN hl4; refine ⟨c6, _, (co e5), _, row GD (encI .u8) l4, e5, wkOf ?_, ?_⟩
 ·subst hGD hLEN hA; exact app_os (off := 0) (fun _ _ => rfl) hl4 (Nat.le_refl _)
 cbv; injection h with h; subst h; exact ⟨_, le_ren 768 64000 (by decide) rfl, lR _, zo, rfl⟩

/-- impl.StreamRecord -/
noncomputable def F_impl_StreamRecord (a0 : Int) (a1 : ByteArray) : Option (ByteArray) :=
 ((
    (F_impl_within a0 1 7).bind fun y8 =>
    br (!(y8))
    (some true)
    (some (std.lt 200 (std.ofN (std.slen a1))))
  ) : Option (Bool)).bind fun y1 =>
 letO y1 fun w7 =>
 br w7
 (some (ByteArray.mk #[]))
 ((F_impl_two_mnb ([] : List Int) (std.add .i64 (std.ofN (std.slen a1)) 5)).bind fun y11 =>
 letO ([std.conv .u8 a0] : List Int) fun l13 =>
 req (std.room (std.nadd (len y11) (len l13)) 1) <|
 letO (y11 ++ l13) fun l15 =>
 req (std.room (std.nadd (len l15) (std.slen a1)) 1) <|
 letO (l15 ++ strL a1) fun l18 =>
 (F_impl_Checksum16 (std.ofBytes (len l18) (fun i => gd l18 (0 + i)))).bind fun y21 =>
 (F_impl_two_mob l18 y21).bind fun y23 =>
 some (std.ofBytes (len y23) (fun i => gd y23 (0 + i))))
set_option maxHeartbeats 4000000 in
theorem run_impl_StreamRecord (a0 : Int) (a1 : ByteArray) (r : ByteArray) (h : F_impl_StreamRecord a0 a1 = some r) : Fun Try.prog 21 [.c (.v (.int .i64 a0)), .c (.v (.string a1))] [] (.c (.v (.string r))) [] true := by
 refine ow [1] Try.func21 Try.ntmps21 ?_; unfold F_impl_StreamRecord at h; have hf_impl_Checksum16 := @run_impl_Checksum16; have hf_impl_two_mnb := @run_impl_two_mnb; have hf_impl_two_mob := @run_impl_two_mob; have hf_impl_within := @run_impl_within; generalize hLEN : @len = LEN, hGD : @gd = GD, hA : std = A, hP : Try.prog = P at *; cbv
 revert h; refine cu (fun y1 => (sparse 31 [(0, .c (.v (.int .i64 a0))), (1, .c (.v (.string a1))), (13, .c (.v (.bool y1)))] [])) ?_ fun w7 => rz fun h => ?_
 ·intro y1 S hS h; cbv; revert h; refine rk0 (hf_impl_within _ _ _) fun y8 h => ?_; cbv; revert h; refine fk ?_ ?_ <;> intro h <;> cbv
  ·exact dn
  exact dn
 cbv; revert h; refine fk ?_ ?_ <;> intro h <;> cbv
 ·exact df
 revert h; refine rk [] [(64000, 1088)] (hf_impl_two_mnb _ _) (fun _ => zf) fun y11 h => ⟨_, rfl, _, _, rfl, fun _ _ _ _ => .refl _, ?_⟩
 cbv; revert h; refine rl fun l13 hl13 h => ?_; have e14 : 1 = LEN l13 := by subst hl13 hLEN; rfl
 refine ⟨_, (co e14), _, row GD (encI .u8) l13, e14, wkOf ?_, ?_⟩
 ·intro i hi j hj; rw [← e14] at hi; subst hl13; subst hGD; obtain rfl : i = 0 := (by omega); all_goals obtain rfl : j = 0 := by omega
  all_goals rfl
 cbv; revert h; refine rq fun c17 => rl fun l15 hl15 h => ?_; have e16 := nl hA hLEN hl15; refine ⟨c17, _, (co e16), _, row GD (encI .u8) l15, e16, wkOf ?_, ?_⟩
 ·subst hGD hLEN hA; exact app_os (off := 0) (fun _ _ => rfl) hl15 (Nat.le_refl _)
 cbv; revert h; refine rq fun c20 => rl fun l18 hl18 h => ?_; have e19 : A.nadd (LEN l15) (A.slen a1) = LEN l18 := by subst hl18 hLEN hA; exact (strapp_len _ _).symm
 refine ⟨c20, _, (co e19), _, row GD (encI .u8) l18, e19, wkOf ?_, ?_⟩
 ·subst hGD hLEN hA; exact app_str hl18 (Nat.le_refl _)
 cbv; refine ⟨fun _ _ => rfl, ?_⟩; revert h; refine rk0 (hf_impl_Checksum16 _) fun y21 h => ?_; cbv; revert h; refine rk [(5, 1088)] [(64000, 1856)] (hf_impl_two_mob _ _) (fun _ => zf) fun y23 h => ⟨_, rfl, _, _, rfl, fun _ _ _ _ => .refl _, ?_⟩
 cbv; refine ⟨fun _ _ => rfl, ?_⟩; exact df
end Go.Proofs.Ytnpcpbkbenphaaa.AM
