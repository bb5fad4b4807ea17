/-
  What the functions that the law reaches compute, and that they do. No condition.
-/
import Derived.Test.YtpobpihakgegbaaGreatAmSV
namespace Go.Proofs.YtpobpihakgegbaaGreat.AM
open Go Go.Proofs Go.RowKit
set_option linter.unusedVariables false
set_option linter.unusedSimpArgs false
set_option maxRecDepth 100000

/-- spec.l09Has -/
noncomputable def F_spec_l09Has (a0 : TLibrary) (a1 : Int) : Option (Bool) :=
 ((
    (F_spec_IsValidLibrary a0).bind fun y8 =>
    br y8
    ((F_spec_l09In a1 0 (std.sub .i64 (std.ofN (len a0.fCells)) 1)).bind fun y10 =>
    some y10)
    (some false)
  ) : Option (Bool)).bind fun y1 =>
 letO y1 fun w7 =>
 some w7
set_option maxHeartbeats 4000000 in
theorem run_spec_l09Has (a0 : TLibrary) (a1 : Int) (r : Bool) (h : F_spec_l09Has a0 a1 = some r) : Fun Tryz.prog 33 [.agg [.bs (len a0.fCells) 4 (row gd (encCell len gd) a0.fCells)], .c (.v (.int .i64 a1))] [] (.c (.v (.bool r))) [] true := by
 refine ow [1] Tryz.func33 Tryz.ntmps33 ?_; unfold F_spec_l09Has at h; have hf_spec_IsValidLibrary := @run_spec_IsValidLibrary; have hf_spec_l09In := @run_spec_l09In; generalize hLEN : @len = LEN, hGD : @gd = GD, hA : std = A, hP : Tryz.prog = P at *; cbv; revert h; refine cu (fun y1 => (sparse 15 [(4, .c (.v (.bool y1)))] [])) ?_ fun w7 => rz fun h => ?_
 ·intro y1 S hS h; cbv; revert h; refine rk0 (hf_spec_IsValidLibrary _) fun y8 h => ?_; cbv; revert h; refine fk ?_ ?_ <;> intro h <;> cbv
  ·revert h; refine rk0 (hf_spec_l09In _ _ _) fun y10 h => ?_; cbv; exact dn
  exact dn
 cbv; exact df

noncomputable def L_spec_ElementCount_x22 (a0 : TLibrary) (v6 : List Int) (v5 : Int) : (Int × Int) → Option ((Int × Int) ⊕ ((Int))) := fun x22 =>
 letO x22.1 fun v20 =>
 letO x22.2 fun v21 =>
 br (std.lt v21 (std.ofN (len (gd a0.fCells (std.toN v5)).fInstances)))
 (req (std.inR v21 (len (gd a0.fCells (std.toN v5)).fInstances)) <|
 req (std.inR v21 (len (gd a0.fCells (std.toN v5)).fInstances)) <|
 req (std.inR v21 (len (gd a0.fCells (std.toN v5)).fInstances)) <|
 req (std.inR (gd (gd a0.fCells (std.toN v5)).fInstances (std.toN v21)).fCell (len v6)) <|
 some (.inl (std.add .i64 v20 (std.mul .i64 (std.mul .i64 (gd (gd a0.fCells (std.toN v5)).fInstances (std.toN v21)).fColumns (gd (gd a0.fCells (std.toN v5)).fInstances (std.toN v21)).fRows) (gd v6 (std.nadd 0 (std.toN (gd (gd a0.fCells (std.toN v5)).fInstances (std.toN v21)).fCell)))), std.add .i64 v21 1)))
 (some (.inr v20))
noncomputable def L_spec_ElementCount_x7 (a0 : TLibrary) : (Int × (List Int)) → Option ((Int × (List Int)) ⊕ (((List Int)))) := fun x7 =>
 letO x7.1 fun v5 =>
 letO x7.2 fun v6 =>
 br (std.lt v5 (std.ofN (len a0.fCells)))
 (req (std.inR v5 (len a0.fCells)) <|
 (whileP (σ := Int × Int) (ρ := (Int)) (L_spec_ElementCount_x22 a0 v6 v5) (1, 0)).bind fun y23 =>
 letO y23 fun y23k0 =>
 letO y23k0 fun w39 =>
 letO ([w39] : List Int) fun l40 =>
 req (std.room (std.nadd (len v6) (len l40)) 8) <|
 letO (v6 ++ l40) fun l42 =>
 some (.inl (std.add .i64 v5 1, l42)))
 (some (.inr v6))
/-- spec.ElementCount -/
noncomputable def F_spec_ElementCount (a0 : TLibrary) (a1 : Int) : Option (Int) :=
 (F_spec_l09Has a0 a1).bind fun y1 =>
 br (!(y1))
 (some (-1))
 (letO ([] : List Int) fun l3 =>
 (whileP (σ := Int × (List Int)) (ρ := ((List Int))) (L_spec_ElementCount_x7 a0) (0, l3)).bind fun y8 =>
 letO y8 fun y8k0 =>
 letO y8k0 fun w46 =>
 req (std.inR a1 (len w46)) <|
 some (gd w46 (std.nadd 0 (std.toN a1))))
set_option maxHeartbeats 4000000 in
theorem run_spec_ElementCount (a0 : TLibrary) (a1 : Int) (r : Int) (h : F_spec_ElementCount a0 a1 = some r) : Fun Tryz.prog 35 [.agg [.bs (len a0.fCells) 4 (row gd (encCell len gd) a0.fCells)], .c (.v (.int .i64 a1))] [] (.c (.v (.int .i64 r))) [] true := by
 refine ow [] Tryz.func35 Tryz.ntmps35 ?_; unfold F_spec_ElementCount at h; unfold L_spec_ElementCount_x7 at h; unfold L_spec_ElementCount_x22 at h; have hf_spec_l09Has := @run_spec_l09Has; generalize hLEN : @len = LEN, hGD : @gd = GD, hA : std = A, hP : Tryz.prog = P at *; cbv; revert h; refine rk0 (hf_spec_l09Has _ _) fun y1 h => ?_; cbv; revert h; refine fk ?_ ?_ <;> intro h <;> cbv
 ·exact df
 revert h; refine rl fun l3 hl3 h => ?_; have e4 : 0 = LEN l3 := by subst hl3 hLEN; rfl
 refine ⟨_, (co e4), _, row GD (encI .i64) l3, e4, wkOf ?_, ?_⟩
 ·intro i hi j hj; rw [← e4] at hi; subst hl3; subst hGD; omega
 cbv
 revert h; refine ln (.exit 0) (fun x => (sparse 64 [(1, .c (.v (.int .i64 a1))), (2, .c (.ptr 128 0)), (5, .c (.os 896 0 (LEN x.2))), (6, .c (.v (.int .i64 x.1)))] [(128, .var [.bs (LEN a0.fCells) 4 (row GD (encCell LEN GD) a0.fCells)]), (896, .arr .rw [] (LEN x.2) 1 (row GD (encI .i64) x.2))])) (fun w => (sparse 64 [(1, .c (.v (.int .i64 a1))), (5, .c (.os 896 0 (LEN w)))] [(896, .arr .rw [] (LEN w) 1 (row GD (encI .i64) w))])) zb ?_ ?_
 ·rintro ⟨v5, v6⟩ z h K hK hY; replace h := oz (oz h); dsimp only at h; cbv; revert h; refine fk ?_ ?_ <;> intro h <;> cbv
  ·revert h; refine ra fun c19 h => ?_
   revert h; refine ln (.exit 2) (fun x => (sparse 64 [(1, .c (.v (.int .i64 a1))), (2, .c (.ptr 128 0)), (5, .c (.os 896 0 (LEN v6))), (6, .c (.v (.int .i64 v5))), (7, .c (.v (.int .i64 x.1))), (8, .c (.bs (LEN (GD a0.fCells (A.toN v5)).fInstances) 8 (row GD (encInstance) (GD a0.fCells (A.toN v5)).fInstances))), (9, .c (.v (.int .i64 x.2)))] [(128, .var [.bs (LEN a0.fCells) 4 (row GD (encCell LEN GD) a0.fCells)]), (896, .arr .rw [] (LEN v6) 1 (row GD (encI .i64) v6))])) (fun w => (sparse 64 [(1, .c (.v (.int .i64 a1))), (2, .c (.ptr 128 0)), (5, .c (.os 896 0 (LEN v6))), (6, .c (.v (.int .i64 v5))), (7, .c (.v (.int .i64 w)))] [(128, .var [.bs (LEN a0.fCells) 4 (row GD (encCell LEN GD) a0.fCells)]), (896, .arr .rw [] (LEN v6) 1 (row GD (encI .i64) v6))])) zb ?_ ?_
   ·rintro ⟨v20, v21⟩ z h K hK hY; replace h := oz (oz h); dsimp only at h; cbv; revert h; refine fk ?_ ?_ <;> intro h <;> cbv
    ·revert h; refine ra fun c34 h => ?_; revert h; refine ra fun c35 h => ?_; revert h; refine ra fun c36 h => ?_; revert h; refine ra fun c37 h => ?_; refine ai c37 ?_; exact dm
    exact dx
   intro w39 h s q31; replace h := oz (oz h); cbv; refine ⟨_, q31, ?_⟩; cbv; revert h; refine rl fun l40 hl40 h => ?_; have e41 : 1 = LEN l40 := by subst hl40 hLEN; rfl
   refine ⟨_, (co e41), _, row GD (encI .i64) l40, e41, wkOf ?_, ?_⟩
   ·intro i hi j hj; rw [← e41] at hi; subst hl40; subst hGD; obtain rfl : i = 0 := (by omega); all_goals obtain rfl : j = 0 := by omega
    all_goals rfl
   cbv; revert h; refine rq fun c44 => rl fun l42 hl42 h => ?_; have e43 := nl hA hLEN hl42; refine ⟨c44, _, (co e43), _, row GD (encI .i64) l42, e43, wkOf ?_, ?_⟩
   ·subst hGD hLEN hA; exact app_os (off := 0) (fun _ _ => rfl) hl42 (Nat.le_refl _)
   cbv; exact dm
  exact dx
 intro w46 h s q16; replace h := oz (oz h); cbv; refine ⟨_, q16, ?_⟩; cbv; revert h; refine ra fun c47 h => ?_; refine ai c47 ?_; exact df

/-- spec.l10Hull -/
noncomputable def F_spec_l10Hull (a0 : TRect) (a1 : TRect) : Option (TRect) :=
 some (TRect.mk (std.imin a0.fX0 a1.fX0) (std.imin a0.fY0 a1.fY0) (std.imax a0.fX1 a1.fX1) (std.imax a0.fY1 a1.fY1))
set_option maxHeartbeats 4000000 in
theorem run_spec_l10Hull (a0 : TRect) (a1 : TRect) (r : TRect) (h : F_spec_l10Hull a0 a1 = some r) : Fun Tryz.prog 126 [.agg [.v (.int .i64 a0.fX0), .v (.int .i64 a0.fY0), .v (.int .i64 a0.fX1), .v (.int .i64 a0.fY1)], .agg [.v (.int .i64 a1.fX0), .v (.int .i64 a1.fY0), .v (.int .i64 a1.fX1), .v (.int .i64 a1.fY1)]] [] (.agg [.v (.int .i64 r.fX0), .v (.int .i64 r.fY0), .v (.int .i64 r.fX1), .v (.int .i64 r.fY1)]) [] true := by
 refine ow [] Tryz.func126 Tryz.ntmps126 ?_ (hv := (fun _ => ⟨(by simp [AV.flat, AV.flat1, AC.flat]), trivial⟩)); unfold F_spec_l10Hull at h; generalize hLEN : @len = LEN, hGD : @gd = GD, hA : std = A, hP : Tryz.prog = P at *; cbv; exact df

noncomputable def L_spec_l12Own_x53 (w46 : List TRect) : (Int × Int × Int × Int × Int) → Option ((Int × Int × Int × Int × Int) ⊕ ((Int × Int × Int × Int))) := fun x53 =>
 letO x53.1 fun v48 =>
 letO x53.2.1 fun v49 =>
 letO x53.2.2.1 fun v50 =>
 letO x53.2.2.2.1 fun v51 =>
 letO x53.2.2.2.2 fun v52 =>
 br (std.lt v48 (std.ofN (len w46)))
 (req (std.inR v48 (len w46)) <|
 (F_spec_l10Hull (TRect.mk v49 v50 v51 v52) (gd w46 (std.nadd 0 (std.toN v48)))).bind fun y66 =>
 some (.inl (std.add .i64 v48 1, y66.fX0, y66.fY0, y66.fX1, y66.fY1)))
 (some (.inr (v49, v50, v51, v52)))
noncomputable def L_spec_l12Own_x27 (a0 : TCell) : (Int × (List TRect)) → Option ((Int × (List TRect)) ⊕ (((List TRect)))) := fun x27 =>
 letO x27.1 fun v25 =>
 letO x27.2 fun v26 =>
 br (std.lt v25 (std.ofN (len a0.fLabels)))
 (req (std.inR v25 (len a0.fLabels)) <|
 letO ([(TRect.mk (gd a0.fLabels (std.toN v25)).fAt.fX (gd a0.fLabels (std.toN v25)).fAt.fY (std.add .i64 (gd a0.fLabels (std.toN v25)).fAt.fX 1) (std.add .i64 (gd a0.fLabels (std.toN v25)).fAt.fY 1))] : List TRect) fun l40 =>
 req (std.room (std.nadd (len v26) (len l40)) 32) <|
 letO (v26 ++ l40) fun l42 =>
 some (.inl (std.add .i64 v25 1, l42)))
 (some (.inr v26))
noncomputable def L_spec_l12Own_x5 (a0 : TCell) : (Int × (List TRect)) → Option ((Int × (List TRect)) ⊕ (((List TRect)))) := fun x5 =>
 letO x5.1 fun v3 =>
 letO x5.2 fun v4 =>
 br (std.lt v3 (std.ofN (len a0.fShapes)))
 (req (std.inR v3 (len a0.fShapes)) <|
 letO ([(gd a0.fShapes (std.toN v3)).fBox] : List TRect) fun l18 =>
 req (std.room (std.nadd (len v4) (len l18)) 32) <|
 letO (v4 ++ l18) fun l20 =>
 some (.inl (std.add .i64 v3 1, l20)))
 (some (.inr v4))
/-- spec.l12Own -/
noncomputable def F_spec_l12Own (a0 : TCell) : Option (TRect × Bool) :=
 letO ([] : List TRect) fun l1 =>
 (whileP (σ := Int × (List TRect)) (ρ := ((List TRect))) (L_spec_l12Own_x5 a0) (0, l1)).bind fun y6 =>
 letO y6 fun y6k0 =>
 letO y6k0 fun w24 =>
 (whileP (σ := Int × (List TRect)) (ρ := ((List TRect))) (L_spec_l12Own_x27 a0) (0, w24)).bind fun y28 =>
 letO y28 fun y28k0 =>
 letO y28k0 fun w46 =>
 br (std.eq (std.ofN (len w46)) 0)
 (some ((TRect.mk 0 0 0 0), false))
 (req (std.inR 0 (len w46)) <|
 (whileP (σ := Int × Int × Int × Int × Int) (ρ := (Int × Int × Int × Int)) (L_spec_l12Own_x53 w46) (1, (gd w46 (std.nadd 0 (std.toN 0))).fX0, (gd w46 (std.nadd 0 (std.toN 0))).fY0, (gd w46 (std.nadd 0 (std.toN 0))).fX1, (gd w46 (std.nadd 0 (std.toN 0))).fY1)).bind fun y54 =>
 letO y54 fun y54k0 =>
 letO y54k0.1 fun w69 =>
 letO y54k0.2.1 fun w70 =>
 letO y54k0.2.2.1 fun w71 =>
 letO y54k0.2.2.2 fun w72 =>
 some ((TRect.mk w69 w70 w71 w72), true))
set_option maxHeartbeats 4000000 in
theorem run_spec_l12Own (a0 : TCell) (r : TRect × Bool) (h : F_spec_l12Own a0 = some r) : Fun Tryz.prog 124 [.agg [.v (.string a0.fName), .bs (len a0.fShapes) 5 (row gd (encShape) a0.fShapes), .bs (len a0.fLabels) 4 (row gd (encLabel) a0.fLabels), .bs (len a0.fInstances) 8 (row gd (encInstance) a0.fInstances)]] [] (.tup [.agg [.v (.int .i64 r.1.fX0), .v (.int .i64 r.1.fY0), .v (.int .i64 r.1.fX1), .v (.int .i64 r.1.fY1)], .c (.v (.bool r.2))]) [] true := by
 refine ow [] Tryz.func124 Tryz.ntmps124 ?_ (hv := (fun _ => ⟨(by simp [AV.flat, AV.flat1, AC.flat]), trivial⟩)); unfold F_spec_l12Own at h; unfold L_spec_l12Own_x5 at h; unfold L_spec_l12Own_x27 at h; unfold L_spec_l12Own_x53 at h; have hf_spec_l10Hull := @run_spec_l10Hull; generalize hLEN : @len = LEN, hGD : @gd = GD, hA : std = A, hP : Tryz.prog = P at *; cbv
 revert h; refine rl fun l1 hl1 h => ?_; have e2 : 0 = LEN l1 := by subst hl1 hLEN; rfl
 refine ⟨_, (co e2), _, row GD (encRect) l1, e2, wkOf ?_, ?_⟩
 ·intro i hi j hj; rw [← e2] at hi; subst hl1; subst hGD; omega
 cbv
 revert h; refine ln (.exit 0) (fun x => (sparse 74 [(1, .c (.ptr 64 0)), (2, .c (.ptr 128 0)), (4, .c (.os 640 0 (LEN x.2))), (5, .c (.v (.int .i64 x.1)))] [(64, .var [.v (.string a0.fName), .bs (LEN a0.fShapes) 5 (row GD (encShape) a0.fShapes), .bs (LEN a0.fLabels) 4 (row GD (encLabel) a0.fLabels), .bs (LEN a0.fInstances) 8 (row GD (encInstance) a0.fInstances)]), (128, .var [.v (.int .i64 0), .v (.int .i64 0), .v (.int .i64 0), .v (.int .i64 0)]), (640, .arr .rw [] (LEN x.2) 4 (row GD (encRect) x.2))])) (fun w => (sparse 74 [(1, .c (.ptr 64 0)), (2, .c (.ptr 128 0)), (4, .c (.os 640 0 (LEN w)))] [(64, .var [.v (.string a0.fName), .bs (LEN a0.fShapes) 5 (row GD (encShape) a0.fShapes), .bs (LEN a0.fLabels) 4 (row GD (encLabel) a0.fLabels), .bs (LEN a0.fInstances) 8 (row GD (encInstance) a0.fInstances)]), (128, .var [.v (.int .i64 0), .v (.int .i64 0), .v (.int .i64 0), .v (.int .i64 0)]), (640, .arr .rw [] (LEN w) 4 (row GD (encRect) w))])) zb ?_ ?_
 ·rintro ⟨v3, v4⟩ z h K hK hY; replace h := oz (oz h); dsimp only at h; cbv; revert h; refine fk ?_ ?_ <;> intro h <;> cbv
  ·revert h; refine ra fun c17 h => ?_; revert h; refine rl fun l18 hl18 h => ?_; have e19 : 1 = LEN l18 := by subst hl18 hLEN; rfl
   refine ⟨_, (co e19), _, row GD (encRect) l18, e19, wkOf ?_, ?_⟩
   ·intro i hi j hj; rw [← e19] at hi; subst hl18; subst hGD; obtain rfl : i = 0 := (by omega) <;> obtain rfl | rfl | rfl | rfl : j = 0 ∨ j = 1 ∨ j = 2 ∨ j = 3 := (by omega)
    all_goals rfl
   cbv; revert h; refine rq fun c22 => rl fun l20 hl20 h => ?_; have e21 := nl hA hLEN hl20; refine ⟨c22, _, (co e21), _, row GD (encRect) l20, e21, wkOf ?_, ?_⟩
   ·subst hGD hLEN hA; exact app_os (off := 0) (pl_encRect) hl20 (Nat.le_refl _)
   cbv; exact dm
  exact dx
 intro w24 h s q14; replace h := oz (oz h); cbv; refine ⟨_, q14, ?_⟩; cbv
 revert h; refine ln (.exit 2) (fun x => (sparse 74 [(1, .c (.ptr 64 0)), (2, .c (.ptr 128 0)), (4, .c (.os 640 0 (LEN x.2))), (6, .c (.v (.int .i64 x.1)))] [(64, .var [.v (.string a0.fName), .bs (LEN a0.fShapes) 5 (row GD (encShape) a0.fShapes), .bs (LEN a0.fLabels) 4 (row GD (encLabel) a0.fLabels), .bs (LEN a0.fInstances) 8 (row GD (encInstance) a0.fInstances)]), (128, .var [.v (.int .i64 0), .v (.int .i64 0), .v (.int .i64 0), .v (.int .i64 0)]), (640, .arr .rw [] (LEN x.2) 4 (row GD (encRect) x.2))])) (fun w => (sparse 74 [(2, .c (.ptr 128 0)), (4, .c (.os 640 0 (LEN w)))] [(128, .var [.v (.int .i64 0), .v (.int .i64 0), .v (.int .i64 0), .v (.int .i64 0)]), (640, .arr .rw [] (LEN w) 4 (row GD (encRect) w))])) zb ?_ ?_
 ·rintro ⟨v25, v26⟩ z h K hK hY; replace h := oz (oz h); dsimp only at h; cbv; revert h; refine fk ?_ ?_ <;> intro h <;> cbv
  ·revert h; refine ra fun c39 h => ?_; revert h; refine rl fun l40 hl40 h => ?_; have e41 : 1 = LEN l40 := by subst hl40 hLEN; rfl
   refine ⟨_, (co e41), _, row GD (encRect) l40, e41, wkOf ?_, ?_⟩
   ·intro i hi j hj; rw [← e41] at hi; subst hl40; subst hGD; obtain rfl : i = 0 := (by omega) <;> obtain rfl | rfl | rfl | rfl : j = 0 ∨ j = 1 ∨ j = 2 ∨ j = 3 := (by omega)
    all_goals rfl
   cbv; revert h; refine rq fun c44 => rl fun l42 hl42 h => ?_; have e43 := nl hA hLEN hl42; refine ⟨c44, _, (co e43), _, row GD (encRect) l42, e43, wkOf ?_, ?_⟩
   ·subst hGD hLEN hA; exact app_os (off := 0) (pl_encRect) hl42 (Nat.le_refl _)
   cbv; exact dm
  exact dx
 intro w46 h s q36; replace h := oz (oz h); cbv; refine ⟨_, q36, ?_⟩; cbv; revert h; refine fk ?_ ?_ <;> intro h <;> cbv
 ·exact df
 revert h; refine ra fun c47 h => ?_; refine ai c47 ?_
 revert h; refine ln (.exit 4) (fun x => (sparse 74 [(2, .c (.ptr 128 0)), (4, .c (.os 640 0 (LEN w46))), (8, .c (.ptr 512 0)), (9, .c (.v (.int .i64 x.1)))] [(128, .var [.v (.int .i64 0), .v (.int .i64 0), .v (.int .i64 0), .v (.int .i64 0)]), (640, .arr .rw [] (LEN w46) 4 (row GD (encRect) w46)), (512, .var [.v (.int .i64 x.2.1), .v (.int .i64 x.2.2.1), .v (.int .i64 x.2.2.2.1), .v (.int .i64 x.2.2.2.2)])])) (fun w => (sparse 74 [(2, .c (.ptr 128 0)), (8, .c (.ptr 512 0))] [(128, .var [.v (.int .i64 0), .v (.int .i64 0), .v (.int .i64 0), .v (.int .i64 0)]), (512, .var [.v (.int .i64 w.1), .v (.int .i64 w.2.1), .v (.int .i64 w.2.2.1), .v (.int .i64 w.2.2.2)])])) zb ?_ ?_
 ·rintro ⟨v48, v49, v50, v51, v52⟩ z h K hK hY; replace h := oz (oz (oz (oz (oz h)))); dsimp only at h; cbv; revert h; refine fk ?_ ?_ <;> intro h <;> cbv
  ·revert h; refine ra fun c65 h => ?_; refine ai c65 ?_; revert h; refine rk0 (hf_spec_l10Hull _ _) fun y66 h => ?_; cbv; exact dm
  exact dx
 rintro ⟨w69, w70, w71, w72⟩ h s q62; replace h := oz (oz (oz (oz (oz h)))); dsimp only at h; cbv; refine ⟨_, q62, ?_⟩; cbv; exact df

noncomputable def L_spec_l10Point_x13  : (Int × Int × Int) → Option ((Int × Int × Int) ⊕ ((Int × Int))) := fun x13 =>
 letO x13.1 fun v10 =>
 letO x13.2.1 fun v11 =>
 letO x13.2.2 fun v12 =>
 br (std.lt 0 v12)
 (some (.inl (std.sub .i64 0 v11, v10, std.sub .i64 v12 1)))
 (some (.inr (v10, v11)))
/-- spec.l10Point -/
noncomputable def F_spec_l10Point (a0 : TTransform) (a1 : TPoint) : Option (TPoint) :=
 ((
    br (std.le 4 a0.fOrientation)
    (some (std.sub .i64 0 a1.fY))
    (some a1.fY)
  ) : Option (Int)).bind fun y1 =>
 letO y1 fun w7 =>
 req (std.nz 4) <|
 (whileP (σ := Int × Int × Int) (ρ := (Int × Int)) L_spec_l10Point_x13 (a1.fX, w7, std.rem a0.fOrientation 4)).bind fun y14 =>
 letO y14 fun y14k0 =>
 letO y14k0.1 fun w26 =>
 letO y14k0.2 fun w27 =>
 some (TPoint.mk (std.add .i64 w26 a0.fX) (std.add .i64 w27 a0.fY))
set_option maxHeartbeats 4000000 in
theorem run_spec_l10Point (a0 : TTransform) (a1 : TPoint) (r : TPoint) (h : F_spec_l10Point a0 a1 = some r) : Fun Tryz.prog 86 [.agg [.v (.int .i64 a0.fOrientation), .v (.int .i64 a0.fX), .v (.int .i64 a0.fY)], .agg [.v (.int .i64 a1.fX), .v (.int .i64 a1.fY)]] [] (.agg [.v (.int .i64 r.fX), .v (.int .i64 r.fY)]) [] true := by
 refine ow [100014] Tryz.func86 Tryz.ntmps86 ?_ (hv := (fun _ => ⟨(by simp [AV.flat, AV.flat1, AC.flat]), trivial⟩)); unfold F_spec_l10Point at h; unfold L_spec_l10Point_x13 at h; generalize hLEN : @len = LEN, hGD : @gd = GD, hA : std = A, hP : Tryz.prog = P at *; cbv
 revert h; refine cu (fun y1 => some (sparse 36 [(2, .c (.ptr 128 0)), (4, .c (.ptr 256 0)), (5, .c (.v (.int .i64 a1.fX))), (6, .c (.v (.int .i64 y1)))] [(128, .var [.v (.int .i64 a0.fOrientation), .v (.int .i64 a0.fX), .v (.int .i64 a0.fY)]), (256, .var [.v (.int .i64 0), .v (.int .i64 0)])])) (fun y1 S hS h => rg) fun w7 => rz fun h => ?_; cbv; revert h; refine ra fun c9 h => ?_
 revert h; refine ln (.exit 0) (fun x => (sparse 36 [(2, .c (.ptr 128 0)), (4, .c (.ptr 256 0)), (5, .c (.v (.int .i64 x.1))), (6, .c (.v (.int .i64 x.2.1))), (7, .c (.v (.int .i64 x.2.2)))] [(128, .var [.v (.int .i64 a0.fOrientation), .v (.int .i64 a0.fX), .v (.int .i64 a0.fY)]), (256, .var [.v (.int .i64 0), .v (.int .i64 0)])])) (fun w => (sparse 36 [(2, .c (.ptr 128 0)), (4, .c (.ptr 256 0)), (5, .c (.v (.int .i64 w.1))), (6, .c (.v (.int .i64 w.2)))] [(128, .var [.v (.int .i64 a0.fOrientation), .v (.int .i64 a0.fX), .v (.int .i64 a0.fY)]), (256, .var [.v (.int .i64 0), .v (.int .i64 0)])])) zb ?_ ?_
 ·rintro ⟨v10, v11, v12⟩ z h K hK hY; replace h := oz (oz (oz h)); dsimp only at h; cbv; revert h; refine fk ?_ ?_ <;> intro h <;> cbv
  ·exact dm
  exact dx
 rintro ⟨w26, w27⟩ h s q22; replace h := oz (oz (oz h)); dsimp only at h; cbv; refine ⟨_, q22, ?_⟩; cbv; exact df

/-- spec.l10Rect -/
noncomputable def F_spec_l10Rect (a0 : TTransform) (a1 : TRect) : Option (TRect) :=
 (F_spec_l10Point a0 (TPoint.mk a1.fX0 a1.fY0)).bind fun y1 =>
 (F_spec_l10Point a0 (TPoint.mk a1.fX1 a1.fY1)).bind fun y3 =>
 some (TRect.mk (std.imin y1.fX y3.fX) (std.imin y1.fY y3.fY) (std.imax y1.fX y3.fX) (std.imax y1.fY y3.fY))
set_option maxHeartbeats 4000000 in
theorem run_spec_l10Rect (a0 : TTransform) (a1 : TRect) (r : TRect) (h : F_spec_l10Rect a0 a1 = some r) : Fun Tryz.prog 62 [.agg [.v (.int .i64 a0.fOrientation), .v (.int .i64 a0.fX), .v (.int .i64 a0.fY)], .agg [.v (.int .i64 a1.fX0), .v (.int .i64 a1.fY0), .v (.int .i64 a1.fX1), .v (.int .i64 a1.fY1)]] [] (.agg [.v (.int .i64 r.fX0), .v (.int .i64 r.fY0), .v (.int .i64 r.fX1), .v (.int .i64 r.fY1)]) [] true := by
 refine ow [] Tryz.func62 Tryz.ntmps62 ?_ (hv := (fun _ => ⟨(by simp [AV.flat, AV.flat1, AC.flat]), trivial⟩)); unfold F_spec_l10Rect at h; have hf_spec_l10Point := @run_spec_l10Point; generalize hLEN : @len = LEN, hGD : @gd = GD, hA : std = A, hP : Tryz.prog = P at *; cbv; revert h; refine rk0 (hf_spec_l10Point _ _) fun y1 h => ?_; cbv; revert h; refine rk0 (hf_spec_l10Point _ _) fun y3 h => ?_
 cbv; exact df
/-- spec.l10Element -/
noncomputable def F_spec_l10Element (a0 : TInstance) (a1 : Int) (a2 : Int) : Option (TTransform) :=
 some (TTransform.mk a0.fPlace.fOrientation (std.add .i64 a0.fPlace.fX (std.mul .i64 a1 a0.fStepX)) (std.add .i64 a0.fPlace.fY (std.mul .i64 a2 a0.fStepY)))
set_option maxHeartbeats 4000000 in
theorem run_spec_l10Element (a0 : TInstance) (a1 : Int) (a2 : Int) (r : TTransform) (h : F_spec_l10Element a0 a1 a2 = some r) : Fun Tryz.prog 113 [.agg [.v (.int .i64 a0.fCell), .v (.int .i64 a0.fPlace.fOrientation), .v (.int .i64 a0.fPlace.fX), .v (.int .i64 a0.fPlace.fY), .v (.int .i64 a0.fColumns), .v (.int .i64 a0.fRows), .v (.int .i64 a0.fStepX), .v (.int .i64 a0.fStepY)], .c (.v (.int .i64 a1)), .c (.v (.int .i64 a2))] [] (.agg [.v (.int .i64 r.fOrientation), .v (.int .i64 r.fX), .v (.int .i64 r.fY)]) [] true := by
 refine ow [] Tryz.func113 Tryz.ntmps113 ?_ (hv := (fun _ => ⟨(by simp [AV.flat, AV.flat1, AC.flat]), trivial⟩)); unfold F_spec_l10Element at h; generalize hLEN : @len = LEN, hGD : @gd = GD, hA : std = A, hP : Tryz.prog = P at *; cbv; exact df

noncomputable def L_spec_l12Array_x25 (a0 : TInstance) (a1 : TRect) (v3 : Int) : (Int × Int × Int × Int × Int) → Option ((Int × Int × Int × Int × Int) ⊕ ((Int × Int × Int × Int))) := fun x25 =>
 letO x25.1 fun v20 =>
 letO x25.2.1 fun v21 =>
 letO x25.2.2.1 fun v22 =>
 letO x25.2.2.2.1 fun v23 =>
 letO x25.2.2.2.2 fun v24 =>
 br (std.lt v20 a0.fColumns)
 ((F_spec_l10Element a0 v20 v3).bind fun y37 =>
 (F_spec_l10Rect y37 (TRect.mk a1.fX0 a1.fY0 a1.fX1 a1.fY1)).bind fun y39 =>
 (F_spec_l10Hull (TRect.mk v21 v22 v23 v24) y39).bind fun y41 =>
 some (.inl (std.add .i64 v20 1, y41.fX0, y41.fY0, y41.fX1, y41.fY1)))
 (some (.inr (v21, v22, v23, v24)))
noncomputable def L_spec_l12Array_x8 (a0 : TInstance) (a1 : TRect) : (Int × Int × Int × Int × Int) → Option ((Int × Int × Int × Int × Int) ⊕ ((Int × Int × Int × Int))) := fun x8 =>
 letO x8.1 fun v3 =>
 letO x8.2.1 fun v4 =>
 letO x8.2.2.1 fun v5 =>
 letO x8.2.2.2.1 fun v6 =>
 letO x8.2.2.2.2 fun v7 =>
 br (std.lt v3 a0.fRows)
 ((whileP (σ := Int × Int × Int × Int × Int) (ρ := (Int × Int × Int × Int)) (L_spec_l12Array_x25 a0 a1 v3) (0, v4, v5, v6, v7)).bind fun y26 =>
 letO y26 fun y26k0 =>
 letO y26k0.1 fun w44 =>
 letO y26k0.2.1 fun w45 =>
 letO y26k0.2.2.1 fun w46 =>
 letO y26k0.2.2.2 fun w47 =>
 some (.inl (std.add .i64 v3 1, w44, w45, w46, w47)))
 (some (.inr (v4, v5, v6, v7)))
/-- spec.l12Array -/
noncomputable def F_spec_l12Array (a0 : TInstance) (a1 : TRect) : Option (TRect) :=
 (F_spec_l10Rect a0.fPlace (TRect.mk a1.fX0 a1.fY0 a1.fX1 a1.fY1)).bind fun y1 =>
 (whileP (σ := Int × Int × Int × Int × Int) (ρ := (Int × Int × Int × Int)) (L_spec_l12Array_x8 a0 a1) (0, y1.fX0, y1.fY0, y1.fX1, y1.fY1)).bind fun y9 =>
 letO y9 fun y9k0 =>
 letO y9k0.1 fun w49 =>
 letO y9k0.2.1 fun w50 =>
 letO y9k0.2.2.1 fun w51 =>
 letO y9k0.2.2.2 fun w52 =>
 some (TRect.mk w49 w50 w51 w52)
set_option maxHeartbeats 4000000 in
theorem run_spec_l12Array (a0 : TInstance) (a1 : TRect) (r : TRect) (h : F_spec_l12Array a0 a1 = some r) : Fun Tryz.prog 125 [.agg [.v (.int .i64 a0.fCell), .v (.int .i64 a0.fPlace.fOrientation), .v (.int .i64 a0.fPlace.fX), .v (.int .i64 a0.fPlace.fY), .v (.int .i64 a0.fColumns), .v (.int .i64 a0.fRows), .v (.int .i64 a0.fStepX), .v (.int .i64 a0.fStepY)], .agg [.v (.int .i64 a1.fX0), .v (.int .i64 a1.fY0), .v (.int .i64 a1.fX1), .v (.int .i64 a1.fY1)]] [] (.agg [.v (.int .i64 r.fX0), .v (.int .i64 r.fY0), .v (.int .i64 r.fX1), .v (.int .i64 r.fY1)]) [] true := by
 refine ow [] Tryz.func125 Tryz.ntmps125 ?_ (hv := (fun _ => ⟨(by simp [AV.flat, AV.flat1, AC.flat]), trivial⟩)); unfold F_spec_l12Array at h; unfold L_spec_l12Array_x8 at h; unfold L_spec_l12Array_x25 at h; have hf_spec_l10Element := @run_spec_l10Element; have hf_spec_l10Hull := @run_spec_l10Hull; have hf_spec_l10Rect := @run_spec_l10Rect
 generalize hLEN : @len = LEN, hGD : @gd = GD, hA : std = A, hP : Tryz.prog = P at *; cbv; revert h; refine rk0 (hf_spec_l10Rect _ _) fun y1 h => ?_; cbv
 revert h; refine ln (.exit 0) (fun x => (sparse 33 [(2, .c (.ptr 128 0)), (3, .c (.ptr 192 0)), (4, .c (.ptr 256 0)), (5, .c (.ptr 320 0)), (6, .c (.v (.int .i64 x.1)))] [(128, .var [.v (.int .i64 a0.fCell), .v (.int .i64 a0.fPlace.fOrientation), .v (.int .i64 a0.fPlace.fX), .v (.int .i64 a0.fPlace.fY), .v (.int .i64 a0.fColumns), .v (.int .i64 a0.fRows), .v (.int .i64 a0.fStepX), .v (.int .i64 a0.fStepY)]), (192, .var [.v (.int .i64 a1.fX0), .v (.int .i64 a1.fY0), .v (.int .i64 a1.fX1), .v (.int .i64 a1.fY1)]), (256, .var [.v (.int .i64 0), .v (.int .i64 0), .v (.int .i64 0), .v (.int .i64 0)]), (320, .var [.v (.int .i64 x.2.1), .v (.int .i64 x.2.2.1), .v (.int .i64 x.2.2.2.1), .v (.int .i64 x.2.2.2.2)])])) (fun w => (sparse 33 [(4, .c (.ptr 256 0)), (5, .c (.ptr 320 0))] [(256, .var [.v (.int .i64 0), .v (.int .i64 0), .v (.int .i64 0), .v (.int .i64 0)]), (320, .var [.v (.int .i64 w.1), .v (.int .i64 w.2.1), .v (.int .i64 w.2.2.1), .v (.int .i64 w.2.2.2)])])) zb ?_ ?_
 ·rintro ⟨v3, v4, v5, v6, v7⟩ z h K hK hY; replace h := oz (oz (oz (oz (oz h)))); dsimp only at h; cbv; revert h; refine fk ?_ ?_ <;> intro h <;> cbv
  ·revert h; refine ln (.exit 2) (fun x => (sparse 33 [(2, .c (.ptr 128 0)), (3, .c (.ptr 192 0)), (4, .c (.ptr 256 0)), (5, .c (.ptr 320 0)), (6, .c (.v (.int .i64 v3))), (7, .c (.v (.int .i64 x.1)))] [(128, .var [.v (.int .i64 a0.fCell), .v (.int .i64 a0.fPlace.fOrientation), .v (.int .i64 a0.fPlace.fX), .v (.int .i64 a0.fPlace.fY), .v (.int .i64 a0.fColumns), .v (.int .i64 a0.fRows), .v (.int .i64 a0.fStepX), .v (.int .i64 a0.fStepY)]), (192, .var [.v (.int .i64 a1.fX0), .v (.int .i64 a1.fY0), .v (.int .i64 a1.fX1), .v (.int .i64 a1.fY1)]), (256, .var [.v (.int .i64 0), .v (.int .i64 0), .v (.int .i64 0), .v (.int .i64 0)]), (320, .var [.v (.int .i64 x.2.1), .v (.int .i64 x.2.2.1), .v (.int .i64 x.2.2.2.1), .v (.int .i64 x.2.2.2.2)])])) (fun w => (sparse 33 [(2, .c (.ptr 128 0)), (3, .c (.ptr 192 0)), (4, .c (.ptr 256 0)), (5, .c (.ptr 320 0)), (6, .c (.v (.int .i64 v3)))] [(128, .var [.v (.int .i64 a0.fCell), .v (.int .i64 a0.fPlace.fOrientation), .v (.int .i64 a0.fPlace.fX), .v (.int .i64 a0.fPlace.fY), .v (.int .i64 a0.fColumns), .v (.int .i64 a0.fRows), .v (.int .i64 a0.fStepX), .v (.int .i64 a0.fStepY)]), (192, .var [.v (.int .i64 a1.fX0), .v (.int .i64 a1.fY0), .v (.int .i64 a1.fX1), .v (.int .i64 a1.fY1)]), (256, .var [.v (.int .i64 0), .v (.int .i64 0), .v (.int .i64 0), .v (.int .i64 0)]), (320, .var [.v (.int .i64 w.1), .v (.int .i64 w.2.1), .v (.int .i64 w.2.2.1), .v (.int .i64 w.2.2.2)])])) zb ?_ ?_
   ·rintro ⟨v20, v21, v22, v23, v24⟩ z h K hK hY; replace h := oz (oz (oz (oz (oz h)))); dsimp only at h; cbv; revert h; refine fk ?_ ?_ <;> intro h <;> cbv
    ·revert h; refine rk0 (hf_spec_l10Element _ _ _) fun y37 h => ?_; cbv; revert h; refine rk0 (hf_spec_l10Rect _ _) fun y39 h => ?_; cbv; revert h; refine rk0 (hf_spec_l10Hull _ _) fun y41 h => ?_; cbv; exact dm
    exact dx
   rintro ⟨w44, w45, w46, w47⟩ h s q34; replace h := oz (oz (oz (oz (oz h)))); dsimp only at h; cbv; refine ⟨_, q34, ?_⟩; cbv; exact dm
  exact dx
 rintro ⟨w49, w50, w51, w52⟩ h s q17; replace h := oz (oz (oz (oz (oz h)))); dsimp only at h; cbv; refine ⟨_, q17, ?_⟩; cbv; exact df

noncomputable def L_spec_l12Box_x30 (a0 : TLibrary) (v5 : Int) (v6 : List TRect) (v7 : List Bool) : (Bool × Int × Int × Int × Int × Int) → Option ((Bool × Int × Int × Int × Int × Int) ⊕ ((Bool × Int × Int × Int × Int))) := fun x30 =>
 letO x30.1 fun v24 =>
 letO x30.2.1 fun v25 =>
 letO x30.2.2.1 fun v26 =>
 letO x30.2.2.2.1 fun v27 =>
 letO x30.2.2.2.2.1 fun v28 =>
 letO x30.2.2.2.2.2 fun v29 =>
 br (std.lt v25 (std.ofN (len (gd a0.fCells (std.toN v5)).fInstances)))
 (req (std.inR v25 (len (gd a0.fCells (std.toN v5)).fInstances)) <|
 req (std.inR (gd (gd a0.fCells (std.toN v5)).fInstances (std.toN v25)).fCell (len v7)) <|
 ((
    br (gd v7 (std.nadd 0 (std.toN (gd (gd a0.fCells (std.toN v5)).fInstances (std.toN v25)).fCell)))
    (req (std.inR v25 (len (gd a0.fCells (std.toN v5)).fInstances)) <|
    req (std.inR v25 (len (gd a0.fCells (std.toN v5)).fInstances)) <|
    req (std.inR (gd (gd a0.fCells (std.toN v5)).fInstances (std.toN v25)).fCell (len v6)) <|
    (F_spec_l12Array (gd (gd a0.fCells (std.toN v5)).fInstances (std.toN v25)) (gd v6 (std.nadd 0 (std.toN (gd (gd a0.fCells (std.toN v5)).fInstances (std.toN v25)).fCell)))).bind fun y58 =>
    ((
       br v24
       ((F_spec_l10Hull (TRect.mk v26 v27 v28 v29) y58).bind fun y70 =>
       some (y70.fX0, y70.fY0, y70.fX1, y70.fY1))
       (some (y58.fX0, y58.fY0, y58.fX1, y58.fY1))
     ) : Option (Int × Int × Int × Int)).bind fun y60 =>
    letO y60.1 fun w66 =>
    letO y60.2.1 fun w67 =>
    letO y60.2.2.1 fun w68 =>
    letO y60.2.2.2 fun w69 =>
    some (true, w66, w67, w68, w69))
    (some (v24, v26, v27, v28, v29))
  ) : Option (Bool × Int × Int × Int × Int)).bind fun y44 =>
 letO y44.1 fun w50 =>
 letO y44.2.1 fun w51 =>
 letO y44.2.2.1 fun w52 =>
 letO y44.2.2.2.1 fun w53 =>
 letO y44.2.2.2.2 fun w54 =>
 some (.inl (w50, std.add .i64 v25 1, w51, w52, w53, w54)))
 (some (.inr (v24, v26, v27, v28, v29)))
noncomputable def L_spec_l12Box_x8 (a0 : TLibrary) (a1 : Int) : (Int × (List TRect) × (List Bool)) → Option ((Int × (List TRect) × (List Bool)) ⊕ (((List TRect) × (List Bool)))) := fun x8 =>
 letO x8.1 fun v5 =>
 letO x8.2.1 fun v6 =>
 letO x8.2.2 fun v7 =>
 br (std.le v5 a1)
 (req (std.inR v5 (len a0.fCells)) <|
 (F_spec_l12Own (gd a0.fCells (std.toN v5))).bind fun y21 =>
 req (std.inR v5 (len a0.fCells)) <|
 (whileP (σ := Bool × Int × Int × Int × Int × Int) (ρ := (Bool × Int × Int × Int × Int)) (L_spec_l12Box_x30 a0 v5 v6 v7) (y21.2, 0, y21.1.fX0, y21.1.fY0, y21.1.fX1, y21.1.fY1)).bind fun y31 =>
 letO y31 fun y31k0 =>
 letO y31k0.1 fun w75 =>
 letO y31k0.2.1 fun w76 =>
 letO y31k0.2.2.1 fun w77 =>
 letO y31k0.2.2.2.1 fun w78 =>
 letO y31k0.2.2.2.2 fun w79 =>
 letO ([(TRect.mk w76 w77 w78 w79)] : List TRect) fun l80 =>
 req (std.room (std.nadd (len v6) (len l80)) 32) <|
 letO (v6 ++ l80) fun l82 =>
 letO ([w75] : List Bool) fun l85 =>
 req (std.room (std.nadd (len v7) (len l85)) 1) <|
 letO (v7 ++ l85) fun l87 =>
 some (.inl (std.add .i64 v5 1, l82, l87)))
 (some (.inr (v6, v7)))
/-- spec.l12Box -/
noncomputable def F_spec_l12Box (a0 : TLibrary) (a1 : Int) : Option (TRect × Bool) :=
 letO ([] : List TRect) fun l1 =>
 letO ([] : List Bool) fun l3 =>
 (whileP (σ := Int × (List TRect) × (List Bool)) (ρ := ((List TRect) × (List Bool))) (L_spec_l12Box_x8 a0 a1) (0, l1, l3)).bind fun y9 =>
 letO y9 fun y9k0 =>
 letO y9k0.1 fun w91 =>
 letO y9k0.2 fun w92 =>
 req (std.inR a1 (len w91)) <|
 req (std.inR a1 (len w92)) <|
 some ((gd w91 (std.nadd 0 (std.toN a1))), gd w92 (std.nadd 0 (std.toN a1)))
set_option maxHeartbeats 4000000 in
theorem run_spec_l12Box (a0 : TLibrary) (a1 : Int) (r : TRect × Bool) (h : F_spec_l12Box a0 a1 = some r) : Fun Tryz.prog 111 [.agg [.bs (len a0.fCells) 4 (row gd (encCell len gd) a0.fCells)], .c (.v (.int .i64 a1))] [] (.tup [.agg [.v (.int .i64 r.1.fX0), .v (.int .i64 r.1.fY0), .v (.int .i64 r.1.fX1), .v (.int .i64 r.1.fY1)], .c (.v (.bool r.2))]) [] true := by
 refine ow [100049, 100063] Tryz.func111 Tryz.ntmps111 ?_ (hv := (fun _ => ⟨(by simp [AV.flat, AV.flat1, AC.flat]), trivial⟩)); unfold F_spec_l12Box at h; unfold L_spec_l12Box_x8 at h; unfold L_spec_l12Box_x30 at h; have hf_spec_l10Hull := @run_spec_l10Hull; have hf_spec_l12Array := @run_spec_l12Array; have hf_spec_l12Own := @run_spec_l12Own
 generalize hLEN : @len = LEN, hGD : @gd = GD, hA : std = A, hP : Tryz.prog = P at *; cbv; revert h; refine rl fun l1 hl1 h => ?_; have e2 : 0 = LEN l1 := by subst hl1 hLEN; rfl
 refine ⟨_, (co e2), _, row GD (encRect) l1, e2, wkOf ?_, ?_⟩
 ·intro i hi j hj; rw [← e2] at hi; subst hl1; subst hGD; omega
 cbv; revert h; refine rl fun l3 hl3 h => ?_; have e4 : 0 = LEN l3 := by subst hl3 hLEN; rfl
 refine ⟨_, (co e4), _, row GD (encB) l3, e4, wkOf ?_, ?_⟩
 ·intro i hi j hj; rw [← e4] at hi; subst hl3; subst hGD; omega
 cbv
 revert h; refine ln (.exit 0) (fun x => (sparse 84 [(1, .c (.v (.int .i64 a1))), (2, .c (.ptr 128 0)), (4, .c (.ptr 256 0)), (6, .c (.os 896 0 (LEN x.2.1))), (7, .c (.os 960 0 (LEN x.2.2))), (8, .c (.v (.int .i64 x.1)))] [(128, .var [.bs (LEN a0.fCells) 4 (row GD (encCell LEN GD) a0.fCells)]), (256, .var [.v (.int .i64 0), .v (.int .i64 0), .v (.int .i64 0), .v (.int .i64 0)]), (896, .arr .rw [] (LEN x.2.1) 4 (row GD (encRect) x.2.1)), (960, .arr .rw [] (LEN x.2.2) 1 (row GD (encB) x.2.2))])) (fun w => (sparse 84 [(1, .c (.v (.int .i64 a1))), (4, .c (.ptr 256 0)), (6, .c (.os 896 0 (LEN w.1))), (7, .c (.os 960 0 (LEN w.2)))] [(256, .var [.v (.int .i64 0), .v (.int .i64 0), .v (.int .i64 0), .v (.int .i64 0)]), (896, .arr .rw [] (LEN w.1) 4 (row GD (encRect) w.1)), (960, .arr .rw [] (LEN w.2) 1 (row GD (encB) w.2))])) zb ?_ ?_
 ·rintro ⟨v5, v6, v7⟩ z h K hK hY; replace h := oz (oz (oz h)); dsimp only at h; cbv; revert h; refine fk ?_ ?_ <;> intro h <;> cbv
  ·revert h; refine ra fun c20 h => ?_; revert h; refine rk0 (hf_spec_l12Own _) fun y21 h => ?_; cbv; revert h; refine ra fun c23 h => ?_
   revert h; refine ln (.exit 2) (fun x => (sparse 84 [(1, .c (.v (.int .i64 a1))), (2, .c (.ptr 128 0)), (4, .c (.ptr 256 0)), (6, .c (.os 896 0 (LEN v6))), (7, .c (.os 960 0 (LEN v7))), (8, .c (.v (.int .i64 v5))), (9, .c (.ptr 576 0)), (10, .c (.v (.bool x.1))), (11, .c (.bs (LEN (GD a0.fCells (A.toN v5)).fInstances) 8 (row GD (encInstance) (GD a0.fCells (A.toN v5)).fInstances))), (12, .c (.v (.int .i64 x.2.1)))] [(128, .var [.bs (LEN a0.fCells) 4 (row GD (encCell LEN GD) a0.fCells)]), (256, .var [.v (.int .i64 0), .v (.int .i64 0), .v (.int .i64 0), .v (.int .i64 0)]), (896, .arr .rw [] (LEN v6) 4 (row GD (encRect) v6)), (960, .arr .rw [] (LEN v7) 1 (row GD (encB) v7)), (576, .var [.v (.int .i64 x.2.2.1), .v (.int .i64 x.2.2.2.1), .v (.int .i64 x.2.2.2.2.1), .v (.int .i64 x.2.2.2.2.2)])])) (fun w => (sparse 84 [(1, .c (.v (.int .i64 a1))), (2, .c (.ptr 128 0)), (4, .c (.ptr 256 0)), (6, .c (.os 896 0 (LEN v6))), (7, .c (.os 960 0 (LEN v7))), (8, .c (.v (.int .i64 v5))), (9, .c (.ptr 576 0)), (10, .c (.v (.bool w.1)))] [(128, .var [.bs (LEN a0.fCells) 4 (row GD (encCell LEN GD) a0.fCells)]), (256, .var [.v (.int .i64 0), .v (.int .i64 0), .v (.int .i64 0), .v (.int .i64 0)]), (896, .arr .rw [] (LEN v6) 4 (row GD (encRect) v6)), (960, .arr .rw [] (LEN v7) 1 (row GD (encB) v7)), (576, .var [.v (.int .i64 w.2.1), .v (.int .i64 w.2.2.1), .v (.int .i64 w.2.2.2.1), .v (.int .i64 w.2.2.2.2)])])) zb ?_ ?_
   ·rintro ⟨v24, v25, v26, v27, v28, v29⟩ z h K hK hY; replace h := oz (oz (oz (oz (oz (oz h))))); dsimp only at h; cbv; revert h; refine fk ?_ ?_ <;> intro h <;> cbv
    ·revert h; refine ra fun c42 h => ?_; revert h; refine ra fun c43 h => ?_; refine ai c43 ?_
     revert h; refine cu (fun y44 => some (sparse 84 [(1, .c (.v (.int .i64 a1))), (2, .c (.ptr 128 0)), (4, .c (.ptr 256 0)), (6, .c (.os 896 0 (LEN v6))), (7, .c (.os 960 0 (LEN v7))), (8, .c (.v (.int .i64 v5))), (9, .c (.ptr 576 0)), (10, .c (.v (.bool y44.1))), (11, .c (.bs (LEN (GD a0.fCells (A.toN v5)).fInstances) 8 (row GD (encInstance) (GD a0.fCells (A.toN v5)).fInstances))), (12, .c (.v (.int .i64 v25)))] [(128, .var [.bs (LEN a0.fCells) 4 (row GD (encCell LEN GD) a0.fCells)]), (256, .var [.v (.int .i64 0), .v (.int .i64 0), .v (.int .i64 0), .v (.int .i64 0)]), (896, .arr .rw [] (LEN v6) 4 (row GD (encRect) v6)), (960, .arr .rw [] (LEN v7) 1 (row GD (encB) v7)), (576, .var [.v (.int .i64 y44.2.1), .v (.int .i64 y44.2.2.1), .v (.int .i64 y44.2.2.2.1), .v (.int .i64 y44.2.2.2.2)])])) ?_ ?_
     ·intro y44 S hS h; cbv; revert h; refine fk ?_ ?_ <;> intro h <;> cbv
      ·revert h; refine ra fun c55 h => ?_; revert h; refine ra fun c56 h => ?_; revert h; refine ra fun c57 h => ?_; refine ai c57 ?_; revert h; refine rk0 (hf_spec_l12Array _ _) fun y58 h => ?_; cbv
       revert h; refine cu (fun y60 => some (sparse 84 [(1, .c (.v (.int .i64 a1))), (2, .c (.ptr 128 0)), (4, .c (.ptr 256 0)), (6, .c (.os 896 0 (LEN v6))), (7, .c (.os 960 0 (LEN v7))), (8, .c (.v (.int .i64 v5))), (9, .c (.ptr 576 0)), (11, .c (.bs (LEN (GD a0.fCells (A.toN v5)).fInstances) 8 (row GD (encInstance) (GD a0.fCells (A.toN v5)).fInstances))), (12, .c (.v (.int .i64 v25))), (13, .c (.ptr 832 0))] [(128, .var [.bs (LEN a0.fCells) 4 (row GD (encCell LEN GD) a0.fCells)]), (256, .var [.v (.int .i64 0), .v (.int .i64 0), .v (.int .i64 0), .v (.int .i64 0)]), (896, .arr .rw [] (LEN v6) 4 (row GD (encRect) v6)), (960, .arr .rw [] (LEN v7) 1 (row GD (encB) v7)), (576, .var [.v (.int .i64 v26), .v (.int .i64 v27), .v (.int .i64 v28), .v (.int .i64 v29)]), (832, .var [.v (.int .i64 y60.1), .v (.int .i64 y60.2.1), .v (.int .i64 y60.2.2.1), .v (.int .i64 y60.2.2.2)])])) ?_ ?_
       ·intro y60 S hS h; cbv; revert h; refine fk ?_ ?_ <;> intro h <;> cbv
        ·revert h; refine rk0 (hf_spec_l10Hull _ _) fun y70 h => ?_; cbv; exact dn
        exact dn
       rintro ⟨w66, w67, w68, w69⟩ h; replace h := oz (oz (oz (oz h))); dsimp only at h; cbv; exact dn
      exact dn
     rintro ⟨w50, w51, w52, w53, w54⟩ h; replace h := oz (oz (oz (oz (oz h)))); dsimp only at h; cbv; exact dm
    exact dx
   rintro ⟨w75, w76, w77, w78, w79⟩ h s q39; replace h := oz (oz (oz (oz (oz (oz h))))); dsimp only at h; cbv; refine ⟨_, q39, ?_⟩; cbv; revert h; refine rl fun l80 hl80 h => ?_; have e81 : 1 = LEN l80 := by subst hl80 hLEN; rfl
   refine ⟨_, (co e81), _, row GD (encRect) l80, e81, wkOf ?_, ?_⟩
   ·intro i hi j hj; rw [← e81] at hi; subst hl80; subst hGD; obtain rfl : i = 0 := (by omega) <;> obtain rfl | rfl | rfl | rfl : j = 0 ∨ j = 1 ∨ j = 2 ∨ j = 3 := (by omega)
    all_goals rfl
   cbv; revert h; refine rq fun c84 => rl fun l82 hl82 h => ?_; have e83 := nl hA hLEN hl82; refine ⟨c84, _, (co e83), _, row GD (encRect) l82, e83, wkOf ?_, ?_⟩
   ·subst hGD hLEN hA; exact app_os (off := 0) (pl_encRect) hl82 (Nat.le_refl _)
   cbv; revert h; refine rl fun l85 hl85 h => ?_; have e86 : 1 = LEN l85 := by subst hl85 hLEN; rfl
   refine ⟨_, (co e86), _, row GD (encB) l85, e86, wkOf ?_, ?_⟩
   ·intro i hi j hj; rw [← e86] at hi; subst hl85; subst hGD; obtain rfl : i = 0 := (by omega); all_goals obtain rfl : j = 0 := by omega
    all_goals rfl
   cbv; revert h; refine rq fun c89 => rl fun l87 hl87 h => ?_; have e88 := nl hA hLEN hl87; refine ⟨c89, _, (co e88), _, row GD (encB) l87, e88, wkOf ?_, ?_⟩
   ·subst hGD hLEN hA; exact app_os (off := 0) (fun _ _ => rfl) hl87 (Nat.le_refl _)
   cbv; exact dm
  exact dx
 rintro ⟨w91, w92⟩ h s q17; replace h := oz (oz (oz h)); dsimp only at h; cbv; refine ⟨_, q17, ?_⟩; cbv; revert h; refine ra fun c93 h => ?_; refine ai c93 ?_; revert h; refine ra fun c94 h => ?_; refine ai c94 ?_; exact df

/-- spec.l10After -/
noncomputable def F_spec_l10After (a0 : TTransform) (a1 : TTransform) : Option (TTransform) :=
 req (std.nz 4) <|
 req (std.nz 4) <|
 ((
    br (std.le 4 a0.fOrientation)
    (some (std.sub .i64 0 (std.rem a1.fOrientation 4), std.sub .i64 1 (std.quo .i64 a1.fOrientation 4)))
    (some (std.rem a1.fOrientation 4, std.quo .i64 a1.fOrientation 4))
  ) : Option (Int × Int)).bind fun y3 =>
 letO y3.1 fun w9 =>
 letO y3.2 fun w10 =>
 (F_spec_l10Point a0 (TPoint.mk a1.fX a1.fY)).bind fun y12 =>
 req (std.nz 4) <|
 req (std.nz 4) <|
 some (TTransform.mk (std.add .i64 (std.rem (std.add .i64 (std.add .i64 (std.rem a0.fOrientation 4) w9) 4) 4) (std.mul .i64 4 w10)) y12.fX y12.fY)
set_option maxHeartbeats 4000000 in
theorem run_spec_l10After (a0 : TTransform) (a1 : TTransform) (r : TTransform) (h : F_spec_l10After a0 a1 = some r) : Fun Tryz.prog 112 [.agg [.v (.int .i64 a0.fOrientation), .v (.int .i64 a0.fX), .v (.int .i64 a0.fY)], .agg [.v (.int .i64 a1.fOrientation), .v (.int .i64 a1.fX), .v (.int .i64 a1.fY)]] [] (.agg [.v (.int .i64 r.fOrientation), .v (.int .i64 r.fX), .v (.int .i64 r.fY)]) [] true := by
 refine ow [100016] Tryz.func112 Tryz.ntmps112 ?_ (hv := (fun _ => ⟨(by simp [AV.flat, AV.flat1, AC.flat]), trivial⟩)); unfold F_spec_l10After at h; have hf_spec_l10Point := @run_spec_l10Point; generalize hLEN : @len = LEN, hGD : @gd = GD, hA : std = A, hP : Tryz.prog = P at *; cbv; revert h; refine ra fun c1 h => ?_; revert h; refine ra fun c2 h => ?_
 revert h; refine cu (fun y3 => some (sparse 43 [(2, .c (.ptr 128 0)), (3, .c (.ptr 192 0)), (4, .c (.ptr 256 0)), (5, .c (.v (.int .i64 y3.1))), (6, .c (.v (.int .i64 y3.2)))] [(128, .var [.v (.int .i64 a0.fOrientation), .v (.int .i64 a0.fX), .v (.int .i64 a0.fY)]), (192, .var [.v (.int .i64 a1.fOrientation), .v (.int .i64 a1.fX), .v (.int .i64 a1.fY)]), (256, .var [.v (.int .i64 0), .v (.int .i64 0), .v (.int .i64 0)])])) (fun y3 S hS h => rg) ?_
 rintro ⟨w9, w10⟩ h; replace h := oz (oz h); dsimp only at h; cbv; revert h; refine rk0 (hf_spec_l10Point _ _) fun y12 h => ?_; cbv; revert h; refine ra fun c14 h => ?_; revert h; refine ra fun c15 h => ?_; exact df

/-- spec.l11Overlap -/
noncomputable def F_spec_l11Overlap (a0 : TRect) (a1 : TRect) : Option (Bool) :=
 ((
    br (std.lt a0.fX0 a1.fX1)
    (br (std.lt a1.fX0 a0.fX1)
    (br (std.lt a0.fY0 a1.fY1)
    (some (std.lt a1.fY0 a0.fY1))
    (some false))
    (some false))
    (some false)
  ) : Option (Bool)).bind fun y1 =>
 letO y1 fun w7 =>
 some w7
set_option maxHeartbeats 4000000 in
theorem run_spec_l11Overlap (a0 : TRect) (a1 : TRect) (r : Bool) (h : F_spec_l11Overlap a0 a1 = some r) : Fun Tryz.prog 63 [.agg [.v (.int .i64 a0.fX0), .v (.int .i64 a0.fY0), .v (.int .i64 a0.fX1), .v (.int .i64 a0.fY1)], .agg [.v (.int .i64 a1.fX0), .v (.int .i64 a1.fY0), .v (.int .i64 a1.fX1), .v (.int .i64 a1.fY1)]] [] (.c (.v (.bool r))) [] true := by
 refine ow [1] Tryz.func63 Tryz.ntmps63 ?_; unfold F_spec_l11Overlap at h; generalize hLEN : @len = LEN, hGD : @gd = GD, hA : std = A, hP : Tryz.prog = P at *; cbv; revert h; refine cu (fun y1 => (sparse 31 [(4, .c (.v (.bool y1)))] [])) (fun y1 S hS h => rg) fun w7 => rz fun h => ?_; cbv; exact df

noncomputable def L_spec_l12Visit_mbxbb_x44 (a0 : TLibrary) (a2 : TOccurrence) (a3 : TRect) (F_REC_spec_l12Visit_mbxbb : TLibrary → (List TOccurrence) → TOccurrence → TRect → Option (List TOccurrence)) (v26 : Int) (v8 : Int) (y23 : TRect × Bool) : (Int × Int × (List TOccurrence)) → Option ((Int × Int × (List TOccurrence)) ⊕ ((Int × (List TOccurrence)))) := fun x44 =>
 letO x44.1 fun v41 =>
 letO x44.2.1 fun v42 =>
 letO x44.2.2 fun v43 =>
 req (std.inR v8 (len (gd a0.fCells (std.toN a2.fCell)).fInstances)) <|
 br (std.lt v42 (gd (gd a0.fCells (std.toN a2.fCell)).fInstances (std.toN v8)).fColumns)
 (req (std.inR v8 (len (gd a0.fCells (std.toN a2.fCell)).fInstances)) <|
 (F_spec_l10Element (gd (gd a0.fCells (std.toN a2.fCell)).fInstances (std.toN v8)) v42 v26).bind fun y58 =>
 (F_spec_l10After a2.fPlace y58).bind fun y60 =>
 ((
    br y23.2
    ((F_spec_l10Rect y60 y23.1).bind fun y69 =>
    (F_spec_l11Overlap y69 a3).bind fun y71 =>
    some y71)
    (some false)
  ) : Option (Bool)).bind fun y62 =>
 letO y62 fun w68 =>
 ((
    br w68
    (letO ([] : List Int) fun l81 =>
    req (std.room (std.nadd (len l81) (len a2.fPath)) 8) <|
    letO (l81 ++ a2.fPath) fun l83 =>
    letO ([v41] : List Int) fun l86 =>
    req (std.room (std.nadd (len l83) (len l86)) 8) <|
    letO (l83 ++ l86) fun l88 =>
    req (std.inR v8 (len (gd a0.fCells (std.toN a2.fCell)).fInstances)) <|
    (F_REC_spec_l12Visit_mbxbb (TLibrary.mk a0.fCells) v43 (TOccurrence.mk (gd (gd a0.fCells (std.toN a2.fCell)).fInstances (std.toN v8)).fCell y60 l88) a3).bind fun y92 =>
    some y92)
    (some v43)
  ) : Option ((List TOccurrence))).bind fun y74 =>
 letO y74 fun w80 =>
 some (.inl (std.add .i64 v41 1, std.add .i64 v42 1, w80)))
 (some (.inr (v41, v43)))
noncomputable def L_spec_l12Visit_mbxbb_x28 (a0 : TLibrary) (a2 : TOccurrence) (a3 : TRect) (F_REC_spec_l12Visit_mbxbb : TLibrary → (List TOccurrence) → TOccurrence → TRect → Option (List TOccurrence)) (v8 : Int) (y23 : TRect × Bool) : (Int × Int × (List TOccurrence)) → Option ((Int × Int × (List TOccurrence)) ⊕ ((Int × (List TOccurrence)))) := fun x28 =>
 letO x28.1 fun v25 =>
 letO x28.2.1 fun v26 =>
 letO x28.2.2 fun v27 =>
 req (std.inR v8 (len (gd a0.fCells (std.toN a2.fCell)).fInstances)) <|
 br (std.lt v26 (gd (gd a0.fCells (std.toN a2.fCell)).fInstances (std.toN v8)).fRows)
 ((whileP (σ := Int × Int × (List TOccurrence)) (ρ := (Int × (List TOccurrence))) (L_spec_l12Visit_mbxbb_x44 a0 a2 a3 F_REC_spec_l12Visit_mbxbb v26 v8 y23) (v25, 0, v27)).bind fun y45 =>
 letO y45 fun y45k0 =>
 letO y45k0.1 fun w96 =>
 letO y45k0.2 fun w97 =>
 some (.inl (w96, std.add .i64 v26 1, w97)))
 (some (.inr (v25, v27)))
noncomputable def L_spec_l12Visit_mbxbb_x10 (a0 : TLibrary) (a2 : TOccurrence) (a3 : TRect) (F_REC_spec_l12Visit_mbxbb : TLibrary → (List TOccurrence) → TOccurrence → TRect → Option (List TOccurrence)) : (Int × Int × (List TOccurrence)) → Option ((Int × Int × (List TOccurrence)) ⊕ (((List TOccurrence)))) := fun x10 =>
 letO x10.1 fun v7 =>
 letO x10.2.1 fun v8 =>
 letO x10.2.2 fun v9 =>
 br (std.lt v8 (std.ofN (len (gd a0.fCells (std.toN a2.fCell)).fInstances)))
 (req (std.inR v8 (len (gd a0.fCells (std.toN a2.fCell)).fInstances)) <|
 (F_spec_l12Box (TLibrary.mk a0.fCells) (gd (gd a0.fCells (std.toN a2.fCell)).fInstances (std.toN v8)).fCell).bind fun y23 =>
 (whileP (σ := Int × Int × (List TOccurrence)) (ρ := (Int × (List TOccurrence))) (L_spec_l12Visit_mbxbb_x28 a0 a2 a3 F_REC_spec_l12Visit_mbxbb v8 y23) (v7, 0, v9)).bind fun y29 =>
 letO y29 fun y29k0 =>
 letO y29k0.1 fun w99 =>
 letO y29k0.2 fun w100 =>
 some (.inl (w99, std.add .i64 v8 1, w100)))
 (some (.inr v9))
/-- spec.l12Visit -/
noncomputable def FS_spec_l12Visit_mbxbb (F_REC_spec_l12Visit_mbxbb : TLibrary → (List TOccurrence) → TOccurrence → TRect → Option (List TOccurrence)) (a0 : TLibrary) (a1 : List TOccurrence) (a2 : TOccurrence) (a3 : TRect) : Option (List TOccurrence) :=
 letO ([a2] : List TOccurrence) fun l1 =>
 req (std.room (std.nadd (len a1) (len l1)) 56) <|
 letO (a1 ++ l1) fun l3 =>
 req (std.inR a2.fCell (len a0.fCells)) <|
 (whileP (σ := Int × Int × (List TOccurrence)) (ρ := ((List TOccurrence))) (L_spec_l12Visit_mbxbb_x10 a0 a2 a3 F_REC_spec_l12Visit_mbxbb) (0, 0, l3)).bind fun y11 =>
 letO y11 fun y11k0 =>
 letO y11k0 fun w102 =>
 some w102
set_option maxHeartbeats 4000000 in
theorem runS_spec_l12Visit_mbxbb (F_REC_spec_l12Visit_mbxbb : TLibrary → (List TOccurrence) → TOccurrence → TRect → Option (List TOccurrence)) (hf_REC_spec_l12Visit_mbxbb : ∀ (a0 : TLibrary) (a1 : List TOccurrence) (a2 : TOccurrence) (a3 : TRect) (r : List TOccurrence), F_REC_spec_l12Visit_mbxbb a0 a1 a2 a3 = some r → Fun Tryz.prog 85 [.agg [.bs (len a0.fCells) 4 (row gd (encCell len gd) a0.fCells)], .c (.os 5 0 (len a1)), .agg [.v (.int .i64 a2.fCell), .v (.int .i64 a2.fPlace.fOrientation), .v (.int .i64 a2.fPlace.fX), .v (.int .i64 a2.fPlace.fY), .bs (len a2.fPath) 1 (row gd (encI .i64) a2.fPath)], .agg [.v (.int .i64 a3.fX0), .v (.int .i64 a3.fY0), .v (.int .i64 a3.fX1), .v (.int .i64 a3.fY1)]] [(5, .arr .rw [] (len a1) 5 (row gd (encOccurrence len gd) a1))] (.c (.os 64000 0 (len r))) [(64000, .arr .rw [] (len r) 5 (row gd (encOccurrence len gd) r))] false) (a0 : TLibrary) (a1 : List TOccurrence) (a2 : TOccurrence) (a3 : TRect) (r : List TOccurrence) (h : FS_spec_l12Visit_mbxbb F_REC_spec_l12Visit_mbxbb a0 a1 a2 a3 = some r) : Fun Tryz.prog 85 [.agg [.bs (len a0.fCells) 4 (row gd (encCell len gd) a0.fCells)], .c (.os 5 0 (len a1)), .agg [.v (.int .i64 a2.fCell), .v (.int .i64 a2.fPlace.fOrientation), .v (.int .i64 a2.fPlace.fX), .v (.int .i64 a2.fPlace.fY), .bs (len a2.fPath) 1 (row gd (encI .i64) a2.fPath)], .agg [.v (.int .i64 a3.fX0), .v (.int .i64 a3.fY0), .v (.int .i64 a3.fX1), .v (.int .i64 a3.fY1)]] [(5, .arr .rw [] (len a1) 5 (row gd (encOccurrence len gd) a1))] (.c (.os 64000 0 (len r))) [(64000, .arr .rw [] (len r) 5 (row gd (encOccurrence len gd) r))] false := by
 refine ow [15, 100080] Tryz.func85 Tryz.ntmps85 ?_ (hw := ⟨fun i _ j _ k hk => (noref (plain_nil (pl_encOccurrence _ _)) hk).elim, trivial⟩) (hv := (fun h => by cases h)); unfold FS_spec_l12Visit_mbxbb at h; unfold L_spec_l12Visit_mbxbb_x10 at h; unfold L_spec_l12Visit_mbxbb_x28 at h; unfold L_spec_l12Visit_mbxbb_x44 at h; have hf_spec_l10After := @run_spec_l10After
 have hf_spec_l10Element := @run_spec_l10Element; have hf_spec_l10Rect := @run_spec_l10Rect; have hf_spec_l11Overlap := @run_spec_l11Overlap; have hf_spec_l12Box := @run_spec_l12Box; generalize hLEN : @len = LEN, hGD : @gd = GD, hA : std = A, hP : Tryz.prog = P at *; cbv; revert h; refine rl fun l1 hl1 h => ?_; have e2 : 1 = LEN l1 := by subst hl1 hLEN; rfl
 refine ⟨_, (co e2), _, row GD (encOccurrence LEN GD) l1, e2, wkOf ?_, ?_⟩
 ·intro i hi j hj; rw [← e2] at hi; subst hl1; subst hGD; obtain rfl : i = 0 := (by omega) <;> obtain rfl | rfl | rfl | rfl | rfl : j = 0 ∨ j = 1 ∨ j = 2 ∨ j = 3 ∨ j = 4 := (by omega)
  all_goals rfl
 cbv; revert h; refine rq fun c5 => rl fun l3 hl3 h => ?_; have e4 := nl hA hLEN hl3; refine ⟨c5, _, (co e4), _, row GD (encOccurrence LEN GD) l3, e4, wkOf ?_, ?_⟩
 ·subst hGD hLEN hA; exact app_os (off := 0) (pl_encOccurrence) hl3 (Nat.le_refl _)
 cbv; revert h; refine ra fun c6 h => ?_
 revert h; refine ln (.exit 0) (fun x => (sparse 103 [(1, .c (.os 62000 0 (LEN x.2.2))), (4, .c (.ptr 256 0)), (6, .c (.ptr 384 0)), (7, .c (.ptr 448 0)), (9, .c (.v (.int .i64 x.1))), (10, .c (.bs (LEN (GD a0.fCells (A.toN a2.fCell)).fInstances) 8 (row GD (encInstance) (GD a0.fCells (A.toN a2.fCell)).fInstances))), (11, .c (.v (.int .i64 x.2.1)))] [(62000, .arr .rw [] (LEN x.2.2) 5 (row GD (encOccurrence LEN GD) x.2.2)), (256, .var [.bs (LEN a0.fCells) 4 (row GD (encCell LEN GD) a0.fCells)]), (384, .var [.v (.int .i64 a2.fCell), .v (.int .i64 a2.fPlace.fOrientation), .v (.int .i64 a2.fPlace.fX), .v (.int .i64 a2.fPlace.fY), .bs (LEN a2.fPath) 1 (row GD (encI .i64) a2.fPath)]), (448, .var [.v (.int .i64 a3.fX0), .v (.int .i64 a3.fY0), .v (.int .i64 a3.fX1), .v (.int .i64 a3.fY1)])])) (fun w => (sparse 103 [(1, .c (.os 62000 0 (LEN w)))] [(62000, .arr .rw [] (LEN w) 5 (row GD (encOccurrence LEN GD) w))])) ?_ ?_ ?_
 ·show St.le _ _; refine St.le_trans (le_ren 1344 62000 (by decide) rfl) ?_; exact zb
 ·rintro ⟨v7, v8, v9⟩ z h K hK hY; replace h := oz (oz (oz h)); dsimp only at h; cbv; revert h; refine fk ?_ ?_ <;> intro h <;> cbv
  ·revert h; refine ra fun c22 h => ?_; revert h; refine rk0 (hf_spec_l12Box _ _) fun y23 h => ?_; cbv
   revert h; refine ln (.exit 2) (fun x => (sparse 103 [(1, .c (.os 62000 0 (LEN x.2.2))), (4, .c (.ptr 256 0)), (6, .c (.ptr 384 0)), (7, .c (.ptr 448 0)), (9, .c (.v (.int .i64 x.1))), (10, .c (.bs (LEN (GD a0.fCells (A.toN a2.fCell)).fInstances) 8 (row GD (encInstance) (GD a0.fCells (A.toN a2.fCell)).fInstances))), (11, .c (.v (.int .i64 v8))), (12, .c (.ptr 768 0)), (13, .c (.v (.bool y23.2))), (14, .c (.v (.int .i64 x.2.1)))] [(62000, .arr .rw [] (LEN x.2.2) 5 (row GD (encOccurrence LEN GD) x.2.2)), (256, .var [.bs (LEN a0.fCells) 4 (row GD (encCell LEN GD) a0.fCells)]), (384, .var [.v (.int .i64 a2.fCell), .v (.int .i64 a2.fPlace.fOrientation), .v (.int .i64 a2.fPlace.fX), .v (.int .i64 a2.fPlace.fY), .bs (LEN a2.fPath) 1 (row GD (encI .i64) a2.fPath)]), (448, .var [.v (.int .i64 a3.fX0), .v (.int .i64 a3.fY0), .v (.int .i64 a3.fX1), .v (.int .i64 a3.fY1)]), (768, .var [.v (.int .i64 y23.1.fX0), .v (.int .i64 y23.1.fY0), .v (.int .i64 y23.1.fX1), .v (.int .i64 y23.1.fY1)])])) (fun w => (sparse 103 [(1, .c (.os 62000 0 (LEN w.2))), (4, .c (.ptr 256 0)), (6, .c (.ptr 384 0)), (7, .c (.ptr 448 0)), (9, .c (.v (.int .i64 w.1))), (10, .c (.bs (LEN (GD a0.fCells (A.toN a2.fCell)).fInstances) 8 (row GD (encInstance) (GD a0.fCells (A.toN a2.fCell)).fInstances))), (11, .c (.v (.int .i64 v8)))] [(62000, .arr .rw [] (LEN w.2) 5 (row GD (encOccurrence LEN GD) w.2)), (256, .var [.bs (LEN a0.fCells) 4 (row GD (encCell LEN GD) a0.fCells)]), (384, .var [.v (.int .i64 a2.fCell), .v (.int .i64 a2.fPlace.fOrientation), .v (.int .i64 a2.fPlace.fX), .v (.int .i64 a2.fPlace.fY), .bs (LEN a2.fPath) 1 (row GD (encI .i64) a2.fPath)]), (448, .var [.v (.int .i64 a3.fX0), .v (.int .i64 a3.fY0), .v (.int .i64 a3.fX1), .v (.int .i64 a3.fY1)])])) zb ?_ ?_
   ·rintro ⟨v25, v26, v27⟩ z h K hK hY; replace h := oz (oz (oz h)); dsimp only at h; cbv; revert h; refine ra fun c40 h => ?_; revert h; refine fk ?_ ?_ <;> intro h <;> cbv
    ·revert h; refine ln (.exit 4) (fun x => (sparse 103 [(1, .c (.os 62000 0 (LEN x.2.2))), (4, .c (.ptr 256 0)), (6, .c (.ptr 384 0)), (7, .c (.ptr 448 0)), (9, .c (.v (.int .i64 x.1))), (10, .c (.bs (LEN (GD a0.fCells (A.toN a2.fCell)).fInstances) 8 (row GD (encInstance) (GD a0.fCells (A.toN a2.fCell)).fInstances))), (11, .c (.v (.int .i64 v8))), (12, .c (.ptr 768 0)), (13, .c (.v (.bool y23.2))), (14, .c (.v (.int .i64 v26))), (15, .c (.v (.int .i64 x.2.1)))] [(62000, .arr .rw [] (LEN x.2.2) 5 (row GD (encOccurrence LEN GD) x.2.2)), (256, .var [.bs (LEN a0.fCells) 4 (row GD (encCell LEN GD) a0.fCells)]), (384, .var [.v (.int .i64 a2.fCell), .v (.int .i64 a2.fPlace.fOrientation), .v (.int .i64 a2.fPlace.fX), .v (.int .i64 a2.fPlace.fY), .bs (LEN a2.fPath) 1 (row GD (encI .i64) a2.fPath)]), (448, .var [.v (.int .i64 a3.fX0), .v (.int .i64 a3.fY0), .v (.int .i64 a3.fX1), .v (.int .i64 a3.fY1)]), (768, .var [.v (.int .i64 y23.1.fX0), .v (.int .i64 y23.1.fY0), .v (.int .i64 y23.1.fX1), .v (.int .i64 y23.1.fY1)])])) (fun w => (sparse 103 [(1, .c (.os 62000 0 (LEN w.2))), (4, .c (.ptr 256 0)), (6, .c (.ptr 384 0)), (7, .c (.ptr 448 0)), (9, .c (.v (.int .i64 w.1))), (10, .c (.bs (LEN (GD a0.fCells (A.toN a2.fCell)).fInstances) 8 (row GD (encInstance) (GD a0.fCells (A.toN a2.fCell)).fInstances))), (11, .c (.v (.int .i64 v8))), (12, .c (.ptr 768 0)), (13, .c (.v (.bool y23.2))), (14, .c (.v (.int .i64 v26)))] [(62000, .arr .rw [] (LEN w.2) 5 (row GD (encOccurrence LEN GD) w.2)), (256, .var [.bs (LEN a0.fCells) 4 (row GD (encCell LEN GD) a0.fCells)]), (384, .var [.v (.int .i64 a2.fCell), .v (.int .i64 a2.fPlace.fOrientation), .v (.int .i64 a2.fPlace.fX), .v (.int .i64 a2.fPlace.fY), .bs (LEN a2.fPath) 1 (row GD (encI .i64) a2.fPath)]), (448, .var [.v (.int .i64 a3.fX0), .v (.int .i64 a3.fY0), .v (.int .i64 a3.fX1), .v (.int .i64 a3.fY1)]), (768, .var [.v (.int .i64 y23.1.fX0), .v (.int .i64 y23.1.fY0), .v (.int .i64 y23.1.fX1), .v (.int .i64 y23.1.fY1)])])) zb ?_ ?_
     ·rintro ⟨v41, v42, v43⟩ z h K hK hY; replace h := oz (oz (oz h)); dsimp only at h; cbv; revert h; refine ra fun c56 h => ?_; revert h; refine fk ?_ ?_ <;> intro h <;> cbv
      ·revert h; refine ra fun c57 h => ?_; revert h; refine rk0 (hf_spec_l10Element _ _ _) fun y58 h => ?_; cbv; revert h; refine rk0 (hf_spec_l10After _ _) fun y60 h => ?_; cbv
       revert h; refine cu (fun y62 => (sparse 103 [(1, .c (.os 62000 0 (LEN v43))), (4, .c (.ptr 256 0)), (6, .c (.ptr 384 0)), (7, .c (.ptr 448 0)), (9, .c (.v (.int .i64 v41))), (10, .c (.bs (LEN (GD a0.fCells (A.toN a2.fCell)).fInstances) 8 (row GD (encInstance) (GD a0.fCells (A.toN a2.fCell)).fInstances))), (11, .c (.v (.int .i64 v8))), (12, .c (.ptr 768 0)), (13, .c (.v (.bool y23.2))), (14, .c (.v (.int .i64 v26))), (15, .c (.v (.int .i64 v42))), (16, .c (.ptr 1024 0)), (80, .c (.v (.bool y62)))] [(62000, .arr .rw [] (LEN v43) 5 (row GD (encOccurrence LEN GD) v43)), (256, .var [.bs (LEN a0.fCells) 4 (row GD (encCell LEN GD) a0.fCells)]), (384, .var [.v (.int .i64 a2.fCell), .v (.int .i64 a2.fPlace.fOrientation), .v (.int .i64 a2.fPlace.fX), .v (.int .i64 a2.fPlace.fY), .bs (LEN a2.fPath) 1 (row GD (encI .i64) a2.fPath)]), (448, .var [.v (.int .i64 a3.fX0), .v (.int .i64 a3.fY0), .v (.int .i64 a3.fX1), .v (.int .i64 a3.fY1)]), (768, .var [.v (.int .i64 y23.1.fX0), .v (.int .i64 y23.1.fY0), .v (.int .i64 y23.1.fX1), .v (.int .i64 y23.1.fY1)]), (1024, .var [.v (.int .i64 y60.fOrientation), .v (.int .i64 y60.fX), .v (.int .i64 y60.fY)])])) ?_ fun w68 => rz fun h => ?_
       ·intro y62 S hS h; cbv; revert h; refine fk ?_ ?_ <;> intro h <;> cbv
        ·revert h; refine rk0 (hf_spec_l10Rect _ _) fun y69 h => ?_; cbv; revert h; refine rk0 (hf_spec_l11Overlap _ _) fun y71 h => ?_; cbv; exact dn
        exact dn
       cbv
       revert h; refine cu (fun y74 => some (sparse 103 [(1, .c (.os 6336 0 (LEN y74))), (4, .c (.ptr 256 0)), (6, .c (.ptr 384 0)), (7, .c (.ptr 448 0)), (9, .c (.v (.int .i64 v41))), (10, .c (.bs (LEN (GD a0.fCells (A.toN a2.fCell)).fInstances) 8 (row GD (encInstance) (GD a0.fCells (A.toN a2.fCell)).fInstances))), (11, .c (.v (.int .i64 v8))), (12, .c (.ptr 768 0)), (13, .c (.v (.bool y23.2))), (14, .c (.v (.int .i64 v26))), (15, .c (.v (.int .i64 v42)))] [(6336, .arr .rw [] (LEN y74) 5 (row GD (encOccurrence LEN GD) y74)), (256, .var [.bs (LEN a0.fCells) 4 (row GD (encCell LEN GD) a0.fCells)]), (384, .var [.v (.int .i64 a2.fCell), .v (.int .i64 a2.fPlace.fOrientation), .v (.int .i64 a2.fPlace.fX), .v (.int .i64 a2.fPlace.fY), .bs (LEN a2.fPath) 1 (row GD (encI .i64) a2.fPath)]), (448, .var [.v (.int .i64 a3.fX0), .v (.int .i64 a3.fY0), .v (.int .i64 a3.fX1), .v (.int .i64 a3.fY1)]), (768, .var [.v (.int .i64 y23.1.fX0), .v (.int .i64 y23.1.fY0), .v (.int .i64 y23.1.fX1), .v (.int .i64 y23.1.fY1)])])) ?_ fun w80 => rz fun h => ?_
       ·intro y74 S hS h; cbv; revert h; refine fk ?_ ?_ <;> intro h <;> cbv
        ·revert h; refine rl fun l81 hl81 h => ?_; have e82 : 0 = LEN l81 := by subst hl81 hLEN; rfl
         refine ⟨_, (co e82), _, row GD (encI .i64) l81, e82, wkOf ?_, ?_⟩
         ·intro i hi j hj; rw [← e82] at hi; subst hl81; subst hGD; omega
         cbv; revert h; refine rq fun c85 => rl fun l83 hl83 h => ?_; have e84 := nl hA hLEN hl83; refine ⟨c85, _, (co e84), _, row GD (encI .i64) l83, e84, wkOf ?_, ?_⟩
         ·subst hGD hLEN hA; exact app_bs (fun _ _ => rfl) hl83 (Nat.le_refl _)
         cbv; revert h; refine rl fun l86 hl86 h => ?_; have e87 : 1 = LEN l86 := by subst hl86 hLEN; rfl
         refine ⟨_, (co e87), _, row GD (encI .i64) l86, e87, wkOf ?_, ?_⟩
         ·intro i hi j hj; rw [← e87] at hi; subst hl86; subst hGD; obtain rfl : i = 0 := (by omega); all_goals obtain rfl : j = 0 := by omega
          all_goals rfl
         cbv; revert h; refine rq fun c90 => rl fun l88 hl88 h => ?_; have e89 := nl hA hLEN hl88; refine ⟨c90, _, (co e89), _, row GD (encI .i64) l88, e89, wkOf ?_, ?_⟩
         ·subst hGD hLEN hA; exact app_os (off := 0) (fun _ _ => rfl) hl88 (Nat.le_refl _)
         cbv; revert h; refine ra fun c91 h => ?_
         revert h; refine rk [(5, 62000)] [(64000, 6336)] (hf_REC_spec_l12Visit_mbxbb _ _ _ _) (fun _ => zg (les_cons (lR _) (les_cons (lR _) (les_cons (le_agg ⟨lR _, lR _, lR _, lR _, give_os (fun _ _ => rfl) rfl rfl rfl, trivial⟩) (les_cons (lR _) (les_nil)))))) fun y92 h => ⟨_, rfl, _, _, rfl, fun _ _ _ _ => .refl _, _, _, rfl, fun _ _ _ _ => .refl _, ?_⟩
         cbv; exact dn
        injection h with h; subst h; subst hS; show St.le _ _; refine St.le_trans (le_ren 62000 6336 (by decide) rfl) ?_; exact zb
       cbv; injection h with h; refine hK _ h.symm _ ?_; refine St.le_trans (le_ren 6336 62000 (by decide) rfl) ?_; exact zb
      exact dx
     rintro ⟨w96, w97⟩ h s q53; replace h := oz (oz (oz h)); dsimp only at h; cbv; refine ⟨_, q53, ?_⟩; cbv; exact dm
    exact dx
   rintro ⟨w99, w100⟩ h s q37; replace h := oz (oz (oz h)); dsimp only at h; cbv; refine ⟨_, q37, ?_⟩; cbv; exact dm
  exact dx
 intro w102 h s q19; replace h := oz (oz h); cbv; refine ⟨_, q19, ?_⟩; cbv; injection h with h; subst h; exact ⟨_, le_ren 62000 64000 (by decide) rfl, lR _, zo, rfl⟩
/-- as deep as this -/
noncomputable def FR_spec_l12Visit_mbxbb : Nat → TLibrary → (List TOccurrence) → TOccurrence → TRect → Option (List TOccurrence)
 | 0 => fun _ _ _ _ => none
 | k + 1 => FS_spec_l12Visit_mbxbb (FR_spec_l12Visit_mbxbb k)
theorem runR_spec_l12Visit_mbxbb : ∀ (k : Nat) (a0 : TLibrary) (a1 : List TOccurrence) (a2 : TOccurrence) (a3 : TRect) (r : List TOccurrence), FR_spec_l12Visit_mbxbb k a0 a1 a2 a3 = some r → Fun Tryz.prog 85 [.agg [.bs (len a0.fCells) 4 (row gd (encCell len gd) a0.fCells)], .c (.os 5 0 (len a1)), .agg [.v (.int .i64 a2.fCell), .v (.int .i64 a2.fPlace.fOrientation), .v (.int .i64 a2.fPlace.fX), .v (.int .i64 a2.fPlace.fY), .bs (len a2.fPath) 1 (row gd (encI .i64) a2.fPath)], .agg [.v (.int .i64 a3.fX0), .v (.int .i64 a3.fY0), .v (.int .i64 a3.fX1), .v (.int .i64 a3.fY1)]] [(5, .arr .rw [] (len a1) 5 (row gd (encOccurrence len gd) a1))] (.c (.os 64000 0 (len r))) [(64000, .arr .rw [] (len r) 5 (row gd (encOccurrence len gd) r))] false := by
 intro k
 induction k with
 | zero => intro a0 a1 a2 a3 r h; cases h
 | succ k ih => exact fun a0 a1 a2 a3 r h => runS_spec_l12Visit_mbxbb (FR_spec_l12Visit_mbxbb k) ih a0 a1 a2 a3 r h
/-- spec.l12Visit -/
noncomputable def F_spec_l12Visit_mbxbb (a0 : TLibrary) (a1 : List TOccurrence) (a2 : TOccurrence) (a3 : TRect) : Option (List TOccurrence) := FR_spec_l12Visit_mbxbb 64 a0 a1 a2 a3
theorem run_spec_l12Visit_mbxbb (a0 : TLibrary) (a1 : List TOccurrence) (a2 : TOccurrence) (a3 : TRect) (r : List TOccurrence) (h : F_spec_l12Visit_mbxbb a0 a1 a2 a3 = some r) : Fun Tryz.prog 85 [.agg [.bs (len a0.fCells) 4 (row gd (encCell len gd) a0.fCells)], .c (.os 5 0 (len a1)), .agg [.v (.int .i64 a2.fCell), .v (.int .i64 a2.fPlace.fOrientation), .v (.int .i64 a2.fPlace.fX), .v (.int .i64 a2.fPlace.fY), .bs (len a2.fPath) 1 (row gd (encI .i64) a2.fPath)], .agg [.v (.int .i64 a3.fX0), .v (.int .i64 a3.fY0), .v (.int .i64 a3.fX1), .v (.int .i64 a3.fY1)]] [(5, .arr .rw [] (len a1) 5 (row gd (encOccurrence len gd) a1))] (.c (.os 64000 0 (len r))) [(64000, .arr .rw [] (len r) 5 (row gd (encOccurrence len gd) r))] false := runR_spec_l12Visit_mbxbb 64 a0 a1 a2 a3 r h
/-- spec.l12Visited -/
noncomputable def F_spec_l12Visited (a0 : TLibrary) (a1 : Int) (a2 : TRect) : Option (List TOccurrence) :=
 (F_spec_l12Visit_mbxbb (TLibrary.mk a0.fCells) ([] : List TOccurrence) (TOccurrence.mk a1 (TTransform.mk 0 0 0) ([] : List Int)) (TRect.mk a2.fX0 a2.fY0 a2.fX1 a2.fY1)).bind fun y2 =>
 some y2
set_option maxHeartbeats 4000000 in
theorem run_spec_l12Visited (a0 : TLibrary) (a1 : Int) (a2 : TRect) (r : List TOccurrence) (h : F_spec_l12Visited a0 a1 a2 = some r) : Fun Tryz.prog 61 [.agg [.bs (len a0.fCells) 4 (row gd (encCell len gd) a0.fCells)], .c (.v (.int .i64 a1)), .agg [.v (.int .i64 a2.fX0), .v (.int .i64 a2.fY0), .v (.int .i64 a2.fX1), .v (.int .i64 a2.fY1)]] [] (.c (.os 64000 0 (len r))) [(64000, .arr .rw [] (len r) 5 (row gd (encOccurrence len gd) r))] false := by
 refine ow [] Tryz.func61 Tryz.ntmps61 ?_ (hv := (fun h => by cases h)); unfold F_spec_l12Visited at h; have hf_spec_l12Visit_mbxbb := @run_spec_l12Visit_mbxbb; generalize hLEN : @len = LEN, hGD : @gd = GD, hA : std = A, hP : Tryz.prog = P at *; cbv; have e1 : 0 = LEN ([] : List TOccurrence) := by subst hLEN; rfl
 refine ⟨_, (co e1), _, row GD (oncOccurrence LEN GD) ([] : List TOccurrence), e1, wkOf ?_, ?_⟩
 ·intro i hi j hj; rw [← e1] at hi; subst hGD; omega
 cbv
 revert h; refine rk [(5, 512)] [(64000, 768)] (hf_spec_l12Visit_mbxbb _ _ _ _) (fun _ => ⟨les_cons (lR _) (les_cons (lR _) (les_cons (le_agg ⟨lR _, lR _, lR _, lR _, (by subst hLEN; exact le_nil_bs), trivial⟩) (les_cons (lR _) (les_nil)))), ⟨⟨fun hw => hw, fun c hc => (by cases hc), .inl rfl, rfl, rfl, (by subst hLEN; intro i hi; exact absurd hi (Nat.not_lt_zero i))⟩, trivial⟩, rfl, rfl, rfl, rfl, ⟨fun h => absurd (show (64000 : Nat) % 2 = 1 from h) (by decide), trivial⟩, rfl⟩) fun y2 h => ⟨_, rfl, _, _, rfl, fun _ _ _ _ => .refl _, ?_⟩
 cbv; injection h with h; subst h; exact ⟨_, le_ren 768 64000 (by decide) rfl, lR _, zo, rfl⟩

noncomputable def L_spec_l12Hits_x22 (a0 : TLibrary) (a2 : Int) (a3 : TRect) (y2 : (List TOccurrence)) (v4 : Int) : (Int × (List TWindowHit)) → Option ((Int × (List TWindowHit)) ⊕ (((List TWindowHit)))) := fun x22 =>
 letO x22.1 fun v20 =>
 letO x22.2 fun v21 =>
 br (std.lt v20 (std.ofN (len (gd a0.fCells (std.toN (gd y2 (std.nadd 0 (std.toN v4))).fCell)).fShapes)))
 (req (std.inR v4 (len y2)) <|
 req (std.inR v20 (len (gd a0.fCells (std.toN (gd y2 (std.nadd 0 (std.toN v4))).fCell)).fShapes)) <|
 (F_spec_l10Rect (gd y2 (std.nadd 0 (std.toN v4))).fPlace (gd (gd a0.fCells (std.toN (gd y2 (std.nadd 0 (std.toN v4))).fCell)).fShapes (std.toN v20)).fBox).bind fun y36 =>
 ((
    req (std.inR v20 (len (gd a0.fCells (std.toN (gd y2 (std.nadd 0 (std.toN v4))).fCell)).fShapes)) <|
    br (std.eq (gd (gd a0.fCells (std.toN (gd y2 (std.nadd 0 (std.toN v4))).fCell)).fShapes (std.toN v20)).fLayer a2)
    ((F_spec_l11Overlap y36 a3).bind fun y46 =>
    some y46)
    (some false)
  ) : Option (Bool)).bind fun y38 =>
 letO y38 fun w44 =>
 ((
    br w44
    (((
       req (std.inR v4 (len y2)) <|
       letO ([] : List Int) fun l64 =>
       req (std.inR v4 (len y2)) <|
       req (std.room (std.nadd (len l64) (len (gd y2 (std.nadd 0 (std.toN v4))).fPath)) 8) <|
       letO (l64 ++ (gd y2 (std.nadd 0 (std.toN v4))).fPath) fun l67 =>
       letO ([(TWindowHit.mk (gd y2 (std.nadd 0 (std.toN v4))).fCell v20 a2 y36 l67)] : List TWindowHit) fun l70 =>
       req (std.room (std.nadd (len v21) (len l70)) 80) <|
       letO (v21 ++ l70) fun l72 =>
       some l72
     ) : Option ((List TWindowHit))).bind fun y56 =>
    letO y56 fun w62 =>
    some w62)
    (some v21)
  ) : Option ((List TWindowHit))).bind fun y49 =>
 letO y49 fun w55 =>
 some (.inl (std.add .i64 v20 1, w55)))
 (some (.inr v21))
noncomputable def L_spec_l12Hits_x6 (a0 : TLibrary) (a2 : Int) (a3 : TRect) (y2 : (List TOccurrence)) : (Int × (List TWindowHit)) → Option ((Int × (List TWindowHit)) ⊕ (((List TWindowHit)))) := fun x6 =>
 letO x6.1 fun v4 =>
 letO x6.2 fun v5 =>
 br (std.lt v4 (std.ofN (len y2)))
 (req (std.inR v4 (len y2)) <|
 req (std.inR (gd y2 (std.nadd 0 (std.toN v4))).fCell (len a0.fCells)) <|
 (whileP (σ := Int × (List TWindowHit)) (ρ := ((List TWindowHit))) (L_spec_l12Hits_x22 a0 a2 a3 y2 v4) (0, v5)).bind fun y23 =>
 letO y23 fun y23k0 =>
 letO y23k0 fun w77 =>
 some (.inl (std.add .i64 v4 1, w77)))
 (some (.inr v5))
/-- spec.l12Hits -/
noncomputable def F_spec_l12Hits (a0 : TLibrary) (a1 : Int) (a2 : Int) (a3 : TRect) : Option (List TWindowHit) :=
 (F_spec_l12Visited (TLibrary.mk a0.fCells) a1 a3).bind fun y2 =>
 (whileP (σ := Int × (List TWindowHit)) (ρ := ((List TWindowHit))) (L_spec_l12Hits_x6 a0 a2 a3 y2) (0, ([] : List TWindowHit))).bind fun y7 =>
 letO y7 fun y7k0 =>
 letO y7k0 fun w79 =>
 some w79
set_option maxHeartbeats 4000000 in
theorem run_spec_l12Hits (a0 : TLibrary) (a1 : Int) (a2 : Int) (a3 : TRect) (r : List TWindowHit) (h : F_spec_l12Hits a0 a1 a2 a3 = some r) : Fun Tryz.prog 36 [.agg [.bs (len a0.fCells) 4 (row gd (encCell len gd) a0.fCells)], .c (.v (.int .i64 a1)), .c (.v (.int .i64 a2)), .agg [.v (.int .i64 a3.fX0), .v (.int .i64 a3.fY0), .v (.int .i64 a3.fX1), .v (.int .i64 a3.fY1)]] [] (.c (.os 64000 0 (len r))) [(64000, .arr .rw [] (len r) 8 (row gd (oncWindowHit len gd) r))] true := by
 refine ow [11, 12, 100066] Tryz.func36 Tryz.ntmps36 ?_ (hv := (fun _ => ⟨trivial, ⟨fun i _ j _ => fl_oncWindowHit _ _, trivial⟩⟩)); unfold F_spec_l12Hits at h; unfold L_spec_l12Hits_x6 at h; unfold L_spec_l12Hits_x22 at h; have hf_spec_l10Rect := @run_spec_l10Rect; have hf_spec_l11Overlap := @run_spec_l11Overlap; have hf_spec_l12Visited := @run_spec_l12Visited
 generalize hLEN : @len = LEN, hGD : @gd = GD, hA : std = A, hP : Tryz.prog = P at *; cbv; have e1 : 0 = LEN ([] : List TWindowHit) := by subst hLEN; rfl
 refine ⟨_, (co e1), _, row GD (oncWindowHit LEN GD) ([] : List TWindowHit), e1, wkOf ?_, ?_⟩
 ·intro i hi j hj; rw [← e1] at hi; subst hGD; omega
 cbv; revert h; refine rk [] [(64000, 1216)] (hf_spec_l12Visited _ _ _) (fun _ => zf) fun y2 h => ⟨_, rfl, _, _, rfl, fun _ _ _ _ => .refl _, ?_⟩
 cbv
 revert h; refine ln (.exit 0) (fun x => (sparse 87 [(2, .c (.v (.int .i64 a2))), (4, .c (.ptr 256 0)), (7, .c (.ptr 448 0)), (9, .c (.os 960 0 (LEN x.2))), (10, .c (.os 1216 0 (LEN y2))), (11, .c (.v (.int .i64 x.1)))] [(256, .var [.bs (LEN a0.fCells) 4 (row GD (encCell LEN GD) a0.fCells)]), (448, .var [.v (.int .i64 a3.fX0), .v (.int .i64 a3.fY0), .v (.int .i64 a3.fX1), .v (.int .i64 a3.fY1)]), (960, .arr .rw [] (LEN x.2) 8 (row GD (oncWindowHit LEN GD) x.2)), (1216, .arr .rw [] (LEN y2) 5 (row GD (encOccurrence LEN GD) y2))])) (fun w => (sparse 87 [(9, .c (.os 960 0 (LEN w)))] [(960, .arr .rw [] (LEN w) 8 (row GD (oncWindowHit LEN GD) w))])) zb ?_ ?_
 ·rintro ⟨v4, v5⟩ z h K hK hY; replace h := oz (oz h); dsimp only at h; cbv; revert h; refine fk ?_ ?_ <;> intro h <;> cbv
  ·revert h; refine ra fun c18 h => ?_; refine ai c18 ?_; revert h; refine ra fun c19 h => ?_
   revert h; refine ln (.exit 2) (fun x => (sparse 87 [(2, .c (.v (.int .i64 a2))), (4, .c (.ptr 256 0)), (7, .c (.ptr 448 0)), (9, .c (.os 960 0 (LEN x.2))), (10, .c (.os 1216 0 (LEN y2))), (11, .c (.v (.int .i64 v4))), (12, .c (.ptr 768 0)), (13, .c (.v (.int .i64 x.1)))] [(256, .var [.bs (LEN a0.fCells) 4 (row GD (encCell LEN GD) a0.fCells)]), (448, .var [.v (.int .i64 a3.fX0), .v (.int .i64 a3.fY0), .v (.int .i64 a3.fX1), .v (.int .i64 a3.fY1)]), (960, .arr .rw [] (LEN x.2) 8 (row GD (oncWindowHit LEN GD) x.2)), (1216, .arr .rw [] (LEN y2) 5 (row GD (encOccurrence LEN GD) y2)), (768, .var [.v (.string (GD a0.fCells (A.toN (GD y2 (A.nadd 0 (A.toN v4))).fCell)).fName), .bs (LEN (GD a0.fCells (A.toN (GD y2 (A.nadd 0 (A.toN v4))).fCell)).fShapes) 5 (row GD (encShape) (GD a0.fCells (A.toN (GD y2 (A.nadd 0 (A.toN v4))).fCell)).fShapes), .bs (LEN (GD a0.fCells (A.toN (GD y2 (A.nadd 0 (A.toN v4))).fCell)).fLabels) 4 (row GD (encLabel) (GD a0.fCells (A.toN (GD y2 (A.nadd 0 (A.toN v4))).fCell)).fLabels), .bs (LEN (GD a0.fCells (A.toN (GD y2 (A.nadd 0 (A.toN v4))).fCell)).fInstances) 8 (row GD (encInstance) (GD a0.fCells (A.toN (GD y2 (A.nadd 0 (A.toN v4))).fCell)).fInstances)])])) (fun w => (sparse 87 [(2, .c (.v (.int .i64 a2))), (4, .c (.ptr 256 0)), (7, .c (.ptr 448 0)), (9, .c (.os 960 0 (LEN w))), (10, .c (.os 1216 0 (LEN y2))), (11, .c (.v (.int .i64 v4)))] [(256, .var [.bs (LEN a0.fCells) 4 (row GD (encCell LEN GD) a0.fCells)]), (448, .var [.v (.int .i64 a3.fX0), .v (.int .i64 a3.fY0), .v (.int .i64 a3.fX1), .v (.int .i64 a3.fY1)]), (960, .arr .rw [] (LEN w) 8 (row GD (oncWindowHit LEN GD) w)), (1216, .arr .rw [] (LEN y2) 5 (row GD (encOccurrence LEN GD) y2))])) zb ?_ ?_
   ·rintro ⟨v20, v21⟩ z h K hK hY; replace h := oz (oz h); dsimp only at h; cbv; revert h; refine fk ?_ ?_ <;> intro h <;> cbv
    ·revert h; refine ra fun c34 h => ?_; refine ai c34 ?_; revert h; refine ra fun c35 h => ?_; revert h; refine rk0 (hf_spec_l10Rect _ _) fun y36 h => ?_; cbv
     revert h; refine cu (fun y38 => (sparse 87 [(2, .c (.v (.int .i64 a2))), (4, .c (.ptr 256 0)), (7, .c (.ptr 448 0)), (9, .c (.os 960 0 (LEN v21))), (10, .c (.os 1216 0 (LEN y2))), (11, .c (.v (.int .i64 v4))), (12, .c (.ptr 768 0)), (13, .c (.v (.int .i64 v20))), (14, .c (.ptr 896 0)), (66, .c (.v (.bool y38)))] [(256, .var [.bs (LEN a0.fCells) 4 (row GD (encCell LEN GD) a0.fCells)]), (448, .var [.v (.int .i64 a3.fX0), .v (.int .i64 a3.fY0), .v (.int .i64 a3.fX1), .v (.int .i64 a3.fY1)]), (960, .arr .rw [] (LEN v21) 8 (row GD (oncWindowHit LEN GD) v21)), (1216, .arr .rw [] (LEN y2) 5 (row GD (encOccurrence LEN GD) y2)), (768, .var [.v (.string (GD a0.fCells (A.toN (GD y2 (A.nadd 0 (A.toN v4))).fCell)).fName), .bs (LEN (GD a0.fCells (A.toN (GD y2 (A.nadd 0 (A.toN v4))).fCell)).fShapes) 5 (row GD (encShape) (GD a0.fCells (A.toN (GD y2 (A.nadd 0 (A.toN v4))).fCell)).fShapes), .bs (LEN (GD a0.fCells (A.toN (GD y2 (A.nadd 0 (A.toN v4))).fCell)).fLabels) 4 (row GD (encLabel) (GD a0.fCells (A.toN (GD y2 (A.nadd 0 (A.toN v4))).fCell)).fLabels), .bs (LEN (GD a0.fCells (A.toN (GD y2 (A.nadd 0 (A.toN v4))).fCell)).fInstances) 8 (row GD (encInstance) (GD a0.fCells (A.toN (GD y2 (A.nadd 0 (A.toN v4))).fCell)).fInstances)]), (896, .var [.v (.int .i64 y36.fX0), .v (.int .i64 y36.fY0), .v (.int .i64 y36.fX1), .v (.int .i64 y36.fY1)])])) ?_ fun w44 => rz fun h => ?_
     ·intro y38 S hS h; cbv; revert h; refine ra fun c45 h => ?_; revert h; refine fk ?_ ?_ <;> intro h <;> cbv
      ·revert h; refine rk0 (hf_spec_l11Overlap _ _) fun y46 h => ?_; cbv; exact dn
      exact dn
     cbv
     revert h; refine cu (fun y49 => some (sparse 87 [(2, .c (.v (.int .i64 a2))), (4, .c (.ptr 256 0)), (7, .c (.ptr 448 0)), (9, .c (.os 960 0 (LEN y49))), (10, .c (.os 1216 0 (LEN y2))), (11, .c (.v (.int .i64 v4))), (12, .c (.ptr 768 0)), (13, .c (.v (.int .i64 v20)))] [(256, .var [.bs (LEN a0.fCells) 4 (row GD (encCell LEN GD) a0.fCells)]), (448, .var [.v (.int .i64 a3.fX0), .v (.int .i64 a3.fY0), .v (.int .i64 a3.fX1), .v (.int .i64 a3.fY1)]), (960, .arr .rw [] (LEN y49) 8 (row GD (oncWindowHit LEN GD) y49)), (1216, .arr .rw [] (LEN y2) 5 (row GD (encOccurrence LEN GD) y2)), (768, .var [.v (.string (GD a0.fCells (A.toN (GD y2 (A.nadd 0 (A.toN v4))).fCell)).fName), .bs (LEN (GD a0.fCells (A.toN (GD y2 (A.nadd 0 (A.toN v4))).fCell)).fShapes) 5 (row GD (encShape) (GD a0.fCells (A.toN (GD y2 (A.nadd 0 (A.toN v4))).fCell)).fShapes), .bs (LEN (GD a0.fCells (A.toN (GD y2 (A.nadd 0 (A.toN v4))).fCell)).fLabels) 4 (row GD (encLabel) (GD a0.fCells (A.toN (GD y2 (A.nadd 0 (A.toN v4))).fCell)).fLabels), .bs (LEN (GD a0.fCells (A.toN (GD y2 (A.nadd 0 (A.toN v4))).fCell)).fInstances) 8 (row GD (encInstance) (GD a0.fCells (A.toN (GD y2 (A.nadd 0 (A.toN v4))).fCell)).fInstances)])])) ?_ fun w55 => rz fun h => ?_
     ·intro y49 S hS h; cbv; revert h; refine fk ?_ ?_ <;> intro h <;> cbv
      ·revert h; refine cu (fun y56 => (sparse 87 [(2, .c (.v (.int .i64 a2))), (4, .c (.ptr 256 0)), (7, .c (.ptr 448 0)), (9, .c (.os 960 0 (LEN y56))), (10, .c (.os 1216 0 (LEN y2))), (11, .c (.v (.int .i64 v4))), (12, .c (.ptr 768 0)), (13, .c (.v (.int .i64 v20)))] [(256, .var [.bs (LEN a0.fCells) 4 (row GD (encCell LEN GD) a0.fCells)]), (448, .var [.v (.int .i64 a3.fX0), .v (.int .i64 a3.fY0), .v (.int .i64 a3.fX1), .v (.int .i64 a3.fY1)]), (960, .arr .rw [] (LEN y56) 8 (row GD (oncWindowHit LEN GD) y56)), (1216, .arr .rw [] (LEN y2) 5 (row GD (encOccurrence LEN GD) y2)), (768, .var [.v (.string (GD a0.fCells (A.toN (GD y2 (A.nadd 0 (A.toN v4))).fCell)).fName), .bs (LEN (GD a0.fCells (A.toN (GD y2 (A.nadd 0 (A.toN v4))).fCell)).fShapes) 5 (row GD (encShape) (GD a0.fCells (A.toN (GD y2 (A.nadd 0 (A.toN v4))).fCell)).fShapes), .bs (LEN (GD a0.fCells (A.toN (GD y2 (A.nadd 0 (A.toN v4))).fCell)).fLabels) 4 (row GD (encLabel) (GD a0.fCells (A.toN (GD y2 (A.nadd 0 (A.toN v4))).fCell)).fLabels), .bs (LEN (GD a0.fCells (A.toN (GD y2 (A.nadd 0 (A.toN v4))).fCell)).fInstances) 8 (row GD (encInstance) (GD a0.fCells (A.toN (GD y2 (A.nadd 0 (A.toN v4))).fCell)).fInstances)])])) ?_ fun w62 => rz fun h => ?_
       ·intro y56 S hS h; cbv; revert h; refine ra fun c63 h => ?_; refine ai c63 ?_; revert h; refine rl fun l64 hl64 h => ?_; have e65 : 0 = LEN l64 := by subst hl64 hLEN; rfl
        refine ⟨_, (co e65), _, row GD (encI .i64) l64, e65, wkOf ?_, ?_⟩
        ·intro i hi j hj; rw [← e65] at hi; subst hl64; subst hGD; omega
        cbv; revert h; refine ra fun c66 h => ?_; refine ai c66 ?_; revert h; refine rq fun c69 => rl fun l67 hl67 h => ?_; have e68 := nl hA hLEN hl67; refine ⟨c69, _, (co e68), _, row GD (encI .i64) l67, e68, wkOf ?_, ?_⟩
        ·subst hGD hLEN hA; exact app_bs (fun _ _ => rfl) hl67 (Nat.le_refl _)
        cbv; revert h; refine rl fun l70 hl70 h => ?_; have e71 : 1 = LEN l70 := by subst hl70 hLEN; rfl
        refine ⟨_, (co e71), _, (patchC (fun _ _ => AC.junk) 0 [.v (.int .i64 (GD y2 (A.nadd 0 (A.toN v4))).fCell), .v (.int .i64 v20), .v (.int .i64 a2), .v (.int .i64 y36.fX0), .v (.int .i64 y36.fY0), .v (.int .i64 y36.fX1), .v (.int .i64 y36.fY1), .os 4864 0 (LEN l67)]), e71, wkOf ?_, ?_⟩
        ·refine patch_one (by subst hl70 hLEN; rfl) ?_; exact zr
        cbv; revert h; refine rq fun c74 => rl fun l72 hl72 h => ?_; have e73 := nl hA hLEN hl72; refine ⟨c74, _, (co e73), _, (patchC (row GD (oncWindowHit LEN GD) v21) (LEN v21) [.v (.int .i64 (GD y2 (A.nadd 0 (A.toN v4))).fCell), .v (.int .i64 v20), .v (.int .i64 a2), .v (.int .i64 y36.fX0), .v (.int .i64 y36.fY0), .v (.int .i64 y36.fX1), .v (.int .i64 y36.fY1), .os 4864 0 (LEN l67)]), e73, wkOf ?_, ?_⟩
        ·subst hLEN hA; refine patch_joinG (by first | (rw [hl72]; simp [len]; done) | (rw [hl72]; simp [len]; omega) | (subst_vars; simp [len])) ?_; exact zr
        cbv; rw [hl70] at hl72; injection h with h; subst h; subst hS; show St.le _ _; refine St.le_trans (le_foldP 960 7 4864 rfl rfl rfl (by decide) (by subst hLEN; exact app_lt hl72) (by decide) rfl (fun _ _ => rf_oncWindowHit _ _)) ?_; exact le_sparse rfl zl ⟨rfl, rfl, oP (fun _ _ => rf_oncWindowHit _ _) (by subst hGD hLEN hA; exact patch_app hl72 (Nat.le_refl _) zr), oS, rfl, trivial⟩ rfl
       cbv; exact dn
      exact dn
     cbv; exact dm
    exact dx
   intro w77 h s q31; replace h := oz (oz h); cbv; refine ⟨_, q31, ?_⟩; cbv; exact dm
  exact dx
 intro w79 h s q15; replace h := oz (oz h); cbv; refine ⟨_, q15, ?_⟩; cbv; injection h with h; subst h; exact ⟨_, le_ren 960 64000 (by decide) rfl, lR _, zo, rfl⟩

/-- spec.WindowShapes -/
noncomputable def F_spec_WindowShapes (a0 : TLibrary) (a1 : Int) (a2 : Int) (a3 : TRect) : Option ((List TWindowHit) × Int) :=
 ((
    (F_spec_IsValidLibrary (TLibrary.mk a0.fCells)).bind fun y8 =>
    br (!(y8))
    (some true)
    ((F_spec_l09Rect a3).bind fun y10 =>
    some (!(y10)))
  ) : Option (Bool)).bind fun y1 =>
 letO y1 fun w7 =>
 br w7
 (some (([] : List TWindowHit), (1 : Int)))
 ((F_spec_l09Has (TLibrary.mk a0.fCells) a1).bind fun y13 =>
 br (!(y13))
 (some (([] : List TWindowHit), (5 : Int)))
 ((F_spec_l09Layer a2).bind fun y15 =>
 br (!(y15))
 (some (([] : List TWindowHit), (2 : Int)))
 ((F_spec_ElementCount (TLibrary.mk a0.fCells) a1).bind fun y17 =>
 br (std.lt 200 y17)
 (some (([] : List TWindowHit), (3 : Int)))
 ((F_spec_l12Hits (TLibrary.mk a0.fCells) a1 a2 a3).bind fun y19 =>
 br (std.lt 100 (std.ofN (len y19)))
 (some (([] : List TWindowHit), (3 : Int)))
 (some (y19, (0 : Int)))))))
set_option maxHeartbeats 4000000 in
theorem run_spec_WindowShapes (a0 : TLibrary) (a1 : Int) (a2 : Int) (a3 : TRect) (r : (List TWindowHit) × Int) (h : F_spec_WindowShapes a0 a1 a2 a3 = some r) : Fun Tryz.prog 15 [.agg [.bs (len a0.fCells) 4 (row gd (encCell len gd) a0.fCells)], .c (.v (.int .i64 a1)), .c (.v (.int .i64 a2)), .agg [.v (.int .i64 a3.fX0), .v (.int .i64 a3.fY0), .v (.int .i64 a3.fX1), .v (.int .i64 a3.fY1)]] [] (.tup [.c (.os 64000 0 (len r.1)), .c (.v (.int .i64 r.2))]) [(64000, .arr .rw [] (len r.1) 8 (row gd (oncWindowHit len gd) r.1))] true := by
 refine ow [1] Tryz.func15 Tryz.ntmps15 ?_ (hv := (fun _ => ⟨(by simp [AV.flat, AV.flat1, AC.flat]), ⟨fun i _ j _ => fl_oncWindowHit _ _, trivial⟩⟩)); unfold F_spec_WindowShapes at h; have hf_spec_ElementCount := @run_spec_ElementCount; have hf_spec_IsValidLibrary := @run_spec_IsValidLibrary; have hf_spec_l09Has := @run_spec_l09Has; have hf_spec_l09Layer := @run_spec_l09Layer
 have hf_spec_l09Rect := @run_spec_l09Rect; have hf_spec_l12Hits := @run_spec_l12Hits; generalize hLEN : @len = LEN, hGD : @gd = GD, hA : std = A, hP : Tryz.prog = P at *; cbv
 revert h; refine cu (fun y1 => (sparse 43 [(1, .c (.v (.int .i64 a1))), (2, .c (.v (.int .i64 a2))), (4, .c (.ptr 256 0)), (7, .c (.ptr 448 0)), (11, .c (.v (.bool y1)))] [(256, .var [.bs (LEN a0.fCells) 4 (row GD (encCell LEN GD) a0.fCells)]), (448, .var [.v (.int .i64 a3.fX0), .v (.int .i64 a3.fY0), .v (.int .i64 a3.fX1), .v (.int .i64 a3.fY1)])])) ?_ fun w7 => rz fun h => ?_
 ·intro y1 S hS h; cbv; revert h; refine rk0 (hf_spec_IsValidLibrary _) fun y8 h => ?_; cbv; revert h; refine fk ?_ ?_ <;> intro h <;> cbv
  ·exact dn
  revert h; refine rk0 (hf_spec_l09Rect _) fun y10 h => ?_; cbv; exact dn
 cbv; revert h; refine fk ?_ ?_ <;> intro h <;> cbv
 ·injection h with h; subst h; refine ⟨(sparse 43 [(8, .c (.os 64000 0 (LEN ([] : List TWindowHit)))), (9, .c (.v (.int .i64 1)))] [(64000, .arr .rw [] (LEN ([] : List TWindowHit)) 8 (row GD (oncWindowHit LEN GD) ([] : List TWindowHit)))]), ?_, ?_⟩
  ·refine St.le_trans (le_nilT 8 64000 8 (row GD (oncWindowHit LEN GD) ([] : List TWindowHit)) (by decide) rfl) ?_; subst hLEN; exact zb
  ·subst hLEN; exact ⟨lR _, zo, rfl⟩
 revert h; refine rk0 (hf_spec_l09Has _ _) fun y13 h => ?_; cbv; revert h; refine fk ?_ ?_ <;> intro h <;> cbv
 ·injection h with h; subst h; refine ⟨(sparse 43 [(8, .c (.os 64000 0 (LEN ([] : List TWindowHit)))), (9, .c (.v (.int .i64 5)))] [(64000, .arr .rw [] (LEN ([] : List TWindowHit)) 8 (row GD (oncWindowHit LEN GD) ([] : List TWindowHit)))]), ?_, ?_⟩
  ·refine St.le_trans (le_nilT 8 64000 8 (row GD (oncWindowHit LEN GD) ([] : List TWindowHit)) (by decide) rfl) ?_; subst hLEN; exact zb
  ·subst hLEN; exact ⟨lR _, zo, rfl⟩
 revert h; refine rk0 (hf_spec_l09Layer _) fun y15 h => ?_; cbv; revert h; refine fk ?_ ?_ <;> intro h <;> cbv
 ·injection h with h; subst h; refine ⟨(sparse 43 [(8, .c (.os 64000 0 (LEN ([] : List TWindowHit)))), (9, .c (.v (.int .i64 2)))] [(64000, .arr .rw [] (LEN ([] : List TWindowHit)) 8 (row GD (oncWindowHit LEN GD) ([] : List TWindowHit)))]), ?_, ?_⟩
  ·refine St.le_trans (le_nilT 8 64000 8 (row GD (oncWindowHit LEN GD) ([] : List TWindowHit)) (by decide) rfl) ?_; subst hLEN; exact zb
  ·subst hLEN; exact ⟨lR _, zo, rfl⟩
 revert h; refine rk0 (hf_spec_ElementCount _ _) fun y17 h => ?_; cbv; revert h; refine fk ?_ ?_ <;> intro h <;> cbv
 ·injection h with h; subst h; refine ⟨(sparse 43 [(8, .c (.os 64000 0 (LEN ([] : List TWindowHit)))), (9, .c (.v (.int .i64 3)))] [(64000, .arr .rw [] (LEN ([] : List TWindowHit)) 8 (row GD (oncWindowHit LEN GD) ([] : List TWindowHit)))]), ?_, ?_⟩
  ·refine St.le_trans (le_nilT 8 64000 8 (row GD (oncWindowHit LEN GD) ([] : List TWindowHit)) (by decide) rfl) ?_; subst hLEN; exact zb
  ·subst hLEN; exact ⟨lR _, zo, rfl⟩
 revert h; refine rk [] [(64000, 2432)] (hf_spec_l12Hits _ _ _ _) (fun _ => zf) fun y19 h => ⟨_, rfl, _, _, rfl, fun _ _ _ _ => .refl _, ?_⟩
 cbv; revert h; refine fk ?_ ?_ <;> intro h <;> cbv
 ·injection h with h; subst h; refine ⟨(sparse 43 [(8, .c (.os 64000 0 (LEN ([] : List TWindowHit)))), (9, .c (.v (.int .i64 3)))] [(64000, .arr .rw [] (LEN ([] : List TWindowHit)) 8 (row GD (oncWindowHit LEN GD) ([] : List TWindowHit)))]), ?_, ?_⟩
  ·refine St.le_trans (le_nilT 8 64000 8 (row GD (oncWindowHit LEN GD) ([] : List TWindowHit)) (by decide) rfl) ?_; subst hLEN; exact zb
  ·subst hLEN; exact ⟨lR _, zo, rfl⟩
 injection h with h; subst h; exact ⟨_, le_ren 2432 64000 (by decide) rfl, lR _, zo, rfl⟩

/-- spec.l12Clip -/
noncomputable def F_spec_l12Clip (a0 : TRect) (a1 : TRect) : Option (TRect) :=
 some (TRect.mk (std.imax a0.fX0 a1.fX0) (std.imax a0.fY0 a1.fY0) (std.imin a0.fX1 a1.fX1) (std.imin a0.fY1 a1.fY1))
set_option maxHeartbeats 4000000 in
theorem run_spec_l12Clip (a0 : TRect) (a1 : TRect) (r : TRect) (h : F_spec_l12Clip a0 a1 = some r) : Fun Tryz.prog 16 [.agg [.v (.int .i64 a0.fX0), .v (.int .i64 a0.fY0), .v (.int .i64 a0.fX1), .v (.int .i64 a0.fY1)], .agg [.v (.int .i64 a1.fX0), .v (.int .i64 a1.fY0), .v (.int .i64 a1.fX1), .v (.int .i64 a1.fY1)]] [] (.agg [.v (.int .i64 r.fX0), .v (.int .i64 r.fY0), .v (.int .i64 r.fX1), .v (.int .i64 r.fY1)]) [] true := by
 refine ow [] Tryz.func16 Tryz.ntmps16 ?_ (hv := (fun _ => ⟨(by simp [AV.flat, AV.flat1, AC.flat]), trivial⟩)); unfold F_spec_l12Clip at h; generalize hLEN : @len = LEN, hGD : @gd = GD, hA : std = A, hP : Tryz.prog = P at *; cbv; exact df

/-- spec.l03At -/
noncomputable def F_spec_l03At (a0 : Int) (a1 : Int) : Option (Int) :=
 some (std.add .i64 (std.add .i64 (std.mul .i64 (std.add .i64 a1 40) 80) a0) 40)
set_option maxHeartbeats 4000000 in
theorem run_spec_l03At (a0 : Int) (a1 : Int) (r : Int) (h : F_spec_l03At a0 a1 = some r) : Fun Tryz.prog 64 [.c (.v (.int .i64 a0)), .c (.v (.int .i64 a1))] [] (.c (.v (.int .i64 r))) [] true := by
 refine ow [] Tryz.func64 Tryz.ntmps64 ?_; unfold F_spec_l03At at h; generalize hLEN : @len = LEN, hGD : @gd = GD, hA : std = A, hP : Tryz.prog = P at *; cbv; exact df

noncomputable def L_spec_l03Bits_x38 (a0 : List TRect) (l1 : List Bool) (v5 : Int) (v20 : Int) : (Int × (List Bool)) → Option ((Int × (List Bool)) ⊕ (((List Bool)))) := fun x38 =>
 letO x38.1 fun v36 =>
 letO x38.2 fun v37 =>
 req (std.inR v5 (len a0)) <|
 br (std.lt v36 (gd a0 (std.toN v5)).fX1)
 ((F_spec_l03At v36 v20).bind fun y51 =>
 req (std.inR y51 (len l1)) <|
 req (len l1 = len v37) <|
 letO (List.set v37 (std.nadd 0 (std.toN y51)) true) fun l54 =>
 some (.inl (std.add .i64 v36 1, l54)))
 (some (.inr v37))
noncomputable def L_spec_l03Bits_x22 (a0 : List TRect) (l1 : List Bool) (v5 : Int) : (Int × (List Bool)) → Option ((Int × (List Bool)) ⊕ (((List Bool)))) := fun x22 =>
 letO x22.1 fun v20 =>
 letO x22.2 fun v21 =>
 req (std.inR v5 (len a0)) <|
 br (std.lt v20 (gd a0 (std.toN v5)).fY1)
 (req (std.inR v5 (len a0)) <|
 (whileP (σ := Int × (List Bool)) (ρ := ((List Bool))) (L_spec_l03Bits_x38 a0 l1 v5 v20) ((gd a0 (std.toN v5)).fX0, v21)).bind fun y39 =>
 letO y39 fun y39k0 =>
 letO y39k0 fun w57 =>
 some (.inl (std.add .i64 v20 1, w57)))
 (some (.inr v21))
noncomputable def L_spec_l03Bits_x7 (a0 : List TRect) (l1 : List Bool) : (Int × (List Bool)) → Option ((Int × (List Bool)) ⊕ (((List Bool)))) := fun x7 =>
 letO x7.1 fun v5 =>
 letO x7.2 fun v6 =>
 br (std.lt v5 (std.ofN (len a0)))
 (req (std.inR v5 (len a0)) <|
 (whileP (σ := Int × (List Bool)) (ρ := ((List Bool))) (L_spec_l03Bits_x22 a0 l1 v5) ((gd a0 (std.toN v5)).fY0, v6)).bind fun y23 =>
 letO y23 fun y23k0 =>
 letO y23k0 fun w59 =>
 some (.inl (std.add .i64 v5 1, w59)))
 (some (.inr v6))
/-- spec.l03Bits -/
noncomputable def F_spec_l03Bits (a0 : List TRect) : Option (List Bool) :=
 req (std.nneg 6400) <|
 req (std.room (std.toN 6400) 1) <|
 letO (List.replicate (std.toN 6400) false) fun l1 =>
 (whileP (σ := Int × (List Bool)) (ρ := ((List Bool))) (L_spec_l03Bits_x7 a0 l1) (0, l1)).bind fun y8 =>
 letO y8 fun y8k0 =>
 letO y8k0 fun w61 =>
 req (len l1 = len w61) <|
 some w61
set_option maxHeartbeats 4000000 in
theorem run_spec_l03Bits (a0 : List TRect) (r : List Bool) (h : F_spec_l03Bits a0 = some r) : Fun Tryz.prog 37 [.c (.bs (len a0) 4 (row gd (encRect) a0))] [] (.c (.os 64000 0 (len r))) [(64000, .arr .rw [] (len r) 1 (row gd (encB) r))] true := by
 refine ow [] Tryz.func37 Tryz.ntmps37 ?_ (hv := (fun _ => ⟨trivial, ⟨fun i _ j _ => val_flat (rfl), trivial⟩⟩)); unfold F_spec_l03Bits at h; unfold L_spec_l03Bits_x7 at h; unfold L_spec_l03Bits_x22 at h; unfold L_spec_l03Bits_x38 at h; have hf_spec_l03At := @run_spec_l03At; generalize hLEN : @len = LEN, hGD : @gd = GD, hA : std = A, hP : Tryz.prog = P at *; cbv
 revert h; refine rq fun c3 => rq fun c4 => rl fun l1 hl1 h => ?_; have e2 : A.toN 6400 = LEN l1 := by subst hl1 hLEN hA; exact rep_len rfl
 refine And.intro (by first | exact ⟨c3, c4⟩ | exact ⟨rfl, c3, trivial, trivial, trivial, c4⟩ | (refine ⟨?_, ?_, ?_, ?_, ?_, ?_⟩ <;> first | exact c3 | exact c4 | trivial)) ?_; refine ⟨_, (co e2), _, row GD (encB) l1, e2, wkOf ?_, ?_⟩
 ·subst hGD hLEN; exact upd_repL hl1 zr
 cbv; revert h; refine ln (.exit 0) (fun x => (sparse 48 [(0, .c (.bs (LEN a0) 4 (row GD (encRect) a0))), (3, .c (.os 448 0 (LEN l1))), (4, .c (.v (.int .i64 x.1)))] [(448, .arr .rw [] (LEN l1) 1 (row GD (encB) x.2))])) (fun w => (sparse 48 [(3, .c (.os 448 0 (LEN l1)))] [(448, .arr .rw [] (LEN l1) 1 (row GD (encB) w))])) zb ?_ ?_
 ·rintro ⟨v5, v6⟩ z h K hK hY; replace h := oz (oz h); dsimp only at h; cbv; revert h; refine fk ?_ ?_ <;> intro h <;> cbv
  ·revert h; refine ra fun c19 h => ?_
   revert h; refine ln (.exit 2) (fun x => (sparse 48 [(0, .c (.bs (LEN a0) 4 (row GD (encRect) a0))), (3, .c (.os 448 0 (LEN l1))), (4, .c (.v (.int .i64 v5))), (5, .c (.v (.int .i64 x.1)))] [(448, .arr .rw [] (LEN l1) 1 (row GD (encB) x.2))])) (fun w => (sparse 48 [(0, .c (.bs (LEN a0) 4 (row GD (encRect) a0))), (3, .c (.os 448 0 (LEN l1))), (4, .c (.v (.int .i64 v5)))] [(448, .arr .rw [] (LEN l1) 1 (row GD (encB) w))])) zb ?_ ?_
   ·rintro ⟨v20, v21⟩ z h K hK hY; replace h := oz (oz h); dsimp only at h; cbv; revert h; refine ra fun c34 h => ?_; revert h; refine fk ?_ ?_ <;> intro h <;> cbv
    ·revert h; refine ra fun c35 h => ?_
     revert h; refine ln (.exit 4) (fun x => (sparse 48 [(0, .c (.bs (LEN a0) 4 (row GD (encRect) a0))), (3, .c (.os 448 0 (LEN l1))), (4, .c (.v (.int .i64 v5))), (5, .c (.v (.int .i64 v20))), (6, .c (.v (.int .i64 x.1)))] [(448, .arr .rw [] (LEN l1) 1 (row GD (encB) x.2))])) (fun w => (sparse 48 [(0, .c (.bs (LEN a0) 4 (row GD (encRect) a0))), (3, .c (.os 448 0 (LEN l1))), (4, .c (.v (.int .i64 v5))), (5, .c (.v (.int .i64 v20)))] [(448, .arr .rw [] (LEN l1) 1 (row GD (encB) w))])) zb ?_ ?_
     ·rintro ⟨v36, v37⟩ z h K hK hY; replace h := oz (oz h); dsimp only at h; cbv; revert h; refine ra fun c50 h => ?_; revert h; refine fk ?_ ?_ <;> intro h <;> cbv
      ·revert h; refine rk0 (hf_spec_l03At _ _) fun y51 h => ?_; cbv; revert h; refine ra fun c53 h => ?_; revert h; refine rq fun c55 => rl fun l54 hl54 h => ?_; refine ai c53 ?_; refine ⟨_, rfl, _, row GD (encB) l54, rfl, wkOf (us hA hLEN hGD hl54 c53 c55), ?_⟩; cbv; exact dm
      exact dx
     intro w57 h s q47; replace h := oz (oz h); cbv; refine ⟨_, q47, ?_⟩; cbv; exact dm
    exact dx
   intro w59 h s q31; replace h := oz (oz h); cbv; refine ⟨_, q31, ?_⟩; cbv; exact dm
  exact dx
 intro w61 h s q16; replace h := oz (oz h); cbv; refine ⟨_, q16, ?_⟩; cbv; revert h; refine rq fun c62 h => ?_; injection h with h; subst h; refine ⟨(sparse 48 [(2, .c (.os 64000 0 (LEN w61)))] [(64000, .arr .rw [] (LEN w61) 1 (row GD (encB) w61))]), ?_, ?_⟩
 ·refine St.le_trans (le_ren 448 64000 (by decide) rfl) ?_; rw [c62]; exact zb
 ·exact ⟨lR _, zo, rfl⟩
/-- spec.l01In -/
noncomputable def F_spec_l01In (a0 : Int) (a1 : Int) (a2 : Int) : Option (Bool) :=
 ((
    br (std.le a1 a0)
    (some (std.le a0 a2))
    (some false)
  ) : Option (Bool)).bind fun y1 =>
 letO y1 fun w7 =>
 some w7
set_option maxHeartbeats 4000000 in
theorem run_spec_l01In (a0 : Int) (a1 : Int) (a2 : Int) (r : Bool) (h : F_spec_l01In a0 a1 a2 = some r) : Fun Tryz.prog 114 [.c (.v (.int .i64 a0)), .c (.v (.int .i64 a1)), .c (.v (.int .i64 a2))] [] (.c (.v (.bool r))) [] true := by
 refine ow [1] Tryz.func114 Tryz.ntmps114 ?_; unfold F_spec_l01In at h; generalize hLEN : @len = LEN, hGD : @gd = GD, hA : std = A, hP : Tryz.prog = P at *; cbv; revert h; refine cu (fun y1 => (sparse 15 [(6, .c (.v (.bool y1)))] [])) (fun y1 S hS h => rg) fun w7 => rz fun h => ?_; cbv; exact df

/-- spec.l03Has -/
noncomputable def F_spec_l03Has (a0 : List Bool) (a1 : Int) (a2 : Int) : Option (Bool) :=
 ((
    (F_spec_l01In a1 (-40) 39).bind fun y8 =>
    br y8
    ((F_spec_l01In a2 (-40) 39).bind fun y10 =>
    br y10
    ((F_spec_l03At a1 a2).bind fun y12 =>
    req (std.inR y12 (len a0)) <|
    some (gd a0 (std.toN y12)))
    (some false))
    (some false)
  ) : Option (Bool)).bind fun y1 =>
 letO y1 fun w7 =>
 some w7
set_option maxHeartbeats 4000000 in
theorem run_spec_l03Has (a0 : List Bool) (a1 : Int) (a2 : Int) (r : Bool) (h : F_spec_l03Has a0 a1 a2 = some r) : Fun Tryz.prog 87 [.c (.bs (len a0) 1 (row gd (encB) a0)), .c (.v (.int .i64 a1)), .c (.v (.int .i64 a2))] [] (.c (.v (.bool r))) [] true := by
 refine ow [1] Tryz.func87 Tryz.ntmps87 ?_; unfold F_spec_l03Has at h; have hf_spec_l01In := @run_spec_l01In; have hf_spec_l03At := @run_spec_l03At; generalize hLEN : @len = LEN, hGD : @gd = GD, hA : std = A, hP : Tryz.prog = P at *; cbv; revert h; refine cu (fun y1 => (sparse 21 [(6, .c (.v (.bool y1)))] [])) ?_ fun w7 => rz fun h => ?_
 ·intro y1 S hS h; cbv; revert h; refine rk0 (hf_spec_l01In _ _ _) fun y8 h => ?_; cbv; revert h; refine fk ?_ ?_ <;> intro h <;> cbv
  ·revert h; refine rk0 (hf_spec_l01In _ _ _) fun y10 h => ?_; cbv; revert h; refine fk ?_ ?_ <;> intro h <;> cbv
   ·revert h; refine rk0 (hf_spec_l03At _ _) fun y12 h => ?_; cbv; revert h; refine ra fun c14 h => ?_; exact dn
   exact dn
  exact dn
 cbv; exact df

noncomputable def L_spec_l03Runs_x5 (a0 : List Bool) (a1 : Int) : (Int × (List Int)) → Option ((Int × (List Int)) ⊕ (((List Int)))) := fun x5 =>
 letO x5.1 fun v3 =>
 letO x5.2 fun v4 =>
 br (std.le v3 40)
 ((F_spec_l03Has a0 v3 a1).bind fun y17 =>
 (F_spec_l03Has a0 (std.sub .i64 v3 1) a1).bind fun y19 =>
 ((
    br (std.not (std.beq y17 y19))
    (letO ([v3] : List Int) fun l28 =>
    req (std.room (std.nadd (len v4) (len l28)) 8) <|
    letO (v4 ++ l28) fun l30 =>
    some l30)
    (some v4)
  ) : Option ((List Int))).bind fun y21 =>
 letO y21 fun w27 =>
 some (.inl (std.add .i64 v3 1, w27)))
 (some (.inr v4))
/-- spec.l03Runs -/
noncomputable def F_spec_l03Runs (a0 : List Bool) (a1 : Int) : Option (List Int) :=
 letO ([] : List Int) fun l1 =>
 (whileP (σ := Int × (List Int)) (ρ := ((List Int))) (L_spec_l03Runs_x5 a0 a1) ((-40), l1)).bind fun y6 =>
 letO y6 fun y6k0 =>
 letO y6k0 fun w35 =>
 some w35
set_option maxHeartbeats 4000000 in
theorem run_spec_l03Runs (a0 : List Bool) (a1 : Int) (r : List Int) (h : F_spec_l03Runs a0 a1 = some r) : Fun Tryz.prog 65 [.c (.bs (len a0) 1 (row gd (encB) a0)), .c (.v (.int .i64 a1))] [] (.c (.os 64000 0 (len r))) [(64000, .arr .rw [] (len r) 1 (row gd (encI .i64) r))] true := by
 refine ow [100021] Tryz.func65 Tryz.ntmps65 ?_ (hv := (fun _ => ⟨trivial, ⟨fun i _ j _ => val_flat (rfl), trivial⟩⟩)); unfold F_spec_l03Runs at h; unfold L_spec_l03Runs_x5 at h; have hf_spec_l03Has := @run_spec_l03Has; generalize hLEN : @len = LEN, hGD : @gd = GD, hA : std = A, hP : Tryz.prog = P at *; cbv; revert h; refine rl fun l1 hl1 h => ?_; have e2 : 0 = LEN l1 := by subst hl1 hLEN; rfl
 refine ⟨_, (co e2), _, row GD (encI .i64) l1, e2, wkOf ?_, ?_⟩
 ·intro i hi j hj; rw [← e2] at hi; subst hl1; subst hGD; omega
 cbv; revert h; refine ln (.exit 0) (fun x => (sparse 27 [(0, .c (.bs (LEN a0) 1 (row GD (encB) a0))), (1, .c (.v (.int .i64 a1))), (5, .c (.os 448 0 (LEN x.2))), (6, .c (.v (.int .i64 x.1)))] [(448, .arr .rw [] (LEN x.2) 1 (row GD (encI .i64) x.2))])) (fun w => (sparse 27 [(5, .c (.os 448 0 (LEN w)))] [(448, .arr .rw [] (LEN w) 1 (row GD (encI .i64) w))])) zb ?_ ?_
 ·rintro ⟨v3, v4⟩ z h K hK hY; replace h := oz (oz h); dsimp only at h; cbv; revert h; refine fk ?_ ?_ <;> intro h <;> cbv
  ·revert h; refine rk0 (hf_spec_l03Has _ _ _) fun y17 h => ?_; cbv; revert h; refine rk0 (hf_spec_l03Has _ _ _) fun y19 h => ?_; cbv
   revert h; refine cu (fun y21 => some (sparse 27 [(0, .c (.bs (LEN a0) 1 (row GD (encB) a0))), (1, .c (.v (.int .i64 a1))), (5, .c (.os 448 0 (LEN y21))), (6, .c (.v (.int .i64 v3)))] [(448, .arr .rw [] (LEN y21) 1 (row GD (encI .i64) y21))])) ?_ fun w27 => rz fun h => ?_
   ·intro y21 S hS h; cbv; revert h; refine fk ?_ ?_ <;> intro h <;> cbv
    ·revert h; refine rl fun l28 hl28 h => ?_; have e29 : 1 = LEN l28 := by subst hl28 hLEN; rfl
     refine ⟨_, (co e29), _, row GD (encI .i64) l28, e29, wkOf ?_, ?_⟩
     ·intro i hi j hj; rw [← e29] at hi; subst hl28; subst hGD; obtain rfl : i = 0 := (by omega); all_goals obtain rfl : j = 0 := by omega
      all_goals rfl
     cbv; revert h; refine rq fun c32 => rl fun l30 hl30 h => ?_; have e31 := nl hA hLEN hl30; refine ⟨c32, _, (co e31), _, row GD (encI .i64) l30, e31, wkOf ?_, ?_⟩
     ·subst hGD hLEN hA; exact app_os (off := 0) (fun _ _ => rfl) hl30 (Nat.le_refl _)
     cbv; exact dn
    exact dn
   cbv; exact dm
  exact dx
 intro w35 h s q14; replace h := oz (oz h); cbv; refine ⟨_, q14, ?_⟩; cbv; injection h with h; subst h; exact ⟨_, le_ren 448 64000 (by decide) rfl, lR _, zo, rfl⟩

noncomputable def L_spec_l03Equal_x2 (a0 : List Int) (a1 : List Int) : (Int) → Option ((Int) ⊕ ((Unit) ⊕ (Unit))) := fun x2 =>
 letO x2 fun v1 =>
 br (std.lt v1 (std.ofN (len a0)))
 (req (std.inR v1 (len a0)) <|
 req (std.inR v1 (len a1)) <|
 br (std.not (std.eq (gd a0 (std.toN v1)) (gd a1 (std.toN v1))))
 (some (.inr (.inl ())))
 (some (.inl (std.add .i64 v1 1))))
 (some (.inr (.inr ())))
/-- spec.l03Equal -/
noncomputable def F_spec_l03Equal (a0 : List Int) (a1 : List Int) : Option (Bool) :=
 br (std.not (std.eq (std.ofN (len a0)) (std.ofN (len a1))))
 (some false)
 ((whileP (σ := Int) (ρ := (Unit) ⊕ (Unit)) (L_spec_l03Equal_x2 a0 a1) 0).bind fun y3 =>
 (match y3 with
  | .inl y3k0 => (
    some false)
  | .inr y3m0 =>
    some true))
set_option maxHeartbeats 4000000 in
theorem run_spec_l03Equal (a0 : List Int) (a1 : List Int) (r : Bool) (h : F_spec_l03Equal a0 a1 = some r) : Fun Tryz.prog 66 [.c (.bs (len a0) 1 (row gd (encI .i64) a0)), .c (.bs (len a1) 1 (row gd (encI .i64) a1))] [] (.c (.v (.bool r))) [] true := by
 refine ow [] Tryz.func66 Tryz.ntmps66 ?_; unfold F_spec_l03Equal at h; unfold L_spec_l03Equal_x2 at h; generalize hLEN : @len = LEN, hGD : @gd = GD, hA : std = A, hP : Tryz.prog = P at *; cbv; revert h; refine fk ?_ ?_ <;> intro h <;> cbv
 ·exact df
 revert h; refine lc (fun x => (sparse 26 [(0, .c (.bs (LEN a0) 1 (row GD (encI .i64) a0))), (1, .c (.bs (LEN a1) 1 (row GD (encI .i64) a1))), (5, .c (.v (.int .i64 x)))] [])) (fun y e s => (match y with | .inl w => e = .ret ∧ s.le (sparse 26 [(4, .c (.v (.bool false)))] []) | .inr w0 => (fun (w : Unit) => e = .exit 0 ∧ s.le (sparse 26 [] [])) w0)) zb ?_ ?_
 ·intro v1 z h K hK hY; replace h := oz h; cbv; revert h; refine fk ?_ ?_ <;> intro h <;> cbv
  ·revert h; refine ra fun c14 h => ?_; revert h; refine ra fun c15 h => ?_; revert h; refine fk ?_ ?_ <;> intro h <;> cbv
   ·exact dy
   exact dm
  exact dy
 intro y3 h e12 s13 q11 hne; rcases y3 with y3k0 | y3m0
 ·replace h := h; obtain ⟨rfl, q11⟩ := q11; cbv; injection h with h; subst h; exact ⟨_, q11, lR _, zo, rfl⟩
 ·obtain ⟨rfl, q11⟩ := q11; cbv; refine ⟨_, q11, ?_⟩; cbv; exact df

noncomputable def L_spec_l03Canon_x48 (v3 : Int) (y17 : (List Int)) (w45 : Int) : (Int × (List TRect)) → Option ((Int × (List TRect)) ⊕ (((List TRect)))) := fun x48 =>
 letO x48.1 fun v46 =>
 letO x48.2 fun v47 =>
 br (std.lt (std.add .i64 v46 1) (std.ofN (len y17)))
 (req (std.inR v46 (len y17)) <|
 req (std.inR (std.add .i64 v46 1) (len y17)) <|
 letO ([(TRect.mk (gd y17 (std.nadd 0 (std.toN v46))) v3 (gd y17 (std.nadd 0 (std.toN (std.add .i64 v46 1)))) w45)] : List TRect) fun l62 =>
 req (std.room (std.nadd (len v47) (len l62)) 32) <|
 letO (v47 ++ l62) fun l64 =>
 some (.inl (std.add .i64 v46 2, l64)))
 (some (.inr v47))
noncomputable def L_spec_l03Canon_x20 (a0 : List Bool) (y17 : (List Int)) : (Int) → Option ((Int) ⊕ ((Int))) := fun x20 =>
 letO x20 fun v19 =>
 ((
    br (std.lt v19 40)
    ((F_spec_l03Runs a0 v19).bind fun y39 =>
    (F_spec_l03Equal y39 y17).bind fun y41 =>
    some y41)
    (some false)
  ) : Option (Bool)).bind fun y32 =>
 letO y32 fun w38 =>
 br w38
 (some (.inl (std.add .i64 v19 1)))
 (some (.inr v19))
noncomputable def L_spec_l03Canon_x5 (a0 : List Bool) : (Int × (List TRect)) → Option ((Int × (List TRect)) ⊕ (((List TRect)))) := fun x5 =>
 letO x5.1 fun v3 =>
 letO x5.2 fun v4 =>
 br (std.lt v3 40)
 ((F_spec_l03Runs a0 v3).bind fun y17 =>
 (whileP (σ := Int) (ρ := (Int)) (L_spec_l03Canon_x20 a0 y17) (std.add .i64 v3 1)).bind fun y21 =>
 letO y21 fun y21k0 =>
 letO y21k0 fun w45 =>
 (whileP (σ := Int × (List TRect)) (ρ := ((List TRect))) (L_spec_l03Canon_x48 v3 y17 w45) (0, v4)).bind fun y49 =>
 letO y49 fun y49k0 =>
 letO y49k0 fun w68 =>
 some (.inl (w45, w68)))
 (some (.inr v4))
/-- spec.l03Canon -/
noncomputable def F_spec_l03Canon (a0 : List Bool) : Option (List TRect) :=
 letO ([] : List TRect) fun l1 =>
 (whileP (σ := Int × (List TRect)) (ρ := ((List TRect))) (L_spec_l03Canon_x5 a0) ((-40), l1)).bind fun y6 =>
 letO y6 fun y6k0 =>
 letO y6k0 fun w70 =>
 some w70
set_option maxHeartbeats 4000000 in
theorem run_spec_l03Canon (a0 : List Bool) (r : List TRect) (h : F_spec_l03Canon a0 = some r) : Fun Tryz.prog 38 [.c (.bs (len a0) 1 (row gd (encB) a0))] [] (.c (.os 64000 0 (len r))) [(64000, .arr .rw [] (len r) 4 (row gd (encRect) r))] true := by
 refine ow [6] Tryz.func38 Tryz.ntmps38 ?_ (hv := (fun _ => ⟨trivial, ⟨fun i _ j _ => val_flat (vl_encRect _ _), trivial⟩⟩)); unfold F_spec_l03Canon at h; unfold L_spec_l03Canon_x5 at h; unfold L_spec_l03Canon_x20 at h; unfold L_spec_l03Canon_x48 at h; have hf_spec_l03Equal := @run_spec_l03Equal; have hf_spec_l03Runs := @run_spec_l03Runs
 generalize hLEN : @len = LEN, hGD : @gd = GD, hA : std = A, hP : Tryz.prog = P at *; cbv; revert h; refine rl fun l1 hl1 h => ?_; have e2 : 0 = LEN l1 := by subst hl1 hLEN; rfl
 refine ⟨_, (co e2), _, row GD (encRect) l1, e2, wkOf ?_, ?_⟩
 ·intro i hi j hj; rw [← e2] at hi; subst hl1; subst hGD; omega
 cbv; revert h; refine ln (.exit 0) (fun x => (sparse 51 [(0, .c (.bs (LEN a0) 1 (row GD (encB) a0))), (3, .c (.os 512 0 (LEN x.2))), (4, .c (.v (.int .i64 x.1)))] [(512, .arr .rw [] (LEN x.2) 4 (row GD (encRect) x.2))])) (fun w => (sparse 51 [(3, .c (.os 512 0 (LEN w)))] [(512, .arr .rw [] (LEN w) 4 (row GD (encRect) w))])) zb ?_ ?_
 ·rintro ⟨v3, v4⟩ z h K hK hY; replace h := oz (oz h); dsimp only at h; cbv; revert h; refine fk ?_ ?_ <;> intro h <;> cbv
  ·revert h; refine rk [] [(64000, 832)] (hf_spec_l03Runs _ _) (fun _ => zf) fun y17 h => ⟨_, rfl, _, _, rfl, fun _ _ _ _ => .refl _, ?_⟩
   cbv
   revert h; refine ln (.exit 2) (fun x => (sparse 51 [(0, .c (.bs (LEN a0) 1 (row GD (encB) a0))), (3, .c (.os 512 0 (LEN v4))), (4, .c (.v (.int .i64 v3))), (5, .c (.os 832 0 (LEN y17))), (6, .c (.v (.int .i64 x)))] [(512, .arr .rw [] (LEN v4) 4 (row GD (encRect) v4)), (832, .arr .rw [] (LEN y17) 1 (row GD (encI .i64) y17))])) (fun w => (sparse 51 [(0, .c (.bs (LEN a0) 1 (row GD (encB) a0))), (3, .c (.os 512 0 (LEN v4))), (4, .c (.v (.int .i64 v3))), (5, .c (.os 832 0 (LEN y17))), (6, .c (.v (.int .i64 w)))] [(512, .arr .rw [] (LEN v4) 4 (row GD (encRect) v4)), (832, .arr .rw [] (LEN y17) 1 (row GD (encI .i64) y17))])) zb ?_ ?_
   ·intro v19 z h K hK hY; replace h := oz h; cbv
    revert h; refine cu (fun y32 => (sparse 51 [(0, .c (.bs (LEN a0) 1 (row GD (encB) a0))), (3, .c (.os 512 0 (LEN v4))), (4, .c (.v (.int .i64 v3))), (5, .c (.os 832 0 (LEN y17))), (6, .c (.v (.int .i64 v19))), (24, .c (.v (.bool y32)))] [(512, .arr .rw [] (LEN v4) 4 (row GD (encRect) v4)), (832, .arr .rw [] (LEN y17) 1 (row GD (encI .i64) y17))])) ?_ fun w38 => rz fun h => ?_
    ·intro y32 S hS h; cbv; revert h; refine fk ?_ ?_ <;> intro h <;> cbv
     ·revert h; refine rk [] [(64000, 1344)] (hf_spec_l03Runs _ _) (fun _ => zf) fun y39 h => ⟨_, rfl, _, _, rfl, fun _ _ _ _ => .refl _, ?_⟩
      cbv; revert h; refine rk [] [] (hf_spec_l03Equal _ _) (fun _ => zg (les_cons (give_os (fun _ _ => rfl) rfl rfl rfl) (les_cons (give_os (fun _ _ => rfl) rfl rfl rfl) (les_nil)))) fun y41 h => ?_; cbv; exact dn
     exact dn
    cbv; revert h; refine fk ?_ ?_ <;> intro h <;> cbv
    ·exact dm
    exact dx
   intro w45 h s q29; replace h := oz (oz h); cbv; refine ⟨_, q29, ?_⟩; cbv
   revert h; refine ln (.exit 4) (fun x => (sparse 51 [(0, .c (.bs (LEN a0) 1 (row GD (encB) a0))), (3, .c (.os 512 0 (LEN x.2))), (4, .c (.v (.int .i64 v3))), (5, .c (.os 832 0 (LEN y17))), (6, .c (.v (.int .i64 w45))), (7, .c (.v (.int .i64 x.1)))] [(512, .arr .rw [] (LEN x.2) 4 (row GD (encRect) x.2)), (832, .arr .rw [] (LEN y17) 1 (row GD (encI .i64) y17))])) (fun w => (sparse 51 [(0, .c (.bs (LEN a0) 1 (row GD (encB) a0))), (3, .c (.os 512 0 (LEN w))), (6, .c (.v (.int .i64 w45)))] [(512, .arr .rw [] (LEN w) 4 (row GD (encRect) w))])) zb ?_ ?_
   ·rintro ⟨v46, v47⟩ z h K hK hY; replace h := oz (oz h); dsimp only at h; cbv; revert h; refine fk ?_ ?_ <;> intro h <;> cbv
    ·revert h; refine ra fun c60 h => ?_; refine ai c60 ?_; revert h; refine ra fun c61 h => ?_; refine ai c61 ?_; revert h; refine rl fun l62 hl62 h => ?_; have e63 : 1 = LEN l62 := by subst hl62 hLEN; rfl
     refine ⟨_, (co e63), _, row GD (encRect) l62, e63, wkOf ?_, ?_⟩
     ·intro i hi j hj; rw [← e63] at hi; subst hl62; subst hGD; obtain rfl : i = 0 := (by omega) <;> obtain rfl | rfl | rfl | rfl : j = 0 ∨ j = 1 ∨ j = 2 ∨ j = 3 := (by omega)
      all_goals rfl
     cbv; revert h; refine rq fun c66 => rl fun l64 hl64 h => ?_; have e65 := nl hA hLEN hl64; refine ⟨c66, _, (co e65), _, row GD (encRect) l64, e65, wkOf ?_, ?_⟩
     ·subst hGD hLEN hA; exact app_os (off := 0) (pl_encRect) hl64 (Nat.le_refl _)
     cbv; exact dm
    exact dx
   intro w68 h s q57; replace h := oz (oz h); cbv; refine ⟨_, q57, ?_⟩; cbv; exact dm
  exact dx
 intro w70 h s q14; replace h := oz (oz h); cbv; refine ⟨_, q14, ?_⟩; cbv; injection h with h; subst h; exact ⟨_, le_ren 512 64000 (by decide) rfl, lR _, zo, rfl⟩

noncomputable def L_spec_l10Layout_x58 (a0 : List TShape) (y16 : (List Bool)) (v18 : Int) (v33 : Int) : (Int × (List Bool)) → Option ((Int × (List Bool)) ⊕ (((List Bool)))) := fun x58 =>
 letO x58.1 fun v56 =>
 letO x58.2 fun v57 =>
 br (std.lt v56 (gd a0 (std.toN v18)).fBox.fX1)
 (req (std.inR (std.add .i64 (std.add .i64 (std.mul .i64 (std.add .i64 v33 40) 80) v56) 40) (len y16)) <|
 req (len y16 = len v57) <|
 letO (List.set v57 (std.nadd 0 (std.toN (std.add .i64 (std.add .i64 (std.mul .i64 (std.add .i64 v33 40) 80) v56) 40))) true) fun l71 =>
 some (.inl (std.add .i64 v56 1, l71)))
 (some (.inr v57))
noncomputable def L_spec_l10Layout_x35 (a0 : List TShape) (v2 : Int) (y16 : (List Bool)) (v18 : Int) : (Int × (List Bool)) → Option ((Int × (List Bool)) ⊕ (((List Bool)))) := fun x35 =>
 letO x35.1 fun v33 =>
 letO x35.2 fun v34 =>
 ((
    req (std.inR v18 (len a0)) <|
    br (std.eq (gd a0 (std.toN v18)).fLayer v2)
    (some (std.lt v33 (gd a0 (std.toN v18)).fBox.fY1))
    (some false)
  ) : Option (Bool)).bind fun y47 =>
 letO y47 fun w53 =>
 br w53
 ((whileP (σ := Int × (List Bool)) (ρ := ((List Bool))) (L_spec_l10Layout_x58 a0 y16 v18 v33) ((gd a0 (std.toN v18)).fBox.fX0, v34)).bind fun y59 =>
 letO y59 fun y59k0 =>
 letO y59k0 fun w74 =>
 some (.inl (std.add .i64 v33 1, w74)))
 (some (.inr v34))
noncomputable def L_spec_l10Layout_x20 (a0 : List TShape) (v2 : Int) (y16 : (List Bool)) : (Int × (List Bool)) → Option ((Int × (List Bool)) ⊕ (((List Bool)))) := fun x20 =>
 letO x20.1 fun v18 =>
 letO x20.2 fun v19 =>
 br (std.lt v18 (std.ofN (len a0)))
 (req (std.inR v18 (len a0)) <|
 (whileP (σ := Int × (List Bool)) (ρ := ((List Bool))) (L_spec_l10Layout_x35 a0 v2 y16 v18) ((gd a0 (std.toN v18)).fBox.fY0, v19)).bind fun y36 =>
 letO y36 fun y36k0 =>
 letO y36k0 fun w76 =>
 some (.inl (std.add .i64 v18 1, w76)))
 (some (.inr v19))
noncomputable def L_spec_l10Layout_x4 (a0 : List TShape) : (Int × (List (List TRect))) → Option ((Int × (List (List TRect))) ⊕ (((List (List TRect))))) := fun x4 =>
 letO x4.1 fun v2 =>
 letO x4.2 fun v3 =>
 br (std.lt v2 8)
 ((F_spec_l03Bits ([] : List TRect)).bind fun y16 =>
 (whileP (σ := Int × (List Bool)) (ρ := ((List Bool))) (L_spec_l10Layout_x20 a0 v2 y16) (0, y16)).bind fun y21 =>
 letO y21 fun y21k0 =>
 letO y21k0 fun w78 =>
 ((
    (F_spec_l03Canon w78).bind fun y86 =>
    req (len y16 = len w78) <|
    letO ([y86] : List (List TRect)) fun l88 =>
    req (std.room (std.nadd (len v3) (len l88)) 24) <|
    letO (v3 ++ l88) fun l90 =>
    some l90
  ) : Option ((List (List TRect)))).bind fun y79 =>
 letO y79 fun w85 =>
 some (.inl (std.add .i64 v2 1, w85)))
 (some (.inr v3))
/-- spec.l10Layout -/
noncomputable def F_spec_l10Layout (a0 : List TShape) : Option (List (List TRect)) :=
 (whileP (σ := Int × (List (List TRect))) (ρ := ((List (List TRect)))) (L_spec_l10Layout_x4 a0) (0, ([] : List (List TRect)))).bind fun y5 =>
 letO y5 fun y5k0 =>
 letO y5k0 fun w95 =>
 some w95
set_option maxHeartbeats 4000000 in
theorem run_spec_l10Layout (a0 : List TShape) (r : List (List TRect)) (h : F_spec_l10Layout a0 = some r) : Fun Tryz.prog 17 [.c (.bs (len a0) 5 (row gd (encShape) a0))] [] (.c (.os 64000 0 (len r))) [(64000, .arr .rw [] (len r) 1 (row gd (oncL len gd 4 (encRect)) r))] true := by
 refine ow [11, 17] Tryz.func17 Tryz.ntmps17 ?_ (hv := (fun _ => ⟨trivial, ⟨fun i _ j _ => fl_oncL (vl_encRect) _ _, trivial⟩⟩)); unfold F_spec_l10Layout at h; unfold L_spec_l10Layout_x4 at h; unfold L_spec_l10Layout_x20 at h; unfold L_spec_l10Layout_x35 at h; unfold L_spec_l10Layout_x58 at h; have hf_spec_l03Bits := @run_spec_l03Bits; have hf_spec_l03Canon := @run_spec_l03Canon
 generalize hLEN : @len = LEN, hGD : @gd = GD, hA : std = A, hP : Tryz.prog = P at *; cbv; have e1 : 0 = LEN ([] : List (List TRect)) := by subst hLEN; rfl
 refine ⟨_, (co e1), _, row GD (oncL LEN GD 4 (encRect)) ([] : List (List TRect)), e1, wkOf ?_, ?_⟩
 ·intro i hi j hj; rw [← e1] at hi; subst hGD; omega
 cbv; revert h; refine ln (.exit 0) (fun x => (sparse 66 [(0, .c (.bs (LEN a0) 5 (row GD (encShape) a0))), (3, .c (.os 640 0 (LEN x.2))), (4, .c (.v (.int .i64 x.1)))] [(640, .arr .rw [] (LEN x.2) 1 (row GD (oncL LEN GD 4 (encRect)) x.2))])) (fun w => (sparse 66 [(3, .c (.os 640 0 (LEN w)))] [(640, .arr .rw [] (LEN w) 1 (row GD (oncL LEN GD 4 (encRect)) w))])) zb ?_ ?_
 ·rintro ⟨v2, v3⟩ z h K hK hY; replace h := oz (oz h); dsimp only at h; cbv; revert h; refine fk ?_ ?_ <;> intro h <;> cbv
  ·revert h; refine rk [] [(64000, 960)] (hf_spec_l03Bits _) (fun _ => zg (les_cons ((by subst hLEN; exact le_nil_bs)) (les_nil))) fun y16 h => ⟨_, rfl, _, _, rfl, fun _ _ _ _ => .refl _, ?_⟩
   cbv
   revert h; refine ln (.exit 2) (fun x => (sparse 66 [(0, .c (.bs (LEN a0) 5 (row GD (encShape) a0))), (3, .c (.os 640 0 (LEN v3))), (4, .c (.v (.int .i64 v2))), (5, .c (.os 960 0 (LEN y16))), (6, .c (.v (.int .i64 x.1)))] [(640, .arr .rw [] (LEN v3) 1 (row GD (oncL LEN GD 4 (encRect)) v3)), (960, .arr .rw [] (LEN y16) 1 (row GD (encB) x.2))])) (fun w => (sparse 66 [(0, .c (.bs (LEN a0) 5 (row GD (encShape) a0))), (3, .c (.os 640 0 (LEN v3))), (4, .c (.v (.int .i64 v2))), (5, .c (.os 960 0 (LEN y16)))] [(640, .arr .rw [] (LEN v3) 1 (row GD (oncL LEN GD 4 (encRect)) v3)), (960, .arr .rw [] (LEN y16) 1 (row GD (encB) w))])) zb ?_ ?_
   ·rintro ⟨v18, v19⟩ z h K hK hY; replace h := oz (oz h); dsimp only at h; cbv; revert h; refine fk ?_ ?_ <;> intro h <;> cbv
    ·revert h; refine ra fun c32 h => ?_
     revert h; refine ln (.exit 4) (fun x => (sparse 66 [(0, .c (.bs (LEN a0) 5 (row GD (encShape) a0))), (3, .c (.os 640 0 (LEN v3))), (4, .c (.v (.int .i64 v2))), (5, .c (.os 960 0 (LEN y16))), (6, .c (.v (.int .i64 v18))), (7, .c (.ptr 448 0)), (8, .c (.v (.int .i64 x.1)))] [(640, .arr .rw [] (LEN v3) 1 (row GD (oncL LEN GD 4 (encRect)) v3)), (960, .arr .rw [] (LEN y16) 1 (row GD (encB) x.2)), (448, .var [.v (.int .i64 (GD a0 (A.toN v18)).fBox.fX0), .v (.int .i64 (GD a0 (A.toN v18)).fBox.fY0), .v (.int .i64 (GD a0 (A.toN v18)).fBox.fX1), .v (.int .i64 (GD a0 (A.toN v18)).fBox.fY1)])])) (fun w => (sparse 66 [(0, .c (.bs (LEN a0) 5 (row GD (encShape) a0))), (3, .c (.os 640 0 (LEN v3))), (4, .c (.v (.int .i64 v2))), (5, .c (.os 960 0 (LEN y16))), (6, .c (.v (.int .i64 v18)))] [(640, .arr .rw [] (LEN v3) 1 (row GD (oncL LEN GD 4 (encRect)) v3)), (960, .arr .rw [] (LEN y16) 1 (row GD (encB) w))])) zb ?_ ?_
     ·rintro ⟨v33, v34⟩ z h K hK hY; replace h := oz (oz h); dsimp only at h; cbv
      revert h; refine cu (fun y47 => (sparse 66 [(0, .c (.bs (LEN a0) 5 (row GD (encShape) a0))), (3, .c (.os 640 0 (LEN v3))), (4, .c (.v (.int .i64 v2))), (5, .c (.os 960 0 (LEN y16))), (6, .c (.v (.int .i64 v18))), (7, .c (.ptr 448 0)), (8, .c (.v (.int .i64 v33))), (41, .c (.v (.bool y47)))] [(640, .arr .rw [] (LEN v3) 1 (row GD (oncL LEN GD 4 (encRect)) v3)), (960, .arr .rw [] (LEN y16) 1 (row GD (encB) v34)), (448, .var [.v (.int .i64 (GD a0 (A.toN v18)).fBox.fX0), .v (.int .i64 (GD a0 (A.toN v18)).fBox.fY0), .v (.int .i64 (GD a0 (A.toN v18)).fBox.fX1), .v (.int .i64 (GD a0 (A.toN v18)).fBox.fY1)])])) (fun y47 S hS h => rg) fun w53 => rz fun h => ?_
      cbv; revert h; refine fk ?_ ?_ <;> intro h <;> cbv
      ·revert h; refine ln (.exit 6) (fun x => (sparse 66 [(0, .c (.bs (LEN a0) 5 (row GD (encShape) a0))), (3, .c (.os 640 0 (LEN v3))), (4, .c (.v (.int .i64 v2))), (5, .c (.os 960 0 (LEN y16))), (6, .c (.v (.int .i64 v18))), (7, .c (.ptr 448 0)), (8, .c (.v (.int .i64 v33))), (9, .c (.v (.int .i64 x.1)))] [(640, .arr .rw [] (LEN v3) 1 (row GD (oncL LEN GD 4 (encRect)) v3)), (960, .arr .rw [] (LEN y16) 1 (row GD (encB) x.2)), (448, .var [.v (.int .i64 (GD a0 (A.toN v18)).fBox.fX0), .v (.int .i64 (GD a0 (A.toN v18)).fBox.fY0), .v (.int .i64 (GD a0 (A.toN v18)).fBox.fX1), .v (.int .i64 (GD a0 (A.toN v18)).fBox.fY1)])])) (fun w => (sparse 66 [(0, .c (.bs (LEN a0) 5 (row GD (encShape) a0))), (3, .c (.os 640 0 (LEN v3))), (4, .c (.v (.int .i64 v2))), (5, .c (.os 960 0 (LEN y16))), (6, .c (.v (.int .i64 v18))), (7, .c (.ptr 448 0)), (8, .c (.v (.int .i64 v33)))] [(640, .arr .rw [] (LEN v3) 1 (row GD (oncL LEN GD 4 (encRect)) v3)), (960, .arr .rw [] (LEN y16) 1 (row GD (encB) w)), (448, .var [.v (.int .i64 (GD a0 (A.toN v18)).fBox.fX0), .v (.int .i64 (GD a0 (A.toN v18)).fBox.fY0), .v (.int .i64 (GD a0 (A.toN v18)).fBox.fX1), .v (.int .i64 (GD a0 (A.toN v18)).fBox.fY1)])])) zb ?_ ?_
       ·rintro ⟨v56, v57⟩ z h K hK hY; replace h := oz (oz h); dsimp only at h; cbv; revert h; refine fk ?_ ?_ <;> intro h <;> cbv
        ·revert h; refine ra fun c70 h => ?_; revert h; refine rq fun c72 => rl fun l71 hl71 h => ?_; refine ai c70 ?_; refine ⟨_, rfl, _, row GD (encB) l71, rfl, wkOf (us hA hLEN hGD hl71 c70 c72), ?_⟩; cbv; exact dm
        exact dx
       intro w74 h s q67; replace h := oz (oz h); cbv; refine ⟨_, q67, ?_⟩; cbv; exact dm
      exact dx
     intro w76 h s q44; replace h := oz (oz h); cbv; refine ⟨_, q44, ?_⟩; cbv; exact dm
    exact dx
   intro w78 h s q29; replace h := oz (oz h); cbv; refine ⟨_, q29, ?_⟩; cbv; revert h; refine cu (fun y79 => (sparse 66 [(0, .c (.bs (LEN a0) 5 (row GD (encShape) a0))), (3, .c (.os 640 0 (LEN y79))), (4, .c (.v (.int .i64 v2)))] [(640, .arr .rw [] (LEN y79) 1 (row GD (oncL LEN GD 4 (encRect)) y79))])) ?_ fun w85 => rz fun h => ?_
   ·intro y79 S hS h; cbv; revert h; refine rb fun y86 hy87 => rq fun c93 h => ?_; refine rc [] [(64000, 3968)] (hf_spec_l03Canon _ _ hy87) (zg (les_cons (give_os (fun _ _ => rfl) rfl rfl c93) (les_nil))) ⟨_, rfl, _, _, rfl, fun _ _ _ _ => .refl _, ?_⟩; cbv; revert h; refine rl fun l88 hl88 h => ?_; have e89 : 1 = LEN l88 := by subst hl88 hLEN; rfl
    refine ⟨_, (co e89), _, (patchC (fun _ _ => AC.junk) 0 [.os 3968 0 (LEN y86)]), e89, wkOf ?_, ?_⟩
    ·refine patch_one (by subst hl88 hLEN; rfl) ?_; exact zr
    cbv; revert h; refine rq fun c92 => rl fun l90 hl90 h => ?_; have e91 := nl hA hLEN hl90; refine ⟨c92, _, (co e91), _, (patchC (row GD (oncL LEN GD 4 (encRect)) v3) (LEN v3) [.os 3968 0 (LEN y86)]), e91, wkOf ?_, ?_⟩
    ·subst hLEN hA; refine patch_joinG (by first | (rw [hl90]; simp [len]; done) | (rw [hl90]; simp [len]; omega) | (subst_vars; simp [len])) ?_; exact zr
    cbv; rw [hl88] at hl90; injection h with h; subst h; subst hS; show St.le _ _; refine St.le_trans (le_foldP 640 0 3968 rfl rfl rfl (by decide) (by subst hLEN; exact app_lt hl90) (by decide) rfl (fun _ _ => rfl)) ?_; exact le_sparse rfl zl ⟨oP (fun _ _ => rfl) (by subst hGD hLEN hA; exact patch_app hl90 (Nat.le_refl _) zr), trivial⟩ rfl
   cbv; exact dm
  exact dx
 intro w95 h s q13; replace h := oz (oz h); cbv; refine ⟨_, q13, ?_⟩; cbv; injection h with h; subst h; exact ⟨_, le_ren 640 64000 (by decide) rfl, lR _, zo, rfl⟩
noncomputable def L_spec_WindowLayers_x21 (a2 : TRect) (v3 : Int) (y17 : (List TWindowHit) × Int) : (Int × (List TShape)) → Option ((Int × (List TShape)) ⊕ (((List TShape)))) := fun x21 =>
 letO x21.1 fun v19 =>
 letO x21.2 fun v20 =>
 br (std.lt v19 (std.ofN (len y17.1)))
 (req (std.inR v19 (len y17.1)) <|
 (F_spec_l12Clip (gd y17.1 (std.nadd 0 (std.toN v19))).fBox (TRect.mk a2.fX0 a2.fY0 a2.fX1 a2.fY1)).bind fun y34 =>
 letO ([(TShape.mk v3 y34)] : List TShape) fun l36 =>
 req (std.room (std.nadd (len v20) (len l36)) 40) <|
 letO (v20 ++ l36) fun l38 =>
 some (.inl (std.add .i64 v19 1, l38)))
 (some (.inr v20))
noncomputable def L_spec_WindowLayers_x5 (a0 : TLibrary) (a1 : Int) (a2 : TRect) : (Int × (List TShape)) → Option ((Int × (List TShape)) ⊕ ((Int) ⊕ ((List TShape)))) := fun x5 =>
 letO x5.1 fun v3 =>
 letO x5.2 fun v4 =>
 br (std.lt v3 8)
 ((F_spec_WindowShapes (TLibrary.mk a0.fCells) a1 v3 (TRect.mk a2.fX0 a2.fY0 a2.fX1 a2.fY1)).bind fun y17 =>
 br (std.not (std.eq y17.2 0))
 (some (.inr (.inl y17.2)))
 ((whileP (σ := Int × (List TShape)) (ρ := ((List TShape))) (L_spec_WindowLayers_x21 a2 v3 y17) (0, v4)).bind fun y22 =>
 letO y22 fun y22k0 =>
 letO y22k0 fun w42 =>
 some (.inl (std.add .i64 v3 1, w42))))
 (some (.inr (.inr v4)))
/-- spec.WindowLayers -/
noncomputable def F_spec_WindowLayers (a0 : TLibrary) (a1 : Int) (a2 : TRect) : Option ((List (List TRect)) × Int) :=
 letO ([] : List TShape) fun l1 =>
 (whileP (σ := Int × (List TShape)) (ρ := (Int) ⊕ ((List TShape))) (L_spec_WindowLayers_x5 a0 a1 a2) (0, l1)).bind fun y6 =>
 (match y6 with
  | .inl y6k0 => (
    letO y6k0 fun w45 =>
    some (([] : List (List TRect)), w45))
  | .inr y6m0 =>
    letO y6m0 fun y6k1 =>
    letO y6k1 fun w46 =>
    (F_spec_l10Layout w46).bind fun y47 =>
    some (y47, (0 : Int)))
set_option maxHeartbeats 4000000 in
theorem run_spec_WindowLayers (a0 : TLibrary) (a1 : Int) (a2 : TRect) (r : (List (List TRect)) × Int) (h : F_spec_WindowLayers a0 a1 a2 = some r) : Fun Tryz.prog 5 [.agg [.bs (len a0.fCells) 4 (row gd (encCell len gd) a0.fCells)], .c (.v (.int .i64 a1)), .agg [.v (.int .i64 a2.fX0), .v (.int .i64 a2.fY0), .v (.int .i64 a2.fX1), .v (.int .i64 a2.fY1)]] [] (.tup [.c (.os 64000 0 (len r.1)), .c (.v (.int .i64 r.2))]) [(64000, .arr .rw [] (len r.1) 1 (row gd (oncL len gd 4 (encRect)) r.1))] true := by
 refine ow [] Tryz.func5 Tryz.ntmps5 ?_ (hv := (fun _ => ⟨(by simp [AV.flat, AV.flat1, AC.flat]), ⟨fun i _ j _ => fl_oncL (vl_encRect) _ _, trivial⟩⟩)); unfold F_spec_WindowLayers at h; unfold L_spec_WindowLayers_x5 at h; unfold L_spec_WindowLayers_x21 at h; have hf_spec_WindowShapes := @run_spec_WindowShapes; have hf_spec_l10Layout := @run_spec_l10Layout; have hf_spec_l12Clip := @run_spec_l12Clip
 generalize hLEN : @len = LEN, hGD : @gd = GD, hA : std = A, hP : Tryz.prog = P at *; cbv; revert h; refine rl fun l1 hl1 h => ?_; have e2 : 0 = LEN l1 := by subst hl1 hLEN; rfl
 refine ⟨_, (co e2), _, row GD (encShape) l1, e2, wkOf ?_, ?_⟩
 ·intro i hi j hj; rw [← e2] at hi; subst hl1; subst hGD; omega
 cbv
 revert h; refine lc (fun x => (sparse 49 [(1, .c (.v (.int .i64 a1))), (3, .c (.ptr 192 0)), (5, .c (.ptr 320 0)), (8, .c (.os 832 0 (LEN x.2))), (9, .c (.v (.int .i64 x.1)))] [(192, .var [.bs (LEN a0.fCells) 4 (row GD (encCell LEN GD) a0.fCells)]), (320, .var [.v (.int .i64 a2.fX0), .v (.int .i64 a2.fY0), .v (.int .i64 a2.fX1), .v (.int .i64 a2.fY1)]), (832, .arr .rw [] (LEN x.2) 5 (row GD (encShape) x.2))])) (fun y e s => (match y with | .inl w => e = .ret ∧ s.le (sparse 49 [(6, .c (.v (.slice none 0 0))), (7, .c (.v (.int .i64 w)))] []) | .inr w0 => (fun (w : (List TShape)) => e = .exit 0 ∧ s.le (sparse 49 [(8, .c (.os 832 0 (LEN w)))] [(832, .arr .rw [] (LEN w) 5 (row GD (encShape) w))])) w0)) zb ?_ ?_
 ·rintro ⟨v3, v4⟩ z h K hK hY; replace h := oz (oz h); dsimp only at h; cbv; revert h; refine fk ?_ ?_ <;> intro h <;> cbv
  ·revert h; refine rk [] [(64000, 1472)] (hf_spec_WindowShapes _ _ _ _) (fun _ => zf) fun y17 h => ⟨_, rfl, _, _, rfl, fun _ _ _ _ => .refl _, ?_⟩
   cbv; revert h; refine fk ?_ ?_ <;> intro h <;> cbv
   ·exact dy
   revert h; refine ln (.exit 2) (fun x => (sparse 49 [(1, .c (.v (.int .i64 a1))), (3, .c (.ptr 192 0)), (5, .c (.ptr 320 0)), (8, .c (.os 832 0 (LEN x.2))), (9, .c (.v (.int .i64 v3))), (10, .c (.os 1472 0 (LEN y17.1))), (12, .c (.v (.int .i64 x.1)))] [(192, .var [.bs (LEN a0.fCells) 4 (row GD (encCell LEN GD) a0.fCells)]), (320, .var [.v (.int .i64 a2.fX0), .v (.int .i64 a2.fY0), .v (.int .i64 a2.fX1), .v (.int .i64 a2.fY1)]), (832, .arr .rw [] (LEN x.2) 5 (row GD (encShape) x.2)), (1472, .arr .rw [] (LEN y17.1) 8 (row GD (oncWindowHit LEN GD) y17.1))])) (fun w => (sparse 49 [(1, .c (.v (.int .i64 a1))), (3, .c (.ptr 192 0)), (5, .c (.ptr 320 0)), (8, .c (.os 832 0 (LEN w))), (9, .c (.v (.int .i64 v3)))] [(192, .var [.bs (LEN a0.fCells) 4 (row GD (encCell LEN GD) a0.fCells)]), (320, .var [.v (.int .i64 a2.fX0), .v (.int .i64 a2.fY0), .v (.int .i64 a2.fX1), .v (.int .i64 a2.fY1)]), (832, .arr .rw [] (LEN w) 5 (row GD (encShape) w))])) zb ?_ ?_
   ·rintro ⟨v19, v20⟩ z h K hK hY; replace h := oz (oz h); dsimp only at h; cbv; revert h; refine fk ?_ ?_ <;> intro h <;> cbv
    ·revert h; refine ra fun c33 h => ?_; refine ai c33 ?_; revert h; refine rk0 (hf_spec_l12Clip _ _) fun y34 h => ?_; cbv; revert h; refine rl fun l36 hl36 h => ?_; have e37 : 1 = LEN l36 := by subst hl36 hLEN; rfl
     refine ⟨_, (co e37), _, row GD (encShape) l36, e37, wkOf ?_, ?_⟩
     ·intro i hi j hj; rw [← e37] at hi; subst hl36; subst hGD; obtain rfl : i = 0 := (by omega) <;> obtain rfl | rfl | rfl | rfl | rfl : j = 0 ∨ j = 1 ∨ j = 2 ∨ j = 3 ∨ j = 4 := (by omega)
      all_goals rfl
     cbv; revert h; refine rq fun c40 => rl fun l38 hl38 h => ?_; have e39 := nl hA hLEN hl38; refine ⟨c40, _, (co e39), _, row GD (encShape) l38, e39, wkOf ?_, ?_⟩
     ·subst hGD hLEN hA; exact app_os (off := 0) (pl_encShape) hl38 (Nat.le_refl _)
     cbv; exact dm
    exact dx
   intro w42 h s q30; replace h := oz (oz h); cbv; refine ⟨_, q30, ?_⟩; cbv; exact dm
  exact dy
 intro y6 h e15 s16 q14 hne; rcases y6 with y6k0 | y6m0
 ·replace h := h; obtain ⟨rfl, q14⟩ := q14; revert h; refine rz fun h => ?_; cbv; injection h with h; subst h; refine ⟨(sparse 49 [(6, .c (.os 64000 0 (LEN ([] : List (List TRect))))), (7, .c (.v (.int .i64 y6k0)))] [(64000, .arr .rw [] (LEN ([] : List (List TRect))) 1 (row GD (oncL LEN GD 4 (encRect)) ([] : List (List TRect))))]), ?_, ?_⟩
  ·refine St.le_trans q14 ?_; refine St.le_trans (le_nilT 6 64000 1 (row GD (oncL LEN GD 4 (encRect)) ([] : List (List TRect))) (by decide) rfl) ?_; subst hLEN; exact zb
  ·subst hLEN; exact ⟨lR _, zo, rfl⟩
 ·revert h; refine rz fun h => ?_; obtain ⟨rfl, q14⟩ := q14; revert h; refine rz fun h => ?_; cbv; refine ⟨_, q14, ?_⟩; cbv; revert h; refine rk [] [(64000, 3072)] (hf_spec_l10Layout _) (fun _ => zg (les_cons (give_os (pl_encShape) rfl rfl rfl) (les_nil))) fun y47 h => ⟨_, rfl, _, _, rfl, fun _ _ _ _ => .refl _, ?_⟩
  cbv; injection h with h; subst h; exact ⟨_, le_ren 3072 64000 (by decide) rfl, lR _, zo, rfl⟩

noncomputable def L_impl_IsName_x2 (a0 : ByteArray) : (Int) → Option ((Int) ⊕ ((Unit) ⊕ (Unit))) := fun x2 =>
 letO x2 fun v1 =>
 br (std.lt v1 (std.ofN (std.slen a0)))
 (((
    req (std.inR v1 (std.slen a0)) <|
    br (std.lt (std.sat a0 (std.toN v1)) 97)
    (req (std.inR v1 (std.slen a0)) <|
    br (std.lt (std.sat a0 (std.toN v1)) 48)
    (some true)
    (req (std.inR v1 (std.slen a0)) <|
    some (std.lt 57 (std.sat a0 (std.toN v1)))))
    (req (std.inR v1 (std.slen a0)) <|
    br (std.lt 122 (std.sat a0 (std.toN v1)))
    (req (std.inR v1 (std.slen a0)) <|
    br (std.lt (std.sat a0 (std.toN v1)) 48)
    (some true)
    (req (std.inR v1 (std.slen a0)) <|
    some (std.lt 57 (std.sat a0 (std.toN v1)))))
    (some false))
  ) : Option (Bool)).bind fun y14 =>
 letO y14 fun w20 =>
 br w20
 (some (.inr (.inl ())))
 (some (.inl (std.add .i64 v1 1))))
 (some (.inr (.inr ())))
/-- impl.IsName -/
noncomputable def F_impl_IsName (a0 : ByteArray) : Option (Bool) :=
 (whileP (σ := Int) (ρ := (Unit) ⊕ (Unit)) (L_impl_IsName_x2 a0) 0).bind fun y3 =>
 (match y3 with
  | .inl y3k0 => (
    some false)
  | .inr y3m0 =>
    ((
       br (std.le 1 (std.ofN (std.slen a0)))
       (some (std.le (std.ofN (std.slen a0)) 8))
       (some false)
     ) : Option (Bool)).bind fun y33 =>
    letO y33 fun w39 =>
    some w39)
set_option maxHeartbeats 4000000 in
theorem run_impl_IsName (a0 : ByteArray) (r : Bool) (h : F_impl_IsName a0 = some r) : Fun Tryz.prog 91 [.c (.v (.string a0))] [] (.c (.v (.bool r))) [] true := by
 refine ow [4, 6] Tryz.func91 Tryz.ntmps91 ?_; unfold F_impl_IsName at h; unfold L_impl_IsName_x2 at h; generalize hLEN : @len = LEN, hGD : @gd = GD, hA : std = A, hP : Tryz.prog = P at *; cbv
 revert h; refine lc (fun x => (sparse 40 [(0, .c (.v (.string a0))), (3, .c (.v (.int .i64 x)))] [])) (fun y e s => (match y with | .inl w => e = .ret ∧ s.le (sparse 40 [(2, .c (.v (.bool false)))] []) | .inr w0 => (fun (w : Unit) => e = .exit 0 ∧ s.le (sparse 40 [(0, .c (.v (.string a0)))] [])) w0)) zb ?_ ?_
 ·intro v1 z h K hK hY; replace h := oz h; cbv; revert h; refine fk ?_ ?_ <;> intro h <;> cbv
  ·revert h; refine cu (fun y14 => (sparse 40 [(0, .c (.v (.string a0))), (3, .c (.v (.int .i64 v1))), (31, .c (.v (.bool y14)))] [])) (fun y14 S hS h => rg) fun w20 => rz fun h => ?_; cbv; revert h; refine fk ?_ ?_ <;> intro h <;> cbv
   ·exact dy
   exact dm
  exact dy
 intro y3 h e12 s13 q11 hne; rcases y3 with y3k0 | y3m0
 ·replace h := h; obtain ⟨rfl, q11⟩ := q11; cbv; injection h with h; subst h; exact ⟨_, q11, lR _, zo, rfl⟩
 ·obtain ⟨rfl, q11⟩ := q11; cbv; refine ⟨_, q11, ?_⟩; cbv; revert h; refine cu (fun y33 => (sparse 40 [(2, .c (.v (.bool y33)))] [])) (fun y33 S hS h => rg) fun w39 => rz fun h => ?_; cbv; exact df

/-- impl.within -/
noncomputable def F_impl_within (a0 : Int) (a1 : Int) (a2 : Int) : Option (Bool) :=
 ((
    br (std.le a1 a0)
    (some (std.le a0 a2))
    (some false)
  ) : Option (Bool)).bind fun y1 =>
 letO y1 fun w7 =>
 some w7
set_option maxHeartbeats 4000000 in
theorem run_impl_within (a0 : Int) (a1 : Int) (a2 : Int) (r : Bool) (h : F_impl_within a0 a1 a2 = some r) : Fun Tryz.prog 43 [.c (.v (.int .i64 a0)), .c (.v (.int .i64 a1)), .c (.v (.int .i64 a2))] [] (.c (.v (.bool r))) [] true := by
 refine ow [1] Tryz.func43 Tryz.ntmps43 ?_; unfold F_impl_within at h; generalize hLEN : @len = LEN, hGD : @gd = GD, hA : std = A, hP : Tryz.prog = P at *; cbv; revert h; refine cu (fun y1 => (sparse 15 [(6, .c (.v (.bool y1)))] [])) (fun y1 S hS h => rg) fun w7 => rz fun h => ?_; cbv; exact df

/-- impl.IsValidRect -/
noncomputable def F_impl_IsValidRect (a0 : TRect) : Option (Bool) :=
 ((
    br (std.le (-40) a0.fX0)
    (br (std.lt a0.fX0 a0.fX1)
    (br (std.le a0.fX1 40)
    (br (std.le (-40) a0.fY0)
    (br (std.lt a0.fY0 a0.fY1)
    (some (std.le a0.fY1 40))
    (some false))
    (some false))
    (some false))
    (some false))
    (some false)
  ) : Option (Bool)).bind fun y1 =>
 letO y1 fun w7 =>
 some w7
set_option maxHeartbeats 4000000 in
theorem run_impl_IsValidRect (a0 : TRect) (r : Bool) (h : F_impl_IsValidRect a0 = some r) : Fun Tryz.prog 41 [.agg [.v (.int .i64 a0.fX0), .v (.int .i64 a0.fY0), .v (.int .i64 a0.fX1), .v (.int .i64 a0.fY1)]] [] (.c (.v (.bool r))) [] true := by
 refine ow [1] Tryz.func41 Tryz.ntmps41 ?_; unfold F_impl_IsValidRect at h; generalize hLEN : @len = LEN, hGD : @gd = GD, hA : std = A, hP : Tryz.prog = P at *; cbv; revert h; refine cu (fun y1 => (sparse 35 [(2, .c (.v (.bool y1)))] [])) (fun y1 S hS h => rg) fun w7 => rz fun h => ?_; cbv; exact df

/-- impl.validShape -/
noncomputable def F_impl_validShape (a0 : TShape) : Option (Bool) :=
 ((
    (F_impl_within a0.fLayer 0 7).bind fun y8 =>
    br y8
    ((F_impl_IsValidRect a0.fBox).bind fun y10 =>
    some y10)
    (some false)
  ) : Option (Bool)).bind fun y1 =>
 letO y1 fun w7 =>
 some w7
set_option maxHeartbeats 4000000 in
theorem run_impl_validShape (a0 : TShape) (r : Bool) (h : F_impl_validShape a0 = some r) : Fun Tryz.prog 94 [.agg [.v (.int .i64 a0.fLayer), .v (.int .i64 a0.fBox.fX0), .v (.int .i64 a0.fBox.fY0), .v (.int .i64 a0.fBox.fX1), .v (.int .i64 a0.fBox.fY1)]] [] (.c (.v (.bool r))) [] true := by
 refine ow [1] Tryz.func94 Tryz.ntmps94 ?_; unfold F_impl_validShape at h; have hf_impl_IsValidRect := @run_impl_IsValidRect; have hf_impl_within := @run_impl_within; generalize hLEN : @len = LEN, hGD : @gd = GD, hA : std = A, hP : Tryz.prog = P at *; cbv; revert h; refine cu (fun y1 => (sparse 11 [(2, .c (.v (.bool y1)))] [])) ?_ fun w7 => rz fun h => ?_
 ·intro y1 S hS h; cbv; revert h; refine rk0 (hf_impl_within _ _ _) fun y8 h => ?_; cbv; revert h; refine fk ?_ ?_ <;> intro h <;> cbv
  ·revert h; refine rk0 (hf_impl_IsValidRect _) fun y10 h => ?_; cbv; exact dn
  exact dn
 cbv; exact df

/-- impl.validCell$1 -/
noncomputable def F_impl_validCell_1 (a0 : TShape) : Option (Bool) :=
 (F_impl_validShape (TShape.mk a0.fLayer a0.fBox)).bind fun y1 =>
 some (!(y1))
set_option maxHeartbeats 4000000 in
theorem run_impl_validCell_1 (a0 : TShape) (r : Bool) (h : F_impl_validCell_1 a0 = some r) : Fun Tryz.prog 93 [.agg [.v (.int .i64 a0.fLayer), .v (.int .i64 a0.fBox.fX0), .v (.int .i64 a0.fBox.fY0), .v (.int .i64 a0.fBox.fX1), .v (.int .i64 a0.fBox.fY1)]] [] (.c (.v (.bool r))) [] true := by
 refine ow [] Tryz.func93 Tryz.ntmps93 ?_; unfold F_impl_validCell_1 at h; have hf_impl_validShape := @run_impl_validShape; generalize hLEN : @len = LEN, hGD : @gd = GD, hA : std = A, hP : Tryz.prog = P at *; cbv; revert h; refine rk0 (hf_impl_validShape _) fun y1 h => ?_; cbv; exact df
end Go.Proofs.YtpobpihakgegbaaGreat.AM
