/-
  What the functions that the law reaches compute, and that they do. No condition.
-/
import Derived.Test.YtpobpihakgegbaaAmSW
import Derived.Test.YtpobpihakgegbaaAmE
namespace Go.Proofs.Ytpobpihakgegbaa.AM
open Go Go.Proofs Go.RowKit
set_option linter.unusedVariables false
set_option linter.unusedSimpArgs false
set_option maxRecDepth 100000

/-- impl.moveRect -/
noncomputable def F_impl_moveRect (a0 : TTransform) (a1 : TRect) : Option (TRect) :=
 (F_impl_move a0 (TPoint.mk a1.fX0 a1.fY0)).bind fun y1 =>
 (F_impl_move a0 (TPoint.mk a1.fX1 a1.fY1)).bind fun y3 =>
 some (TRect.mk (std.imin y1.fX y3.fX) (std.imin y1.fY y3.fY) (std.imax y1.fX y3.fX) (std.imax y1.fY y3.fY))
set_option maxHeartbeats 4000000 in
theorem run_impl_moveRect (a0 : TTransform) (a1 : TRect) (r : TRect) (h : F_impl_moveRect a0 a1 = some r) : Fun Try.prog 38 [.agg [.v (.int .i64 a0.fOrientation), .v (.int .i64 a0.fX), .v (.int .i64 a0.fY)], .agg [.v (.int .i64 a1.fX0), .v (.int .i64 a1.fY0), .v (.int .i64 a1.fX1), .v (.int .i64 a1.fY1)]] [] (.agg [.v (.int .i64 r.fX0), .v (.int .i64 r.fY0), .v (.int .i64 r.fX1), .v (.int .i64 r.fY1)]) [] true := by
 refine ow [] Try.func38 Try.ntmps38 ?_ (hv := (fun _ => ⟨(by simp [AV.flat, AV.flat1, AC.flat]), trivial⟩)); unfold F_impl_moveRect at h; have hf_impl_move := @run_impl_move; generalize hLEN : @len = LEN, hGD : @gd = GD, hA : std = A, hP : Try.prog = P at *; cbv; revert h; refine rk0 (hf_impl_move _ _) fun y1 h => ?_; cbv; revert h; refine rk0 (hf_impl_move _ _) fun y3 h => ?_; cbv; exact df

noncomputable def L_impl_FlattenShapes_x23 (a0 : TLibrary) (y1 : (List TOccurrence) × Int) (v5 : Int) : (Int × (List TShape)) → Option ((Int × (List TShape)) ⊕ ((Int) ⊕ ((List TShape)))) := fun x23 =>
 letO x23.1 fun v21 =>
 letO x23.2 fun v22 =>
 br (std.lt v21 (std.ofN (len (gd a0.fCells (std.toN (gd y1.1 (std.nadd 0 (std.toN v5))).fCell)).fShapes)))
 (req (std.inR v21 (len (gd a0.fCells (std.toN (gd y1.1 (std.nadd 0 (std.toN v5))).fCell)).fShapes)) <|
 (F_impl_moveRect (gd y1.1 (std.nadd 0 (std.toN v5))).fPlace (gd (gd a0.fCells (std.toN (gd y1.1 (std.nadd 0 (std.toN v5))).fCell)).fShapes (std.toN v21)).fBox).bind fun y36 =>
 (F_impl_IsValidRect y36).bind fun y38 =>
 br (!(y38))
 (some (.inr (.inl 2)))
 (letO ([(TShape.mk (gd (gd a0.fCells (std.toN (gd y1.1 (std.nadd 0 (std.toN v5))).fCell)).fShapes (std.toN v21)).fLayer y36)] : List TShape) fun l40 =>
 req (std.room (std.nadd (len v22) (len l40)) 40) <|
 letO (v22 ++ l40) fun l42 =>
 some (.inl (std.add .i64 v21 1, l42))))
 (some (.inr (.inr v22)))
noncomputable def L_impl_FlattenShapes_x7 (a0 : TLibrary) (y1 : (List TOccurrence) × Int) : (Int × (List TShape)) → Option ((Int × (List TShape)) ⊕ ((Int) ⊕ ((List TShape)))) := fun x7 =>
 letO x7.1 fun v5 =>
 letO x7.2 fun v6 =>
 br (std.lt v5 (std.ofN (len y1.1)))
 (req (std.inR v5 (len y1.1)) <|
 req (std.inR (gd y1.1 (std.nadd 0 (std.toN v5))).fCell (len a0.fCells)) <|
 (whileP (σ := Int × (List TShape)) (ρ := (Int) ⊕ ((List TShape))) (L_impl_FlattenShapes_x23 a0 y1 v5) (0, v6)).bind fun y24 =>
 (match y24 with
  | .inl y24k0 => (
    letO y24k0 fun w47 =>
    some (.inr (.inl w47)))
  | .inr y24m0 =>
    letO y24m0 fun y24k1 =>
    letO y24k1 fun w48 =>
    some (.inl (std.add .i64 v5 1, w48))))
 (some (.inr (.inr v6)))
/-- impl.FlattenShapes -/
noncomputable def F_impl_FlattenShapes (a0 : TLibrary) (a1 : Int) : Option ((List TShape) × Int) :=
 (F_impl_Occurrences (TLibrary.mk a0.fCells) a1).bind fun y1 =>
 br (std.not (std.eq y1.2 0))
 (some (([] : List TShape), y1.2))
 (letO ([] : List TShape) fun l3 =>
 (whileP (σ := Int × (List TShape)) (ρ := (Int) ⊕ ((List TShape))) (L_impl_FlattenShapes_x7 a0 y1) (0, l3)).bind fun y8 =>
 (match y8 with
  | .inl y8k0 => (
    letO y8k0 fun w50 =>
    some (([] : List TShape), w50))
  | .inr y8m0 =>
    letO y8m0 fun y8k1 =>
    letO y8k1 fun w51 =>
    some (w51, (0 : Int))))
set_option maxHeartbeats 4000000 in
theorem run_impl_FlattenShapes (a0 : TLibrary) (a1 : Int) (r : (List TShape) × Int) (h : F_impl_FlattenShapes a0 a1 = some r) : Fun Try.prog 16 [.agg [.bs (len a0.fCells) 4 (row gd (encCell len gd) a0.fCells)], .c (.v (.int .i64 a1))] [] (.tup [.c (.os 64000 0 (len r.1)), .c (.v (.int .i64 r.2))]) [(64000, .arr .rw [] (len r.1) 5 (row gd (encShape) r.1))] true := by
 refine ow [] Try.func16 Try.ntmps16 ?_ (hv := (fun _ => ⟨(by simp [AV.flat, AV.flat1, AC.flat]), ⟨fun i _ j _ => val_flat (vl_encShape _ _), trivial⟩⟩)); unfold F_impl_FlattenShapes at h; unfold L_impl_FlattenShapes_x7 at h; unfold L_impl_FlattenShapes_x23 at h; have hf_impl_IsValidRect := @run_impl_IsValidRect; have hf_impl_Occurrences := @run_impl_Occurrences
 have hf_impl_moveRect := @run_impl_moveRect; generalize hLEN : @len = LEN, hGD : @gd = GD, hA : std = A, hP : Try.prog = P at *; cbv; revert h; refine rk [] [(64000, 1088)] (hf_impl_Occurrences _ _) (fun _ => zf) fun y1 h => ⟨_, rfl, _, _, rfl, fun _ _ _ _ => .refl _, ?_⟩
 cbv; revert h; refine fk ?_ ?_ <;> intro h <;> cbv
 ·injection h with h; subst h; refine ⟨(sparse 60 [(4, .c (.os 64000 0 (LEN ([] : List TShape)))), (5, .c (.v (.int .i64 y1.2)))] [(64000, .arr .rw [] (LEN ([] : List TShape)) 5 (row GD (encShape) ([] : List TShape)))]), ?_, ?_⟩
  ·refine St.le_trans (le_nilT 4 64000 5 (row GD (encShape) ([] : List TShape)) (by decide) rfl) ?_; subst hLEN; exact zb
  ·subst hLEN; exact ⟨lR _, zo, rfl⟩
 revert h; refine rl fun l3 hl3 h => ?_; have e4 : 0 = LEN l3 := by subst hl3 hLEN; rfl
 refine ⟨_, (co e4), _, row GD (encShape) l3, e4, wkOf ?_, ?_⟩
 ·intro i hi j hj; rw [← e4] at hi; subst hl3; subst hGD; omega
 cbv
 revert h; refine lc (fun x => (sparse 60 [(2, .c (.ptr 128 0)), (8, .c (.os 1472 0 (LEN x.2))), (24, .c (.os 1088 0 (LEN y1.1))), (25, .c (.v (.int .i64 (A.ofN (LEN y1.1))))), (26, .c (.v (.int .i64 x.1)))] [(128, .var [.bs (LEN a0.fCells) 4 (row GD (encCell LEN GD) a0.fCells)]), (1472, .arr .rw [] (LEN x.2) 5 (row GD (encShape) x.2)), (1088, .arr .rw [] (LEN y1.1) 5 (row GD (encOccurrence LEN GD) y1.1))])) (fun y e s => (match y with | .inl w => e = .ret ∧ s.le (sparse 60 [(4, .c (.v (.slice none 0 0))), (5, .c (.v (.int .i64 w)))] []) | .inr w0 => (fun (w : (List TShape)) => e = .exit 0 ∧ s.le (sparse 60 [(8, .c (.os 1472 0 (LEN w)))] [(1472, .arr .rw [] (LEN w) 5 (row GD (encShape) w))])) w0)) zb ?_ ?_
 ·rintro ⟨v5, v6⟩ z h K hK hY; replace h := oz (oz h); dsimp only at h; cbv; revert h; refine fk ?_ ?_ <;> intro h <;> cbv
  ·revert h; refine ra fun c19 h => ?_; refine ai c19 ?_; revert h; refine ra fun c20 h => ?_
   revert h; refine lc (fun x => (sparse 60 [(2, .c (.ptr 128 0)), (8, .c (.os 1472 0 (LEN x.2))), (10, .c (.ptr 640 0)), (24, .c (.os 1088 0 (LEN y1.1))), (25, .c (.v (.int .i64 (A.ofN (LEN y1.1))))), (26, .c (.v (.int .i64 v5))), (36, .c (.bs (LEN (GD a0.fCells (A.toN (GD y1.1 (A.nadd 0 (A.toN v5))).fCell)).fShapes) 5 (row GD (encShape) (GD a0.fCells (A.toN (GD y1.1 (A.nadd 0 (A.toN v5))).fCell)).fShapes))), (37, .c (.v (.int .i64 (A.ofN (LEN (GD a0.fCells (A.toN (GD y1.1 (A.nadd 0 (A.toN v5))).fCell)).fShapes))))), (38, .c (.v (.int .i64 x.1)))] [(128, .var [.bs (LEN a0.fCells) 4 (row GD (encCell LEN GD) a0.fCells)]), (1472, .arr .rw [] (LEN x.2) 5 (row GD (encShape) x.2)), (640, .var [.v (.int .i64 (GD y1.1 (A.nadd 0 (A.toN v5))).fCell), .v (.int .i64 (GD y1.1 (A.nadd 0 (A.toN v5))).fPlace.fOrientation), .v (.int .i64 (GD y1.1 (A.nadd 0 (A.toN v5))).fPlace.fX), .v (.int .i64 (GD y1.1 (A.nadd 0 (A.toN v5))).fPlace.fY), .bs (LEN (GD y1.1 (A.nadd 0 (A.toN v5))).fPath) 1 (row GD (encI .i64) (GD y1.1 (A.nadd 0 (A.toN v5))).fPath)]), (1088, .arr .rw [] (LEN y1.1) 5 (row GD (encOccurrence LEN GD) y1.1))])) (fun y e s => (match y with | .inl w => e = .ret ∧ s.le (sparse 60 [(4, .c (.v (.slice none 0 0))), (5, .c (.v (.int .i64 w)))] []) | .inr w0 => (fun (w : (List TShape)) => e = .exit 2 ∧ s.le (sparse 60 [(2, .c (.ptr 128 0)), (8, .c (.os 1472 0 (LEN w))), (24, .c (.os 1088 0 (LEN y1.1))), (25, .c (.v (.int .i64 (A.ofN (LEN y1.1))))), (26, .c (.v (.int .i64 v5)))] [(128, .var [.bs (LEN a0.fCells) 4 (row GD (encCell LEN GD) a0.fCells)]), (1472, .arr .rw [] (LEN w) 5 (row GD (encShape) w)), (1088, .arr .rw [] (LEN y1.1) 5 (row GD (encOccurrence LEN GD) y1.1))])) w0)) zb ?_ ?_
   ·rintro ⟨v21, v22⟩ z h K hK hY; replace h := oz (oz h); dsimp only at h; cbv; revert h; refine fk ?_ ?_ <;> intro h <;> cbv
    ·revert h; refine ra fun c35 h => ?_; revert h; refine rk0 (hf_impl_moveRect _ _) fun y36 h => ?_; cbv; revert h; refine rk0 (hf_impl_IsValidRect _) fun y38 h => ?_; cbv; revert h; refine fk ?_ ?_ <;> intro h <;> cbv
     ·exact dy
     revert h; refine rl fun l40 hl40 h => ?_; have e41 : 1 = LEN l40 := by subst hl40 hLEN; rfl
     refine ⟨_, (co e41), _, row GD (encShape) l40, e41, wkOf ?_, ?_⟩
     ·intro i hi j hj; rw [← e41] at hi; subst hl40; subst hGD; obtain rfl : i = 0 := (by omega) <;> obtain rfl | rfl | rfl | rfl | rfl : j = 0 ∨ j = 1 ∨ j = 2 ∨ j = 3 ∨ j = 4 := (by omega)
      all_goals rfl
     cbv; revert h; refine rq fun c44 => rl fun l42 hl42 h => ?_; have e43 := nl hA hLEN hl42; refine ⟨c44, _, (co e43), _, row GD (encShape) l42, e43, wkOf ?_, ?_⟩
     ·subst hGD hLEN hA; exact app_os (off := 0) (pl_encShape) hl42 (Nat.le_refl _)
     cbv; exact dm
    exact dy
   intro y24 h e33 s34 q32 hne; rcases y24 with y24k0 | y24m0
   ·replace h := h; obtain ⟨rfl, q32⟩ := q32; revert h; refine rl fun w47 hw47 h => ?_; have hw47 : w47 = y24k0 := hw47; subst hw47; cbv; injection h with h; refine hY _ h.symm _ _ (And.intro rfl ?_) (by intro hh; cases hh); refine St.le_trans q32 ?_; exact zb
   ·revert h; refine rz fun h => ?_; obtain ⟨rfl, q32⟩ := q32; revert h; refine rl fun w48 hw48 h => ?_; have hw48 : w48 = y24m0 := hw48; subst hw48; cbv; refine ⟨_, q32, ?_⟩; cbv; exact dm
  exact dy
 intro y8 h e17 s18 q16 hne; rcases y8 with y8k0 | y8m0
 ·replace h := h; obtain ⟨rfl, q16⟩ := q16; revert h; refine rz fun h => ?_; cbv; injection h with h; subst h; refine ⟨(sparse 60 [(4, .c (.os 64000 0 (LEN ([] : List TShape)))), (5, .c (.v (.int .i64 y8k0)))] [(64000, .arr .rw [] (LEN ([] : List TShape)) 5 (row GD (encShape) ([] : List TShape)))]), ?_, ?_⟩
  ·refine St.le_trans q16 ?_; refine St.le_trans (le_nilT 4 64000 5 (row GD (encShape) ([] : List TShape)) (by decide) rfl) ?_; subst hLEN; exact zb
  ·subst hLEN; exact ⟨lR _, zo, rfl⟩
 ·revert h; refine rz fun h => ?_; obtain ⟨rfl, q16⟩ := q16; revert h; refine rz fun h => ?_; cbv; refine ⟨_, q16, ?_⟩; cbv; injection h with h; subst h; exact ⟨_, le_ren 1472 64000 (by decide) rfl, lR _, zo, rfl⟩

noncomputable def L_impl_cells_put_mAb_x17 (a1 : TRect) (v1 : Int) : (Int × (Nat → Nat → Bool)) → Option ((Int × (Nat → Nat → Bool)) ⊕ (((Nat → Nat → Bool)))) := fun x17 =>
 letO x17.1 fun v15 =>
 letO x17.2 fun v16 =>
 br (std.lt v15 (std.imin a1.fX1 40))
 (req (std.inR (std.add .i64 v1 40) 80) <|
 req (std.inR (std.add .i64 v15 40) 80) <|
 letO (setG v16 (std.nadd 0 (std.toN (std.add .i64 v1 40))) (std.nadd 0 (std.toN (std.add .i64 v15 40))) true) fun l31 =>
 some (.inl (std.add .i64 v15 1, l31)))
 (some (.inr v16))
noncomputable def L_impl_cells_put_mAb_x3 (a1 : TRect) : (Int × (Nat → Nat → Bool)) → Option ((Int × (Nat → Nat → Bool)) ⊕ (((Nat → Nat → Bool)))) := fun x3 =>
 letO x3.1 fun v1 =>
 letO x3.2 fun v2 =>
 br (std.lt v1 (std.imin a1.fY1 40))
 ((whileP (σ := Int × (Nat → Nat → Bool)) (ρ := ((Nat → Nat → Bool))) (L_impl_cells_put_mAb_x17 a1 v1) ((std.imax a1.fX0 (-40)), v2)).bind fun y18 =>
 letO y18 fun y18k0 =>
 letO y18k0 fun w33 =>
 some (.inl (std.add .i64 v1 1, w33)))
 (some (.inr v2))
/-- impl.cells).put -/
noncomputable def F_impl_cells_put_mAb (a0 : Nat → Nat → Bool) (a1 : TRect) : Option (Nat → Nat → Bool) :=
 (whileP (σ := Int × (Nat → Nat → Bool)) (ρ := ((Nat → Nat → Bool))) (L_impl_cells_put_mAb_x3 a1) ((std.imax a1.fY0 (-40)), a0)).bind fun y4 =>
 letO y4 fun y4k0 =>
 letO y4k0 fun w35 =>
 some w35
set_option maxHeartbeats 4000000 in
theorem run_impl_cells_put_mAb (a0 : Nat → Nat → Bool) (a1 : TRect) (r : Nat → Nat → Bool) (h : F_impl_cells_put_mAb a0 a1 = some r) : Fun Try.prog 21 [.c (.ep 5 0 0), .agg [.v (.int .i64 a1.fX0), .v (.int .i64 a1.fY0), .v (.int .i64 a1.fX1), .v (.int .i64 a1.fY1)]] [(5, .arr .rw [] 80 80 (encG a0))] (.tup []) [(5, .arr .rw [] 80 80 (encG r))] true := by
 refine ow [] Try.func21 Try.ntmps21 ?_ (hw := ⟨fun i _ j _ k hk => (noref (rfl) hk).elim, trivial⟩) (hv := (fun _ => ⟨(by simp [AV.flat, AV.flat1, AC.flat]), ⟨(fun i _ j _ => trivial), trivial⟩⟩)); unfold F_impl_cells_put_mAb at h; unfold L_impl_cells_put_mAb_x3 at h; unfold L_impl_cells_put_mAb_x17 at h; generalize hLEN : @len = LEN, hGD : @gd = GD, hA : std = A, hP : Try.prog = P at *; cbv
 revert h; refine ln (.exit 0) (fun x => (sparse 34 [(0, .c (.ep 5 0 0)), (3, .c (.ptr 192 0)), (4, .c (.v (.int .i64 x.1)))] [(5, .arr .rw [] 80 80 (encG x.2)), (192, .var [.v (.int .i64 a1.fX0), .v (.int .i64 a1.fY0), .v (.int .i64 a1.fX1), .v (.int .i64 a1.fY1)])])) (fun w => (sparse 34 [] [(5, .arr .rw [] 80 80 (encG w))])) zb ?_ ?_
 ·rintro ⟨v1, v2⟩ z h K hK hY; replace h := oz (oz h); dsimp only at h; cbv; revert h; refine fk ?_ ?_ <;> intro h <;> cbv
  ·revert h; refine ln (.exit 2) (fun x => (sparse 34 [(0, .c (.ep 5 0 0)), (3, .c (.ptr 192 0)), (4, .c (.v (.int .i64 v1))), (5, .c (.v (.int .i64 x.1)))] [(5, .arr .rw [] 80 80 (encG x.2)), (192, .var [.v (.int .i64 a1.fX0), .v (.int .i64 a1.fY0), .v (.int .i64 a1.fX1), .v (.int .i64 a1.fY1)])])) (fun w => (sparse 34 [(0, .c (.ep 5 0 0)), (3, .c (.ptr 192 0)), (4, .c (.v (.int .i64 v1)))] [(5, .arr .rw [] 80 80 (encG w)), (192, .var [.v (.int .i64 a1.fX0), .v (.int .i64 a1.fY0), .v (.int .i64 a1.fX1), .v (.int .i64 a1.fY1)])])) zb ?_ ?_
   ·rintro ⟨v15, v16⟩ z h K hK hY; replace h := oz (oz h); dsimp only at h; cbv; revert h; refine fk ?_ ?_ <;> intro h <;> cbv
    ·revert h; refine ra fun c29 h => ?_; revert h; refine ra fun c30 h => ?_; revert h; refine rl fun l31 hl31 h => ?_; refine And.intro (by first | exact ⟨gp_lt hA c29, gp_lt1 hA c30⟩ | exact ⟨gp_lt hA c29, gp_lt1 hA c30, trivial⟩ | (refine ⟨gp_lt hA c29, gp_lt1 hA c30, ?_⟩; first | trivial | exact ⟨trivial, trivial⟩)) ?_; refine ⟨_, rfl, _, encG l31, rfl, wkOf ?_, ?_⟩
     ·subst hl31; exact upd_grid
     cbv; exact dm
    exact dx
   intro w33 h s q26; replace h := oz (oz h); cbv; refine ⟨_, q26, ?_⟩; cbv; exact dm
  exact dx
 intro w35 h s q12; replace h := oz (oz h); cbv; refine ⟨_, q12, ?_⟩; cbv; exact df

noncomputable def L_impl_cells_region_mA_x59 (a0 : Nat → Nat → Bool) (v3 : Int) : (Int) → Option ((Int) ⊕ ((Int))) := fun x59 =>
 letO x59 fun v58 =>
 ((
    br (std.lt v58 80)
    (req (std.inR v3 80) <|
    req (std.inR v58 80) <|
    some (a0 (std.nadd 0 (std.toN v3)) (std.nadd 0 (std.toN v58))))
    (some false)
  ) : Option (Bool)).bind fun y71 =>
 letO y71 fun w77 =>
 br w77
 (some (.inl (std.add .i64 v58 1)))
 (some (.inr v58))
noncomputable def L_impl_cells_region_mA_x44 (a0 : Nat → Nat → Bool) (v3 : Int) (w41 : Int) : (Int × (List TRect)) → Option ((Int × (List TRect)) ⊕ (((List TRect)))) := fun x44 =>
 letO x44.1 fun v42 =>
 letO x44.2 fun v43 =>
 br (std.lt v42 80)
 (req (std.inR v3 80) <|
 req (std.inR v42 80) <|
 br (!(a0 (std.nadd 0 (std.toN v3)) (std.nadd 0 (std.toN v42))))
 (some (.inl (std.add .i64 v42 1, v43)))
 ((whileP (σ := Int) (ρ := (Int)) (L_impl_cells_region_mA_x59 a0 v3) v42).bind fun y60 =>
 letO y60 fun y60k0 =>
 letO y60k0 fun w82 =>
 letO ([(TRect.mk (std.sub .i64 v42 40) (std.sub .i64 v3 40) (std.sub .i64 w82 40) (std.sub .i64 w41 40))] : List TRect) fun l83 =>
 req (std.room (std.nadd (len v43) (len l83)) 32) <|
 letO (v43 ++ l83) fun l85 =>
 some (.inl (std.add .i64 w82 1, l85))))
 (some (.inr v43))
noncomputable def L_impl_cells_region_mA_x18 (a0 : Nat → Nat → Bool) (v3 : Int) : (Int) → Option ((Int) ⊕ ((Int))) := fun x18 =>
 letO x18 fun v17 =>
 ((
    br (std.lt v17 80)
    (req (std.inR v17 80) <|
    req (std.inR v3 80) <|
    some (std.beqs (rowG 80 a0 (std.nadd 0 (std.toN v17))) (rowG 80 a0 (std.nadd 0 (std.toN v3)))))
    (some false)
  ) : Option (Bool)).bind fun y30 =>
 letO y30 fun w36 =>
 br w36
 (some (.inl (std.add .i64 v17 1)))
 (some (.inr v17))
noncomputable def L_impl_cells_region_mA_x5 (a0 : Nat → Nat → Bool) : (Int × (List TRect)) → Option ((Int × (List TRect)) ⊕ (((List TRect)))) := fun x5 =>
 letO x5.1 fun v3 =>
 letO x5.2 fun v4 =>
 br (std.lt v3 80)
 ((whileP (σ := Int) (ρ := (Int)) (L_impl_cells_region_mA_x18 a0 v3) (std.add .i64 v3 1)).bind fun y19 =>
 letO y19 fun y19k0 =>
 letO y19k0 fun w41 =>
 (whileP (σ := Int × (List TRect)) (ρ := ((List TRect))) (L_impl_cells_region_mA_x44 a0 v3 w41) (0, v4)).bind fun y45 =>
 letO y45 fun y45k0 =>
 letO y45k0 fun w90 =>
 some (.inl (w41, w90)))
 (some (.inr v4))
/-- impl.cells).region -/
noncomputable def F_impl_cells_region_mA (a0 : Nat → Nat → Bool) : Option ((List TRect) × (Nat → Nat → Bool)) :=
 letO ([] : List TRect) fun l1 =>
 (whileP (σ := Int × (List TRect)) (ρ := ((List TRect))) (L_impl_cells_region_mA_x5 a0) (0, l1)).bind fun y6 =>
 letO y6 fun y6k0 =>
 letO y6k0 fun w92 =>
 some (w92, a0)
set_option maxHeartbeats 4000000 in
theorem run_impl_cells_region_mA (a0 : Nat → Nat → Bool) (r : (List TRect) × (Nat → Nat → Bool)) (h : F_impl_cells_region_mA a0 = some r) : Fun Try.prog 23 [.c (.ep 5 0 0)] [(5, .arr .rw [] 80 80 (encG a0))] (.c (.os 64000 0 (len r.1))) [(64000, .arr .rw [] (len r.1) 4 (row gd (encRect) r.1)), (5, .arr .rw [] 80 80 (encG r.2))] true := by
 refine ow [5, 12] Try.func23 Try.ntmps23 ?_ (hw := ⟨fun i _ j _ k hk => (noref (rfl) hk).elim, trivial⟩) (hv := (fun _ => ⟨trivial, ⟨fun i _ j _ => val_flat (vl_encRect _ _), (fun i _ j _ => trivial), trivial⟩⟩)); unfold F_impl_cells_region_mA at h; unfold L_impl_cells_region_mA_x5 at h; unfold L_impl_cells_region_mA_x18 at h; unfold L_impl_cells_region_mA_x44 at h
 unfold L_impl_cells_region_mA_x59 at h; generalize hLEN : @len = LEN, hGD : @gd = GD, hA : std = A, hP : Try.prog = P at *; cbv; revert h; refine rl fun l1 hl1 h => ?_; have e2 : 0 = LEN l1 := by subst hl1 hLEN; rfl
 refine ⟨_, (co e2), _, row GD (encRect) l1, e2, wkOf ?_, ?_⟩
 ·intro i hi j hj; rw [← e2] at hi; subst hl1; subst hGD; omega
 cbv; revert h; refine ln (.exit 0) (fun x => (sparse 70 [(0, .c (.ep 5 0 0)), (3, .c (.os 512 0 (LEN x.2))), (4, .c (.v (.int .i64 x.1)))] [(5, .arr .rw [] 80 80 (encG a0)), (512, .arr .rw [] (LEN x.2) 4 (row GD (encRect) x.2))])) (fun w => (sparse 70 [(3, .c (.os 512 0 (LEN w)))] [(512, .arr .rw [] (LEN w) 4 (row GD (encRect) w)), (5, .arr .rw [] 80 80 (encG a0))])) zb ?_ ?_
 ·rintro ⟨v3, v4⟩ z h K hK hY; replace h := oz (oz h); dsimp only at h; cbv; revert h; refine fk ?_ ?_ <;> intro h <;> cbv
  ·revert h; refine ln (.exit 2) (fun x => (sparse 70 [(0, .c (.ep 5 0 0)), (3, .c (.os 512 0 (LEN v4))), (4, .c (.v (.int .i64 v3))), (5, .c (.v (.int .i64 x)))] [(5, .arr .rw [] 80 80 (encG a0)), (512, .arr .rw [] (LEN v4) 4 (row GD (encRect) v4))])) (fun w => (sparse 70 [(0, .c (.ep 5 0 0)), (3, .c (.os 512 0 (LEN v4))), (4, .c (.v (.int .i64 v3))), (5, .c (.v (.int .i64 w)))] [(5, .arr .rw [] 80 80 (encG a0)), (512, .arr .rw [] (LEN v4) 4 (row GD (encRect) v4))])) zb ?_ ?_
   ·intro v17 z h K hK hY; replace h := oz h; cbv; revert h; refine cu (fun y30 => (sparse 70 [(0, .c (.ep 5 0 0)), (3, .c (.os 512 0 (LEN v4))), (4, .c (.v (.int .i64 v3))), (5, .c (.v (.int .i64 v17))), (27, .c (.v (.bool y30)))] [(5, .arr .rw [] 80 80 (encG a0)), (512, .arr .rw [] (LEN v4) 4 (row GD (encRect) v4))])) ?_ fun w36 => rz fun h => ?_
    ·intro y30 S hS h; cbv; revert h; refine fk ?_ ?_ <;> intro h <;> cbv
     ·revert h; refine ra fun c37 h => ?_; refine And.intro (by first | exact gp_lt hA c37 | exact ⟨gp_lt hA c37, by decide, by decide⟩ | (refine And.intro (gp_lt hA c37) ?_; first | trivial | exact ⟨trivial, trivial⟩)) ?_; revert h; refine ra fun c38 h => ?_
      refine And.intro (by first | exact gp_lt hA c38 | exact ⟨gp_lt hA c38, by decide, by decide⟩ | (refine And.intro (gp_lt hA c38) ?_; first | trivial | exact ⟨trivial, trivial⟩)) ?_; exact dn
     exact dn
    cbv; revert h; refine fk ?_ ?_ <;> intro h <;> cbv
    ·exact dm
    exact dx
   intro w41 h s q27; replace h := oz (oz h); cbv; refine ⟨_, q27, ?_⟩; cbv
   revert h; refine ln (.exit 4) (fun x => (sparse 70 [(0, .c (.ep 5 0 0)), (3, .c (.os 512 0 (LEN x.2))), (4, .c (.v (.int .i64 v3))), (5, .c (.v (.int .i64 w41))), (6, .c (.v (.int .i64 x.1)))] [(5, .arr .rw [] 80 80 (encG a0)), (512, .arr .rw [] (LEN x.2) 4 (row GD (encRect) x.2))])) (fun w => (sparse 70 [(0, .c (.ep 5 0 0)), (3, .c (.os 512 0 (LEN w))), (5, .c (.v (.int .i64 w41)))] [(5, .arr .rw [] 80 80 (encG a0)), (512, .arr .rw [] (LEN w) 4 (row GD (encRect) w))])) zb ?_ ?_
   ·rintro ⟨v42, v43⟩ z h K hK hY; replace h := oz (oz h); dsimp only at h; cbv; revert h; refine fk ?_ ?_ <;> intro h <;> cbv
    ·revert h; refine ra fun c56 h => ?_; revert h; refine ra fun c57 h => ?_; refine And.intro (by first | exact ⟨gp_lt hA c56, gp_lt1 hA c57⟩ | exact ⟨gp_lt hA c56, gp_lt1 hA c57, by decide⟩ | exact ⟨gp_lt hA c56, gp_lt1 hA c57, trivial⟩) ?_; revert h; refine fk ?_ ?_ <;> intro h <;> cbv
     ·refine bx ?_; cbv; exact dm
     revert h; refine ln (.exit 6) (fun x => (sparse 70 [(0, .c (.ep 5 0 0)), (3, .c (.os 512 0 (LEN v43))), (4, .c (.v (.int .i64 v3))), (5, .c (.v (.int .i64 w41))), (6, .c (.v (.int .i64 x))), (7, .c (.v (.int .i64 v42)))] [(5, .arr .rw [] 80 80 (encG a0)), (512, .arr .rw [] (LEN v43) 4 (row GD (encRect) v43))])) (fun w => (sparse 70 [(0, .c (.ep 5 0 0)), (3, .c (.os 512 0 (LEN v43))), (4, .c (.v (.int .i64 v3))), (5, .c (.v (.int .i64 w41))), (6, .c (.v (.int .i64 w))), (7, .c (.v (.int .i64 v42)))] [(5, .arr .rw [] 80 80 (encG a0)), (512, .arr .rw [] (LEN v43) 4 (row GD (encRect) v43))])) zb ?_ ?_
     ·intro v58 z h K hK hY; replace h := oz h; cbv
      revert h; refine cu (fun y71 => (sparse 70 [(0, .c (.ep 5 0 0)), (3, .c (.os 512 0 (LEN v43))), (4, .c (.v (.int .i64 v3))), (5, .c (.v (.int .i64 w41))), (6, .c (.v (.int .i64 v58))), (7, .c (.v (.int .i64 v42))), (53, .c (.v (.bool y71)))] [(5, .arr .rw [] 80 80 (encG a0)), (512, .arr .rw [] (LEN v43) 4 (row GD (encRect) v43))])) ?_ fun w77 => rz fun h => ?_
      ·intro y71 S hS h; cbv; revert h; refine fk ?_ ?_ <;> intro h <;> cbv
       ·revert h; refine ra fun c78 h => ?_; revert h; refine ra fun c79 h => ?_; refine And.intro (by first | exact ⟨gp_lt hA c78, gp_lt1 hA c79⟩ | exact ⟨gp_lt hA c78, gp_lt1 hA c79, by decide⟩ | exact ⟨gp_lt hA c78, gp_lt1 hA c79, trivial⟩) ?_; exact dn
       exact dn
      cbv; revert h; refine fk ?_ ?_ <;> intro h <;> cbv
      ·exact dm
      exact dx
     intro w82 h s q68; replace h := oz (oz h); cbv; refine ⟨_, q68, ?_⟩; cbv; revert h; refine rl fun l83 hl83 h => ?_; have e84 : 1 = LEN l83 := by subst hl83 hLEN; rfl
     refine ⟨_, (co e84), _, row GD (encRect) l83, e84, wkOf ?_, ?_⟩
     ·intro i hi j hj; rw [← e84] at hi; subst hl83; subst hGD; obtain rfl : i = 0 := (by omega) <;> obtain rfl | rfl | rfl | rfl : j = 0 ∨ j = 1 ∨ j = 2 ∨ j = 3 := (by omega)
      all_goals rfl
     cbv; revert h; refine rq fun c87 => rl fun l85 hl85 h => ?_; have e86 := nl hA hLEN hl85; refine ⟨c87, _, (co e86), _, row GD (encRect) l85, e86, wkOf ?_, ?_⟩
     ·subst hGD hLEN hA; exact app_os (off := 0) (pl_encRect) hl85 (Nat.le_refl _)
     cbv; exact dm
    exact dx
   intro w90 h s q53; replace h := oz (oz h); cbv; refine ⟨_, q53, ?_⟩; cbv; exact dm
  exact dx
 intro w92 h s q14; replace h := oz (oz h); cbv; refine ⟨_, q14, ?_⟩; cbv; injection h with h; subst h; exact ⟨_, le_ren 512 64000 (by decide) rfl, lR _, zo, rfl⟩

noncomputable def L_impl_layersOf_x18 (a0 : List TShape) (v2 : Int) : (Int × (Nat → Nat → Bool)) → Option ((Int × (Nat → Nat → Bool)) ⊕ (((Nat → Nat → Bool)))) := fun x18 =>
 letO x18.1 fun v16 =>
 letO x18.2 fun v17 =>
 br (std.lt v16 (std.ofN (len a0)))
 (req (std.inR v16 (len a0)) <|
 ((
    br (std.eq (gd a0 (std.toN v16)).fLayer v2)
    ((F_impl_cells_put_mAb v17 (gd a0 (std.toN v16)).fBox).bind fun y38 =>
    some y38)
    (some v17)
  ) : Option ((Nat → Nat → Bool))).bind fun y31 =>
 letO y31 fun w37 =>
 some (.inl (std.add .i64 v16 1, w37)))
 (some (.inr v17))
noncomputable def L_impl_layersOf_x4 (a0 : List TShape) : (Int × (List (List TRect))) → Option ((Int × (List (List TRect))) ⊕ (((List (List TRect))))) := fun x4 =>
 letO x4.1 fun v2 =>
 letO x4.2 fun v3 =>
 br (std.lt v2 8)
 ((whileP (σ := Int × (Nat → Nat → Bool)) (ρ := ((Nat → Nat → Bool))) (L_impl_layersOf_x18 a0 v2) (0, zeroG)).bind fun y19 =>
 letO y19 fun y19k0 =>
 letO y19k0 fun w42 =>
 ((
    (F_impl_cells_region_mA w42).bind fun y50 =>
    letO ([y50.1] : List (List TRect)) fun l52 =>
    req (std.room (std.nadd (len v3) (len l52)) 24) <|
    letO (v3 ++ l52) fun l54 =>
    some l54
  ) : Option ((List (List TRect)))).bind fun y43 =>
 letO y43 fun w49 =>
 some (.inl (std.add .i64 v2 1, w49)))
 (some (.inr v3))
/-- impl.layersOf -/
noncomputable def F_impl_layersOf (a0 : List TShape) : Option (List (List TRect)) :=
 (whileP (σ := Int × (List (List TRect))) (ρ := ((List (List TRect)))) (L_impl_layersOf_x4 a0) (0, ([] : List (List TRect)))).bind fun y5 =>
 letO y5 fun y5k0 =>
 letO y5k0 fun w58 =>
 some w58
set_option maxHeartbeats 4000000 in
theorem run_impl_layersOf (a0 : List TShape) (r : List (List TRect)) (h : F_impl_layersOf a0 = some r) : Fun Try.prog 17 [.c (.bs (len a0) 5 (row gd (encShape) a0))] [] (.c (.os 64000 0 (len r))) [(64000, .arr .rw [] (len r) 1 (row gd (oncL len gd 4 (encRect)) r))] true := by
 refine ow [12, 100023] Try.func17 Try.ntmps17 ?_ (hv := (fun _ => ⟨trivial, ⟨fun i _ j _ => fl_oncL (vl_encRect) _ _, trivial⟩⟩)); unfold F_impl_layersOf at h; unfold L_impl_layersOf_x4 at h; unfold L_impl_layersOf_x18 at h; have hf_impl_cells_put_mAb := @run_impl_cells_put_mAb; have hf_impl_cells_region_mA := @run_impl_cells_region_mA
 generalize hLEN : @len = LEN, hGD : @gd = GD, hA : std = A, hP : Try.prog = P at *; cbv; have e1 : 0 = LEN ([] : List (List TRect)) := by subst hLEN; rfl
 refine ⟨_, (co e1), _, row GD (oncL LEN GD 4 (encRect)) ([] : List (List TRect)), e1, wkOf ?_, ?_⟩
 ·intro i hi j hj; rw [← e1] at hi; subst hGD; omega
 cbv; revert h; refine ln (.exit 0) (fun x => (sparse 36 [(0, .c (.bs (LEN a0) 5 (row GD (encShape) a0))), (3, .c (.os 512 0 (LEN x.2))), (9, .c (.v (.int .i64 x.1)))] [(512, .arr .rw [] (LEN x.2) 1 (row GD (oncL LEN GD 4 (encRect)) x.2))])) (fun w => (sparse 36 [(3, .c (.os 512 0 (LEN w)))] [(512, .arr .rw [] (LEN w) 1 (row GD (oncL LEN GD 4 (encRect)) w))])) zb ?_ ?_
 ·rintro ⟨v2, v3⟩ z h K hK hY; replace h := oz (oz h); dsimp only at h; cbv; revert h; refine fk ?_ ?_ <;> intro h <;> cbv
  ·refine And.intro (by subst hA; exact zf53) ?_; refine And.intro (by subst hA; exact zl_std 6400) ?_; refine ⟨_, rfl, _, encG zeroG, rfl, wkOf (zl_get hA 80 80 6400 rfl), ?_⟩; cbv
   revert h; refine ln (.exit 2) (fun x => (sparse 36 [(0, .c (.bs (LEN a0) 5 (row GD (encShape) a0))), (3, .c (.os 512 0 (LEN v3))), (4, .c (.v (.int .i64 v2))), (5, .c (.ep 832 0 0)), (9, .c (.v (.int .i64 v2))), (14, .c (.bs (LEN a0) 5 (row GD (encShape) a0))), (15, .c (.v (.int .i64 (A.ofN (LEN a0))))), (16, .c (.v (.int .i64 x.1)))] [(512, .arr .rw [] (LEN v3) 1 (row GD (oncL LEN GD 4 (encRect)) v3)), (832, .arr .rw [] 80 80 (encG x.2))])) (fun w => (sparse 36 [(0, .c (.bs (LEN a0) 5 (row GD (encShape) a0))), (3, .c (.os 512 0 (LEN v3))), (5, .c (.ep 832 0 0)), (9, .c (.v (.int .i64 v2)))] [(512, .arr .rw [] (LEN v3) 1 (row GD (oncL LEN GD 4 (encRect)) v3)), (832, .arr .rw [] 80 80 (encG w))])) zb ?_ ?_
   ·rintro ⟨v16, v17⟩ z h K hK hY; replace h := oz (oz h); dsimp only at h; cbv; revert h; refine fk ?_ ?_ <;> intro h <;> cbv
    ·revert h; refine ra fun c30 h => ?_
     revert h; refine cu (fun y31 => some (sparse 36 [(0, .c (.bs (LEN a0) 5 (row GD (encShape) a0))), (3, .c (.os 512 0 (LEN v3))), (4, .c (.v (.int .i64 v2))), (5, .c (.ep 832 0 0)), (9, .c (.v (.int .i64 v2))), (14, .c (.bs (LEN a0) 5 (row GD (encShape) a0))), (15, .c (.v (.int .i64 (A.ofN (LEN a0))))), (16, .c (.v (.int .i64 v16)))] [(512, .arr .rw [] (LEN v3) 1 (row GD (oncL LEN GD 4 (encRect)) v3)), (832, .arr .rw [] 80 80 (encG y31))])) ?_ fun w37 => rz fun h => ?_
     ·intro y31 S hS h; cbv; revert h; refine fk ?_ ?_ <;> intro h <;> cbv
      ·revert h; refine rk [(5, 832)] [(5, 832)] (hf_impl_cells_put_mAb _ _) (fun _ => ⟨les_cons (lR _) (les_cons (lR _) (les_nil)), ⟨oS, trivial⟩, rfl, rfl, rfl, rfl, ⟨fun _ => ⟨rfl, rfl, fun c h => h⟩, trivial⟩, rfl⟩) fun y38 h => ⟨_, rfl, _, _, rfl, fun _ _ _ _ => .refl _, ?_⟩
       cbv; exact dn
      exact dn
     cbv; exact dm
    exact dx
   intro w42 h s q27; replace h := oz (oz h); cbv; refine ⟨_, q27, ?_⟩; cbv; revert h; refine cu (fun y43 => (sparse 36 [(0, .c (.bs (LEN a0) 5 (row GD (encShape) a0))), (3, .c (.os 512 0 (LEN y43))), (9, .c (.v (.int .i64 v2)))] [(512, .arr .rw [] (LEN y43) 1 (row GD (oncL LEN GD 4 (encRect)) y43))])) ?_ fun w49 => rz fun h => ?_
   ·intro y43 S hS h; cbv
    revert h; refine rk [(5, 832)] [(64000, 1984), (5, 832)] (hf_impl_cells_region_mA _) (fun _ => ⟨les_cons (lR _) (les_nil), ⟨oS, trivial⟩, rfl, rfl, rfl, rfl, ⟨fun h => absurd (show (64000 : Nat) % 2 = 1 from h) (by decide), fun _ => ⟨rfl, rfl, fun c h => h⟩, trivial⟩, rfl⟩) fun y50 h => ⟨_, rfl, _, _, rfl, fun _ _ _ _ => .refl _, _, _, rfl, fun _ _ _ _ => .refl _, ?_⟩
    cbv; revert h; refine rl fun l52 hl52 h => ?_; have e53 : 1 = LEN l52 := by subst hl52 hLEN; rfl
    refine ⟨_, (co e53), _, (patchC (fun _ _ => AC.junk) 0 [.os 1984 0 (LEN y50.1)]), e53, wkOf ?_, ?_⟩
    ·refine patch_one (by subst hl52 hLEN; rfl) ?_; exact zr
    cbv; revert h; refine rq fun c56 => rl fun l54 hl54 h => ?_; have e55 := nl hA hLEN hl54; refine ⟨c56, _, (co e55), _, (patchC (row GD (oncL LEN GD 4 (encRect)) v3) (LEN v3) [.os 1984 0 (LEN y50.1)]), e55, wkOf ?_, ?_⟩
    ·subst hLEN hA; refine patch_joinG (by first | (rw [hl54]; simp [len]; done) | (rw [hl54]; simp [len]; omega) | (subst_vars; simp [len])) ?_; exact zr
    cbv; rw [hl52] at hl54; injection h with h; subst h; subst hS; show St.le _ _; refine St.le_trans (le_foldP 512 0 1984 rfl rfl rfl (by decide) (by subst hLEN; exact app_lt hl54) (by decide) rfl (fun _ _ => rfl)) ?_; exact le_sparse rfl zl ⟨oP (fun _ _ => rfl) (by subst hGD hLEN hA; exact patch_app hl54 (Nat.le_refl _) zr), trivial⟩ rfl
   cbv; exact dm
  exact dx
 intro w58 h s q13; replace h := oz (oz h); cbv; refine ⟨_, q13, ?_⟩; cbv; injection h with h; subst h; exact ⟨_, le_ren 512 64000 (by decide) rfl, lR _, zo, rfl⟩

/-- impl.FlattenLayers -/
noncomputable def F_impl_FlattenLayers (a0 : TLibrary) (a1 : Int) : Option ((List (List TRect)) × Int) :=
 (F_impl_FlattenShapes (TLibrary.mk a0.fCells) a1).bind fun y1 =>
 br (std.not (std.eq y1.2 0))
 (some (([] : List (List TRect)), y1.2))
 ((F_impl_layersOf y1.1).bind fun y3 =>
 some (y3, (0 : Int)))
set_option maxHeartbeats 4000000 in
theorem run_impl_FlattenLayers (a0 : TLibrary) (a1 : Int) (r : (List (List TRect)) × Int) (h : F_impl_FlattenLayers a0 a1 = some r) : Fun Try.prog 7 [.agg [.bs (len a0.fCells) 4 (row gd (encCell len gd) a0.fCells)], .c (.v (.int .i64 a1))] [] (.tup [.c (.os 64000 0 (len r.1)), .c (.v (.int .i64 r.2))]) [(64000, .arr .rw [] (len r.1) 1 (row gd (oncL len gd 4 (encRect)) r.1))] true := by
 refine ow [] Try.func7 Try.ntmps7 ?_ (hv := (fun _ => ⟨(by simp [AV.flat, AV.flat1, AC.flat]), ⟨fun i _ j _ => fl_oncL (vl_encRect) _ _, trivial⟩⟩)); unfold F_impl_FlattenLayers at h; have hf_impl_FlattenShapes := @run_impl_FlattenShapes; have hf_impl_layersOf := @run_impl_layersOf; generalize hLEN : @len = LEN, hGD : @gd = GD, hA : std = A, hP : Try.prog = P at *; cbv
 revert h; refine rk [] [(64000, 704)] (hf_impl_FlattenShapes _ _) (fun _ => zf) fun y1 h => ⟨_, rfl, _, _, rfl, fun _ _ _ _ => .refl _, ?_⟩
 cbv; revert h; refine fk ?_ ?_ <;> intro h <;> cbv
 ·injection h with h; subst h; refine ⟨(sparse 19 [(4, .c (.os 64000 0 (LEN ([] : List (List TRect))))), (5, .c (.v (.int .i64 y1.2)))] [(64000, .arr .rw [] (LEN ([] : List (List TRect))) 1 (row GD (oncL LEN GD 4 (encRect)) ([] : List (List TRect))))]), ?_, ?_⟩
  ·refine St.le_trans (le_nilT 4 64000 1 (row GD (oncL LEN GD 4 (encRect)) ([] : List (List TRect))) (by decide) rfl) ?_; subst hLEN; exact zb
  ·subst hLEN; exact ⟨lR _, zo, rfl⟩
 revert h; refine rk [] [(64000, 1152)] (hf_impl_layersOf _) (fun _ => zg (les_cons (give_os (pl_encShape) rfl rfl rfl) (les_nil))) fun y3 h => ⟨_, rfl, _, _, rfl, fun _ _ _ _ => .refl _, ?_⟩
 cbv; injection h with h; subst h; exact ⟨_, le_ren 1152 64000 (by decide) rfl, lR _, zo, rfl⟩
/-- impl.hasCell -/
noncomputable def F_impl_hasCell (a0 : TLibrary) (a1 : Int) : Option (Bool) :=
 ((
    (F_impl_IsValidLibrary a0).bind fun y8 =>
    br y8
    ((F_impl_within a1 0 (std.sub .i64 (std.ofN (len a0.fCells)) 1)).bind fun y10 =>
    some y10)
    (some false)
  ) : Option (Bool)).bind fun y1 =>
 letO y1 fun w7 =>
 some w7
set_option maxHeartbeats 4000000 in
theorem run_impl_hasCell (a0 : TLibrary) (a1 : Int) (r : Bool) (h : F_impl_hasCell a0 a1 = some r) : Fun Try.prog 26 [.agg [.bs (len a0.fCells) 4 (row gd (encCell len gd) a0.fCells)], .c (.v (.int .i64 a1))] [] (.c (.v (.bool r))) [] true := by
 refine ow [1] Try.func26 Try.ntmps26 ?_; unfold F_impl_hasCell at h; have hf_impl_IsValidLibrary := @run_impl_IsValidLibrary; have hf_impl_within := @run_impl_within; generalize hLEN : @len = LEN, hGD : @gd = GD, hA : std = A, hP : Try.prog = P at *; cbv; revert h; refine cu (fun y1 => (sparse 15 [(4, .c (.v (.bool y1)))] [])) ?_ fun w7 => rz fun h => ?_
 ·intro y1 S hS h; cbv; revert h; refine rk0 (hf_impl_IsValidLibrary _) fun y8 h => ?_; cbv; revert h; refine fk ?_ ?_ <;> intro h <;> cbv
  ·revert h; refine rk0 (hf_impl_within _ _ _) fun y10 h => ?_; cbv; exact dn
  exact dn
 cbv; exact df

/-- impl.windowCode -/
noncomputable def F_impl_windowCode (a0 : TLibrary) (a1 : Int) (a2 : Int) (a3 : TRect) : Option (Int) :=
 ((
    (F_impl_IsValidLibrary a0).bind fun y8 =>
    br (!(y8))
    (some true)
    ((F_impl_IsValidRect a3).bind fun y10 =>
    some (!(y10)))
  ) : Option (Bool)).bind fun y1 =>
 letO y1 fun w7 =>
 br w7
 (some 1)
 ((F_impl_hasCell a0 a1).bind fun y13 =>
 br (!(y13))
 (some 5)
 ((F_impl_within a2 0 7).bind fun y15 =>
 br (!(y15))
 (some 2)
 ((F_impl_elementCount a0 a1).bind fun y17 =>
 br (std.lt 200 y17)
 (some 3)
 (some 0))))
set_option maxHeartbeats 4000000 in
theorem run_impl_windowCode (a0 : TLibrary) (a1 : Int) (a2 : Int) (a3 : TRect) (r : Int) (h : F_impl_windowCode a0 a1 a2 a3 = some r) : Fun Try.prog 18 [.agg [.bs (len a0.fCells) 4 (row gd (encCell len gd) a0.fCells)], .c (.v (.int .i64 a1)), .c (.v (.int .i64 a2)), .agg [.v (.int .i64 a3.fX0), .v (.int .i64 a3.fY0), .v (.int .i64 a3.fX1), .v (.int .i64 a3.fY1)]] [] (.c (.v (.int .i64 r))) [] true := by
 refine ow [1] Try.func18 Try.ntmps18 ?_; unfold F_impl_windowCode at h; have hf_impl_IsValidLibrary := @run_impl_IsValidLibrary; have hf_impl_IsValidRect := @run_impl_IsValidRect; have hf_impl_elementCount := @run_impl_elementCount; have hf_impl_hasCell := @run_impl_hasCell; have hf_impl_within := @run_impl_within; generalize hLEN : @len = LEN, hGD : @gd = GD, hA : std = A, hP : Try.prog = P at *
 cbv; revert h; refine cu (fun y1 => (sparse 32 [(1, .c (.v (.int .i64 a1))), (2, .c (.v (.int .i64 a2))), (4, .c (.ptr 256 0)), (9, .c (.v (.bool y1)))] [(256, .var [.bs (LEN a0.fCells) 4 (row GD (encCell LEN GD) a0.fCells)])])) ?_ fun w7 => rz fun h => ?_
 ·intro y1 S hS h; cbv; revert h; refine rk0 (hf_impl_IsValidLibrary _) fun y8 h => ?_; cbv; revert h; refine fk ?_ ?_ <;> intro h <;> cbv
  ·exact dn
  revert h; refine rk0 (hf_impl_IsValidRect _) fun y10 h => ?_; cbv; exact dn
 cbv; revert h; refine fk ?_ ?_ <;> intro h <;> cbv
 ·exact df
 revert h; refine rk0 (hf_impl_hasCell _ _) fun y13 h => ?_; cbv; revert h; refine fk ?_ ?_ <;> intro h <;> cbv
 ·exact df
 revert h; refine rk0 (hf_impl_within _ _ _) fun y15 h => ?_; cbv; revert h; refine fk ?_ ?_ <;> intro h <;> cbv
 ·exact df
 revert h; refine rk0 (hf_impl_elementCount _ _) fun y17 h => ?_; cbv; revert h; refine fk ?_ ?_ <;> intro h <;> cbv
 ·exact df
 exact df

/-- impl.unitRect -/
noncomputable def F_impl_unitRect (a0 : TPoint) : Option (TRect) :=
 some (TRect.mk a0.fX a0.fY (std.add .i64 a0.fX 1) (std.add .i64 a0.fY 1))
set_option maxHeartbeats 4000000 in
theorem run_impl_unitRect (a0 : TPoint) (r : TRect) (h : F_impl_unitRect a0 = some r) : Fun Try.prog 63 [.agg [.v (.int .i64 a0.fX), .v (.int .i64 a0.fY)]] [] (.agg [.v (.int .i64 r.fX0), .v (.int .i64 r.fY0), .v (.int .i64 r.fX1), .v (.int .i64 r.fY1)]) [] true := by
 refine ow [] Try.func63 Try.ntmps63 ?_ (hv := (fun _ => ⟨(by simp [AV.flat, AV.flat1, AC.flat]), trivial⟩)); unfold F_impl_unitRect at h; generalize hLEN : @len = LEN, hGD : @gd = GD, hA : std = A, hP : Try.prog = P at *; cbv; exact df

noncomputable def L_impl_boxOf_x7 (a0 : List TRect) : (Int × Int × Int × Int × Int) → Option ((Int × Int × Int × Int × Int) ⊕ ((Int × Int × Int × Int))) := fun x7 =>
 letO x7.1 fun v2 =>
 letO x7.2.1 fun v3 =>
 letO x7.2.2.1 fun v4 =>
 letO x7.2.2.2.1 fun v5 =>
 letO x7.2.2.2.2 fun v6 =>
 br (std.lt v2 (std.ofN (len a0)))
 (req (std.inR v2 (len a0)) <|
 some (.inl (std.add .i64 v2 1, (std.imin v3 (gd a0 (std.toN v2)).fX0), (std.imin v4 (gd a0 (std.toN v2)).fY0), (std.imax v5 (gd a0 (std.toN v2)).fX1), (std.imax v6 (gd a0 (std.toN v2)).fY1))))
 (some (.inr (v3, v4, v5, v6)))
/-- impl.boxOf -/
noncomputable def F_impl_boxOf (a0 : List TRect) : Option (TRect) :=
 req (std.inR 0 (len a0)) <|
 (whileP (σ := Int × Int × Int × Int × Int) (ρ := (Int × Int × Int × Int)) (L_impl_boxOf_x7 a0) (0, (gd a0 (std.toN 0)).fX0, (gd a0 (std.toN 0)).fY0, (gd a0 (std.toN 0)).fX1, (gd a0 (std.toN 0)).fY1)).bind fun y8 =>
 letO y8 fun y8k0 =>
 letO y8k0.1 fun w21 =>
 letO y8k0.2.1 fun w22 =>
 letO y8k0.2.2.1 fun w23 =>
 letO y8k0.2.2.2 fun w24 =>
 some (TRect.mk w21 w22 w23 w24)
set_option maxHeartbeats 4000000 in
theorem run_impl_boxOf (a0 : List TRect) (r : TRect) (h : F_impl_boxOf a0 = some r) : Fun Try.prog 64 [.c (.bs (len a0) 4 (row gd (encRect) a0))] [] (.agg [.v (.int .i64 r.fX0), .v (.int .i64 r.fY0), .v (.int .i64 r.fX1), .v (.int .i64 r.fY1)]) [] true := by
 refine ow [] Try.func64 Try.ntmps64 ?_ (hv := (fun _ => ⟨(by simp [AV.flat, AV.flat1, AC.flat]), trivial⟩)); unfold F_impl_boxOf at h; unfold L_impl_boxOf_x7 at h; generalize hLEN : @len = LEN, hGD : @gd = GD, hA : std = A, hP : Try.prog = P at *; cbv; revert h; refine ra fun c1 h => ?_
 revert h; refine ln (.exit 0) (fun x => (sparse 38 [(2, .c (.ptr 128 0)), (3, .c (.ptr 192 0)), (9, .c (.bs (LEN a0) 4 (row GD (encRect) a0))), (10, .c (.v (.int .i64 (A.ofN (LEN a0))))), (11, .c (.v (.int .i64 x.1)))] [(128, .var [.v (.int .i64 0), .v (.int .i64 0), .v (.int .i64 0), .v (.int .i64 0)]), (192, .var [.v (.int .i64 x.2.1), .v (.int .i64 x.2.2.1), .v (.int .i64 x.2.2.2.1), .v (.int .i64 x.2.2.2.2)])])) (fun w => (sparse 38 [(2, .c (.ptr 128 0)), (3, .c (.ptr 192 0))] [(128, .var [.v (.int .i64 0), .v (.int .i64 0), .v (.int .i64 0), .v (.int .i64 0)]), (192, .var [.v (.int .i64 w.1), .v (.int .i64 w.2.1), .v (.int .i64 w.2.2.1), .v (.int .i64 w.2.2.2)])])) zb ?_ ?_
 ·rintro ⟨v2, v3, v4, v5, v6⟩ z h K hK hY; replace h := oz (oz (oz (oz (oz h)))); dsimp only at h; cbv; revert h; refine fk ?_ ?_ <;> intro h <;> cbv
  ·revert h; refine ra fun c19 h => ?_; exact dm
  exact dx
 rintro ⟨w21, w22, w23, w24⟩ h s q16; replace h := oz (oz (oz (oz (oz h)))); dsimp only at h; cbv; refine ⟨_, q16, ?_⟩; cbv; exact df

noncomputable def L_impl_contentBoxes_x94 (y65 : (List Telement)) (w88 : Int) (v3 : List (List TRect)) (v67 : Int) : (Int × (List TRect)) → Option ((Int × (List TRect)) ⊕ (((List TRect)))) := fun x94 =>
 letO x94.1 fun v92 =>
 letO x94.2 fun v93 =>
 br (std.lt v92 w88)
 (((
    req (std.inR v92 (len (gd v3 (std.nadd 0 (std.toN (gd y65 (std.nadd 0 (std.toN v67))).gcell))))) <|
    some ((gd (gd v3 (std.nadd 0 (std.toN (gd y65 (std.nadd 0 (std.toN v67))).gcell))) (std.nadd 0 (std.toN v92))).fX0, (gd (gd v3 (std.nadd 0 (std.toN (gd y65 (std.nadd 0 (std.toN v67))).gcell))) (std.nadd 0 (std.toN v92))).fY0, (gd (gd v3 (std.nadd 0 (std.toN (gd y65 (std.nadd 0 (std.toN v67))).gcell))) (std.nadd 0 (std.toN v92))).fX1, (gd (gd v3 (std.nadd 0 (std.toN (gd y65 (std.nadd 0 (std.toN v67))).gcell))) (std.nadd 0 (std.toN v92))).fY1)
  ) : Option (Int × Int × Int × Int)).bind fun y106 =>
 letO y106.1 fun w112 =>
 letO y106.2.1 fun w113 =>
 letO y106.2.2.1 fun w114 =>
 letO y106.2.2.2 fun w115 =>
 ((
    (F_impl_moveRect (gd y65 (std.nadd 0 (std.toN v67))).gplace (TRect.mk w112 w113 w114 w115)).bind fun y124 =>
    letO ([y124] : List TRect) fun l126 =>
    req (std.room (std.nadd (len v93) (len l126)) 32) <|
    letO (v93 ++ l126) fun l128 =>
    some l128
  ) : Option ((List TRect))).bind fun y117 =>
 letO y117 fun w123 =>
 some (.inl (std.add .i64 v92 1, w123)))
 (some (.inr v93))
noncomputable def L_impl_contentBoxes_x69 (y65 : (List Telement)) (v3 : List (List TRect)) : (Int × (List TRect)) → Option ((Int × (List TRect)) ⊕ (((List TRect)))) := fun x69 =>
 letO x69.1 fun v67 =>
 letO x69.2 fun v68 =>
 br (std.lt v67 (std.ofN (len y65)))
 (req (std.inR v67 (len y65)) <|
 ((
    req (std.inR (gd y65 (std.nadd 0 (std.toN v67))).gcell (len v3)) <|
    some (std.ofN (len (gd v3 (std.nadd 0 (std.toN (gd y65 (std.nadd 0 (std.toN v67))).gcell)))), 0)
  ) : Option (Int × Int)).bind fun y82 =>
 letO y82.1 fun w88 =>
 letO y82.2 fun w89 =>
 req (std.inR (gd y65 (std.nadd 0 (std.toN v67))).gcell (len v3)) <|
 (whileP (σ := Int × (List TRect)) (ρ := ((List TRect))) (L_impl_contentBoxes_x94 y65 w88 v3 v67) (w89, v68)).bind fun y95 =>
 letO y95 fun y95k0 =>
 letO y95k0 fun w132 =>
 some (.inl (std.add .i64 v67 1, w132)))
 (some (.inr v68))
noncomputable def L_impl_contentBoxes_x43 (a0 : TLibrary) (v2 : Int) : (Int × (List TRect)) → Option ((Int × (List TRect)) ⊕ (((List TRect)))) := fun x43 =>
 letO x43.1 fun v41 =>
 letO x43.2 fun v42 =>
 br (std.lt v41 (std.ofN (len (gd a0.fCells (std.toN v2)).fLabels)))
 (req (std.inR v41 (len (gd a0.fCells (std.toN v2)).fLabels)) <|
 (F_impl_unitRect (gd (gd a0.fCells (std.toN v2)).fLabels (std.toN v41)).fAt).bind fun y56 =>
 letO ([y56] : List TRect) fun l58 =>
 req (std.room (std.nadd (len v42) (len l58)) 32) <|
 letO (v42 ++ l58) fun l60 =>
 some (.inl (std.add .i64 v41 1, l60)))
 (some (.inr v42))
noncomputable def L_impl_contentBoxes_x21 (a0 : TLibrary) (v2 : Int) : (Int × (List TRect)) → Option ((Int × (List TRect)) ⊕ (((List TRect)))) := fun x21 =>
 letO x21.1 fun v19 =>
 letO x21.2 fun v20 =>
 br (std.lt v19 (std.ofN (len (gd a0.fCells (std.toN v2)).fShapes)))
 (req (std.inR v19 (len (gd a0.fCells (std.toN v2)).fShapes)) <|
 letO ([(gd (gd a0.fCells (std.toN v2)).fShapes (std.toN v19)).fBox] : List TRect) fun l34 =>
 req (std.room (std.nadd (len v20) (len l34)) 32) <|
 letO (v20 ++ l34) fun l36 =>
 some (.inl (std.add .i64 v19 1, l36)))
 (some (.inr v20))
noncomputable def L_impl_contentBoxes_x4 (a0 : TLibrary) : (Int × (List (List TRect))) → Option ((Int × (List (List TRect))) ⊕ (((List (List TRect))))) := fun x4 =>
 letO x4.1 fun v2 =>
 letO x4.2 fun v3 =>
 br (std.lt v2 (std.ofN (len a0.fCells)))
 (req (std.inR v2 (len a0.fCells)) <|
 letO ([] : List TRect) fun l17 =>
 (whileP (σ := Int × (List TRect)) (ρ := ((List TRect))) (L_impl_contentBoxes_x21 a0 v2) (0, l17)).bind fun y22 =>
 letO y22 fun y22k0 =>
 letO y22k0 fun w40 =>
 (whileP (σ := Int × (List TRect)) (ρ := ((List TRect))) (L_impl_contentBoxes_x43 a0 v2) (0, w40)).bind fun y44 =>
 letO y44 fun y44k0 =>
 letO y44k0 fun w64 =>
 (F_impl_elements (gd a0.fCells (std.toN v2))).bind fun y65 =>
 (whileP (σ := Int × (List TRect)) (ρ := ((List TRect))) (L_impl_contentBoxes_x69 y65 v3) (0, w64)).bind fun y70 =>
 letO y70 fun y70k0 =>
 letO y70k0 fun w134 =>
 ((
    br (std.lt 0 (std.ofN (len w134)))
    ((F_impl_boxOf w134).bind fun y142 =>
    letO ([y142] : List TRect) fun l144 =>
    some l144)
    (some w134)
  ) : Option ((List TRect))).bind fun y135 =>
 letO y135 fun w141 =>
 ((
    letO ([w141] : List (List TRect)) fun l154 =>
    req (std.room (std.nadd (len v3) (len l154)) 24) <|
    letO (v3 ++ l154) fun l156 =>
    some l156
  ) : Option ((List (List TRect)))).bind fun y147 =>
 letO y147 fun w153 =>
 some (.inl (std.add .i64 v2 1, w153)))
 (some (.inr v3))
/-- impl.contentBoxes -/
noncomputable def F_impl_contentBoxes (a0 : TLibrary) : Option (List (List TRect)) :=
 (whileP (σ := Int × (List (List TRect))) (ρ := ((List (List TRect)))) (L_impl_contentBoxes_x4 a0) (0, ([] : List (List TRect)))).bind fun y5 =>
 letO y5 fun y5k0 =>
 letO y5k0 fun w160 =>
 some w160
set_option maxHeartbeats 4000000 in
theorem run_impl_contentBoxes (a0 : TLibrary) (r : List (List TRect)) (h : F_impl_contentBoxes a0 = some r) : Fun Try.prog 42 [.agg [.bs (len a0.fCells) 4 (row gd (encCell len gd) a0.fCells)]] [] (.c (.os 64000 0 (len r))) [(64000, .arr .rw [] (len r) 1 (row gd (oncL len gd 4 (encRect)) r))] true := by
 refine ow [19, 21, 22, 27, 100079] Try.func42 Try.ntmps42 ?_ (hv := (fun _ => ⟨trivial, ⟨fun i _ j _ => fl_oncL (vl_encRect) _ _, trivial⟩⟩)); unfold F_impl_contentBoxes at h; unfold L_impl_contentBoxes_x4 at h; unfold L_impl_contentBoxes_x21 at h; unfold L_impl_contentBoxes_x43 at h; unfold L_impl_contentBoxes_x69 at h; unfold L_impl_contentBoxes_x94 at h; have hf_impl_boxOf := @run_impl_boxOf
 have hf_impl_elements := @run_impl_elements; have hf_impl_moveRect := @run_impl_moveRect; have hf_impl_unitRect := @run_impl_unitRect; generalize hLEN : @len = LEN, hGD : @gd = GD, hA : std = A, hP : Try.prog = P at *; cbv; have e1 : 0 = LEN ([] : List (List TRect)) := by subst hLEN; rfl
 refine ⟨_, (co e1), _, row GD (oncL LEN GD 4 (encRect)) ([] : List (List TRect)), e1, wkOf ?_, ?_⟩
 ·intro i hi j hj; rw [← e1] at hi; subst hGD; omega
 cbv
 revert h; refine ln (.exit 0) (fun x => (sparse 89 [(3, .c (.os 960 0 (LEN x.2))), (17, .c (.bs (LEN a0.fCells) 4 (row GD (encCell LEN GD) a0.fCells))), (18, .c (.v (.int .i64 (A.ofN (LEN a0.fCells))))), (19, .c (.v (.int .i64 x.1)))] [(960, .arr .rw [] (LEN x.2) 1 (row GD (oncL LEN GD 4 (encRect)) x.2))])) (fun w => (sparse 89 [(3, .c (.os 960 0 (LEN w)))] [(960, .arr .rw [] (LEN w) 1 (row GD (oncL LEN GD 4 (encRect)) w))])) zb ?_ ?_
 ·rintro ⟨v2, v3⟩ z h K hK hY; replace h := oz (oz h); dsimp only at h; cbv; revert h; refine fk ?_ ?_ <;> intro h <;> cbv
  ·revert h; refine ra fun c16 h => ?_; revert h; refine rl fun l17 hl17 h => ?_; have e18 : 0 = LEN l17 := by subst hl17 hLEN; rfl
   refine ⟨_, (co e18), _, row GD (encRect) l17, e18, wkOf ?_, ?_⟩
   ·intro i hi j hj; rw [← e18] at hi; subst hl17; subst hGD; omega
   cbv
   revert h; refine ln (.exit 2) (fun x => (sparse 89 [(3, .c (.os 960 0 (LEN v3))), (5, .c (.ptr 320 0)), (6, .c (.os 1472 0 (LEN x.2))), (17, .c (.bs (LEN a0.fCells) 4 (row GD (encCell LEN GD) a0.fCells))), (18, .c (.v (.int .i64 (A.ofN (LEN a0.fCells))))), (19, .c (.v (.int .i64 v2))), (25, .c (.bs (LEN (GD a0.fCells (A.toN v2)).fShapes) 5 (row GD (encShape) (GD a0.fCells (A.toN v2)).fShapes))), (26, .c (.v (.int .i64 (A.ofN (LEN (GD a0.fCells (A.toN v2)).fShapes))))), (27, .c (.v (.int .i64 x.1)))] [(960, .arr .rw [] (LEN v3) 1 (row GD (oncL LEN GD 4 (encRect)) v3)), (320, .var [.v (.string (GD a0.fCells (A.toN v2)).fName), .bs (LEN (GD a0.fCells (A.toN v2)).fShapes) 5 (row GD (encShape) (GD a0.fCells (A.toN v2)).fShapes), .bs (LEN (GD a0.fCells (A.toN v2)).fLabels) 4 (row GD (encLabel) (GD a0.fCells (A.toN v2)).fLabels), .bs (LEN (GD a0.fCells (A.toN v2)).fInstances) 8 (row GD (encInstance) (GD a0.fCells (A.toN v2)).fInstances)]), (1472, .arr .rw [] (LEN x.2) 4 (row GD (encRect) x.2))])) (fun w => (sparse 89 [(3, .c (.os 960 0 (LEN v3))), (5, .c (.ptr 320 0)), (6, .c (.os 1472 0 (LEN w))), (17, .c (.bs (LEN a0.fCells) 4 (row GD (encCell LEN GD) a0.fCells))), (18, .c (.v (.int .i64 (A.ofN (LEN a0.fCells))))), (19, .c (.v (.int .i64 v2)))] [(960, .arr .rw [] (LEN v3) 1 (row GD (oncL LEN GD 4 (encRect)) v3)), (320, .var [.v (.string (GD a0.fCells (A.toN v2)).fName), .bs (LEN (GD a0.fCells (A.toN v2)).fShapes) 5 (row GD (encShape) (GD a0.fCells (A.toN v2)).fShapes), .bs (LEN (GD a0.fCells (A.toN v2)).fLabels) 4 (row GD (encLabel) (GD a0.fCells (A.toN v2)).fLabels), .bs (LEN (GD a0.fCells (A.toN v2)).fInstances) 8 (row GD (encInstance) (GD a0.fCells (A.toN v2)).fInstances)]), (1472, .arr .rw [] (LEN w) 4 (row GD (encRect) w))])) zb ?_ ?_
   ·rintro ⟨v19, v20⟩ z h K hK hY; replace h := oz (oz h); dsimp only at h; cbv; revert h; refine fk ?_ ?_ <;> intro h <;> cbv
    ·revert h; refine ra fun c33 h => ?_; revert h; refine rl fun l34 hl34 h => ?_; have e35 : 1 = LEN l34 := by subst hl34 hLEN; rfl
     refine ⟨_, (co e35), _, row GD (encRect) l34, e35, wkOf ?_, ?_⟩
     ·intro i hi j hj; rw [← e35] at hi; subst hl34; subst hGD; obtain rfl : i = 0 := (by omega) <;> obtain rfl | rfl | rfl | rfl : j = 0 ∨ j = 1 ∨ j = 2 ∨ j = 3 := (by omega)
      all_goals rfl
     cbv; revert h; refine rq fun c38 => rl fun l36 hl36 h => ?_; have e37 := nl hA hLEN hl36; refine ⟨c38, _, (co e37), _, row GD (encRect) l36, e37, wkOf ?_, ?_⟩
     ·subst hGD hLEN hA; exact app_os (off := 0) (pl_encRect) hl36 (Nat.le_refl _)
     cbv; exact dm
    exact dx
   intro w40 h s q30; replace h := oz (oz h); cbv; refine ⟨_, q30, ?_⟩; cbv
   revert h; refine ln (.exit 4) (fun x => (sparse 89 [(3, .c (.os 960 0 (LEN v3))), (5, .c (.ptr 320 0)), (6, .c (.os 1472 0 (LEN x.2))), (17, .c (.bs (LEN a0.fCells) 4 (row GD (encCell LEN GD) a0.fCells))), (18, .c (.v (.int .i64 (A.ofN (LEN a0.fCells))))), (19, .c (.v (.int .i64 v2))), (38, .c (.bs (LEN (GD a0.fCells (A.toN v2)).fLabels) 4 (row GD (encLabel) (GD a0.fCells (A.toN v2)).fLabels))), (39, .c (.v (.int .i64 (A.ofN (LEN (GD a0.fCells (A.toN v2)).fLabels))))), (40, .c (.v (.int .i64 x.1)))] [(960, .arr .rw [] (LEN v3) 1 (row GD (oncL LEN GD 4 (encRect)) v3)), (320, .var [.v (.string (GD a0.fCells (A.toN v2)).fName), .bs (LEN (GD a0.fCells (A.toN v2)).fShapes) 5 (row GD (encShape) (GD a0.fCells (A.toN v2)).fShapes), .bs (LEN (GD a0.fCells (A.toN v2)).fLabels) 4 (row GD (encLabel) (GD a0.fCells (A.toN v2)).fLabels), .bs (LEN (GD a0.fCells (A.toN v2)).fInstances) 8 (row GD (encInstance) (GD a0.fCells (A.toN v2)).fInstances)]), (1472, .arr .rw [] (LEN x.2) 4 (row GD (encRect) x.2))])) (fun w => (sparse 89 [(3, .c (.os 960 0 (LEN v3))), (5, .c (.ptr 320 0)), (6, .c (.os 1472 0 (LEN w))), (17, .c (.bs (LEN a0.fCells) 4 (row GD (encCell LEN GD) a0.fCells))), (18, .c (.v (.int .i64 (A.ofN (LEN a0.fCells))))), (19, .c (.v (.int .i64 v2)))] [(960, .arr .rw [] (LEN v3) 1 (row GD (oncL LEN GD 4 (encRect)) v3)), (320, .var [.v (.string (GD a0.fCells (A.toN v2)).fName), .bs (LEN (GD a0.fCells (A.toN v2)).fShapes) 5 (row GD (encShape) (GD a0.fCells (A.toN v2)).fShapes), .bs (LEN (GD a0.fCells (A.toN v2)).fLabels) 4 (row GD (encLabel) (GD a0.fCells (A.toN v2)).fLabels), .bs (LEN (GD a0.fCells (A.toN v2)).fInstances) 8 (row GD (encInstance) (GD a0.fCells (A.toN v2)).fInstances)]), (1472, .arr .rw [] (LEN w) 4 (row GD (encRect) w))])) zb ?_ ?_
   ·rintro ⟨v41, v42⟩ z h K hK hY; replace h := oz (oz h); dsimp only at h; cbv; revert h; refine fk ?_ ?_ <;> intro h <;> cbv
    ·revert h; refine ra fun c55 h => ?_; revert h; refine rk0 (hf_impl_unitRect _) fun y56 h => ?_; cbv; revert h; refine rl fun l58 hl58 h => ?_; have e59 : 1 = LEN l58 := by subst hl58 hLEN; rfl
     refine ⟨_, (co e59), _, row GD (encRect) l58, e59, wkOf ?_, ?_⟩
     ·intro i hi j hj; rw [← e59] at hi; subst hl58; subst hGD; obtain rfl : i = 0 := (by omega) <;> obtain rfl | rfl | rfl | rfl : j = 0 ∨ j = 1 ∨ j = 2 ∨ j = 3 := (by omega)
      all_goals rfl
     cbv; revert h; refine rq fun c62 => rl fun l60 hl60 h => ?_; have e61 := nl hA hLEN hl60; refine ⟨c62, _, (co e61), _, row GD (encRect) l60, e61, wkOf ?_, ?_⟩
     ·subst hGD hLEN hA; exact app_os (off := 0) (pl_encRect) hl60 (Nat.le_refl _)
     cbv; exact dm
    exact dx
   intro w64 h s q52; replace h := oz (oz h); cbv; refine ⟨_, q52, ?_⟩; cbv; revert h; refine rk [] [(64000, 3328)] (hf_impl_elements _) (fun _ => zf) fun y65 h => ⟨_, rfl, _, _, rfl, fun _ _ _ _ => .refl _, ?_⟩
   cbv
   revert h; refine ln (.exit 6) (fun x => (sparse 89 [(3, .c (.os 960 0 (LEN v3))), (6, .c (.os 1472 0 (LEN x.2))), (17, .c (.bs (LEN a0.fCells) 4 (row GD (encCell LEN GD) a0.fCells))), (18, .c (.v (.int .i64 (A.ofN (LEN a0.fCells))))), (19, .c (.v (.int .i64 v2))), (52, .c (.os 3328 0 (LEN y65))), (53, .c (.v (.int .i64 (A.ofN (LEN y65))))), (54, .c (.v (.int .i64 x.1)))] [(960, .arr .rw [] (LEN v3) 1 (row GD (oncL LEN GD 4 (encRect)) v3)), (1472, .arr .rw [] (LEN x.2) 4 (row GD (encRect) x.2)), (3328, .arr .rw [] (LEN y65) 4 (row GD (encelement) y65))])) (fun w => (sparse 89 [(3, .c (.os 960 0 (LEN v3))), (6, .c (.os 1472 0 (LEN w))), (17, .c (.bs (LEN a0.fCells) 4 (row GD (encCell LEN GD) a0.fCells))), (18, .c (.v (.int .i64 (A.ofN (LEN a0.fCells))))), (19, .c (.v (.int .i64 v2)))] [(960, .arr .rw [] (LEN v3) 1 (row GD (oncL LEN GD 4 (encRect)) v3)), (1472, .arr .rw [] (LEN w) 4 (row GD (encRect) w))])) zb ?_ ?_
   ·rintro ⟨v67, v68⟩ z h K hK hY; replace h := oz (oz h); dsimp only at h; cbv; revert h; refine fk ?_ ?_ <;> intro h <;> cbv
    ·revert h; refine ra fun c81 h => ?_; refine ai c81 ?_
     revert h; refine cu (fun y82 => (sparse 89 [(3, .c (.os 960 0 (LEN v3))), (6, .c (.os 1472 0 (LEN v68))), (12, .c (.ptr 768 0)), (17, .c (.bs (LEN a0.fCells) 4 (row GD (encCell LEN GD) a0.fCells))), (18, .c (.v (.int .i64 (A.ofN (LEN a0.fCells))))), (19, .c (.v (.int .i64 v2))), (52, .c (.os 3328 0 (LEN y65))), (53, .c (.v (.int .i64 (A.ofN (LEN y65))))), (54, .c (.v (.int .i64 v67))), (62, .c (.os 3970 0 (LEN (GD v3 (A.nadd 0 (A.toN (GD y65 (A.nadd 0 (A.toN v67))).gcell)))))), (63, .c (.v (.int .i64 y82.1))), (64, .c (.v (.int .i64 y82.2)))] [(960, .arr .rw [3970] (LEN v3) 1 (patchC (row GD (oncL LEN GD 4 (encRect)) v3) (A.nadd 0 (A.toN (GD y65 (A.nadd 0 (A.toN v67))).gcell)) [.os 3970 0 (LEN (GD v3 (A.nadd 0 (A.toN (GD y65 (A.nadd 0 (A.toN v67))).gcell))))])), (1472, .arr .rw [] (LEN v68) 4 (row GD (encRect) v68)), (768, .var [.v (.int .i64 (GD y65 (A.nadd 0 (A.toN v67))).gcell), .v (.int .i64 (GD y65 (A.nadd 0 (A.toN v67))).gplace.fOrientation), .v (.int .i64 (GD y65 (A.nadd 0 (A.toN v67))).gplace.fX), .v (.int .i64 (GD y65 (A.nadd 0 (A.toN v67))).gplace.fY)]), (3328, .arr .rw [] (LEN y65) 4 (row GD (encelement) y65)), (3970, .arr .rw [] (LEN (GD v3 (A.nadd 0 (A.toN (GD y65 (A.nadd 0 (A.toN v67))).gcell)))) 4 (row GD (encRect) (GD v3 (A.nadd 0 (A.toN (GD y65 (A.nadd 0 (A.toN v67))).gcell)))))])) ?_ ?_
     ·intro y82 S hS h; cbv; revert h; refine ra fun c90 h => ?_; refine ai c90 ?_; refine ⟨_, rfl, _, (patchC (row GD (oncL LEN GD 4 (encRect)) v3) (A.nadd 0 (A.toN (GD y65 (A.nadd 0 (A.toN v67))).gcell)) [.os 3970 0 (LEN (GD v3 (A.nadd 0 (A.toN (GD y65 (A.nadd 0 (A.toN v67))).gcell))))]), rfl, wkOf (patch_of zr), ?_⟩
      refine ⟨_, row GD (encRect) (GD v3 (A.nadd 0 (A.toN (GD y65 (A.nadd 0 (A.toN v67))).gcell))), rfl, wkOf (fun i _ j _ => plain_cp (pl_encRect _ _)), ?_⟩; cbv; exact dn
     rintro ⟨w88, w89⟩ h; replace h := oz (oz h); dsimp only at h; revert h; refine rq fun c91 h => ?_; cbv
     revert h; refine ln (.exit 8) (fun x => (sparse 89 [(3, .c (.os 960 0 (LEN v3))), (6, .c (.os 1472 0 (LEN x.2))), (12, .c (.ptr 768 0)), (17, .c (.bs (LEN a0.fCells) 4 (row GD (encCell LEN GD) a0.fCells))), (18, .c (.v (.int .i64 (A.ofN (LEN a0.fCells))))), (19, .c (.v (.int .i64 v2))), (52, .c (.os 3328 0 (LEN y65))), (53, .c (.v (.int .i64 (A.ofN (LEN y65))))), (54, .c (.v (.int .i64 v67))), (62, .c (.os 3970 0 (LEN (GD v3 (A.nadd 0 (A.toN (GD y65 (A.nadd 0 (A.toN v67))).gcell)))))), (63, .c (.v (.int .i64 w88))), (64, .c (.v (.int .i64 x.1)))] [(960, .arr .rw [3970] (LEN v3) 1 (patchC (row GD (oncL LEN GD 4 (encRect)) v3) (A.nadd 0 (A.toN (GD y65 (A.nadd 0 (A.toN v67))).gcell)) [.os 3970 0 (LEN (GD v3 (A.nadd 0 (A.toN (GD y65 (A.nadd 0 (A.toN v67))).gcell))))])), (1472, .arr .rw [] (LEN x.2) 4 (row GD (encRect) x.2)), (768, .var [.v (.int .i64 (GD y65 (A.nadd 0 (A.toN v67))).gcell), .v (.int .i64 (GD y65 (A.nadd 0 (A.toN v67))).gplace.fOrientation), .v (.int .i64 (GD y65 (A.nadd 0 (A.toN v67))).gplace.fX), .v (.int .i64 (GD y65 (A.nadd 0 (A.toN v67))).gplace.fY)]), (3328, .arr .rw [] (LEN y65) 4 (row GD (encelement) y65)), (3970, .arr .rw [] (LEN (GD v3 (A.nadd 0 (A.toN (GD y65 (A.nadd 0 (A.toN v67))).gcell)))) 4 (row GD (encRect) (GD v3 (A.nadd 0 (A.toN (GD y65 (A.nadd 0 (A.toN v67))).gcell)))))])) (fun w => (sparse 89 [(3, .c (.os 960 0 (LEN v3))), (6, .c (.os 1472 0 (LEN w))), (17, .c (.bs (LEN a0.fCells) 4 (row GD (encCell LEN GD) a0.fCells))), (18, .c (.v (.int .i64 (A.ofN (LEN a0.fCells))))), (19, .c (.v (.int .i64 v2))), (52, .c (.os 3328 0 (LEN y65))), (53, .c (.v (.int .i64 (A.ofN (LEN y65))))), (54, .c (.v (.int .i64 v67)))] [(960, .arr .rw [] (LEN v3) 1 (row GD (oncL LEN GD 4 (encRect)) v3)), (1472, .arr .rw [] (LEN w) 4 (row GD (encRect) w)), (3328, .arr .rw [] (LEN y65) 4 (row GD (encelement) y65))])) zb ?_ ?_
     ·rintro ⟨v92, v93⟩ z h K hK hY; replace h := oz (oz h); dsimp only at h; cbv; revert h; refine fk ?_ ?_ <;> intro h <;> cbv
      ·revert h; refine cu (fun y106 => (sparse 89 [(3, .c (.os 960 0 (LEN v3))), (6, .c (.os 1472 0 (LEN v93))), (12, .c (.ptr 768 0)), (14, .c (.ptr 896 0)), (17, .c (.bs (LEN a0.fCells) 4 (row GD (encCell LEN GD) a0.fCells))), (18, .c (.v (.int .i64 (A.ofN (LEN a0.fCells))))), (19, .c (.v (.int .i64 v2))), (52, .c (.os 3328 0 (LEN y65))), (53, .c (.v (.int .i64 (A.ofN (LEN y65))))), (54, .c (.v (.int .i64 v67))), (62, .c (.os 3970 0 (LEN (GD v3 (A.nadd 0 (A.toN (GD y65 (A.nadd 0 (A.toN v67))).gcell)))))), (63, .c (.v (.int .i64 w88))), (64, .c (.v (.int .i64 v92)))] [(960, .arr .rw [3970] (LEN v3) 1 (patchC (row GD (oncL LEN GD 4 (encRect)) v3) (A.nadd 0 (A.toN (GD y65 (A.nadd 0 (A.toN v67))).gcell)) [.os 3970 0 (LEN (GD v3 (A.nadd 0 (A.toN (GD y65 (A.nadd 0 (A.toN v67))).gcell))))])), (1472, .arr .rw [] (LEN v93) 4 (row GD (encRect) v93)), (768, .var [.v (.int .i64 (GD y65 (A.nadd 0 (A.toN v67))).gcell), .v (.int .i64 (GD y65 (A.nadd 0 (A.toN v67))).gplace.fOrientation), .v (.int .i64 (GD y65 (A.nadd 0 (A.toN v67))).gplace.fX), .v (.int .i64 (GD y65 (A.nadd 0 (A.toN v67))).gplace.fY)]), (896, .var [.v (.int .i64 y106.1), .v (.int .i64 y106.2.1), .v (.int .i64 y106.2.2.1), .v (.int .i64 y106.2.2.2)]), (3328, .arr .rw [] (LEN y65) 4 (row GD (encelement) y65)), (3970, .arr .rw [] (LEN (GD v3 (A.nadd 0 (A.toN (GD y65 (A.nadd 0 (A.toN v67))).gcell)))) 4 (row GD (encRect) (GD v3 (A.nadd 0 (A.toN (GD y65 (A.nadd 0 (A.toN v67))).gcell)))))])) ?_ ?_
       ·intro y106 S hS h; cbv; revert h; refine ra fun c116 h => ?_; refine ai c116 ?_; exact dn
       rintro ⟨w112, w113, w114, w115⟩ h; replace h := oz (oz (oz (oz h))); dsimp only at h; cbv
       revert h; refine cu (fun y117 => (sparse 89 [(3, .c (.os 960 0 (LEN v3))), (6, .c (.os 1472 0 (LEN y117))), (12, .c (.ptr 768 0)), (17, .c (.bs (LEN a0.fCells) 4 (row GD (encCell LEN GD) a0.fCells))), (18, .c (.v (.int .i64 (A.ofN (LEN a0.fCells))))), (19, .c (.v (.int .i64 v2))), (52, .c (.os 3328 0 (LEN y65))), (53, .c (.v (.int .i64 (A.ofN (LEN y65))))), (54, .c (.v (.int .i64 v67))), (62, .c (.os 3970 0 (LEN (GD v3 (A.nadd 0 (A.toN (GD y65 (A.nadd 0 (A.toN v67))).gcell)))))), (63, .c (.v (.int .i64 w88))), (64, .c (.v (.int .i64 v92)))] [(960, .arr .rw [3970] (LEN v3) 1 (patchC (row GD (oncL LEN GD 4 (encRect)) v3) (A.nadd 0 (A.toN (GD y65 (A.nadd 0 (A.toN v67))).gcell)) [.os 3970 0 (LEN (GD v3 (A.nadd 0 (A.toN (GD y65 (A.nadd 0 (A.toN v67))).gcell))))])), (1472, .arr .rw [] (LEN y117) 4 (row GD (encRect) y117)), (768, .var [.v (.int .i64 (GD y65 (A.nadd 0 (A.toN v67))).gcell), .v (.int .i64 (GD y65 (A.nadd 0 (A.toN v67))).gplace.fOrientation), .v (.int .i64 (GD y65 (A.nadd 0 (A.toN v67))).gplace.fX), .v (.int .i64 (GD y65 (A.nadd 0 (A.toN v67))).gplace.fY)]), (3328, .arr .rw [] (LEN y65) 4 (row GD (encelement) y65)), (3970, .arr .rw [] (LEN (GD v3 (A.nadd 0 (A.toN (GD y65 (A.nadd 0 (A.toN v67))).gcell)))) 4 (row GD (encRect) (GD v3 (A.nadd 0 (A.toN (GD y65 (A.nadd 0 (A.toN v67))).gcell)))))])) ?_ fun w123 => rz fun h => ?_
       ·intro y117 S hS h; cbv; revert h; refine rk0 (hf_impl_moveRect _ _) fun y124 h => ?_; cbv; revert h; refine rl fun l126 hl126 h => ?_; have e127 : 1 = LEN l126 := by subst hl126 hLEN; rfl
        refine ⟨_, (co e127), _, row GD (encRect) l126, e127, wkOf ?_, ?_⟩
        ·intro i hi j hj; rw [← e127] at hi; subst hl126; subst hGD; obtain rfl : i = 0 := (by omega) <;> obtain rfl | rfl | rfl | rfl : j = 0 ∨ j = 1 ∨ j = 2 ∨ j = 3 := (by omega)
         all_goals rfl
        cbv; revert h; refine rq fun c130 => rl fun l128 hl128 h => ?_; have e129 := nl hA hLEN hl128; refine ⟨c130, _, (co e129), _, row GD (encRect) l128, e129, wkOf ?_, ?_⟩
        ·subst hGD hLEN hA; exact app_os (off := 0) (pl_encRect) hl128 (Nat.le_refl _)
        cbv; exact dn
       cbv; exact dm
      injection h with h; refine hY _ h.symm _ ?_; refine St.le_trans (le_foldP 960 0 3970 rfl rfl rfl (by decide) (by subst hA; exact idx_lt c91) (by decide) rfl (fun _ _ => rfl)) ?_; exact le_sparse rfl zl ⟨oP (fun _ _ => rfl) (by subst hGD hLEN hA; exact patch_same zr), oS, oS, trivial⟩ rfl
     intro w132 h s q103; replace h := oz (oz h); cbv; refine ⟨_, q103, ?_⟩; cbv; exact dm
    exact dx
   intro w134 h s q78; replace h := oz (oz h); cbv; refine ⟨_, q78, ?_⟩; cbv
   revert h; refine cu (fun y135 => some (sparse 89 [(3, .c (.os 960 0 (LEN v3))), (6, .c (.os 5248 0 (LEN y135))), (17, .c (.bs (LEN a0.fCells) 4 (row GD (encCell LEN GD) a0.fCells))), (18, .c (.v (.int .i64 (A.ofN (LEN a0.fCells))))), (19, .c (.v (.int .i64 v2)))] [(960, .arr .rw [] (LEN v3) 1 (row GD (oncL LEN GD 4 (encRect)) v3)), (5248, .arr .rw [] (LEN y135) 4 (row GD (encRect) y135))])) ?_ fun w141 => rz fun h => ?_
   ·intro y135 S hS h; cbv; revert h; refine fk ?_ ?_ <;> intro h <;> cbv
    ·revert h; refine rk [] [] (hf_impl_boxOf _) (fun _ => zg (les_cons (give_os (pl_encRect) rfl rfl rfl) (les_nil))) fun y142 h => ?_; cbv; revert h; refine rl fun l144 hl144 h => ?_; have e145 : 1 = LEN l144 := by subst hl144 hLEN; rfl
     refine ⟨_, (co e145), _, row GD (encRect) l144, e145, wkOf ?_, ?_⟩
     ·intro i hi j hj; rw [← e145] at hi; subst hl144; subst hGD; obtain rfl : i = 0 := (by omega) <;> obtain rfl | rfl | rfl | rfl : j = 0 ∨ j = 1 ∨ j = 2 ∨ j = 3 := (by omega)
      all_goals rfl
     cbv; exact dn
    injection h with h; subst h; subst hS; show St.le _ _; refine St.le_trans (le_ren 1472 5248 (by decide) rfl) ?_; exact zb
   cbv; revert h; refine cu (fun y147 => (sparse 89 [(3, .c (.os 960 0 (LEN y147))), (17, .c (.bs (LEN a0.fCells) 4 (row GD (encCell LEN GD) a0.fCells))), (18, .c (.v (.int .i64 (A.ofN (LEN a0.fCells))))), (19, .c (.v (.int .i64 v2)))] [(960, .arr .rw [] (LEN y147) 1 (row GD (oncL LEN GD 4 (encRect)) y147))])) ?_ fun w153 => rz fun h => ?_
   ·intro y147 S hS h; cbv; revert h; refine rl fun l154 hl154 h => ?_; have e155 : 1 = LEN l154 := by subst hl154 hLEN; rfl
    refine ⟨_, (co e155), _, (patchC (fun _ _ => AC.junk) 0 [.os 5248 0 (LEN w141)]), e155, wkOf ?_, ?_⟩
    ·refine patch_one (by subst hl154 hLEN; rfl) ?_; exact zr
    cbv; revert h; refine rq fun c158 => rl fun l156 hl156 h => ?_; have e157 := nl hA hLEN hl156; refine ⟨c158, _, (co e157), _, (patchC (row GD (oncL LEN GD 4 (encRect)) v3) (LEN v3) [.os 5248 0 (LEN w141)]), e157, wkOf ?_, ?_⟩
    ·subst hLEN hA; refine patch_joinG (by first | (rw [hl156]; simp [len]; done) | (rw [hl156]; simp [len]; omega) | (subst_vars; simp [len])) ?_; exact zr
    cbv; rw [hl154] at hl156; injection h with h; subst h; subst hS; show St.le _ _; refine St.le_trans (le_foldP 960 0 5248 rfl rfl rfl (by decide) (by subst hLEN; exact app_lt hl156) (by decide) rfl (fun _ _ => rfl)) ?_; exact le_sparse rfl zl ⟨oP (fun _ _ => rfl) (by subst hGD hLEN hA; exact patch_app hl156 (Nat.le_refl _) zr), trivial⟩ rfl
   cbv; exact dm
  exact dx
 intro w160 h s q13; replace h := oz (oz h); cbv; refine ⟨_, q13, ?_⟩; cbv; injection h with h; subst h; exact ⟨_, le_ren 960 64000 (by decide) rfl, lR _, zo, rfl⟩

/-- impl.common -/
noncomputable def F_impl_common (a0 : TRect) (a1 : TRect) : Option (TRect) :=
 some (TRect.mk (std.imax a0.fX0 a1.fX0) (std.imax a0.fY0 a1.fY0) (std.imin a0.fX1 a1.fX1) (std.imin a0.fY1 a1.fY1))
set_option maxHeartbeats 4000000 in
theorem run_impl_common (a0 : TRect) (a1 : TRect) (r : TRect) (h : F_impl_common a0 a1 = some r) : Fun Try.prog 22 [.agg [.v (.int .i64 a0.fX0), .v (.int .i64 a0.fY0), .v (.int .i64 a0.fX1), .v (.int .i64 a0.fY1)], .agg [.v (.int .i64 a1.fX0), .v (.int .i64 a1.fY0), .v (.int .i64 a1.fX1), .v (.int .i64 a1.fY1)]] [] (.agg [.v (.int .i64 r.fX0), .v (.int .i64 r.fY0), .v (.int .i64 r.fX1), .v (.int .i64 r.fY1)]) [] true := by
 refine ow [] Try.func22 Try.ntmps22 ?_ (hv := (fun _ => ⟨(by simp [AV.flat, AV.flat1, AC.flat]), trivial⟩)); unfold F_impl_common at h; generalize hLEN : @len = LEN, hGD : @gd = GD, hA : std = A, hP : Try.prog = P at *; cbv; exact df
/-- impl.anywhere -/
noncomputable def F_impl_anywhere (a0 : TRect) (a1 : TRect) : Option (Bool) :=
 (F_impl_common a0 a1).bind fun y1 =>
 ((
    br (std.lt y1.fX0 y1.fX1)
    (some (std.lt y1.fY0 y1.fY1))
    (some false)
  ) : Option (Bool)).bind fun y3 =>
 letO y3 fun w9 =>
 some w9
set_option maxHeartbeats 4000000 in
theorem run_impl_anywhere (a0 : TRect) (a1 : TRect) (r : Bool) (h : F_impl_anywhere a0 a1 = some r) : Fun Try.prog 43 [.agg [.v (.int .i64 a0.fX0), .v (.int .i64 a0.fY0), .v (.int .i64 a0.fX1), .v (.int .i64 a0.fY1)], .agg [.v (.int .i64 a1.fX0), .v (.int .i64 a1.fY0), .v (.int .i64 a1.fX1), .v (.int .i64 a1.fY1)]] [] (.c (.v (.bool r))) [] true := by
 refine ow [2] Try.func43 Try.ntmps43 ?_; unfold F_impl_anywhere at h; have hf_impl_common := @run_impl_common; generalize hLEN : @len = LEN, hGD : @gd = GD, hA : std = A, hP : Try.prog = P at *; cbv; revert h; refine rk0 (hf_impl_common _ _) fun y1 h => ?_; cbv; revert h; refine cu (fun y3 => (sparse 21 [(4, .c (.v (.bool y3)))] [])) (fun y3 S hS h => rg) fun w9 => rz fun h => ?_; cbv; exact df

noncomputable def L_impl_visits_x8 (a0 : TLibrary) (a1 : List (List TRect)) (a2 : TRect) (a3 : TOccurrence) (F_REC_impl_visits : TLibrary → (List (List TRect)) → TRect → TOccurrence → Option (List TOccurrence)) (y4 : (List Telement)) : (Int × (List TOccurrence)) → Option ((Int × (List TOccurrence)) ⊕ (((List TOccurrence)))) := fun x8 =>
 letO x8.1 fun v6 =>
 letO x8.2 fun v7 =>
 br (std.lt v6 (std.ofN (len y4)))
 (req (std.inR v6 (len y4)) <|
 (F_impl_compose (gd y4 (std.nadd 0 (std.toN v6))).gplace a3.fPlace).bind fun y21 =>
 req (std.inR (gd y4 (std.nadd 0 (std.toN v6))).gcell (len a1)) <|
 ((
    br (std.lt 0 (std.ofN (len (gd a1 (std.toN (gd y4 (std.nadd 0 (std.toN v6))).gcell)))))
    (req (std.inR 0 (len (gd a1 (std.toN (gd y4 (std.nadd 0 (std.toN v6))).gcell)))) <|
    (F_impl_moveRect y21 (gd (gd a1 (std.toN (gd y4 (std.nadd 0 (std.toN v6))).gcell)) (std.toN 0))).bind fun y32 =>
    (F_impl_anywhere y32 a2).bind fun y34 =>
    some y34)
    (some false)
  ) : Option (Bool)).bind fun y24 =>
 letO y24 fun w30 =>
 ((
    br w30
    ((F_slices_Clone_Lint64_int64 a3.fPath).bind fun y44 =>
    letO ([v6] : List Int) fun l46 =>
    req (std.room (std.nadd (len y44) (len l46)) 8) <|
    letO (y44 ++ l46) fun l48 =>
    (F_REC_impl_visits (TLibrary.mk a0.fCells) a1 a2 (TOccurrence.mk (gd y4 (std.nadd 0 (std.toN v6))).gcell y21 l48)).bind fun y51 =>
    req (std.room (std.nadd (len v7) (len y51)) 56) <|
    letO (v7 ++ y51) fun l53 =>
    some l53)
    (some v7)
  ) : Option ((List TOccurrence))).bind fun y37 =>
 letO y37 fun w43 =>
 some (.inl (std.add .i64 v6 1, w43)))
 (some (.inr v7))
/-- impl.visits -/
noncomputable def FS_impl_visits (F_REC_impl_visits : TLibrary → (List (List TRect)) → TRect → TOccurrence → Option (List TOccurrence)) (a0 : TLibrary) (a1 : List (List TRect)) (a2 : TRect) (a3 : TOccurrence) : Option (List TOccurrence) :=
 letO ([a3] : List TOccurrence) fun l1 =>
 req (std.inR a3.fCell (len a0.fCells)) <|
 (F_impl_elements (gd a0.fCells (std.toN a3.fCell))).bind fun y4 =>
 (whileP (σ := Int × (List TOccurrence)) (ρ := ((List TOccurrence))) (L_impl_visits_x8 a0 a1 a2 a3 F_REC_impl_visits y4) (0, l1)).bind fun y9 =>
 letO y9 fun y9k0 =>
 letO y9k0 fun w58 =>
 some w58
set_option maxHeartbeats 4000000 in
theorem runS_impl_visits (F_REC_impl_visits : TLibrary → (List (List TRect)) → TRect → TOccurrence → Option (List TOccurrence)) (hf_REC_impl_visits : ∀ (a0 : TLibrary) (a1 : List (List TRect)) (a2 : TRect) (a3 : TOccurrence) (r : List TOccurrence), F_REC_impl_visits a0 a1 a2 a3 = some r → Fun Try.prog 41 [.agg [.bs (len a0.fCells) 4 (row gd (encCell len gd) a0.fCells)], .c (.bs (len a1) 1 (row gd (encL len gd 4 (encRect)) a1)), .agg [.v (.int .i64 a2.fX0), .v (.int .i64 a2.fY0), .v (.int .i64 a2.fX1), .v (.int .i64 a2.fY1)], .agg [.v (.int .i64 a3.fCell), .v (.int .i64 a3.fPlace.fOrientation), .v (.int .i64 a3.fPlace.fX), .v (.int .i64 a3.fPlace.fY), .bs (len a3.fPath) 1 (row gd (encI .i64) a3.fPath)]] [] (.c (.os 64000 0 (len r))) [(64000, .arr .rw [] (len r) 5 (row gd (encOccurrence len gd) r))] false) (a0 : TLibrary) (a1 : List (List TRect)) (a2 : TRect) (a3 : TOccurrence) (r : List TOccurrence) (h : FS_impl_visits F_REC_impl_visits a0 a1 a2 a3 = some r) : Fun Try.prog 41 [.agg [.bs (len a0.fCells) 4 (row gd (encCell len gd) a0.fCells)], .c (.bs (len a1) 1 (row gd (encL len gd 4 (encRect)) a1)), .agg [.v (.int .i64 a2.fX0), .v (.int .i64 a2.fY0), .v (.int .i64 a2.fX1), .v (.int .i64 a2.fY1)], .agg [.v (.int .i64 a3.fCell), .v (.int .i64 a3.fPlace.fOrientation), .v (.int .i64 a3.fPlace.fX), .v (.int .i64 a3.fPlace.fY), .bs (len a3.fPath) 1 (row gd (encI .i64) a3.fPath)]] [] (.c (.os 64000 0 (len r))) [(64000, .arr .rw [] (len r) 5 (row gd (encOccurrence len gd) r))] false := by
 refine ow [7, 100051] Try.func41 Try.ntmps41 ?_ (hv := (fun h => by cases h)); unfold FS_impl_visits at h; unfold L_impl_visits_x8 at h; have hf_impl_anywhere := @run_impl_anywhere; have hf_impl_compose := @run_impl_compose; have hf_impl_elements := @run_impl_elements; have hf_impl_moveRect := @run_impl_moveRect; have hf_slices_Clone_Lint64_int64 := @run_slices_Clone_Lint64_int64
 generalize hLEN : @len = LEN, hGD : @gd = GD, hA : std = A, hP : Try.prog = P at *; cbv; revert h; refine rl fun l1 hl1 h => ?_; have e2 : 1 = LEN l1 := by subst hl1 hLEN; rfl
 refine ⟨_, (co e2), _, row GD (encOccurrence LEN GD) l1, e2, wkOf ?_, ?_⟩
 ·intro i hi j hj; rw [← e2] at hi; subst hl1; subst hGD; obtain rfl : i = 0 := (by omega) <;> obtain rfl | rfl | rfl | rfl | rfl : j = 0 ∨ j = 1 ∨ j = 2 ∨ j = 3 ∨ j = 4 := (by omega)
  all_goals rfl
 cbv; revert h; refine ra fun c3 h => ?_; revert h; refine rk [] [(64000, 1472)] (hf_impl_elements _) (fun _ => zf) fun y4 h => ⟨_, rfl, _, _, rfl, fun _ _ _ _ => .refl _, ?_⟩
 cbv
 revert h; refine ln (.exit 0) (fun x => (sparse 71 [(1, .c (.bs (LEN a1) 1 (row GD (encL LEN GD 4 (encRect)) a1))), (4, .c (.ptr 256 0)), (6, .c (.ptr 384 0)), (7, .c (.ptr 448 0)), (9, .c (.os 1024 0 (LEN x.2))), (23, .c (.os 1472 0 (LEN y4))), (24, .c (.v (.int .i64 (A.ofN (LEN y4))))), (25, .c (.v (.int .i64 x.1)))] [(256, .var [.bs (LEN a0.fCells) 4 (row GD (encCell LEN GD) a0.fCells)]), (384, .var [.v (.int .i64 a2.fX0), .v (.int .i64 a2.fY0), .v (.int .i64 a2.fX1), .v (.int .i64 a2.fY1)]), (448, .var [.v (.int .i64 a3.fCell), .v (.int .i64 a3.fPlace.fOrientation), .v (.int .i64 a3.fPlace.fX), .v (.int .i64 a3.fPlace.fY), .bs (LEN a3.fPath) 1 (row GD (encI .i64) a3.fPath)]), (1024, .arr .rw [] (LEN x.2) 5 (row GD (encOccurrence LEN GD) x.2)), (1472, .arr .rw [] (LEN y4) 4 (row GD (encelement) y4))])) (fun w => (sparse 71 [(9, .c (.os 1024 0 (LEN w)))] [(1024, .arr .rw [] (LEN w) 5 (row GD (encOccurrence LEN GD) w))])) zb ?_ ?_
 ·rintro ⟨v6, v7⟩ z h K hK hY; replace h := oz (oz h); dsimp only at h; cbv; revert h; refine fk ?_ ?_ <;> intro h <;> cbv
  ·revert h; refine ra fun c20 h => ?_; refine ai c20 ?_; revert h; refine rk0 (hf_impl_compose _ _) fun y21 h => ?_; cbv; revert h; refine ra fun c23 h => ?_
   revert h; refine cu (fun y24 => (sparse 71 [(1, .c (.bs (LEN a1) 1 (row GD (encL LEN GD 4 (encRect)) a1))), (4, .c (.ptr 256 0)), (6, .c (.ptr 384 0)), (7, .c (.ptr 448 0)), (9, .c (.os 1024 0 (LEN v7))), (10, .c (.v (.int .i64 v6))), (11, .c (.ptr 704 0)), (12, .c (.ptr 768 0)), (23, .c (.os 1472 0 (LEN y4))), (24, .c (.v (.int .i64 (A.ofN (LEN y4))))), (25, .c (.v (.int .i64 v6))), (51, .c (.v (.bool y24)))] [(256, .var [.bs (LEN a0.fCells) 4 (row GD (encCell LEN GD) a0.fCells)]), (384, .var [.v (.int .i64 a2.fX0), .v (.int .i64 a2.fY0), .v (.int .i64 a2.fX1), .v (.int .i64 a2.fY1)]), (448, .var [.v (.int .i64 a3.fCell), .v (.int .i64 a3.fPlace.fOrientation), .v (.int .i64 a3.fPlace.fX), .v (.int .i64 a3.fPlace.fY), .bs (LEN a3.fPath) 1 (row GD (encI .i64) a3.fPath)]), (1024, .arr .rw [] (LEN v7) 5 (row GD (encOccurrence LEN GD) v7)), (704, .var [.v (.int .i64 (GD y4 (A.nadd 0 (A.toN v6))).gcell), .v (.int .i64 (GD y4 (A.nadd 0 (A.toN v6))).gplace.fOrientation), .v (.int .i64 (GD y4 (A.nadd 0 (A.toN v6))).gplace.fX), .v (.int .i64 (GD y4 (A.nadd 0 (A.toN v6))).gplace.fY)]), (768, .var [.v (.int .i64 y21.fOrientation), .v (.int .i64 y21.fX), .v (.int .i64 y21.fY)]), (1472, .arr .rw [] (LEN y4) 4 (row GD (encelement) y4))])) ?_ fun w30 => rz fun h => ?_
   ·intro y24 S hS h; cbv; revert h; refine fk ?_ ?_ <;> intro h <;> cbv
    ·revert h; refine ra fun c31 h => ?_; revert h; refine rk0 (hf_impl_moveRect _ _) fun y32 h => ?_; cbv; revert h; refine rk0 (hf_impl_anywhere _ _) fun y34 h => ?_; cbv; exact dn
    exact dn
   cbv
   revert h; refine cu (fun y37 => some (sparse 71 [(1, .c (.bs (LEN a1) 1 (row GD (encL LEN GD 4 (encRect)) a1))), (4, .c (.ptr 256 0)), (6, .c (.ptr 384 0)), (7, .c (.ptr 448 0)), (9, .c (.os 1024 0 (LEN y37))), (23, .c (.os 1472 0 (LEN y4))), (24, .c (.v (.int .i64 (A.ofN (LEN y4))))), (25, .c (.v (.int .i64 v6)))] [(256, .var [.bs (LEN a0.fCells) 4 (row GD (encCell LEN GD) a0.fCells)]), (384, .var [.v (.int .i64 a2.fX0), .v (.int .i64 a2.fY0), .v (.int .i64 a2.fX1), .v (.int .i64 a2.fY1)]), (448, .var [.v (.int .i64 a3.fCell), .v (.int .i64 a3.fPlace.fOrientation), .v (.int .i64 a3.fPlace.fX), .v (.int .i64 a3.fPlace.fY), .bs (LEN a3.fPath) 1 (row GD (encI .i64) a3.fPath)]), (1024, .arr .rw [] (LEN y37) 5 (row GD (encOccurrence LEN GD) y37)), (1472, .arr .rw [] (LEN y4) 4 (row GD (encelement) y4))])) ?_ fun w43 => rz fun h => ?_
   ·intro y37 S hS h; cbv; revert h; refine fk ?_ ?_ <;> intro h <;> cbv
    ·revert h; refine rk [] [(64000, 3456)] (hf_slices_Clone_Lint64_int64 _) (fun _ => zf) fun y44 h => ⟨_, rfl, _, _, rfl, fun _ _ _ _ => .refl _, ?_⟩
     cbv; revert h; refine rl fun l46 hl46 h => ?_; have e47 : 1 = LEN l46 := by subst hl46 hLEN; rfl
     refine ⟨_, (co e47), _, row GD (encI .i64) l46, e47, wkOf ?_, ?_⟩
     ·intro i hi j hj; rw [← e47] at hi; subst hl46; subst hGD; obtain rfl : i = 0 := (by omega); all_goals obtain rfl : j = 0 := by omega
      all_goals rfl
     cbv; revert h; refine rq fun c50 => rl fun l48 hl48 h => ?_; have e49 := nl hA hLEN hl48; refine ⟨c50, _, (co e49), _, row GD (encI .i64) l48, e49, wkOf ?_, ?_⟩
     ·subst hGD hLEN hA; exact app_os (off := 0) (fun _ _ => rfl) hl48 (Nat.le_refl _)
     cbv; revert h; refine rk [] [(64000, 4288)] (hf_REC_impl_visits _ _ _ _) (fun _ => zg (les_cons (lR _) (les_cons (lR _) (les_cons (lR _) (les_cons (le_agg ⟨lR _, lR _, lR _, lR _, give_os (fun _ _ => rfl) rfl rfl rfl, trivial⟩) (les_nil)))))) fun y51 h => ⟨_, rfl, _, _, rfl, fun _ _ _ _ => .refl _, _, _, rfl, fun _ _ _ _ => .refl _, ?_⟩
     cbv; revert h; refine rq fun c55 => rl fun l53 hl53 h => ?_; have e54 := nl hA hLEN hl53; refine ⟨c55, _, (co e54), _, row GD (encOccurrence LEN GD) l53, e54, wkOf ?_, ?_⟩
     ·subst hGD hLEN hA; exact app_os (off := 0) (pl_encOccurrence) hl53 (Nat.le_refl _)
     cbv; exact dn
    exact dn
   cbv; exact dm
  exact dx
 intro w58 h s q17; replace h := oz (oz h); cbv; refine ⟨_, q17, ?_⟩; cbv; injection h with h; subst h; exact ⟨_, le_ren 1024 64000 (by decide) rfl, lR _, zo, rfl⟩
/-- as deep as this -/
noncomputable def FR_impl_visits : Nat → TLibrary → (List (List TRect)) → TRect → TOccurrence → Option (List TOccurrence)
 | 0 => fun _ _ _ _ => none
 | k + 1 => FS_impl_visits (FR_impl_visits k)
theorem runR_impl_visits : ∀ (k : Nat) (a0 : TLibrary) (a1 : List (List TRect)) (a2 : TRect) (a3 : TOccurrence) (r : List TOccurrence), FR_impl_visits k a0 a1 a2 a3 = some r → Fun Try.prog 41 [.agg [.bs (len a0.fCells) 4 (row gd (encCell len gd) a0.fCells)], .c (.bs (len a1) 1 (row gd (encL len gd 4 (encRect)) a1)), .agg [.v (.int .i64 a2.fX0), .v (.int .i64 a2.fY0), .v (.int .i64 a2.fX1), .v (.int .i64 a2.fY1)], .agg [.v (.int .i64 a3.fCell), .v (.int .i64 a3.fPlace.fOrientation), .v (.int .i64 a3.fPlace.fX), .v (.int .i64 a3.fPlace.fY), .bs (len a3.fPath) 1 (row gd (encI .i64) a3.fPath)]] [] (.c (.os 64000 0 (len r))) [(64000, .arr .rw [] (len r) 5 (row gd (encOccurrence len gd) r))] false := by
 intro k
 induction k with
 | zero => intro a0 a1 a2 a3 r h; cases h
 | succ k ih => exact fun a0 a1 a2 a3 r h => runS_impl_visits (FR_impl_visits k) ih a0 a1 a2 a3 r h
/-- impl.visits -/
noncomputable def F_impl_visits (a0 : TLibrary) (a1 : List (List TRect)) (a2 : TRect) (a3 : TOccurrence) : Option (List TOccurrence) := FR_impl_visits 64 a0 a1 a2 a3
theorem run_impl_visits (a0 : TLibrary) (a1 : List (List TRect)) (a2 : TRect) (a3 : TOccurrence) (r : List TOccurrence) (h : F_impl_visits a0 a1 a2 a3 = some r) : Fun Try.prog 41 [.agg [.bs (len a0.fCells) 4 (row gd (encCell len gd) a0.fCells)], .c (.bs (len a1) 1 (row gd (encL len gd 4 (encRect)) a1)), .agg [.v (.int .i64 a2.fX0), .v (.int .i64 a2.fY0), .v (.int .i64 a2.fX1), .v (.int .i64 a2.fY1)], .agg [.v (.int .i64 a3.fCell), .v (.int .i64 a3.fPlace.fOrientation), .v (.int .i64 a3.fPlace.fX), .v (.int .i64 a3.fPlace.fY), .bs (len a3.fPath) 1 (row gd (encI .i64) a3.fPath)]] [] (.c (.os 64000 0 (len r))) [(64000, .arr .rw [] (len r) 5 (row gd (encOccurrence len gd) r))] false := runR_impl_visits 64 a0 a1 a2 a3 r h

/-- impl.visited -/
noncomputable def F_impl_visited (a0 : TLibrary) (a1 : Int) (a2 : TRect) : Option (List TOccurrence) :=
 (F_impl_contentBoxes (TLibrary.mk a0.fCells)).bind fun y1 =>
 (F_impl_visits (TLibrary.mk a0.fCells) y1 a2 (TOccurrence.mk a1 (TTransform.mk 0 0 0) ([] : List Int))).bind fun y3 =>
 some y3
set_option maxHeartbeats 4000000 in
theorem run_impl_visited (a0 : TLibrary) (a1 : Int) (a2 : TRect) (r : List TOccurrence) (h : F_impl_visited a0 a1 a2 = some r) : Fun Try.prog 19 [.agg [.bs (len a0.fCells) 4 (row gd (encCell len gd) a0.fCells)], .c (.v (.int .i64 a1)), .agg [.v (.int .i64 a2.fX0), .v (.int .i64 a2.fY0), .v (.int .i64 a2.fX1), .v (.int .i64 a2.fY1)]] [] (.c (.os 64000 0 (len r))) [(64000, .arr .rw [] (len r) 5 (row gd (encOccurrence len gd) r))] false := by
 refine ow [] Try.func19 Try.ntmps19 ?_ (hv := (fun h => by cases h)); unfold F_impl_visited at h; have hf_impl_contentBoxes := @run_impl_contentBoxes; have hf_impl_visits := @run_impl_visits; generalize hLEN : @len = LEN, hGD : @gd = GD, hA : std = A, hP : Try.prog = P at *; cbv
 revert h; refine rk [] [(64000, 576)] (hf_impl_contentBoxes _) (fun _ => zf) fun y1 h => ⟨_, rfl, _, _, rfl, fun _ _ _ _ => .refl _, ?_⟩
 cbv
 revert h; refine rk [] [(64000, 832)] (hf_impl_visits _ _ _ _) (fun _ => zg (les_cons (lR _) (les_cons (give_osD (fun _ _ => rfl) (fun _ _ => rfl) rfl rfl rfl) (les_cons (lR _) (les_cons (le_agg ⟨lR _, lR _, lR _, lR _, (by subst hLEN; exact le_nil_bs), trivial⟩) (les_nil)))))) fun y3 h => ⟨_, rfl, _, _, rfl, fun _ _ _ _ => .refl _, _, _, rfl, fun _ _ _ _ => .refl _, ?_⟩
 cbv; injection h with h; subst h; exact ⟨_, le_ren 832 64000 (by decide) rfl, lR _, zo, rfl⟩

noncomputable def L_impl_hits_x20 (a0 : TLibrary) (a1 : List TOccurrence) (a2 : Int) (a3 : TRect) (v2 : Int) : (Int × (List TWindowHit)) → Option ((Int × (List TWindowHit)) ⊕ (((List TWindowHit)))) := fun x20 =>
 letO x20.1 fun v18 =>
 letO x20.2 fun v19 =>
 br (std.lt v18 (std.ofN (len (gd a0.fCells (std.toN (gd a1 (std.toN v2)).fCell)).fShapes)))
 (req (std.inR v18 (len (gd a0.fCells (std.toN (gd a1 (std.toN v2)).fCell)).fShapes)) <|
 (F_impl_moveRect (gd a1 (std.toN v2)).fPlace (gd (gd a0.fCells (std.toN (gd a1 (std.toN v2)).fCell)).fShapes (std.toN v18)).fBox).bind fun y33 =>
 ((
    br (std.eq (gd (gd a0.fCells (std.toN (gd a1 (std.toN v2)).fCell)).fShapes (std.toN v18)).fLayer a2)
    ((F_impl_anywhere y33 a3).bind fun y42 =>
    some y42)
    (some false)
  ) : Option (Bool)).bind fun y35 =>
 letO y35 fun w41 =>
 ((
    br w41
    (((
       (F_slices_Clone_Lint64_int64 (gd a1 (std.toN v2)).fPath).bind fun y59 =>
       letO ([(TWindowHit.mk (gd a1 (std.toN v2)).fCell v18 a2 y33 y59)] : List TWindowHit) fun l61 =>
       req (std.room (std.nadd (len v19) (len l61)) 80) <|
       letO (v19 ++ l61) fun l63 =>
       some l63
     ) : Option ((List TWindowHit))).bind fun y52 =>
    letO y52 fun w58 =>
    some w58)
    (some v19)
  ) : Option ((List TWindowHit))).bind fun y45 =>
 letO y45 fun w51 =>
 some (.inl (std.add .i64 v18 1, w51)))
 (some (.inr v19))
noncomputable def L_impl_hits_x4 (a0 : TLibrary) (a1 : List TOccurrence) (a2 : Int) (a3 : TRect) : (Int × (List TWindowHit)) → Option ((Int × (List TWindowHit)) ⊕ (((List TWindowHit)))) := fun x4 =>
 letO x4.1 fun v2 =>
 letO x4.2 fun v3 =>
 br (std.lt v2 (std.ofN (len a1)))
 (req (std.inR v2 (len a1)) <|
 req (std.inR (gd a1 (std.toN v2)).fCell (len a0.fCells)) <|
 (whileP (σ := Int × (List TWindowHit)) (ρ := ((List TWindowHit))) (L_impl_hits_x20 a0 a1 a2 a3 v2) (0, v3)).bind fun y21 =>
 letO y21 fun y21k0 =>
 letO y21k0 fun w68 =>
 some (.inl (std.add .i64 v2 1, w68)))
 (some (.inr v3))
/-- impl.hits -/
noncomputable def F_impl_hits (a0 : TLibrary) (a1 : List TOccurrence) (a2 : Int) (a3 : TRect) : Option (List TWindowHit) :=
 (whileP (σ := Int × (List TWindowHit)) (ρ := ((List TWindowHit))) (L_impl_hits_x4 a0 a1 a2 a3) (0, ([] : List TWindowHit))).bind fun y5 =>
 letO y5 fun y5k0 =>
 letO y5k0 fun w70 =>
 some w70
set_option maxHeartbeats 4000000 in
theorem run_impl_hits (a0 : TLibrary) (a1 : List TOccurrence) (a2 : Int) (a3 : TRect) (r : List TWindowHit) (h : F_impl_hits a0 a1 a2 a3 = some r) : Fun Try.prog 20 [.agg [.bs (len a0.fCells) 4 (row gd (encCell len gd) a0.fCells)], .c (.bs (len a1) 5 (row gd (encOccurrence len gd) a1)), .c (.v (.int .i64 a2)), .agg [.v (.int .i64 a3.fX0), .v (.int .i64 a3.fY0), .v (.int .i64 a3.fX1), .v (.int .i64 a3.fY1)]] [] (.c (.os 64000 0 (len r))) [(64000, .arr .rw [] (len r) 8 (row gd (oncWindowHit len gd) r))] true := by
 refine ow [9, 10, 100048] Try.func20 Try.ntmps20 ?_ (hv := (fun _ => ⟨trivial, ⟨fun i _ j _ => fl_oncWindowHit _ _, trivial⟩⟩)); unfold F_impl_hits at h; unfold L_impl_hits_x4 at h; unfold L_impl_hits_x20 at h; have hf_impl_anywhere := @run_impl_anywhere; have hf_impl_moveRect := @run_impl_moveRect; have hf_slices_Clone_Lint64_int64 := @run_slices_Clone_Lint64_int64
 generalize hLEN : @len = LEN, hGD : @gd = GD, hA : std = A, hP : Try.prog = P at *; cbv; have e1 : 0 = LEN ([] : List TWindowHit) := by subst hLEN; rfl
 refine ⟨_, (co e1), _, row GD (oncWindowHit LEN GD) ([] : List TWindowHit), e1, wkOf ?_, ?_⟩
 ·intro i hi j hj; rw [← e1] at hi; subst hGD; omega
 cbv
 revert h; refine ln (.exit 0) (fun x => (sparse 64 [(2, .c (.v (.int .i64 a2))), (4, .c (.ptr 256 0)), (7, .c (.ptr 448 0)), (9, .c (.os 960 0 (LEN x.2))), (16, .c (.bs (LEN a1) 5 (row GD (encOccurrence LEN GD) a1))), (17, .c (.v (.int .i64 (A.ofN (LEN a1))))), (18, .c (.v (.int .i64 x.1)))] [(256, .var [.bs (LEN a0.fCells) 4 (row GD (encCell LEN GD) a0.fCells)]), (448, .var [.v (.int .i64 a3.fX0), .v (.int .i64 a3.fY0), .v (.int .i64 a3.fX1), .v (.int .i64 a3.fY1)]), (960, .arr .rw [] (LEN x.2) 8 (row GD (oncWindowHit LEN GD) x.2))])) (fun w => (sparse 64 [(9, .c (.os 960 0 (LEN w)))] [(960, .arr .rw [] (LEN w) 8 (row GD (oncWindowHit LEN GD) w))])) zb ?_ ?_
 ·rintro ⟨v2, v3⟩ z h K hK hY; replace h := oz (oz h); dsimp only at h; cbv; revert h; refine fk ?_ ?_ <;> intro h <;> cbv
  ·revert h; refine ra fun c16 h => ?_; revert h; refine ra fun c17 h => ?_
   revert h; refine ln (.exit 2) (fun x => (sparse 64 [(2, .c (.v (.int .i64 a2))), (4, .c (.ptr 256 0)), (7, .c (.ptr 448 0)), (9, .c (.os 960 0 (LEN x.2))), (11, .c (.ptr 704 0)), (16, .c (.bs (LEN a1) 5 (row GD (encOccurrence LEN GD) a1))), (17, .c (.v (.int .i64 (A.ofN (LEN a1))))), (18, .c (.v (.int .i64 v2))), (28, .c (.bs (LEN (GD a0.fCells (A.toN (GD a1 (A.toN v2)).fCell)).fShapes) 5 (row GD (encShape) (GD a0.fCells (A.toN (GD a1 (A.toN v2)).fCell)).fShapes))), (29, .c (.v (.int .i64 (A.ofN (LEN (GD a0.fCells (A.toN (GD a1 (A.toN v2)).fCell)).fShapes))))), (30, .c (.v (.int .i64 x.1)))] [(256, .var [.bs (LEN a0.fCells) 4 (row GD (encCell LEN GD) a0.fCells)]), (448, .var [.v (.int .i64 a3.fX0), .v (.int .i64 a3.fY0), .v (.int .i64 a3.fX1), .v (.int .i64 a3.fY1)]), (960, .arr .rw [] (LEN x.2) 8 (row GD (oncWindowHit LEN GD) x.2)), (704, .var [.v (.int .i64 (GD a1 (A.toN v2)).fCell), .v (.int .i64 (GD a1 (A.toN v2)).fPlace.fOrientation), .v (.int .i64 (GD a1 (A.toN v2)).fPlace.fX), .v (.int .i64 (GD a1 (A.toN v2)).fPlace.fY), .bs (LEN (GD a1 (A.toN v2)).fPath) 1 (row GD (encI .i64) (GD a1 (A.toN v2)).fPath)])])) (fun w => (sparse 64 [(2, .c (.v (.int .i64 a2))), (4, .c (.ptr 256 0)), (7, .c (.ptr 448 0)), (9, .c (.os 960 0 (LEN w))), (16, .c (.bs (LEN a1) 5 (row GD (encOccurrence LEN GD) a1))), (17, .c (.v (.int .i64 (A.ofN (LEN a1))))), (18, .c (.v (.int .i64 v2)))] [(256, .var [.bs (LEN a0.fCells) 4 (row GD (encCell LEN GD) a0.fCells)]), (448, .var [.v (.int .i64 a3.fX0), .v (.int .i64 a3.fY0), .v (.int .i64 a3.fX1), .v (.int .i64 a3.fY1)]), (960, .arr .rw [] (LEN w) 8 (row GD (oncWindowHit LEN GD) w))])) zb ?_ ?_
   ·rintro ⟨v18, v19⟩ z h K hK hY; replace h := oz (oz h); dsimp only at h; cbv; revert h; refine fk ?_ ?_ <;> intro h <;> cbv
    ·revert h; refine ra fun c32 h => ?_; revert h; refine rk0 (hf_impl_moveRect _ _) fun y33 h => ?_; cbv
     revert h; refine cu (fun y35 => (sparse 64 [(2, .c (.v (.int .i64 a2))), (4, .c (.ptr 256 0)), (7, .c (.ptr 448 0)), (9, .c (.os 960 0 (LEN v19))), (11, .c (.ptr 704 0)), (12, .c (.v (.int .i64 v18))), (14, .c (.ptr 896 0)), (16, .c (.bs (LEN a1) 5 (row GD (encOccurrence LEN GD) a1))), (17, .c (.v (.int .i64 (A.ofN (LEN a1))))), (18, .c (.v (.int .i64 v2))), (28, .c (.bs (LEN (GD a0.fCells (A.toN (GD a1 (A.toN v2)).fCell)).fShapes) 5 (row GD (encShape) (GD a0.fCells (A.toN (GD a1 (A.toN v2)).fCell)).fShapes))), (29, .c (.v (.int .i64 (A.ofN (LEN (GD a0.fCells (A.toN (GD a1 (A.toN v2)).fCell)).fShapes))))), (30, .c (.v (.int .i64 v18))), (48, .c (.v (.bool y35)))] [(256, .var [.bs (LEN a0.fCells) 4 (row GD (encCell LEN GD) a0.fCells)]), (448, .var [.v (.int .i64 a3.fX0), .v (.int .i64 a3.fY0), .v (.int .i64 a3.fX1), .v (.int .i64 a3.fY1)]), (960, .arr .rw [] (LEN v19) 8 (row GD (oncWindowHit LEN GD) v19)), (704, .var [.v (.int .i64 (GD a1 (A.toN v2)).fCell), .v (.int .i64 (GD a1 (A.toN v2)).fPlace.fOrientation), .v (.int .i64 (GD a1 (A.toN v2)).fPlace.fX), .v (.int .i64 (GD a1 (A.toN v2)).fPlace.fY), .bs (LEN (GD a1 (A.toN v2)).fPath) 1 (row GD (encI .i64) (GD a1 (A.toN v2)).fPath)]), (896, .var [.v (.int .i64 y33.fX0), .v (.int .i64 y33.fY0), .v (.int .i64 y33.fX1), .v (.int .i64 y33.fY1)])])) ?_ fun w41 => rz fun h => ?_
     ·intro y35 S hS h; cbv; revert h; refine fk ?_ ?_ <;> intro h <;> cbv
      ·revert h; refine rk0 (hf_impl_anywhere _ _) fun y42 h => ?_; cbv; exact dn
      exact dn
     cbv
     revert h; refine cu (fun y45 => some (sparse 64 [(2, .c (.v (.int .i64 a2))), (4, .c (.ptr 256 0)), (7, .c (.ptr 448 0)), (9, .c (.os 960 0 (LEN y45))), (11, .c (.ptr 704 0)), (16, .c (.bs (LEN a1) 5 (row GD (encOccurrence LEN GD) a1))), (17, .c (.v (.int .i64 (A.ofN (LEN a1))))), (18, .c (.v (.int .i64 v2))), (28, .c (.bs (LEN (GD a0.fCells (A.toN (GD a1 (A.toN v2)).fCell)).fShapes) 5 (row GD (encShape) (GD a0.fCells (A.toN (GD a1 (A.toN v2)).fCell)).fShapes))), (29, .c (.v (.int .i64 (A.ofN (LEN (GD a0.fCells (A.toN (GD a1 (A.toN v2)).fCell)).fShapes))))), (30, .c (.v (.int .i64 v18)))] [(256, .var [.bs (LEN a0.fCells) 4 (row GD (encCell LEN GD) a0.fCells)]), (448, .var [.v (.int .i64 a3.fX0), .v (.int .i64 a3.fY0), .v (.int .i64 a3.fX1), .v (.int .i64 a3.fY1)]), (960, .arr .rw [] (LEN y45) 8 (row GD (oncWindowHit LEN GD) y45)), (704, .var [.v (.int .i64 (GD a1 (A.toN v2)).fCell), .v (.int .i64 (GD a1 (A.toN v2)).fPlace.fOrientation), .v (.int .i64 (GD a1 (A.toN v2)).fPlace.fX), .v (.int .i64 (GD a1 (A.toN v2)).fPlace.fY), .bs (LEN (GD a1 (A.toN v2)).fPath) 1 (row GD (encI .i64) (GD a1 (A.toN v2)).fPath)])])) ?_ fun w51 => rz fun h => ?_
     ·intro y45 S hS h; cbv; revert h; refine fk ?_ ?_ <;> intro h <;> cbv
      ·revert h; refine cu (fun y52 => (sparse 64 [(2, .c (.v (.int .i64 a2))), (4, .c (.ptr 256 0)), (7, .c (.ptr 448 0)), (9, .c (.os 960 0 (LEN y52))), (11, .c (.ptr 704 0)), (16, .c (.bs (LEN a1) 5 (row GD (encOccurrence LEN GD) a1))), (17, .c (.v (.int .i64 (A.ofN (LEN a1))))), (18, .c (.v (.int .i64 v2))), (28, .c (.bs (LEN (GD a0.fCells (A.toN (GD a1 (A.toN v2)).fCell)).fShapes) 5 (row GD (encShape) (GD a0.fCells (A.toN (GD a1 (A.toN v2)).fCell)).fShapes))), (29, .c (.v (.int .i64 (A.ofN (LEN (GD a0.fCells (A.toN (GD a1 (A.toN v2)).fCell)).fShapes))))), (30, .c (.v (.int .i64 v18)))] [(256, .var [.bs (LEN a0.fCells) 4 (row GD (encCell LEN GD) a0.fCells)]), (448, .var [.v (.int .i64 a3.fX0), .v (.int .i64 a3.fY0), .v (.int .i64 a3.fX1), .v (.int .i64 a3.fY1)]), (960, .arr .rw [] (LEN y52) 8 (row GD (oncWindowHit LEN GD) y52)), (704, .var [.v (.int .i64 (GD a1 (A.toN v2)).fCell), .v (.int .i64 (GD a1 (A.toN v2)).fPlace.fOrientation), .v (.int .i64 (GD a1 (A.toN v2)).fPlace.fX), .v (.int .i64 (GD a1 (A.toN v2)).fPlace.fY), .bs (LEN (GD a1 (A.toN v2)).fPath) 1 (row GD (encI .i64) (GD a1 (A.toN v2)).fPath)])])) ?_ fun w58 => rz fun h => ?_
       ·intro y52 S hS h; cbv; revert h; refine rk [] [(64000, 3648)] (hf_slices_Clone_Lint64_int64 _) (fun _ => zf) fun y59 h => ⟨_, rfl, _, _, rfl, fun _ _ _ _ => .refl _, ?_⟩
        cbv; revert h; refine rl fun l61 hl61 h => ?_; have e62 : 1 = LEN l61 := by subst hl61 hLEN; rfl
        refine ⟨_, (co e62), _, (patchC (fun _ _ => AC.junk) 0 [.v (.int .i64 (GD a1 (A.toN v2)).fCell), .v (.int .i64 v18), .v (.int .i64 a2), .v (.int .i64 y33.fX0), .v (.int .i64 y33.fY0), .v (.int .i64 y33.fX1), .v (.int .i64 y33.fY1), .os 3648 0 (LEN y59)]), e62, wkOf ?_, ?_⟩
        ·refine patch_one (by subst hl61 hLEN; rfl) ?_; exact zr
        cbv; revert h; refine rq fun c65 => rl fun l63 hl63 h => ?_; have e64 := nl hA hLEN hl63; refine ⟨c65, _, (co e64), _, (patchC (row GD (oncWindowHit LEN GD) v19) (LEN v19) [.v (.int .i64 (GD a1 (A.toN v2)).fCell), .v (.int .i64 v18), .v (.int .i64 a2), .v (.int .i64 y33.fX0), .v (.int .i64 y33.fY0), .v (.int .i64 y33.fX1), .v (.int .i64 y33.fY1), .os 3648 0 (LEN y59)]), e64, wkOf ?_, ?_⟩
        ·subst hLEN hA; refine patch_joinG (by first | (rw [hl63]; simp [len]; done) | (rw [hl63]; simp [len]; omega) | (subst_vars; simp [len])) ?_; exact zr
        cbv; rw [hl61] at hl63; injection h with h; subst h; subst hS; show St.le _ _; refine St.le_trans (le_foldP 960 7 3648 rfl rfl rfl (by decide) (by subst hLEN; exact app_lt hl63) (by decide) rfl (fun _ _ => rf_oncWindowHit _ _)) ?_; exact le_sparse rfl zl ⟨rfl, rfl, oP (fun _ _ => rf_oncWindowHit _ _) (by subst hGD hLEN hA; exact patch_app hl63 (Nat.le_refl _) zr), rfl, trivial⟩ rfl
       cbv; exact dn
      exact dn
     cbv; exact dm
    exact dx
   intro w68 h s q29; replace h := oz (oz h); cbv; refine ⟨_, q29, ?_⟩; cbv; exact dm
  exact dx
 intro w70 h s q13; replace h := oz (oz h); cbv; refine ⟨_, q13, ?_⟩; cbv; injection h with h; subst h; exact ⟨_, le_ren 960 64000 (by decide) rfl, lR _, zo, rfl⟩

noncomputable def L_impl_WindowLayers_x25 (a2 : TRect) (y20 : (List TWindowHit)) : (Int × (Nat → Nat → Bool) × (List TWindowHit)) → Option ((Int × (Nat → Nat → Bool) × (List TWindowHit)) ⊕ (((Nat → Nat → Bool)))) := fun x25 =>
 letO x25.1 fun v22 =>
 letO x25.2.1 fun v23 =>
 letO x25.2.2 fun v24 =>
 br (std.lt v22 (std.ofN (len y20)))
 (((
    req (std.inR v22 (len y20)) <|
    some ((gd v24 (std.nadd 0 (std.toN v22))).fCell, (gd v24 (std.nadd 0 (std.toN v22))).fShape, (gd v24 (std.nadd 0 (std.toN v22))).fLayer, (gd v24 (std.nadd 0 (std.toN v22))).fBox.fX0, (gd v24 (std.nadd 0 (std.toN v22))).fBox.fY0, (gd v24 (std.nadd 0 (std.toN v22))).fBox.fX1, (gd v24 (std.nadd 0 (std.toN v22))).fBox.fY1)
  ) : Option (Int × Int × Int × Int × Int × Int × Int)).bind fun y37 =>
 letO y37.1 fun w43 =>
 letO y37.2.1 fun w44 =>
 letO y37.2.2.1 fun w45 =>
 letO y37.2.2.2.1 fun w46 =>
 letO y37.2.2.2.2.1 fun w47 =>
 letO y37.2.2.2.2.2.1 fun w48 =>
 letO y37.2.2.2.2.2.2 fun w49 =>
 req (std.inR v22 (len y20)) <|
 ((
    (F_impl_common (TRect.mk w46 w47 w48 w49) a2).bind fun y60 =>
    (F_impl_cells_put_mAb v23 y60).bind fun y62 =>
    some (y62, v24)
  ) : Option ((Nat → Nat → Bool) × (List TWindowHit))).bind fun y52 =>
 letO y52.1 fun w58 =>
 letO y52.2 fun w59 =>
 some (.inl (std.add .i64 v22 1, w58, w59)))
 (some (.inr v23))
noncomputable def L_impl_WindowLayers_x8 (a0 : TLibrary) (a2 : TRect) (y3 : (List TOccurrence)) : (Int × (List (List TRect))) → Option ((Int × (List (List TRect))) ⊕ ((Int) ⊕ ((List (List TRect))))) := fun x8 =>
 letO x8.1 fun v6 =>
 letO x8.2 fun v7 =>
 br (std.lt v6 8)
 ((F_impl_hits a0 y3 v6 a2).bind fun y20 =>
 br (std.lt 100 (std.ofN (len y20)))
 (some (.inr (.inl 3)))
 ((whileP (σ := Int × (Nat → Nat → Bool) × (List TWindowHit)) (ρ := ((Nat → Nat → Bool))) (L_impl_WindowLayers_x25 a2 y20) (0, zeroG, y20)).bind fun y26 =>
 letO y26 fun y26k0 =>
 letO y26k0 fun w65 =>
 ((
    (F_impl_cells_region_mA w65).bind fun y73 =>
    letO ([y73.1] : List (List TRect)) fun l75 =>
    req (std.room (std.nadd (len v7) (len l75)) 24) <|
    letO (v7 ++ l75) fun l77 =>
    some l77
  ) : Option ((List (List TRect)))).bind fun y66 =>
 letO y66 fun w72 =>
 some (.inl (std.add .i64 v6 1, w72))))
 (some (.inr (.inr v7)))
/-- impl.WindowLayers -/
noncomputable def F_impl_WindowLayers (a0 : TLibrary) (a1 : Int) (a2 : TRect) : Option ((List (List TRect)) × Int) :=
 (F_impl_windowCode a0 a1 0 a2).bind fun y1 =>
 br (std.not (std.eq y1 0))
 (some (([] : List (List TRect)), y1))
 ((F_impl_visited a0 a1 a2).bind fun y3 =>
 (whileP (σ := Int × (List (List TRect))) (ρ := (Int) ⊕ ((List (List TRect)))) (L_impl_WindowLayers_x8 a0 a2 y3) (0, ([] : List (List TRect)))).bind fun y9 =>
 (match y9 with
  | .inl y9k0 => (
    letO y9k0 fun w82 =>
    some (([] : List (List TRect)), w82))
  | .inr y9m0 =>
    letO y9m0 fun y9k1 =>
    letO y9k1 fun w83 =>
    some (w83, (0 : Int))))
set_option maxHeartbeats 4000000 in
theorem run_impl_WindowLayers (a0 : TLibrary) (a1 : Int) (a2 : TRect) (r : (List (List TRect)) × Int) (h : F_impl_WindowLayers a0 a1 a2 = some r) : Fun Try.prog 8 [.agg [.bs (len a0.fCells) 4 (row gd (encCell len gd) a0.fCells)], .c (.v (.int .i64 a1)), .agg [.v (.int .i64 a2.fX0), .v (.int .i64 a2.fY0), .v (.int .i64 a2.fX1), .v (.int .i64 a2.fY1)]] [] (.tup [.c (.os 64000 0 (len r.1)), .c (.v (.int .i64 r.2))]) [(64000, .arr .rw [] (len r.1) 1 (row gd (oncL len gd 4 (encRect)) r.1))] true := by
 refine ow [13, 14, 16] Try.func8 Try.ntmps8 ?_ (hv := (fun _ => ⟨(by simp [AV.flat, AV.flat1, AC.flat]), ⟨fun i _ j _ => fl_oncL (vl_encRect) _ _, trivial⟩⟩)); unfold F_impl_WindowLayers at h; unfold L_impl_WindowLayers_x8 at h; unfold L_impl_WindowLayers_x25 at h; have hf_impl_cells_put_mAb := @run_impl_cells_put_mAb; have hf_impl_cells_region_mA := @run_impl_cells_region_mA
 have hf_impl_common := @run_impl_common; have hf_impl_hits := @run_impl_hits; have hf_impl_visited := @run_impl_visited; have hf_impl_windowCode := @run_impl_windowCode; generalize hLEN : @len = LEN, hGD : @gd = GD, hA : std = A, hP : Try.prog = P at *; cbv; revert h; refine rk0 (hf_impl_windowCode _ _ _ _) fun y1 h => ?_; cbv; revert h; refine fk ?_ ?_ <;> intro h <;> cbv
 ·injection h with h; subst h; refine ⟨(sparse 61 [(6, .c (.os 64000 0 (LEN ([] : List (List TRect))))), (7, .c (.v (.int .i64 y1)))] [(64000, .arr .rw [] (LEN ([] : List (List TRect))) 1 (row GD (oncL LEN GD 4 (encRect)) ([] : List (List TRect))))]), ?_, ?_⟩
  ·refine St.le_trans (le_nilT 6 64000 1 (row GD (oncL LEN GD 4 (encRect)) ([] : List (List TRect))) (by decide) rfl) ?_; subst hLEN; exact zb
  ·subst hLEN; exact ⟨lR _, zo, rfl⟩
 revert h; refine rk [] [(64000, 1664)] (hf_impl_visited _ _ _) (fun _ => zf) fun y3 h => ⟨_, rfl, _, _, rfl, fun _ _ _ _ => .refl _, ?_⟩
 cbv; have e5 : 0 = LEN ([] : List (List TRect)) := by subst hLEN; rfl
 refine ⟨_, (co e5), _, row GD (oncL LEN GD 4 (encRect)) ([] : List (List TRect)), e5, wkOf ?_, ?_⟩
 ·intro i hi j hj; rw [← e5] at hi; subst hGD; omega
 cbv
 revert h; refine lc (fun x => (sparse 61 [(3, .c (.ptr 192 0)), (5, .c (.ptr 320 0)), (9, .c (.os 1664 0 (LEN y3))), (10, .c (.os 1728 0 (LEN x.2))), (28, .c (.v (.int .i64 x.1)))] [(192, .var [.bs (LEN a0.fCells) 4 (row GD (encCell LEN GD) a0.fCells)]), (320, .var [.v (.int .i64 a2.fX0), .v (.int .i64 a2.fY0), .v (.int .i64 a2.fX1), .v (.int .i64 a2.fY1)]), (1664, .arr .rw [] (LEN y3) 5 (row GD (encOccurrence LEN GD) y3)), (1728, .arr .rw [] (LEN x.2) 1 (row GD (oncL LEN GD 4 (encRect)) x.2))])) (fun y e s => (match y with | .inl w => e = .ret ∧ s.le (sparse 61 [(6, .c (.v (.slice none 0 0))), (7, .c (.v (.int .i64 w)))] []) | .inr w0 => (fun (w : (List (List TRect))) => e = .exit 0 ∧ s.le (sparse 61 [(10, .c (.os 1728 0 (LEN w)))] [(1728, .arr .rw [] (LEN w) 1 (row GD (oncL LEN GD 4 (encRect)) w))])) w0)) zb ?_ ?_
 ·rintro ⟨v6, v7⟩ z h K hK hY; replace h := oz (oz h); dsimp only at h; cbv; revert h; refine fk ?_ ?_ <;> intro h <;> cbv
  ·revert h; refine rk [] [(64000, 2240)] (hf_impl_hits _ _ _ _) (fun _ => zg (les_cons (lR _) (les_cons (give_os (pl_encOccurrence) rfl rfl rfl) (les_cons (lR _) (les_cons (lR _) (les_nil)))))) fun y20 h => ⟨_, rfl, _, _, rfl, fun _ _ _ _ => .refl _, ?_⟩
   cbv; refine And.intro (by subst hA; exact zf53) ?_; refine And.intro (by subst hA; exact zl_std 6400) ?_; refine ⟨_, rfl, _, encG zeroG, rfl, wkOf (zl_get hA 80 80 6400 rfl), ?_⟩; cbv; revert h; refine fk ?_ ?_ <;> intro h <;> cbv
   ·exact dy
   revert h; refine ln (.exit 2) (fun x => (sparse 61 [(3, .c (.ptr 192 0)), (5, .c (.ptr 320 0)), (9, .c (.os 1664 0 (LEN y3))), (10, .c (.os 1728 0 (LEN v7))), (13, .c (.ep 2368 0 0)), (28, .c (.v (.int .i64 v6))), (41, .c (.os 2240 0 (LEN y20))), (42, .c (.v (.int .i64 (A.ofN (LEN y20))))), (43, .c (.v (.int .i64 x.1)))] [(192, .var [.bs (LEN a0.fCells) 4 (row GD (encCell LEN GD) a0.fCells)]), (320, .var [.v (.int .i64 a2.fX0), .v (.int .i64 a2.fY0), .v (.int .i64 a2.fX1), .v (.int .i64 a2.fY1)]), (1664, .arr .rw [] (LEN y3) 5 (row GD (encOccurrence LEN GD) y3)), (1728, .arr .rw [] (LEN v7) 1 (row GD (oncL LEN GD 4 (encRect)) v7)), (2368, .arr .rw [] 80 80 (encG x.2.1)), (2240, .arr .rw [] (LEN y20) 8 (row GD (oncWindowHit LEN GD) x.2.2))])) (fun w => (sparse 61 [(3, .c (.ptr 192 0)), (5, .c (.ptr 320 0)), (9, .c (.os 1664 0 (LEN y3))), (10, .c (.os 1728 0 (LEN v7))), (13, .c (.ep 2368 0 0)), (28, .c (.v (.int .i64 v6)))] [(192, .var [.bs (LEN a0.fCells) 4 (row GD (encCell LEN GD) a0.fCells)]), (320, .var [.v (.int .i64 a2.fX0), .v (.int .i64 a2.fY0), .v (.int .i64 a2.fX1), .v (.int .i64 a2.fY1)]), (1664, .arr .rw [] (LEN y3) 5 (row GD (encOccurrence LEN GD) y3)), (1728, .arr .rw [] (LEN v7) 1 (row GD (oncL LEN GD 4 (encRect)) v7)), (2368, .arr .rw [] 80 80 (encG w))])) zb ?_ ?_
   ·rintro ⟨v22, v23, v24⟩ z h K hK hY; replace h := oz (oz (oz h)); dsimp only at h; cbv; revert h; refine fk ?_ ?_ <;> intro h <;> cbv
    ·revert h; refine cu (fun y37 => (sparse 61 [(3, .c (.ptr 192 0)), (5, .c (.ptr 320 0)), (9, .c (.os 1664 0 (LEN y3))), (10, .c (.os 1728 0 (LEN v7))), (13, .c (.ep 2368 0 0)), (15, .c (.ptr 960 0)), (28, .c (.v (.int .i64 v6))), (41, .c (.os 2240 0 (LEN y20))), (42, .c (.v (.int .i64 (A.ofN (LEN y20))))), (43, .c (.v (.int .i64 v22)))] [(192, .var [.bs (LEN a0.fCells) 4 (row GD (encCell LEN GD) a0.fCells)]), (320, .var [.v (.int .i64 a2.fX0), .v (.int .i64 a2.fY0), .v (.int .i64 a2.fX1), .v (.int .i64 a2.fY1)]), (1664, .arr .rw [] (LEN y3) 5 (row GD (encOccurrence LEN GD) y3)), (1728, .arr .rw [] (LEN v7) 1 (row GD (oncL LEN GD 4 (encRect)) v7)), (2368, .arr .rw [] 80 80 (encG v23)), (960, .var [.v (.int .i64 y37.1), .v (.int .i64 y37.2.1), .v (.int .i64 y37.2.2.1), .v (.int .i64 y37.2.2.2.1), .v (.int .i64 y37.2.2.2.2.1), .v (.int .i64 y37.2.2.2.2.2.1), .v (.int .i64 y37.2.2.2.2.2.2), .os 2960 0 (LEN (GD v24 (A.nadd 0 (A.toN v22))).fPath)]), (2240, .arr .rw [2960] (LEN y20) 8 (patchC (row GD (oncWindowHit LEN GD) v24) (A.nadd 0 (A.toN v22)) [.v (.int .i64 (GD v24 (A.nadd 0 (A.toN v22))).fCell), .v (.int .i64 (GD v24 (A.nadd 0 (A.toN v22))).fShape), .v (.int .i64 (GD v24 (A.nadd 0 (A.toN v22))).fLayer), .v (.int .i64 (GD v24 (A.nadd 0 (A.toN v22))).fBox.fX0), .v (.int .i64 (GD v24 (A.nadd 0 (A.toN v22))).fBox.fY0), .v (.int .i64 (GD v24 (A.nadd 0 (A.toN v22))).fBox.fX1), .v (.int .i64 (GD v24 (A.nadd 0 (A.toN v22))).fBox.fY1), .os 2960 0 (LEN (GD v24 (A.nadd 0 (A.toN v22))).fPath)])), (2960, .arr .rw [] (LEN (GD v24 (A.nadd 0 (A.toN v22))).fPath) 1 (row GD (encI .i64) (GD v24 (A.nadd 0 (A.toN v22))).fPath))])) ?_ ?_
     ·intro y37 S hS h; cbv; revert h; refine ra fun c50 h => ?_; refine ai c50 ?_
      refine ⟨_, rfl, _, (patchC (row GD (oncWindowHit LEN GD) v24) (A.nadd 0 (A.toN v22)) [.v (.int .i64 (GD v24 (A.nadd 0 (A.toN v22))).fCell), .v (.int .i64 (GD v24 (A.nadd 0 (A.toN v22))).fShape), .v (.int .i64 (GD v24 (A.nadd 0 (A.toN v22))).fLayer), .v (.int .i64 (GD v24 (A.nadd 0 (A.toN v22))).fBox.fX0), .v (.int .i64 (GD v24 (A.nadd 0 (A.toN v22))).fBox.fY0), .v (.int .i64 (GD v24 (A.nadd 0 (A.toN v22))).fBox.fX1), .v (.int .i64 (GD v24 (A.nadd 0 (A.toN v22))).fBox.fY1), .os 2960 0 (LEN (GD v24 (A.nadd 0 (A.toN v22))).fPath)]), rfl, wkOf (patch_of zr), ?_⟩
      refine ⟨_, row GD (encI .i64) (GD v24 (A.nadd 0 (A.toN v22))).fPath, rfl, wkOf (fun i _ j _ => plain_cp (rfl)), ?_⟩; cbv; exact dn
     rintro ⟨w43, w44, w45, w46, w47, w48, w49⟩ h; replace h := oz (oz (oz (oz (oz (oz (oz h)))))); dsimp only at h; revert h; refine rq fun c51 h => ?_; cbv
     revert h; refine cu (fun y52 => (sparse 61 [(3, .c (.ptr 192 0)), (5, .c (.ptr 320 0)), (9, .c (.os 1664 0 (LEN y3))), (10, .c (.os 1728 0 (LEN v7))), (13, .c (.ep 2368 0 0)), (28, .c (.v (.int .i64 v6))), (41, .c (.os 2240 0 (LEN y20))), (42, .c (.v (.int .i64 (A.ofN (LEN y20))))), (43, .c (.v (.int .i64 v22)))] [(192, .var [.bs (LEN a0.fCells) 4 (row GD (encCell LEN GD) a0.fCells)]), (320, .var [.v (.int .i64 a2.fX0), .v (.int .i64 a2.fY0), .v (.int .i64 a2.fX1), .v (.int .i64 a2.fY1)]), (1664, .arr .rw [] (LEN y3) 5 (row GD (encOccurrence LEN GD) y3)), (1728, .arr .rw [] (LEN v7) 1 (row GD (oncL LEN GD 4 (encRect)) v7)), (2368, .arr .rw [] 80 80 (encG y52.1)), (2240, .arr .rw [] (LEN y20) 8 (row GD (oncWindowHit LEN GD) y52.2))])) ?_ ?_
     ·intro y52 S hS h; cbv; revert h; refine rk0 (hf_impl_common _ _) fun y60 h => ?_; cbv
      revert h; refine rk [(5, 2368)] [(5, 2368)] (hf_impl_cells_put_mAb _ _) (fun _ => ⟨les_cons (lR _) (les_cons (lR _) (les_nil)), ⟨oS, trivial⟩, rfl, rfl, rfl, rfl, ⟨fun _ => ⟨rfl, rfl, fun c h => h⟩, trivial⟩, rfl⟩) fun y62 h => ⟨_, rfl, _, _, rfl, fun _ _ _ _ => .refl _, ?_⟩
      cbv; injection h with h; subst h; subst hS; show St.le _ _; refine St.le_trans (le_foldP 2240 7 2960 rfl rfl rfl (by decide) (by subst hA; exact idx_lt c51) (by decide) rfl (fun _ _ => rf_oncWindowHit _ _)) ?_; exact le_sparse rfl zl ⟨rfl, rfl, oS, oS, oS, oP (fun _ _ => rf_oncWindowHit _ _) (by subst hGD hLEN hA; exact patch_same zr), trivial⟩ rfl
     rintro ⟨w58, w59⟩ h; replace h := oz (oz h); dsimp only at h; cbv; exact dm
    exact dx
   intro w65 h s q34; replace h := oz (oz h); cbv; refine ⟨_, q34, ?_⟩; cbv
   revert h; refine cu (fun y66 => (sparse 61 [(3, .c (.ptr 192 0)), (5, .c (.ptr 320 0)), (9, .c (.os 1664 0 (LEN y3))), (10, .c (.os 1728 0 (LEN y66))), (28, .c (.v (.int .i64 v6)))] [(192, .var [.bs (LEN a0.fCells) 4 (row GD (encCell LEN GD) a0.fCells)]), (320, .var [.v (.int .i64 a2.fX0), .v (.int .i64 a2.fY0), .v (.int .i64 a2.fX1), .v (.int .i64 a2.fY1)]), (1664, .arr .rw [] (LEN y3) 5 (row GD (encOccurrence LEN GD) y3)), (1728, .arr .rw [] (LEN y66) 1 (row GD (oncL LEN GD 4 (encRect)) y66))])) ?_ fun w72 => rz fun h => ?_
   ·intro y66 S hS h; cbv
    revert h; refine rk [(5, 2368)] [(64000, 3584), (5, 2368)] (hf_impl_cells_region_mA _) (fun _ => ⟨les_cons (lR _) (les_nil), ⟨oS, trivial⟩, rfl, rfl, rfl, rfl, ⟨fun h => absurd (show (64000 : Nat) % 2 = 1 from h) (by decide), fun _ => ⟨rfl, rfl, fun c h => h⟩, trivial⟩, rfl⟩) fun y73 h => ⟨_, rfl, _, _, rfl, fun _ _ _ _ => .refl _, _, _, rfl, fun _ _ _ _ => .refl _, ?_⟩
    cbv; revert h; refine rl fun l75 hl75 h => ?_; have e76 : 1 = LEN l75 := by subst hl75 hLEN; rfl
    refine ⟨_, (co e76), _, (patchC (fun _ _ => AC.junk) 0 [.os 3584 0 (LEN y73.1)]), e76, wkOf ?_, ?_⟩
    ·refine patch_one (by subst hl75 hLEN; rfl) ?_; exact zr
    cbv; revert h; refine rq fun c79 => rl fun l77 hl77 h => ?_; have e78 := nl hA hLEN hl77; refine ⟨c79, _, (co e78), _, (patchC (row GD (oncL LEN GD 4 (encRect)) v7) (LEN v7) [.os 3584 0 (LEN y73.1)]), e78, wkOf ?_, ?_⟩
    ·subst hLEN hA; refine patch_joinG (by first | (rw [hl77]; simp [len]; done) | (rw [hl77]; simp [len]; omega) | (subst_vars; simp [len])) ?_; exact zr
    cbv; rw [hl75] at hl77; injection h with h; subst h; subst hS; show St.le _ _; refine St.le_trans (le_foldP 1728 0 3584 rfl rfl rfl (by decide) (by subst hLEN; exact app_lt hl77) (by decide) rfl (fun _ _ => rfl)) ?_; exact le_sparse rfl zl ⟨rfl, rfl, oS, oP (fun _ _ => rfl) (by subst hGD hLEN hA; exact patch_app hl77 (Nat.le_refl _) zr), trivial⟩ rfl
   cbv; exact dm
  exact dy
 intro y9 h e18 s19 q17 hne; rcases y9 with y9k0 | y9m0
 ·replace h := h; obtain ⟨rfl, q17⟩ := q17; revert h; refine rz fun h => ?_; cbv; injection h with h; subst h; refine ⟨(sparse 61 [(6, .c (.os 64000 0 (LEN ([] : List (List TRect))))), (7, .c (.v (.int .i64 y9k0)))] [(64000, .arr .rw [] (LEN ([] : List (List TRect))) 1 (row GD (oncL LEN GD 4 (encRect)) ([] : List (List TRect))))]), ?_, ?_⟩
  ·refine St.le_trans q17 ?_; refine St.le_trans (le_nilT 6 64000 1 (row GD (oncL LEN GD 4 (encRect)) ([] : List (List TRect))) (by decide) rfl) ?_; subst hLEN; exact zb
  ·subst hLEN; exact ⟨lR _, zo, rfl⟩
 ·revert h; refine rz fun h => ?_; obtain ⟨rfl, q17⟩ := q17; revert h; refine rz fun h => ?_; cbv; refine ⟨_, q17, ?_⟩; cbv; injection h with h; subst h; exact ⟨_, le_ren 1728 64000 (by decide) rfl, lR _, zo, rfl⟩

noncomputable def L_impl_validRects_x2 (a0 : List TRect) : (Int) → Option ((Int) ⊕ ((Unit) ⊕ (Unit))) := fun x2 =>
 letO x2 fun v1 =>
 br (std.lt v1 (std.ofN (len a0)))
 (req (std.inR v1 (len a0)) <|
 (F_impl_IsValidRect (gd a0 (std.toN v1))).bind fun y15 =>
 br (!(y15))
 (some (.inr (.inl ())))
 (some (.inl (std.add .i64 v1 1))))
 (some (.inr (.inr ())))
/-- impl.validRects -/
noncomputable def F_impl_validRects (a0 : List TRect) : Option (Bool) :=
 br (std.lt 3200 (std.ofN (len a0)))
 (some false)
 ((whileP (σ := Int) (ρ := (Unit) ⊕ (Unit)) (L_impl_validRects_x2 a0) 0).bind fun y3 =>
 (match y3 with
  | .inl y3k0 => (
    some false)
  | .inr y3m0 =>
    some true))
set_option maxHeartbeats 4000000 in
theorem run_impl_validRects (a0 : List TRect) (r : Bool) (h : F_impl_validRects a0 = some r) : Fun Try.prog 45 [.c (.bs (len a0) 4 (row gd (encRect) a0))] [] (.c (.v (.bool r))) [] true := by
 refine ow [] Try.func45 Try.ntmps45 ?_; unfold F_impl_validRects at h; unfold L_impl_validRects_x2 at h; have hf_impl_IsValidRect := @run_impl_IsValidRect; generalize hLEN : @len = LEN, hGD : @gd = GD, hA : std = A, hP : Try.prog = P at *; cbv; revert h; refine fk ?_ ?_ <;> intro h <;> cbv
 ·exact df
 revert h; refine lc (fun x => (sparse 18 [(8, .c (.bs (LEN a0) 4 (row GD (encRect) a0))), (9, .c (.v (.int .i64 (A.ofN (LEN a0))))), (10, .c (.v (.int .i64 x)))] [])) (fun y e s => (match y with | .inl w => e = .ret ∧ s.le (sparse 18 [(2, .c (.v (.bool false)))] []) | .inr w0 => (fun (w : Unit) => e = .exit 0 ∧ s.le (sparse 18 [] [])) w0)) zb ?_ ?_
 ·intro v1 z h K hK hY; replace h := oz h; cbv; revert h; refine fk ?_ ?_ <;> intro h <;> cbv
  ·revert h; refine ra fun c14 h => ?_; revert h; refine rk0 (hf_impl_IsValidRect _) fun y15 h => ?_; cbv; revert h; refine fk ?_ ?_ <;> intro h <;> cbv
   ·exact dy
   exact dm
  exact dy
 intro y3 h e12 s13 q11 hne; rcases y3 with y3k0 | y3m0
 ·replace h := h; obtain ⟨rfl, q11⟩ := q11; cbv; injection h with h; subst h; exact ⟨_, q11, lR _, zo, rfl⟩
 ·obtain ⟨rfl, q11⟩ := q11; cbv; refine ⟨_, q11, ?_⟩; cbv; exact df
noncomputable def L_impl_cellsOf_x3 (a0 : List TRect) : (Int × (Nat → Nat → Bool)) → Option ((Int × (Nat → Nat → Bool)) ⊕ (((Nat → Nat → Bool)))) := fun x3 =>
 letO x3.1 fun v1 =>
 letO x3.2 fun v2 =>
 br (std.lt v1 (std.ofN (len a0)))
 (req (std.inR v1 (len a0)) <|
 (F_impl_cells_put_mAb v2 (gd a0 (std.toN v1))).bind fun y16 =>
 some (.inl (std.add .i64 v1 1, y16)))
 (some (.inr v2))
/-- impl.cellsOf -/
noncomputable def F_impl_cellsOf (a0 : List TRect) : Option (Nat → Nat → Bool) :=
 (whileP (σ := Int × (Nat → Nat → Bool)) (ρ := ((Nat → Nat → Bool))) (L_impl_cellsOf_x3 a0) (0, zeroG)).bind fun y4 =>
 letO y4 fun y4k0 =>
 letO y4k0 fun w19 =>
 some w19
set_option maxHeartbeats 4000000 in
theorem run_impl_cellsOf (a0 : List TRect) (r : Nat → Nat → Bool) (h : F_impl_cellsOf a0 = some r) : Fun Try.prog 47 [.c (.bs (len a0) 4 (row gd (encRect) a0))] [] (.c (.ep 64000 0 0)) [(64000, .arr .rw [] 80 80 (encG r))] true := by
 refine ow [] Try.func47 Try.ntmps47 ?_ (hv := (fun _ => ⟨trivial, ⟨(fun i _ j _ => trivial), trivial⟩⟩)); unfold F_impl_cellsOf at h; unfold L_impl_cellsOf_x3 at h; have hf_impl_cells_put_mAb := @run_impl_cells_put_mAb; generalize hLEN : @len = LEN, hGD : @gd = GD, hA : std = A, hP : Try.prog = P at *; cbv; refine And.intro (by subst hA; exact zf53) ?_
 refine And.intro (by subst hA; exact zl_std 6400) ?_; refine ⟨_, rfl, _, encG zeroG, rfl, wkOf (zl_get hA 80 80 6400 rfl), ?_⟩; cbv
 revert h; refine ln (.exit 0) (fun x => (sparse 19 [(3, .c (.ep 448 0 0)), (8, .c (.bs (LEN a0) 4 (row GD (encRect) a0))), (9, .c (.v (.int .i64 (A.ofN (LEN a0))))), (10, .c (.v (.int .i64 x.1)))] [(448, .arr .rw [] 80 80 (encG x.2))])) (fun w => (sparse 19 [(3, .c (.ep 448 0 0))] [(448, .arr .rw [] 80 80 (encG w))])) zb ?_ ?_
 ·rintro ⟨v1, v2⟩ z h K hK hY; replace h := oz (oz h); dsimp only at h; cbv; revert h; refine fk ?_ ?_ <;> intro h <;> cbv
  ·revert h; refine ra fun c15 h => ?_
   revert h; refine rk [(5, 448)] [(5, 448)] (hf_impl_cells_put_mAb _ _) (fun _ => ⟨les_cons (lR _) (les_cons (lR _) (les_nil)), ⟨oS, trivial⟩, rfl, rfl, rfl, rfl, ⟨fun _ => ⟨rfl, rfl, fun c h => h⟩, trivial⟩, rfl⟩) fun y16 h => ⟨_, rfl, _, _, rfl, fun _ _ _ _ => .refl _, ?_⟩
   cbv; exact dm
  exact dx
 intro w19 h s q12; replace h := oz (oz h); cbv; refine ⟨_, q12, ?_⟩; cbv; injection h with h; subst h; exact ⟨_, le_ren 448 64000 (by decide) rfl, lR _, zo, rfl⟩

noncomputable def L_slices_Equal_Limpl_Rect_impl_Rect_x2 (a0 : List TRect) (a1 : List TRect) : (Int) → Option ((Int) ⊕ ((Unit) ⊕ (Unit))) := fun x2 =>
 letO x2 fun v1 =>
 br (std.lt v1 (std.ofN (len a0)))
 (req (std.inR v1 (len a0)) <|
 req (std.inR v1 (len a1)) <|
 br (std.not (std.band (std.eq (gd a0 (std.toN v1)).fX0 (gd a1 (std.toN v1)).fX0) (std.band (std.eq (gd a0 (std.toN v1)).fY0 (gd a1 (std.toN v1)).fY0) (std.band (std.eq (gd a0 (std.toN v1)).fX1 (gd a1 (std.toN v1)).fX1) (std.band (std.eq (gd a0 (std.toN v1)).fY1 (gd a1 (std.toN v1)).fY1) (true))))))
 (some (.inr (.inl ())))
 (some (.inl (std.add .i64 v1 1))))
 (some (.inr (.inr ())))
/-- impl.Rect] -/
noncomputable def F_slices_Equal_Limpl_Rect_impl_Rect (a0 : List TRect) (a1 : List TRect) : Option (Bool) :=
 br (std.not (std.eq (std.ofN (len a0)) (std.ofN (len a1))))
 (some false)
 ((whileP (σ := Int) (ρ := (Unit) ⊕ (Unit)) (L_slices_Equal_Limpl_Rect_impl_Rect_x2 a0 a1) 0).bind fun y3 =>
 (match y3 with
  | .inl y3k0 => (
    some false)
  | .inr y3m0 =>
    some true))
set_option maxHeartbeats 4000000 in
theorem run_slices_Equal_Limpl_Rect_impl_Rect (a0 : List TRect) (a1 : List TRect) (r : Bool) (h : F_slices_Equal_Limpl_Rect_impl_Rect a0 a1 = some r) : Fun Try.prog 46 [.c (.bs (len a0) 4 (row gd (encRect) a0)), .c (.bs (len a1) 4 (row gd (encRect) a1))] [] (.c (.v (.bool r))) [] true := by
 refine ow [] Try.func46 Try.ntmps46 ?_; unfold F_slices_Equal_Limpl_Rect_impl_Rect at h; unfold L_slices_Equal_Limpl_Rect_impl_Rect_x2 at h; generalize hLEN : @len = LEN, hGD : @gd = GD, hA : std = A, hP : Try.prog = P at *; cbv; revert h; refine fk ?_ ?_ <;> intro h <;> cbv
 ·exact df
 revert h; refine lc (fun x => (sparse 26 [(0, .c (.bs (LEN a0) 4 (row GD (encRect) a0))), (1, .c (.bs (LEN a1) 4 (row GD (encRect) a1))), (12, .c (.v (.int .i64 (A.ofN (LEN a0))))), (13, .c (.v (.int .i64 x)))] [])) (fun y e s => (match y with | .inl w => e = .ret ∧ s.le (sparse 26 [(4, .c (.v (.bool false)))] []) | .inr w0 => (fun (w : Unit) => e = .exit 0 ∧ s.le (sparse 26 [] [])) w0)) zb ?_ ?_
 ·intro v1 z h K hK hY; replace h := oz h; cbv; revert h; refine fk ?_ ?_ <;> intro h <;> cbv
  ·revert h; refine ra fun c14 h => ?_; revert h; refine ra fun c15 h => ?_; revert h; refine fk ?_ ?_ <;> intro h <;> cbv
   ·exact dy
   exact dm
  exact dy
 intro y3 h e12 s13 q11 hne; rcases y3 with y3k0 | y3m0
 ·replace h := h; obtain ⟨rfl, q11⟩ := q11; cbv; injection h with h; subst h; exact ⟨_, q11, lR _, zo, rfl⟩
 ·obtain ⟨rfl, q11⟩ := q11; cbv; refine ⟨_, q11, ?_⟩; cbv; exact df

/-- impl.IsRegion -/
noncomputable def F_impl_IsRegion (a0 : List TRect) : Option (Bool) :=
 ((
    (F_impl_validRects a0).bind fun y8 =>
    br y8
    ((F_impl_cellsOf a0).bind fun y10 =>
    (F_impl_cells_region_mA y10).bind fun y12 =>
    (F_slices_Equal_Limpl_Rect_impl_Rect y12.1 a0).bind fun y14 =>
    some y14)
    (some false)
  ) : Option (Bool)).bind fun y1 =>
 letO y1 fun w7 =>
 some w7
set_option maxHeartbeats 4000000 in
theorem run_impl_IsRegion (a0 : List TRect) (r : Bool) (h : F_impl_IsRegion a0 = some r) : Fun Try.prog 24 [.c (.bs (len a0) 4 (row gd (encRect) a0))] [] (.c (.v (.bool r))) [] true := by
 refine ow [1] Try.func24 Try.ntmps24 ?_; unfold F_impl_IsRegion at h; have hf_impl_cellsOf := @run_impl_cellsOf; have hf_impl_cells_region_mA := @run_impl_cells_region_mA; have hf_impl_validRects := @run_impl_validRects; have hf_slices_Equal_Limpl_Rect_impl_Rect := @run_slices_Equal_Limpl_Rect_impl_Rect; generalize hLEN : @len = LEN, hGD : @gd = GD, hA : std = A, hP : Try.prog = P at *; cbv
 revert h; refine cu (fun y1 => (sparse 12 [(2, .c (.v (.bool y1)))] [])) ?_ fun w7 => rz fun h => ?_
 ·intro y1 S hS h; cbv; revert h; refine rk0 (hf_impl_validRects _) fun y8 h => ?_; cbv; revert h; refine fk ?_ ?_ <;> intro h <;> cbv
  ·revert h; refine rk [] [(64000, 448)] (hf_impl_cellsOf _) (fun _ => zf) fun y10 h => ⟨_, rfl, _, _, rfl, fun _ _ _ _ => .refl _, ?_⟩
   cbv
   revert h; refine rk [(5, 448)] [(64000, 512), (5, 448)] (hf_impl_cells_region_mA _) (fun _ => ⟨les_cons (lR _) (les_nil), ⟨oS, trivial⟩, rfl, rfl, rfl, rfl, ⟨fun h => absurd (show (64000 : Nat) % 2 = 1 from h) (by decide), fun _ => ⟨rfl, rfl, fun c h => h⟩, trivial⟩, rfl⟩) fun y12 h => ⟨_, rfl, _, _, rfl, fun _ _ _ _ => .refl _, _, _, rfl, fun _ _ _ _ => .refl _, ?_⟩
   cbv; revert h; refine rk [] [] (hf_slices_Equal_Limpl_Rect_impl_Rect _ _) (fun _ => zg (les_cons (give_os (pl_encRect) rfl rfl rfl) (les_cons (lR _) (les_nil)))) fun y14 h => ?_; cbv; exact dn
  exact dn
 cbv; exact df

noncomputable def L_impl_ClipRegion_x15 (a0 : List TRect) (a1 : TRect) : (Int × (Nat → Nat → Bool)) → Option ((Int × (Nat → Nat → Bool)) ⊕ (((Nat → Nat → Bool)))) := fun x15 =>
 letO x15.1 fun v13 =>
 letO x15.2 fun v14 =>
 br (std.lt v13 (std.ofN (len a0)))
 (req (std.inR v13 (len a0)) <|
 (F_impl_common (gd a0 (std.toN v13)) a1).bind fun y28 =>
 (F_impl_cells_put_mAb v14 y28).bind fun y30 =>
 some (.inl (std.add .i64 v13 1, y30)))
 (some (.inr v14))
/-- impl.ClipRegion -/
noncomputable def F_impl_ClipRegion (a0 : List TRect) (a1 : TRect) : Option (List TRect) :=
 ((
    (F_impl_IsRegion a0).bind fun y8 =>
    br (!(y8))
    (some true)
    ((F_impl_IsValidRect a1).bind fun y10 =>
    some (!(y10)))
  ) : Option (Bool)).bind fun y1 =>
 letO y1 fun w7 =>
 br w7
 (some ([] : List TRect))
 ((whileP (σ := Int × (Nat → Nat → Bool)) (ρ := ((Nat → Nat → Bool))) (L_impl_ClipRegion_x15 a0 a1) (0, zeroG)).bind fun y16 =>
 letO y16 fun y16k0 =>
 letO y16k0 fun w33 =>
 (F_impl_cells_region_mA w33).bind fun y34 =>
 some y34.1)
set_option maxHeartbeats 4000000 in
theorem run_impl_ClipRegion (a0 : List TRect) (a1 : TRect) (r : List TRect) (h : F_impl_ClipRegion a0 a1 = some r) : Fun Try.prog 10 [.c (.bs (len a0) 4 (row gd (encRect) a0)), .agg [.v (.int .i64 a1.fX0), .v (.int .i64 a1.fY0), .v (.int .i64 a1.fX1), .v (.int .i64 a1.fY1)]] [] (.c (.os 64000 0 (len r))) [(64000, .arr .rw [] (len r) 4 (row gd (encRect) r))] true := by
 refine ow [1] Try.func10 Try.ntmps10 ?_ (hv := (fun _ => ⟨trivial, ⟨fun i _ j _ => val_flat (vl_encRect _ _), trivial⟩⟩)); unfold F_impl_ClipRegion at h; unfold L_impl_ClipRegion_x15 at h; have hf_impl_IsRegion := @run_impl_IsRegion; have hf_impl_IsValidRect := @run_impl_IsValidRect; have hf_impl_cells_put_mAb := @run_impl_cells_put_mAb; have hf_impl_cells_region_mA := @run_impl_cells_region_mA
 have hf_impl_common := @run_impl_common; generalize hLEN : @len = LEN, hGD : @gd = GD, hA : std = A, hP : Try.prog = P at *; cbv
 revert h; refine cu (fun y1 => (sparse 32 [(0, .c (.bs (LEN a0) 4 (row GD (encRect) a0))), (3, .c (.ptr 192 0)), (15, .c (.v (.bool y1)))] [(192, .var [.v (.int .i64 a1.fX0), .v (.int .i64 a1.fY0), .v (.int .i64 a1.fX1), .v (.int .i64 a1.fY1)])])) ?_ fun w7 => rz fun h => ?_
 ·intro y1 S hS h; cbv; revert h; refine rk0 (hf_impl_IsRegion _) fun y8 h => ?_; cbv; revert h; refine fk ?_ ?_ <;> intro h <;> cbv
  ·exact dn
  revert h; refine rk0 (hf_impl_IsValidRect _) fun y10 h => ?_; cbv; exact dn
 cbv; revert h; refine fk ?_ ?_ <;> intro h <;> cbv
 ·injection h with h; subst h; refine ⟨(sparse 32 [(4, .c (.os 64000 0 (LEN ([] : List TRect))))] [(64000, .arr .rw [] (LEN ([] : List TRect)) 4 (row GD (encRect) ([] : List TRect)))]), ?_, ?_⟩
  ·refine St.le_trans (le_nilT 4 64000 4 (row GD (encRect) ([] : List TRect)) (by decide) rfl) ?_; subst hLEN; exact zb
  ·subst hLEN; exact ⟨lR _, zo, rfl⟩
 refine And.intro (by subst hA; exact zf53) ?_; refine And.intro (by subst hA; exact zl_std 6400) ?_; refine ⟨_, rfl, _, encG zeroG, rfl, wkOf (zl_get hA 80 80 6400 rfl), ?_⟩; cbv
 revert h; refine ln (.exit 0) (fun x => (sparse 32 [(3, .c (.ptr 192 0)), (5, .c (.ep 1088 0 0)), (18, .c (.bs (LEN a0) 4 (row GD (encRect) a0))), (19, .c (.v (.int .i64 (A.ofN (LEN a0))))), (20, .c (.v (.int .i64 x.1)))] [(192, .var [.v (.int .i64 a1.fX0), .v (.int .i64 a1.fY0), .v (.int .i64 a1.fX1), .v (.int .i64 a1.fY1)]), (1088, .arr .rw [] 80 80 (encG x.2))])) (fun w => (sparse 32 [(5, .c (.ep 1088 0 0))] [(1088, .arr .rw [] 80 80 (encG w))])) zb ?_ ?_
 ·rintro ⟨v13, v14⟩ z h K hK hY; replace h := oz (oz h); dsimp only at h; cbv; revert h; refine fk ?_ ?_ <;> intro h <;> cbv
  ·revert h; refine ra fun c27 h => ?_; revert h; refine rk0 (hf_impl_common _ _) fun y28 h => ?_; cbv
   revert h; refine rk [(5, 1088)] [(5, 1088)] (hf_impl_cells_put_mAb _ _) (fun _ => ⟨les_cons (lR _) (les_cons (lR _) (les_nil)), ⟨oS, trivial⟩, rfl, rfl, rfl, rfl, ⟨fun _ => ⟨rfl, rfl, fun c h => h⟩, trivial⟩, rfl⟩) fun y30 h => ⟨_, rfl, _, _, rfl, fun _ _ _ _ => .refl _, ?_⟩
   cbv; exact dm
  exact dx
 intro w33 h s q24; replace h := oz (oz h); cbv; refine ⟨_, q24, ?_⟩; cbv
 revert h; refine rk [(5, 1088)] [(64000, 1984), (5, 1088)] (hf_impl_cells_region_mA _) (fun _ => ⟨les_cons (lR _) (les_nil), ⟨oS, trivial⟩, rfl, rfl, rfl, rfl, ⟨fun h => absurd (show (64000 : Nat) % 2 = 1 from h) (by decide), fun _ => ⟨rfl, rfl, fun c h => h⟩, trivial⟩, rfl⟩) fun y34 h => ⟨_, rfl, _, _, rfl, fun _ _ _ _ => .refl _, _, _, rfl, fun _ _ _ _ => .refl _, ?_⟩
 cbv; injection h with h; subst h; exact ⟨_, le_ren 1984 64000 (by decide) rfl, lR _, zo, rfl⟩

noncomputable def L_laws_sameRects_x2 (a0 : List TRect) (a1 : List TRect) : (Int) → Option ((Int) ⊕ ((Unit) ⊕ (Unit))) := fun x2 =>
 letO x2 fun v1 =>
 br (std.lt v1 (std.ofN (len a0)))
 (req (std.inR v1 (len a0)) <|
 req (std.inR v1 (len a1)) <|
 br (std.not (std.band (std.eq (gd a0 (std.toN v1)).fX0 (gd a1 (std.toN v1)).fX0) (std.band (std.eq (gd a0 (std.toN v1)).fY0 (gd a1 (std.toN v1)).fY0) (std.band (std.eq (gd a0 (std.toN v1)).fX1 (gd a1 (std.toN v1)).fX1) (std.band (std.eq (gd a0 (std.toN v1)).fY1 (gd a1 (std.toN v1)).fY1) (true))))))
 (some (.inr (.inl ())))
 (some (.inl (std.add .i64 v1 1))))
 (some (.inr (.inr ())))
/-- laws.sameRects -/
noncomputable def F_laws_sameRects (a0 : List TRect) (a1 : List TRect) : Option (Bool) :=
 br (std.not (std.eq (std.ofN (len a0)) (std.ofN (len a1))))
 (some false)
 ((whileP (σ := Int) (ρ := (Unit) ⊕ (Unit)) (L_laws_sameRects_x2 a0 a1) 0).bind fun y3 =>
 (match y3 with
  | .inl y3k0 => (
    some false)
  | .inr y3m0 =>
    some true))
set_option maxHeartbeats 4000000 in
theorem run_laws_sameRects (a0 : List TRect) (a1 : List TRect) (r : Bool) (h : F_laws_sameRects a0 a1 = some r) : Fun Try.prog 9 [.c (.bs (len a0) 4 (row gd (encRect) a0)), .c (.bs (len a1) 4 (row gd (encRect) a1))] [] (.c (.v (.bool r))) [] true := by
 refine ow [] Try.func9 Try.ntmps9 ?_; unfold F_laws_sameRects at h; unfold L_laws_sameRects_x2 at h; generalize hLEN : @len = LEN, hGD : @gd = GD, hA : std = A, hP : Try.prog = P at *; cbv; revert h; refine fk ?_ ?_ <;> intro h <;> cbv
 ·exact df
 revert h; refine lc (fun x => (sparse 26 [(0, .c (.bs (LEN a0) 4 (row GD (encRect) a0))), (1, .c (.bs (LEN a1) 4 (row GD (encRect) a1))), (5, .c (.v (.int .i64 x)))] [])) (fun y e s => (match y with | .inl w => e = .ret ∧ s.le (sparse 26 [(4, .c (.v (.bool false)))] []) | .inr w0 => (fun (w : Unit) => e = .exit 0 ∧ s.le (sparse 26 [] [])) w0)) zb ?_ ?_
 ·intro v1 z h K hK hY; replace h := oz h; cbv; revert h; refine fk ?_ ?_ <;> intro h <;> cbv
  ·revert h; refine ra fun c14 h => ?_; revert h; refine ra fun c15 h => ?_; revert h; refine fk ?_ ?_ <;> intro h <;> cbv
   ·exact dy
   exact dm
  exact dy
 intro y3 h e12 s13 q11 hne; rcases y3 with y3k0 | y3m0
 ·replace h := h; obtain ⟨rfl, q11⟩ := q11; cbv; injection h with h; subst h; exact ⟨_, q11, lR _, zo, rfl⟩
 ·obtain ⟨rfl, q11⟩ := q11; cbv; refine ⟨_, q11, ?_⟩; cbv; exact df

noncomputable def L_laws_FnWindowLayers_x34 (y3 : TLibrary × Int × TRect) (y5 : (List (List TRect)) × Int) (y7 : (List (List TRect)) × Int) : (Int) → Option ((Int) ⊕ ((Bool) ⊕ (Unit))) := fun x34 =>
 letO x34 fun v33 =>
 br (std.lt v33 8)
 (((
    req (std.inR v33 (len y5.1)) <|
    (F_impl_ClipRegion (gd y5.1 (std.nadd 0 (std.toN v33))) y3.2.2).bind fun y54 =>
    req (std.inR v33 (len y7.1)) <|
    (F_laws_sameRects y54 (gd y7.1 (std.nadd 0 (std.toN v33)))).bind fun y57 =>
    some (!(y57))
  ) : Option (Bool)).bind fun y46 =>
 letO y46 fun w52 =>
 br w52
 (some (.inr (.inl false)))
 (some (.inl (std.add .i64 v33 1))))
 (some (.inr (.inr ())))
/-- laws.FnWindowLayers -/
noncomputable def F_laws_FnWindowLayers (a0 : List Int) : Option (Bool) :=
 (F_laws_big a0).bind fun y1 =>
 br y1
 (some true)
 ((F_spec_DrawWindowLayers a0).bind fun y3 =>
 (F_impl_FlattenLayers y3.1 y3.2.1).bind fun y5 =>
 (F_impl_WindowLayers y3.1 y3.2.1 y3.2.2).bind fun y7 =>
 ((
    br (std.not (std.eq y5.2 0))
    (some true)
    (some (std.not (std.eq y7.2 0)))
  ) : Option (Bool)).bind fun y9 =>
 letO y9 fun w15 =>
 br w15
 (((
    br (std.eq (std.ofN (len y5.1)) 0)
    (some true)
    (some (std.eq (std.ofN (len y7.1)) 0))
  ) : Option (Bool)).bind fun y17 =>
 letO y17 fun w23 =>
 some w23)
 (((
    br (std.not (std.eq (std.ofN (len y5.1)) 8))
    (some true)
    (some (std.not (std.eq (std.ofN (len y7.1)) 8)))
  ) : Option (Bool)).bind fun y25 =>
 letO y25 fun w31 =>
 br w31
 (some false)
 ((whileP (σ := Int) (ρ := (Bool) ⊕ (Unit)) (L_laws_FnWindowLayers_x34 y3 y5 y7) 0).bind fun y35 =>
 (match y35 with
  | .inl y35k0 => (
    letO y35k0 fun w61 =>
    some w61)
  | .inr y35m0 =>
    some true))))
set_option maxHeartbeats 4000000 in
theorem run_laws_FnWindowLayers (a0 : List Int) (r : Bool) (h : F_laws_FnWindowLayers a0 = some r) : Fun Try.prog 3 [.c (.bs (len a0) 1 (row gd (encI .u8) a0))] [] (.c (.v (.bool r))) [] true := by
 refine ow [6, 7, 8, 13] Try.func3 Try.ntmps3 ?_; unfold F_laws_FnWindowLayers at h; unfold L_laws_FnWindowLayers_x34 at h; have hf_impl_ClipRegion := @run_impl_ClipRegion; have hf_impl_FlattenLayers := @run_impl_FlattenLayers; have hf_impl_WindowLayers := @run_impl_WindowLayers; have hf_laws_big := @run_laws_big; have hf_laws_sameRects := @run_laws_sameRects
 have hf_spec_DrawWindowLayers := @run_spec_DrawWindowLayers; generalize hLEN : @len = LEN, hGD : @gd = GD, hA : std = A, hP : Try.prog = P at *; cbv; revert h; refine rk0 (hf_laws_big _) fun y1 h => ?_; cbv; revert h; refine fk ?_ ?_ <;> intro h <;> cbv
 ·exact df
 revert h; refine rk [] [(64000, 960)] (hf_spec_DrawWindowLayers _) (fun _ => zf) fun y3 h => ⟨_, rfl, _, _, rfl, fun _ _ _ _ => .refl _, ?_⟩
 cbv; revert h; refine rk [] [(64000, 1408)] (hf_impl_FlattenLayers _ _) (fun _ => zg (les_cons (le_agg ⟨give_osD (rf_oncCell) (ln_oncCell) rfl rfl rfl, trivial⟩) (les_cons (lR _) (les_nil)))) fun y5 h => ⟨_, rfl, _, _, rfl, fun _ _ _ _ => .refl _, ?_⟩
 cbv; revert h; refine rk [] [(64000, 1856)] (hf_impl_WindowLayers _ _ _) (fun _ => zg (les_cons (le_agg ⟨give_osD (rf_oncCell) (ln_oncCell) rfl rfl rfl, trivial⟩) (les_cons (lR _) (les_cons (lR _) (les_nil))))) fun y7 h => ⟨_, rfl, _, _, rfl, fun _ _ _ _ => .refl _, ?_⟩
 cbv
 revert h; refine cu (fun y9 => (sparse 70 [(5, .c (.ptr 320 0)), (6, .c (.os 1408 0 (LEN y5.1))), (8, .c (.os 1856 0 (LEN y7.1))), (37, .c (.v (.bool y9)))] [(320, .var [.v (.int .i64 y3.2.2.fX0), .v (.int .i64 y3.2.2.fY0), .v (.int .i64 y3.2.2.fX1), .v (.int .i64 y3.2.2.fY1)]), (1408, .arr .rw [] (LEN y5.1) 1 (row GD (oncL LEN GD 4 (encRect)) y5.1)), (1856, .arr .rw [] (LEN y7.1) 1 (row GD (oncL LEN GD 4 (encRect)) y7.1))])) (fun y9 S hS h => rg) fun w15 => rz fun h => ?_
 cbv; revert h; refine fk ?_ ?_ <;> intro h <;> cbv
 ·revert h; refine cu (fun y17 => (sparse 70 [(2, .c (.v (.bool y17)))] [])) (fun y17 S hS h => rg) fun w23 => rz fun h => ?_; cbv; exact df
 revert h; refine cu (fun y25 => (sparse 70 [(5, .c (.ptr 320 0)), (6, .c (.os 1408 0 (LEN y5.1))), (8, .c (.os 1856 0 (LEN y7.1))), (53, .c (.v (.bool y25)))] [(320, .var [.v (.int .i64 y3.2.2.fX0), .v (.int .i64 y3.2.2.fY0), .v (.int .i64 y3.2.2.fX1), .v (.int .i64 y3.2.2.fY1)]), (1408, .arr .rw [] (LEN y5.1) 1 (row GD (oncL LEN GD 4 (encRect)) y5.1)), (1856, .arr .rw [] (LEN y7.1) 1 (row GD (oncL LEN GD 4 (encRect)) y7.1))])) (fun y25 S hS h => rg) fun w31 => rz fun h => ?_
 cbv; revert h; refine fk ?_ ?_ <;> intro h <;> cbv
 ·exact df
 revert h; refine lc (fun x => (sparse 70 [(5, .c (.ptr 320 0)), (6, .c (.os 1408 0 (LEN y5.1))), (8, .c (.os 1856 0 (LEN y7.1))), (10, .c (.v (.int .i64 x)))] [(320, .var [.v (.int .i64 y3.2.2.fX0), .v (.int .i64 y3.2.2.fY0), .v (.int .i64 y3.2.2.fX1), .v (.int .i64 y3.2.2.fY1)]), (1408, .arr .rw [] (LEN y5.1) 1 (row GD (oncL LEN GD 4 (encRect)) y5.1)), (1856, .arr .rw [] (LEN y7.1) 1 (row GD (oncL LEN GD 4 (encRect)) y7.1))])) (fun y e s => (match y with | .inl w => e = .ret ∧ s.le (sparse 70 [(2, .c (.v (.bool w)))] []) | .inr w0 => (fun (w : Unit) => e = .exit 0 ∧ s.le (sparse 70 [] [])) w0)) zb ?_ ?_
 ·intro v33 z h K hK hY; replace h := oz h; cbv; revert h; refine fk ?_ ?_ <;> intro h <;> cbv
  ·revert h; refine cu (fun y46 => (sparse 70 [(5, .c (.ptr 320 0)), (6, .c (.os 1408 0 (LEN y5.1))), (8, .c (.os 1856 0 (LEN y7.1))), (10, .c (.v (.int .i64 v33))), (69, .c (.v (.bool y46)))] [(320, .var [.v (.int .i64 y3.2.2.fX0), .v (.int .i64 y3.2.2.fY0), .v (.int .i64 y3.2.2.fX1), .v (.int .i64 y3.2.2.fY1)]), (1408, .arr .rw [] (LEN y5.1) 1 (row GD (oncL LEN GD 4 (encRect)) y5.1)), (1856, .arr .rw [] (LEN y7.1) 1 (row GD (oncL LEN GD 4 (encRect)) y7.1))])) ?_ fun w52 => rz fun h => ?_
   ·intro y46 S hS h; cbv; revert h; refine ra fun c53 h => ?_; refine ai c53 ?_; refine ⟨_, rfl, _, (patchC (row GD (oncL LEN GD 4 (encRect)) y5.1) (A.nadd 0 (A.toN v33)) [.os 3906 0 (LEN (GD y5.1 (A.nadd 0 (A.toN v33))))]), rfl, wkOf (patch_of zr), ?_⟩; refine ⟨_, row GD (encRect) (GD y5.1 (A.nadd 0 (A.toN v33))), rfl, wkOf (fun i _ j _ => plain_cp (pl_encRect _ _)), ?_⟩; cbv
    revert h; refine rk [] [(64000, 4032)] (hf_impl_ClipRegion _ _) (fun _ => zg (les_cons (give_os (pl_encRect) rfl rfl rfl) (les_cons (lR _) (les_nil)))) fun y54 h => ⟨_, rfl, _, _, rfl, fun _ _ _ _ => .refl _, ?_⟩
    cbv; revert h; refine ra fun c56 h => ?_; refine ai c56 ?_; refine ⟨_, rfl, _, (patchC (row GD (oncL LEN GD 4 (encRect)) y7.1) (A.nadd 0 (A.toN v33)) [.os 4290 0 (LEN (GD y7.1 (A.nadd 0 (A.toN v33))))]), rfl, wkOf (patch_of zr), ?_⟩; refine ⟨_, row GD (encRect) (GD y7.1 (A.nadd 0 (A.toN v33))), rfl, wkOf (fun i _ j _ => plain_cp (pl_encRect _ _)), ?_⟩; cbv
    revert h; refine rk [] [] (hf_laws_sameRects _ _) (fun _ => zg (les_cons (give_os (pl_encRect) rfl rfl rfl) (les_cons (give_os (pl_encRect) rfl rfl rfl) (les_nil)))) fun y57 h => ?_; cbv; injection h with h; subst h; subst hS; show St.le _ _; refine St.le_trans (le_foldP 1408 0 3906 rfl rfl rfl (by decide) (by subst hA; exact idx_lt c53) (by decide) rfl (fun _ _ => rfl)) ?_
    refine St.le_trans (le_foldP 1856 0 4290 rfl rfl rfl (by decide) (by subst hA; exact idx_lt c56) (by decide) rfl (fun _ _ => rfl)) ?_; exact le_sparse rfl zl ⟨rfl, oP (fun _ _ => rfl) (by subst hGD hLEN hA; exact patch_same zr), oP (fun _ _ => rfl) (by subst hGD hLEN hA; exact patch_same zr), trivial⟩ rfl
   cbv; revert h; refine fk ?_ ?_ <;> intro h <;> cbv
   ·exact dy
   exact dm
  exact dy
 intro y35 h e44 s45 q43 hne; rcases y35 with y35k0 | y35m0
 ·replace h := h; obtain ⟨rfl, q43⟩ := q43; revert h; refine rz fun h => ?_; cbv; injection h with h; subst h; exact ⟨_, q43, lR _, zo, rfl⟩
 ·obtain ⟨rfl, q43⟩ := q43; cbv; refine ⟨_, q43, ?_⟩; cbv; exact df
theorem op_5 (d : Nat) : Opens T (d + 1) 5 (clI .u8) (wfI .u8) := op_int .u8 (show T 5 = some d5 from rfl) rfl
theorem op_22 (d : Nat) : Opens T (d + 2) 22 (clL 1 (encI .u8)) (wfL (wfI .u8)) := op_slice (e := 5) (sz := 1) (show T 22 = some d22 from rfl) rfl (show T 5 = some d5 from rfl) rfl (fun x j hj => by match j, hj with | 0, _ => rfl | (j_ + 1), h_ => exact absurd h_ (by omega)) (op_5 d)
theorem open_22 {H : Type} {enc : TypeId × Value → H} {W : World} {spare : Nat → Bool} {held : Bool} {r : Reach} {base : Nat} {v : Value} {x : DataW H} {ps : List MemPlace}
    (hv : Value.okWide Try.prog W r base 22 v) (h : DataW.Trod enc Try.prog W 0 spare held 22 v x ps) : ∃ e : List Int, (wfL (wfI .u8)) e ∧ RelV (RelI (fun b => b < W.heap.size) W) (.c (.bs (len e) 1 (row gd (encI .u8) e))) v := by
  refine opened_one tok (op_22 0) (fun _ => rfl) (by kernel_rfl) ?_ h
  have ht : Try.prog.underlying 22 = some (.slice 5) := (tok 22 d22 rfl).1
  unfold Value.okWide at hv
  rw [ht] at hv
  cases v <;> first | rfl | exact False.elim hv
end Go.Proofs.Ytpobpihakgegbaa.AM
