/-
  What the functions that the law reaches compute, and that they do. No condition.
-/
import Derived.Test.YtnpcpbkbenphaaaAmSW
namespace Go.Proofs.Ytnpcpbkbenphaaa.AM
open Go Go.Proofs Go.RowKit
set_option linter.unusedVariables false
set_option linter.unusedSimpArgs false
set_option maxRecDepth 100000

/-- impl.nameBytes -/
noncomputable def F_impl_nameBytes_mnb (a0 : List Int) (a1 : ByteArray) : Option (List Int) :=
 letO ([std.conv .u8 (std.ofN (std.slen a1))] : List Int) fun l1 =>
 req (std.room (std.nadd 0 (len l1)) 1) <|
 letO (([] : List Int) ++ l1) fun l3 =>
 req (std.room (std.nadd (len l3) (std.slen a1)) 1) <|
 letO (l3 ++ strL a1) fun l6 =>
 some l6
set_option maxHeartbeats 4000000 in
theorem run_impl_nameBytes_mnb (a0 : List Int) (a1 : ByteArray) (r : List Int) (h : F_impl_nameBytes_mnb a0 a1 = some r) : Fun Try.prog 38 [.c (.v (.slice none 0 0)), .c (.v (.string a1))] [] (.c (.os 64000 0 (len r))) [(64000, .arr .rw [] (len r) 1 (row gd (encI .u8) r))] true := by
 refine ow [] Try.func38 Try.ntmps38 ?_ (hv := (fun _ => ⟨trivial, ⟨fun i _ j _ => val_flat (rfl), trivial⟩⟩)); unfold F_impl_nameBytes_mnb at h; generalize hLEN : @len = LEN, hGD : @gd = GD, hA : std = A, hP : Try.prog = P at *; cbv; revert h; refine rl fun l1 hl1 h => ?_; have e2 : 1 = LEN l1 := by subst hl1 hLEN; rfl
 refine ⟨_, (co e2), _, row GD (encI .u8) l1, e2, wkOf ?_, ?_⟩
 ·intro i hi j hj; rw [← e2] at hi; subst hl1; subst hGD; obtain rfl : i = 0 := (by omega); all_goals obtain rfl : j = 0 := by omega
  all_goals rfl
 cbv; revert h; refine rq fun c5 => rl fun l3 hl3 h => ?_; have e4 := nz hA hLEN hl3; refine ⟨c5, _, (co e4), _, row GD (encI .u8) l3, e4, wkOf ?_, ?_⟩
 ·subst hGD hLEN hA; exact app_nil_os (off := 0) (fun _ _ => rfl) hl3 (Nat.le_refl _)
 cbv; revert h; refine rq fun c8 => rl fun l6 hl6 h => ?_; have e7 : A.nadd (LEN l3) (A.slen a1) = LEN l6 := by subst hl6 hLEN hA; exact (strapp_len _ _).symm
 refine ⟨c8, _, (co e7), _, row GD (encI .u8) l6, e7, wkOf ?_, ?_⟩
 ·subst hGD hLEN hA; exact app_str hl6 (Nat.le_refl _)
 cbv; injection h with h; subst h; exact ⟨_, le_ren 640 64000 (by decide) rfl, lR _, zo, rfl⟩

noncomputable def L_impl_coordinates_mob_x3 (a1 : List Int) : (Int × (List Int)) → Option ((Int × (List Int)) ⊕ (((List Int)))) := fun x3 =>
 letO x3.1 fun v1 =>
 letO x3.2 fun v2 =>
 br (std.lt v1 (std.ofN (len a1)))
 (req (std.inR v1 (len a1)) <|
 (F_impl_two_mob v2 (std.add .i64 (gd a1 (std.toN v1)) 32768)).bind fun y16 =>
 some (.inl (std.add .i64 v1 1, y16)))
 (some (.inr v2))
/-- impl.coordinates -/
noncomputable def F_impl_coordinates_mob (a0 : List Int) (a1 : List Int) : Option (List Int) :=
 (whileP (σ := Int × (List Int)) (ρ := ((List Int))) (L_impl_coordinates_mob_x3 a1) (0, a0)).bind fun y4 =>
 letO y4 fun y4k0 =>
 letO y4k0 fun w19 =>
 some w19
set_option maxHeartbeats 4000000 in
theorem run_impl_coordinates_mob (a0 : List Int) (a1 : List Int) (r : List Int) (h : F_impl_coordinates_mob a0 a1 = some r) : Fun Try.prog 64 [.c (.os 5 0 (len a0)), .c (.bs (len a1) 1 (row gd (encI .i64) a1))] [(5, .arr .rw [] (len a0) 1 (row gd (encI .u8) a0))] (.c (.os 64000 0 (len r))) [(64000, .arr .rw [] (len r) 1 (row gd (encI .u8) r))] true := by
 refine ow [] Try.func64 Try.ntmps64 ?_ (hw := ⟨fun i _ j _ k hk => (noref (plain_nil (rfl)) hk).elim, trivial⟩) (hv := (fun _ => ⟨trivial, ⟨fun i _ j _ => val_flat (rfl), trivial⟩⟩)); unfold F_impl_coordinates_mob at h; unfold L_impl_coordinates_mob_x3 at h; have hf_impl_two_mob := @run_impl_two_mob; generalize hLEN : @len = LEN, hGD : @gd = GD, hA : std = A, hP : Try.prog = P at *; cbv
 revert h; refine ln (.exit 0) (fun x => (sparse 19 [(0, .c (.os 62000 0 (LEN x.2))), (7, .c (.bs (LEN a1) 1 (row GD (encI .i64) a1))), (8, .c (.v (.int .i64 (A.ofN (LEN a1))))), (9, .c (.v (.int .i64 x.1)))] [(62000, .arr .rw [] (LEN x.2) 1 (row GD (encI .u8) x.2))])) (fun w => (sparse 19 [(0, .c (.os 62000 0 (LEN w)))] [(62000, .arr .rw [] (LEN w) 1 (row GD (encI .u8) w))])) ?_ ?_ ?_
 ·show St.le _ _; refine St.le_trans (le_ren 5 62000 (by decide) rfl) ?_; exact zb
 ·rintro ⟨v1, v2⟩ z h K hK hY; replace h := oz (oz h); dsimp only at h; cbv; revert h; refine fk ?_ ?_ <;> intro h <;> cbv
  ·revert h; refine ra fun c15 h => ?_; revert h; refine rk [(5, 62000)] [(64000, 1024)] (hf_impl_two_mob _ _) (fun _ => zf) fun y16 h => ⟨_, rfl, _, _, rfl, fun _ _ _ _ => .refl _, ?_⟩
   cbv; injection h with h; refine hK _ h.symm _ ?_; refine St.le_trans (le_ren 1024 62000 (by decide) rfl) ?_; exact zb
  exact dx
 intro w19 h s q12; replace h := oz (oz h); cbv; refine ⟨_, q12, ?_⟩; cbv; injection h with h; subst h; exact ⟨_, le_ren 62000 64000 (by decide) rfl, lR _, zo, rfl⟩

/-- impl.shapeBytes -/
noncomputable def F_impl_shapeBytes_mnb (a0 : List Int) (a1 : TShape) : Option (List Int) :=
 letO ([std.conv .u8 a1.fLayer] : List Int) fun l1 =>
 req (std.room (std.nadd 0 (len l1)) 1) <|
 letO (([] : List Int) ++ l1) fun l3 =>
 letO ([a1.fBox.fX0, a1.fBox.fY0, a1.fBox.fX1, a1.fBox.fY1] : List Int) fun l6 =>
 (F_impl_coordinates_mob l3 l6).bind fun y8 =>
 some y8
set_option maxHeartbeats 4000000 in
theorem run_impl_shapeBytes_mnb (a0 : List Int) (a1 : TShape) (r : List Int) (h : F_impl_shapeBytes_mnb a0 a1 = some r) : Fun Try.prog 39 [.c (.v (.slice none 0 0)), .agg [.v (.int .i64 a1.fLayer), .v (.int .i64 a1.fBox.fX0), .v (.int .i64 a1.fBox.fY0), .v (.int .i64 a1.fBox.fX1), .v (.int .i64 a1.fBox.fY1)]] [] (.c (.os 64000 0 (len r))) [(64000, .arr .rw [] (len r) 1 (row gd (encI .u8) r))] true := by
 refine ow [] Try.func39 Try.ntmps39 ?_ (hv := (fun _ => ⟨trivial, ⟨fun i _ j _ => val_flat (rfl), trivial⟩⟩)); unfold F_impl_shapeBytes_mnb at h; have hf_impl_coordinates_mob := @run_impl_coordinates_mob; generalize hLEN : @len = LEN, hGD : @gd = GD, hA : std = A, hP : Try.prog = P at *; cbv; revert h; refine rl fun l1 hl1 h => ?_; have e2 : 1 = LEN l1 := by subst hl1 hLEN; rfl
 refine ⟨_, (co e2), _, row GD (encI .u8) l1, e2, wkOf ?_, ?_⟩
 ·intro i hi j hj; rw [← e2] at hi; subst hl1; subst hGD; obtain rfl : i = 0 := (by omega); all_goals obtain rfl : j = 0 := by omega
  all_goals rfl
 cbv; revert h; refine rq fun c5 => rl fun l3 hl3 h => ?_; have e4 := nz hA hLEN hl3; refine ⟨c5, _, (co e4), _, row GD (encI .u8) l3, e4, wkOf ?_, ?_⟩
 ·subst hGD hLEN hA; exact app_nil_os (off := 0) (fun _ _ => rfl) hl3 (Nat.le_refl _)
 cbv; revert h; refine rl fun l6 hl6 h => ?_; have e7 : 4 = LEN l6 := by subst hl6 hLEN; rfl
 refine ⟨_, (co e7), _, row GD (encI .i64) l6, e7, wkOf ?_, ?_⟩
 ·intro i hi j hj; rw [← e7] at hi; subst hl6; subst hGD; obtain rfl | rfl | rfl | rfl : i = 0 ∨ i = 1 ∨ i = 2 ∨ i = 3 := (by omega); all_goals obtain rfl : j = 0 := by omega
  all_goals rfl
 cbv; revert h; refine rk [(5, 640)] [(64000, 1536)] (hf_impl_coordinates_mob _ _) (fun _ => zg (les_cons (lR _) (les_cons (give_os (fun _ _ => rfl) rfl rfl rfl) (les_nil)))) fun y8 h => ⟨_, rfl, _, _, rfl, fun _ _ _ _ => .refl _, ?_⟩
 cbv; injection h with h; subst h; exact ⟨_, le_ren 1536 64000 (by decide) rfl, lR _, zo, rfl⟩

/-- impl.nameBytes -/
noncomputable def F_impl_nameBytes_mob (a0 : List Int) (a1 : ByteArray) : Option (List Int) :=
 letO ([std.conv .u8 (std.ofN (std.slen a1))] : List Int) fun l1 =>
 req (std.room (std.nadd (len a0) (len l1)) 1) <|
 letO (a0 ++ l1) fun l3 =>
 req (std.room (std.nadd (len l3) (std.slen a1)) 1) <|
 letO (l3 ++ strL a1) fun l6 =>
 some l6
set_option maxHeartbeats 4000000 in
theorem run_impl_nameBytes_mob (a0 : List Int) (a1 : ByteArray) (r : List Int) (h : F_impl_nameBytes_mob a0 a1 = some r) : Fun Try.prog 38 [.c (.os 5 0 (len a0)), .c (.v (.string a1))] [(5, .arr .rw [] (len a0) 1 (row gd (encI .u8) a0))] (.c (.os 64000 0 (len r))) [(64000, .arr .rw [] (len r) 1 (row gd (encI .u8) r))] true := by
 refine ow [] Try.func38 Try.ntmps38 ?_ (hw := ⟨fun i _ j _ k hk => (noref (plain_nil (rfl)) hk).elim, trivial⟩) (hv := (fun _ => ⟨trivial, ⟨fun i _ j _ => val_flat (rfl), trivial⟩⟩)); unfold F_impl_nameBytes_mob at h; generalize hLEN : @len = LEN, hGD : @gd = GD, hA : std = A, hP : Try.prog = P at *; cbv; revert h; refine rl fun l1 hl1 h => ?_; have e2 : 1 = LEN l1 := by subst hl1 hLEN; rfl
 refine ⟨_, (co e2), _, row GD (encI .u8) l1, e2, wkOf ?_, ?_⟩
 ·intro i hi j hj; rw [← e2] at hi; subst hl1; subst hGD; obtain rfl : i = 0 := (by omega); all_goals obtain rfl : j = 0 := by omega
  all_goals rfl
 cbv; revert h; refine rq fun c5 => rl fun l3 hl3 h => ?_; have e4 := nl hA hLEN hl3; refine ⟨c5, _, (co e4), _, row GD (encI .u8) l3, e4, wkOf ?_, ?_⟩
 ·subst hGD hLEN hA; exact app_os (off := 0) (fun _ _ => rfl) hl3 (Nat.le_refl _)
 cbv; revert h; refine rq fun c8 => rl fun l6 hl6 h => ?_; have e7 : A.nadd (LEN l3) (A.slen a1) = LEN l6 := by subst hl6 hLEN hA; exact (strapp_len _ _).symm
 refine ⟨c8, _, (co e7), _, row GD (encI .u8) l6, e7, wkOf ?_, ?_⟩
 ·subst hGD hLEN hA; exact app_str hl6 (Nat.le_refl _)
 cbv; injection h with h; subst h; exact ⟨_, le_ren 640 64000 (by decide) rfl, lR _, zo, rfl⟩

/-- impl.labelBytes -/
noncomputable def F_impl_labelBytes_mnb (a0 : List Int) (a1 : TLabel) : Option (List Int) :=
 letO ([std.conv .u8 a1.fLayer] : List Int) fun l1 =>
 req (std.room (std.nadd 0 (len l1)) 1) <|
 letO (([] : List Int) ++ l1) fun l3 =>
 letO ([a1.fAt.fX, a1.fAt.fY] : List Int) fun l6 =>
 (F_impl_coordinates_mob l3 l6).bind fun y8 =>
 (F_impl_nameBytes_mob y8 a1.fName).bind fun y10 =>
 some y10
set_option maxHeartbeats 4000000 in
theorem run_impl_labelBytes_mnb (a0 : List Int) (a1 : TLabel) (r : List Int) (h : F_impl_labelBytes_mnb a0 a1 = some r) : Fun Try.prog 40 [.c (.v (.slice none 0 0)), .agg [.v (.int .i64 a1.fLayer), .v (.int .i64 a1.fAt.fX), .v (.int .i64 a1.fAt.fY), .v (.string a1.fName)]] [] (.c (.os 64000 0 (len r))) [(64000, .arr .rw [] (len r) 1 (row gd (encI .u8) r))] true := by
 refine ow [] Try.func40 Try.ntmps40 ?_ (hv := (fun _ => ⟨trivial, ⟨fun i _ j _ => val_flat (rfl), trivial⟩⟩)); unfold F_impl_labelBytes_mnb at h; have hf_impl_coordinates_mob := @run_impl_coordinates_mob; have hf_impl_nameBytes_mob := @run_impl_nameBytes_mob; generalize hLEN : @len = LEN, hGD : @gd = GD, hA : std = A, hP : Try.prog = P at *; cbv; revert h; refine rl fun l1 hl1 h => ?_
 have e2 : 1 = LEN l1 := by subst hl1 hLEN; rfl
 refine ⟨_, (co e2), _, row GD (encI .u8) l1, e2, wkOf ?_, ?_⟩
 ·intro i hi j hj; rw [← e2] at hi; subst hl1; subst hGD; obtain rfl : i = 0 := (by omega); all_goals obtain rfl : j = 0 := by omega
  all_goals rfl
 cbv; revert h; refine rq fun c5 => rl fun l3 hl3 h => ?_; have e4 := nz hA hLEN hl3; refine ⟨c5, _, (co e4), _, row GD (encI .u8) l3, e4, wkOf ?_, ?_⟩
 ·subst hGD hLEN hA; exact app_nil_os (off := 0) (fun _ _ => rfl) hl3 (Nat.le_refl _)
 cbv; revert h; refine rl fun l6 hl6 h => ?_; have e7 : 2 = LEN l6 := by subst hl6 hLEN; rfl
 refine ⟨_, (co e7), _, row GD (encI .i64) l6, e7, wkOf ?_, ?_⟩
 ·intro i hi j hj; rw [← e7] at hi; subst hl6; subst hGD; obtain rfl | rfl : i = 0 ∨ i = 1 := (by omega); all_goals obtain rfl : j = 0 := by omega
  all_goals rfl
 cbv; revert h; refine rk [(5, 640)] [(64000, 1152)] (hf_impl_coordinates_mob _ _) (fun _ => zg (les_cons (lR _) (les_cons (give_os (fun _ _ => rfl) rfl rfl rfl) (les_nil)))) fun y8 h => ⟨_, rfl, _, _, rfl, fun _ _ _ _ => .refl _, ?_⟩
 cbv; revert h; refine rk [(5, 1152)] [(64000, 1344)] (hf_impl_nameBytes_mob _ _) (fun _ => zf) fun y10 h => ⟨_, rfl, _, _, rfl, fun _ _ _ _ => .refl _, ?_⟩
 cbv; injection h with h; subst h; exact ⟨_, le_ren 1344 64000 (by decide) rfl, lR _, zo, rfl⟩

/-- impl.placeBytes -/
noncomputable def F_impl_placeBytes_mob (a0 : List Int) (a1 : TInstance) : Option (List Int) :=
 letO ([std.conv .u8 a1.fPlace.fOrientation] : List Int) fun l1 =>
 req (std.room (std.nadd (len a0) (len l1)) 1) <|
 letO (a0 ++ l1) fun l3 =>
 letO ([a1.fPlace.fX, a1.fPlace.fY] : List Int) fun l6 =>
 (F_impl_coordinates_mob l3 l6).bind fun y8 =>
 letO ([std.conv .u8 a1.fColumns, std.conv .u8 a1.fRows] : List Int) fun l10 =>
 req (std.room (std.nadd (len y8) (len l10)) 1) <|
 letO (y8 ++ l10) fun l12 =>
 letO ([a1.fStepX, a1.fStepY] : List Int) fun l15 =>
 (F_impl_coordinates_mob l12 l15).bind fun y17 =>
 some y17
set_option maxHeartbeats 4000000 in
theorem run_impl_placeBytes_mob (a0 : List Int) (a1 : TInstance) (r : List Int) (h : F_impl_placeBytes_mob a0 a1 = some r) : Fun Try.prog 41 [.c (.os 5 0 (len a0)), .agg [.v (.int .i64 a1.fCell), .v (.int .i64 a1.fPlace.fOrientation), .v (.int .i64 a1.fPlace.fX), .v (.int .i64 a1.fPlace.fY), .v (.int .i64 a1.fColumns), .v (.int .i64 a1.fRows), .v (.int .i64 a1.fStepX), .v (.int .i64 a1.fStepY)]] [(5, .arr .rw [] (len a0) 1 (row gd (encI .u8) a0))] (.c (.os 64000 0 (len r))) [(64000, .arr .rw [] (len r) 1 (row gd (encI .u8) r))] true := by
 refine ow [] Try.func41 Try.ntmps41 ?_ (hw := ⟨fun i _ j _ k hk => (noref (plain_nil (rfl)) hk).elim, trivial⟩) (hv := (fun _ => ⟨trivial, ⟨fun i _ j _ => val_flat (rfl), trivial⟩⟩)); unfold F_impl_placeBytes_mob at h; have hf_impl_coordinates_mob := @run_impl_coordinates_mob; generalize hLEN : @len = LEN, hGD : @gd = GD, hA : std = A, hP : Try.prog = P at *; cbv
 revert h; refine rl fun l1 hl1 h => ?_; have e2 : 1 = LEN l1 := by subst hl1 hLEN; rfl
 refine ⟨_, (co e2), _, row GD (encI .u8) l1, e2, wkOf ?_, ?_⟩
 ·intro i hi j hj; rw [← e2] at hi; subst hl1; subst hGD; obtain rfl : i = 0 := (by omega); all_goals obtain rfl : j = 0 := by omega
  all_goals rfl
 cbv; revert h; refine rq fun c5 => rl fun l3 hl3 h => ?_; have e4 := nl hA hLEN hl3; refine ⟨c5, _, (co e4), _, row GD (encI .u8) l3, e4, wkOf ?_, ?_⟩
 ·subst hGD hLEN hA; exact app_os (off := 0) (fun _ _ => rfl) hl3 (Nat.le_refl _)
 cbv; revert h; refine rl fun l6 hl6 h => ?_; have e7 : 2 = LEN l6 := by subst hl6 hLEN; rfl
 refine ⟨_, (co e7), _, row GD (encI .i64) l6, e7, wkOf ?_, ?_⟩
 ·intro i hi j hj; rw [← e7] at hi; subst hl6; subst hGD; obtain rfl | rfl : i = 0 ∨ i = 1 := (by omega); all_goals obtain rfl : j = 0 := by omega
  all_goals rfl
 cbv; revert h; refine rk [(5, 704)] [(64000, 1216)] (hf_impl_coordinates_mob _ _) (fun _ => zg (les_cons (lR _) (les_cons (give_os (fun _ _ => rfl) rfl rfl rfl) (les_nil)))) fun y8 h => ⟨_, rfl, _, _, rfl, fun _ _ _ _ => .refl _, ?_⟩
 cbv; revert h; refine rl fun l10 hl10 h => ?_; have e11 : 2 = LEN l10 := by subst hl10 hLEN; rfl
 refine ⟨_, (co e11), _, row GD (encI .u8) l10, e11, wkOf ?_, ?_⟩
 ·intro i hi j hj; rw [← e11] at hi; subst hl10; subst hGD; obtain rfl | rfl : i = 0 ∨ i = 1 := (by omega); all_goals obtain rfl : j = 0 := by omega
  all_goals rfl
 cbv; revert h; refine rq fun c14 => rl fun l12 hl12 h => ?_; have e13 := nl hA hLEN hl12; refine ⟨c14, _, (co e13), _, row GD (encI .u8) l12, e13, wkOf ?_, ?_⟩
 ·subst hGD hLEN hA; exact app_os (off := 0) (fun _ _ => rfl) hl12 (Nat.le_refl _)
 cbv; revert h; refine rl fun l15 hl15 h => ?_; have e16 : 2 = LEN l15 := by subst hl15 hLEN; rfl
 refine ⟨_, (co e16), _, row GD (encI .i64) l15, e16, wkOf ?_, ?_⟩
 ·intro i hi j hj; rw [← e16] at hi; subst hl15; subst hGD; obtain rfl | rfl : i = 0 ∨ i = 1 := (by omega); all_goals obtain rfl : j = 0 := by omega
  all_goals rfl
 cbv; revert h; refine rk [(5, 1216)] [(64000, 2176)] (hf_impl_coordinates_mob _ _) (fun _ => zg (les_cons (lR _) (les_cons (give_os (fun _ _ => rfl) rfl rfl rfl) (les_nil)))) fun y17 h => ⟨_, rfl, _, _, rfl, fun _ _ _ _ => .refl _, ?_⟩
 cbv; injection h with h; subst h; exact ⟨_, le_ren 2176 64000 (by decide) rfl, lR _, zo, rfl⟩
noncomputable def L_impl_cellRecords_x51 (a0 : TLibrary) (a1 : TCell) : (ByteArray × Int) → Option ((ByteArray × Int) ⊕ ((ByteArray))) := fun x51 =>
 letO x51.1 fun v49 =>
 letO x51.2 fun v50 =>
 br (std.lt v50 (std.ofN (len a1.fInstances)))
 (req (std.inR v50 (len a1.fInstances)) <|
 req (std.inR (gd a1.fInstances (std.toN v50)).fCell (len a0.fCells)) <|
 (F_impl_nameBytes_mnb ([] : List Int) (gd a0.fCells (std.toN (gd a1.fInstances (std.toN v50)).fCell)).fName).bind fun y65 =>
 (F_impl_placeBytes_mob y65 (gd a1.fInstances (std.toN v50))).bind fun y67 =>
 (F_impl_StreamRecord 5 (std.ofBytes (len y67) (fun i => gd y67 (0 + i)))).bind fun y69 =>
 req (std.room (std.nadd (std.slen v49) (std.slen y69)) 1) <|
 some (.inl (std.scat v49 y69, std.add .i64 v50 1)))
 (some (.inr v49))
noncomputable def L_impl_cellRecords_x29 (a1 : TCell) : (ByteArray × Int) → Option ((ByteArray × Int) ⊕ ((ByteArray))) := fun x29 =>
 letO x29.1 fun v27 =>
 letO x29.2 fun v28 =>
 br (std.lt v28 (std.ofN (len a1.fLabels)))
 (req (std.inR v28 (len a1.fLabels)) <|
 (F_impl_labelBytes_mnb ([] : List Int) (gd a1.fLabels (std.toN v28))).bind fun y42 =>
 (F_impl_StreamRecord 4 (std.ofBytes (len y42) (fun i => gd y42 (0 + i)))).bind fun y44 =>
 req (std.room (std.nadd (std.slen v27) (std.slen y44)) 1) <|
 some (.inl (std.scat v27 y44, std.add .i64 v28 1)))
 (some (.inr v27))
noncomputable def L_impl_cellRecords_x7 (a1 : TCell) : (ByteArray × Int) → Option ((ByteArray × Int) ⊕ ((ByteArray))) := fun x7 =>
 letO x7.1 fun v5 =>
 letO x7.2 fun v6 =>
 br (std.lt v6 (std.ofN (len a1.fShapes)))
 (req (std.inR v6 (len a1.fShapes)) <|
 (F_impl_shapeBytes_mnb ([] : List Int) (gd a1.fShapes (std.toN v6))).bind fun y20 =>
 (F_impl_StreamRecord 3 (std.ofBytes (len y20) (fun i => gd y20 (0 + i)))).bind fun y22 =>
 req (std.room (std.nadd (std.slen v5) (std.slen y22)) 1) <|
 some (.inl (std.scat v5 y22, std.add .i64 v6 1)))
 (some (.inr v5))
/-- impl.cellRecords -/
noncomputable def F_impl_cellRecords (a0 : TLibrary) (a1 : TCell) : Option (ByteArray) :=
 (F_impl_nameBytes_mnb ([] : List Int) a1.fName).bind fun y1 =>
 (F_impl_StreamRecord 2 (std.ofBytes (len y1) (fun i => gd y1 (0 + i)))).bind fun y3 =>
 (whileP (σ := ByteArray × Int) (ρ := (ByteArray)) (L_impl_cellRecords_x7 a1) (y3, 0)).bind fun y8 =>
 letO y8 fun y8k0 =>
 letO y8k0 fun w26 =>
 (whileP (σ := ByteArray × Int) (ρ := (ByteArray)) (L_impl_cellRecords_x29 a1) (w26, 0)).bind fun y30 =>
 letO y30 fun y30k0 =>
 letO y30k0 fun w48 =>
 (whileP (σ := ByteArray × Int) (ρ := (ByteArray)) (L_impl_cellRecords_x51 a0 a1) (w48, 0)).bind fun y52 =>
 letO y52 fun y52k0 =>
 letO y52k0 fun w73 =>
 letO ([std.conv .u8 (std.ofN (len a1.fShapes)), std.conv .u8 (std.ofN (len a1.fLabels)), std.conv .u8 (std.ofN (len a1.fInstances))] : List Int) fun l74 =>
 (F_impl_StreamRecord 6 (std.ofBytes (len l74) (fun i => gd l74 (0 + i)))).bind fun y76 =>
 req (std.room (std.nadd (std.slen w73) (std.slen y76)) 1) <|
 some (std.scat w73 y76)
set_option maxHeartbeats 4000000 in
theorem run_impl_cellRecords (a0 : TLibrary) (a1 : TCell) (r : ByteArray) (h : F_impl_cellRecords a0 a1 = some r) : Fun Try.prog 22 [.agg [.bs (len a0.fCells) 4 (row gd (encCell len gd) a0.fCells)], .agg [.v (.string a1.fName), .bs (len a1.fShapes) 5 (row gd (encShape) a1.fShapes), .bs (len a1.fLabels) 4 (row gd (encLabel) a1.fLabels), .bs (len a1.fInstances) 8 (row gd (encInstance) a1.fInstances)]] [] (.c (.v (.string r))) [] true := by
 refine ow [] Try.func22 Try.ntmps22 ?_; unfold F_impl_cellRecords at h; unfold L_impl_cellRecords_x7 at h; unfold L_impl_cellRecords_x29 at h; unfold L_impl_cellRecords_x51 at h; have hf_impl_StreamRecord := @run_impl_StreamRecord; have hf_impl_labelBytes_mnb := @run_impl_labelBytes_mnb; have hf_impl_nameBytes_mnb := @run_impl_nameBytes_mnb; have hf_impl_placeBytes_mob := @run_impl_placeBytes_mob
 have hf_impl_shapeBytes_mnb := @run_impl_shapeBytes_mnb; generalize hLEN : @len = LEN, hGD : @gd = GD, hA : std = A, hP : Try.prog = P at *; cbv; revert h; refine rk [] [(64000, 896)] (hf_impl_nameBytes_mnb _ _) (fun _ => zf) fun y1 h => ⟨_, rfl, _, _, rfl, fun _ _ _ _ => .refl _, ?_⟩
 cbv; refine ⟨fun _ _ => rfl, ?_⟩; revert h; refine rk0 (hf_impl_StreamRecord _ _) fun y3 h => ?_; cbv
 revert h; refine ln (.exit 0) (fun x => (sparse 84 [(2, .c (.ptr 128 0)), (3, .c (.ptr 192 0)), (5, .c (.v (.string x.1))), (18, .c (.bs (LEN a1.fShapes) 5 (row GD (encShape) a1.fShapes))), (19, .c (.v (.int .i64 (A.ofN (LEN a1.fShapes))))), (20, .c (.v (.int .i64 x.2)))] [(128, .var [.bs (LEN a0.fCells) 4 (row GD (encCell LEN GD) a0.fCells)]), (192, .var [.v (.string a1.fName), .bs (LEN a1.fShapes) 5 (row GD (encShape) a1.fShapes), .bs (LEN a1.fLabels) 4 (row GD (encLabel) a1.fLabels), .bs (LEN a1.fInstances) 8 (row GD (encInstance) a1.fInstances)])])) (fun w => (sparse 84 [(2, .c (.ptr 128 0)), (3, .c (.ptr 192 0)), (5, .c (.v (.string w)))] [(128, .var [.bs (LEN a0.fCells) 4 (row GD (encCell LEN GD) a0.fCells)]), (192, .var [.v (.string a1.fName), .bs (LEN a1.fShapes) 5 (row GD (encShape) a1.fShapes), .bs (LEN a1.fLabels) 4 (row GD (encLabel) a1.fLabels), .bs (LEN a1.fInstances) 8 (row GD (encInstance) a1.fInstances)])])) zb ?_ ?_
 ·rintro ⟨v5, v6⟩ z h K hK hY; replace h := oz (oz h); dsimp only at h; cbv; revert h; refine fk ?_ ?_ <;> intro h <;> cbv
  ·revert h; refine ra fun c19 h => ?_; revert h; refine rk [] [(64000, 1664)] (hf_impl_shapeBytes_mnb _ _) (fun _ => zf) fun y20 h => ⟨_, rfl, _, _, rfl, fun _ _ _ _ => .refl _, ?_⟩
   cbv; refine ⟨fun _ _ => rfl, ?_⟩; revert h; refine rk0 (hf_impl_StreamRecord _ _) fun y22 h => ?_; cbv; revert h; refine ra fun c24 h => ?_; exact dm
  exact dx
 intro w26 h s q16; replace h := oz (oz h); cbv; refine ⟨_, q16, ?_⟩; cbv
 revert h; refine ln (.exit 2) (fun x => (sparse 84 [(2, .c (.ptr 128 0)), (3, .c (.ptr 192 0)), (5, .c (.v (.string x.1))), (32, .c (.bs (LEN a1.fLabels) 4 (row GD (encLabel) a1.fLabels))), (33, .c (.v (.int .i64 (A.ofN (LEN a1.fLabels))))), (34, .c (.v (.int .i64 x.2)))] [(128, .var [.bs (LEN a0.fCells) 4 (row GD (encCell LEN GD) a0.fCells)]), (192, .var [.v (.string a1.fName), .bs (LEN a1.fShapes) 5 (row GD (encShape) a1.fShapes), .bs (LEN a1.fLabels) 4 (row GD (encLabel) a1.fLabels), .bs (LEN a1.fInstances) 8 (row GD (encInstance) a1.fInstances)])])) (fun w => (sparse 84 [(2, .c (.ptr 128 0)), (3, .c (.ptr 192 0)), (5, .c (.v (.string w)))] [(128, .var [.bs (LEN a0.fCells) 4 (row GD (encCell LEN GD) a0.fCells)]), (192, .var [.v (.string a1.fName), .bs (LEN a1.fShapes) 5 (row GD (encShape) a1.fShapes), .bs (LEN a1.fLabels) 4 (row GD (encLabel) a1.fLabels), .bs (LEN a1.fInstances) 8 (row GD (encInstance) a1.fInstances)])])) zb ?_ ?_
 ·rintro ⟨v27, v28⟩ z h K hK hY; replace h := oz (oz h); dsimp only at h; cbv; revert h; refine fk ?_ ?_ <;> intro h <;> cbv
  ·revert h; refine ra fun c41 h => ?_; revert h; refine rk [] [(64000, 2560)] (hf_impl_labelBytes_mnb _ _) (fun _ => zf) fun y42 h => ⟨_, rfl, _, _, rfl, fun _ _ _ _ => .refl _, ?_⟩
   cbv; refine ⟨fun _ _ => rfl, ?_⟩; revert h; refine rk0 (hf_impl_StreamRecord _ _) fun y44 h => ?_; cbv; revert h; refine ra fun c46 h => ?_; exact dm
  exact dx
 intro w48 h s q38; replace h := oz (oz h); cbv; refine ⟨_, q38, ?_⟩; cbv
 revert h; refine ln (.exit 4) (fun x => (sparse 84 [(2, .c (.ptr 128 0)), (3, .c (.ptr 192 0)), (5, .c (.v (.string x.1))), (46, .c (.bs (LEN a1.fInstances) 8 (row GD (encInstance) a1.fInstances))), (47, .c (.v (.int .i64 (A.ofN (LEN a1.fInstances))))), (48, .c (.v (.int .i64 x.2)))] [(128, .var [.bs (LEN a0.fCells) 4 (row GD (encCell LEN GD) a0.fCells)]), (192, .var [.v (.string a1.fName), .bs (LEN a1.fShapes) 5 (row GD (encShape) a1.fShapes), .bs (LEN a1.fLabels) 4 (row GD (encLabel) a1.fLabels), .bs (LEN a1.fInstances) 8 (row GD (encInstance) a1.fInstances)])])) (fun w => (sparse 84 [(3, .c (.ptr 192 0)), (5, .c (.v (.string w)))] [(192, .var [.v (.string a1.fName), .bs (LEN a1.fShapes) 5 (row GD (encShape) a1.fShapes), .bs (LEN a1.fLabels) 4 (row GD (encLabel) a1.fLabels), .bs (LEN a1.fInstances) 8 (row GD (encInstance) a1.fInstances)])])) zb ?_ ?_
 ·rintro ⟨v49, v50⟩ z h K hK hY; replace h := oz (oz h); dsimp only at h; cbv; revert h; refine fk ?_ ?_ <;> intro h <;> cbv
  ·revert h; refine ra fun c63 h => ?_; revert h; refine ra fun c64 h => ?_; revert h; refine rk [] [(64000, 3840)] (hf_impl_nameBytes_mnb _ _) (fun _ => zf) fun y65 h => ⟨_, rfl, _, _, rfl, fun _ _ _ _ => .refl _, ?_⟩
   cbv; revert h; refine rk [(5, 3840)] [(64000, 3968)] (hf_impl_placeBytes_mob _ _) (fun _ => zf) fun y67 h => ⟨_, rfl, _, _, rfl, fun _ _ _ _ => .refl _, ?_⟩
   cbv; refine ⟨fun _ _ => rfl, ?_⟩; revert h; refine rk0 (hf_impl_StreamRecord _ _) fun y69 h => ?_; cbv; revert h; refine ra fun c71 h => ?_; exact dm
  exact dx
 intro w73 h s q60; replace h := oz (oz h); cbv; refine ⟨_, q60, ?_⟩; cbv; revert h; refine rl fun l74 hl74 h => ?_; have e75 : 3 = LEN l74 := by subst hl74 hLEN; rfl
 refine ⟨_, (co e75), _, row GD (encI .u8) l74, e75, wkOf ?_, ?_⟩
 ·intro i hi j hj; rw [← e75] at hi; subst hl74; subst hGD; obtain rfl | rfl | rfl : i = 0 ∨ i = 1 ∨ i = 2 := (by omega); all_goals obtain rfl : j = 0 := by omega
  all_goals rfl
 cbv; refine ⟨fun _ _ => rfl, ?_⟩; revert h; refine rk0 (hf_impl_StreamRecord _ _) fun y76 h => ?_; cbv; revert h; refine ra fun c78 h => ?_; exact df

noncomputable def L_impl_LibraryStream_x9 (a0 : TLibrary) : (ByteArray × Int) → Option ((ByteArray × Int) ⊕ ((ByteArray))) := fun x9 =>
 letO x9.1 fun v7 =>
 letO x9.2 fun v8 =>
 br (std.lt v8 (std.ofN (len a0.fCells)))
 (req (std.inR v8 (len a0.fCells)) <|
 (F_impl_cellRecords a0 (gd a0.fCells (std.toN v8))).bind fun y22 =>
 req (std.room (std.nadd (std.slen v7) (std.slen y22)) 1) <|
 some (.inl (std.scat v7 y22, std.add .i64 v8 1)))
 (some (.inr v7))
/-- impl.LibraryStream -/
noncomputable def F_impl_LibraryStream (a0 : TLibrary) : Option (ByteArray) :=
 (F_impl_IsValidLibrary a0).bind fun y1 =>
 br (!(y1))
 (some (ByteArray.mk #[]))
 (letO ([1, std.conv .u8 (std.ofN (len a0.fCells))] : List Int) fun l3 =>
 (F_impl_StreamRecord 1 (std.ofBytes (len l3) (fun i => gd l3 (0 + i)))).bind fun y5 =>
 (whileP (σ := ByteArray × Int) (ρ := (ByteArray)) (L_impl_LibraryStream_x9 a0) (y5, 0)).bind fun y10 =>
 letO y10 fun y10k0 =>
 letO y10k0 fun w26 =>
 (F_impl_Checksum16 w26).bind fun y27 =>
 (F_impl_two_mnb ([] : List Int) y27).bind fun y29 =>
 (F_impl_StreamRecord 7 (std.ofBytes (len y29) (fun i => gd y29 (0 + i)))).bind fun y31 =>
 req (std.room (std.nadd (std.slen w26) (std.slen y31)) 1) <|
 some (std.scat w26 y31))
set_option maxHeartbeats 4000000 in
theorem run_impl_LibraryStream (a0 : TLibrary) (r : ByteArray) (h : F_impl_LibraryStream a0 = some r) : Fun Try.prog 7 [.agg [.bs (len a0.fCells) 4 (row gd (encCell len gd) a0.fCells)]] [] (.c (.v (.string r))) [] true := by
 refine ow [] Try.func7 Try.ntmps7 ?_; unfold F_impl_LibraryStream at h; unfold L_impl_LibraryStream_x9 at h; have hf_impl_Checksum16 := @run_impl_Checksum16; have hf_impl_IsValidLibrary := @run_impl_IsValidLibrary; have hf_impl_StreamRecord := @run_impl_StreamRecord; have hf_impl_cellRecords := @run_impl_cellRecords; have hf_impl_two_mnb := @run_impl_two_mnb
 generalize hLEN : @len = LEN, hGD : @gd = GD, hA : std = A, hP : Try.prog = P at *; cbv; revert h; refine rk0 (hf_impl_IsValidLibrary _) fun y1 h => ?_; cbv; revert h; refine fk ?_ ?_ <;> intro h <;> cbv
 ·exact df
 revert h; refine rl fun l3 hl3 h => ?_; have e4 : 2 = LEN l3 := by subst hl3 hLEN; rfl
 refine ⟨_, (co e4), _, row GD (encI .u8) l3, e4, wkOf ?_, ?_⟩
 ·intro i hi j hj; rw [← e4] at hi; subst hl3; subst hGD; obtain rfl | rfl : i = 0 ∨ i = 1 := (by omega); all_goals obtain rfl : j = 0 := by omega
  all_goals rfl
 cbv; refine ⟨fun _ _ => rfl, ?_⟩; revert h; refine rk0 (hf_impl_StreamRecord _ _) fun y5 h => ?_; cbv
 revert h; refine ln (.exit 0) (fun x => (sparse 36 [(1, .c (.ptr 64 0)), (3, .c (.v (.string x.1))), (17, .c (.bs (LEN a0.fCells) 4 (row GD (encCell LEN GD) a0.fCells))), (18, .c (.v (.int .i64 (A.ofN (LEN a0.fCells))))), (19, .c (.v (.int .i64 x.2)))] [(64, .var [.bs (LEN a0.fCells) 4 (row GD (encCell LEN GD) a0.fCells)])])) (fun w => (sparse 36 [(3, .c (.v (.string w)))] [])) zb ?_ ?_
 ·rintro ⟨v7, v8⟩ z h K hK hY; replace h := oz (oz h); dsimp only at h; cbv; revert h; refine fk ?_ ?_ <;> intro h <;> cbv
  ·revert h; refine ra fun c21 h => ?_; revert h; refine rk0 (hf_impl_cellRecords _ _) fun y22 h => ?_; cbv; revert h; refine ra fun c24 h => ?_; exact dm
  exact dx
 intro w26 h s q18; replace h := oz (oz h); cbv; refine ⟨_, q18, ?_⟩; cbv; revert h; refine rk0 (hf_impl_Checksum16 _) fun y27 h => ?_; cbv; revert h; refine rk [] [(64000, 2048)] (hf_impl_two_mnb _ _) (fun _ => zf) fun y29 h => ⟨_, rfl, _, _, rfl, fun _ _ _ _ => .refl _, ?_⟩
 cbv; refine ⟨fun _ _ => rfl, ?_⟩; revert h; refine rk0 (hf_impl_StreamRecord _ _) fun y31 h => ?_; cbv; revert h; refine ra fun c33 h => ?_; exact df

noncomputable def L_laws_roll_x3 (a0 : List Int) : (Int × Int) → Option ((Int × Int) ⊕ ((Int))) := fun x3 =>
 letO x3.1 fun v1 =>
 letO x3.2 fun v2 =>
 br (std.lt v1 (std.ofN (len a0)))
 (req (std.inR v1 (len a0)) <|
 some (.inl (std.add .i64 v1 1, std.add .u64 (std.add .u64 (std.mul .u64 v2 1099511628211) (std.conv .u64 (gd a0 (std.toN v1)))) 3)))
 (some (.inr v2))
/-- laws.roll -/
noncomputable def F_laws_roll (a0 : List Int) (a1 : Int) : Option (Tdice) :=
 (whileP (σ := Int × Int) (ρ := (Int)) (L_laws_roll_x3 a0) (0, std.add .u64 (std.mul .u64 a1 7919) (std.conv .u64 (std.ofN (len a0))))).bind fun y4 =>
 letO y4 fun y4k0 =>
 letO y4k0 fun w17 =>
 some (Tdice.mk a0 0 w17)
set_option maxHeartbeats 4000000 in
theorem run_laws_roll (a0 : List Int) (a1 : Int) (r : Tdice) (h : F_laws_roll a0 a1 = some r) : Fun Try.prog 9 [.c (.bs (len a0) 1 (row gd (encI .u8) a0)), .c (.v (.int .u64 a1))] [] (.c (.ptr 64000 0)) [(64000, .var [.bs (len r.gb) 1 (row gd (encI .u8) r.gb), .v (.int .i64 r.gi), .v (.int .u64 r.gh)])] false := by
 refine ow [] Try.func9 Try.ntmps9 ?_ (hv := (fun h => by cases h)); unfold F_laws_roll at h; unfold L_laws_roll_x3 at h; generalize hLEN : @len = LEN, hGD : @gd = GD, hA : std = A, hP : Try.prog = P at *; cbv
 revert h; refine ln (.exit 0) (fun x => (sparse 38 [(0, .c (.bs (LEN a0) 1 (row GD (encI .u8) a0))), (5, .c (.ptr 960 0)), (6, .c (.v (.int .i64 x.1)))] [(960, .var [.bs (LEN a0) 1 (row GD (encI .u8) a0), .v (.int .i64 0), .v (.int .u64 x.2)])])) (fun w => (sparse 38 [(5, .c (.ptr 960 0))] [(960, .var [.bs (LEN a0) 1 (row GD (encI .u8) a0), .v (.int .i64 0), .v (.int .u64 w)])])) zb ?_ ?_
 ·rintro ⟨v1, v2⟩ z h K hK hY; replace h := oz (oz h); dsimp only at h; cbv; revert h; refine fk ?_ ?_ <;> intro h <;> cbv
  ·revert h; refine ra fun c15 h => ?_; exact dm
  exact dx
 intro w17 h s q12; replace h := oz (oz h); cbv; refine ⟨_, q12, ?_⟩; cbv; injection h with h; subst h; exact ⟨_, le_ren 960 64000 (by decide) rfl, lR _, zo, rfl⟩

/-- laws.dice).below -/
noncomputable def F_laws_dice_below_mPbb (a0 : Tdice) (a1 : Int) : Option (Int × Tdice) :=
 req (std.nneg 33) <|
 ((
    br (std.lt a0.gi (std.ofN (len a0.gb)))
    (req (std.inR a0.gi (len a0.gb)) <|
    some (std.add .i64 (std.conv .i64 (std.bitand .u64 (std.shr .u64 (std.add .u64 (std.mul .u64 a0.gh 6364136223846793005) 1442695040888963407) 33) 16777215)) (std.conv .i64 (gd a0.gb (std.toN a0.gi))), std.add .i64 a0.gi 1))
    (some (std.conv .i64 (std.bitand .u64 (std.shr .u64 (std.add .u64 (std.mul .u64 a0.gh 6364136223846793005) 1442695040888963407) 33) 16777215), a0.gi))
  ) : Option (Int × Int)).bind fun y2 =>
 letO y2.1 fun w8 =>
 letO y2.2 fun w9 =>
 req (std.nz a1) <|
 some (std.rem w8 a1, (Tdice.mk a0.gb w9 (std.add .u64 (std.mul .u64 a0.gh 6364136223846793005) 1442695040888963407)))
set_option maxHeartbeats 4000000 in
theorem run_laws_dice_below_mPbb (a0 : Tdice) (a1 : Int) (r : Int × Tdice) (h : F_laws_dice_below_mPbb a0 a1 = some r) : Fun Try.prog 10 [.c (.ptr 5 0), .c (.v (.int .i64 a1))] [(5, .var [.bs (len a0.gb) 1 (row gd (encI .u8) a0.gb), .v (.int .i64 a0.gi), .v (.int .u64 a0.gh)])] (.c (.v (.int .i64 r.1))) [(5, .var [.bs (len r.2.gb) 1 (row gd (encI .u8) r.2.gb), .v (.int .i64 r.2.gi), .v (.int .u64 r.2.gh)])] false := by
 refine ow [100031] Try.func10 Try.ntmps10 ?_ (hv := (fun h => by cases h)); unfold F_laws_dice_below_mPbb at h; generalize hLEN : @len = LEN, hGD : @gd = GD, hA : std = A, hP : Try.prog = P at *; cbv; revert h; refine ra fun c1 h => ?_
 revert h; refine cu (fun y2 => some (sparse 56 [(1, .c (.v (.int .i64 a1))), (5, .c (.v (.int .i64 y2.1)))] [(5, .var [.bs (LEN a0.gb) 1 (row GD (encI .u8) a0.gb), .v (.int .i64 y2.2), .v (.int .u64 (A.add .u64 (A.mul .u64 a0.gh 6364136223846793005) 1442695040888963407))])])) (fun y2 S hS h => rg) ?_; rintro ⟨w8, w9⟩ h; replace h := oz (oz h); dsimp only at h; cbv
 revert h; refine ra fun c12 h => ?_; exact df

/-- impl.SplitRecord -/
noncomputable def F_impl_SplitRecord (a0 : ByteArray) (a1 : Int) : Option (Int × ByteArray × Int × Int) :=
 (F_impl_within a1 0 (std.ofN (std.slen a0))).bind fun y1 =>
 br (!(y1))
 (some ((0 : Int), (ByteArray.mk #[]), (0 : Int), (2 : Int)))
 (req (std.upTo a1 (std.slen a0)) <|
 br (std.lt (std.ofN (std.slen (std.ssub a0 (std.toN a1) (std.slen a0)))) 2)
 (some ((0 : Int), (ByteArray.mk #[]), (0 : Int), (7 : Int)))
 (req (std.inR 0 (std.slen (std.ssub a0 (std.toN a1) (std.slen a0)))) <|
 req (std.nneg 8) <|
 req (std.inR 1 (std.slen (std.ssub a0 (std.toN a1) (std.slen a0)))) <|
 br (std.lt (std.add .i64 (std.shl .i64 (std.conv .i64 (std.sat (std.ssub a0 (std.toN a1) (std.slen a0)) (std.toN 0))) 8) (std.conv .i64 (std.sat (std.ssub a0 (std.toN a1) (std.slen a0)) (std.toN 1)))) 5)
 (some ((0 : Int), (ByteArray.mk #[]), (0 : Int), (4 : Int)))
 (br (std.lt (std.ofN (std.slen (std.ssub a0 (std.toN a1) (std.slen a0)))) (std.add .i64 (std.shl .i64 (std.conv .i64 (std.sat (std.ssub a0 (std.toN a1) (std.slen a0)) (std.toN 0))) 8) (std.conv .i64 (std.sat (std.ssub a0 (std.toN a1) (std.slen a0)) (std.toN 1)))))
 (some ((0 : Int), (ByteArray.mk #[]), (0 : Int), (7 : Int)))
 (req (std.inR (std.sub .i64 (std.add .i64 (std.shl .i64 (std.conv .i64 (std.sat (std.ssub a0 (std.toN a1) (std.slen a0)) (std.toN 0))) 8) (std.conv .i64 (std.sat (std.ssub a0 (std.toN a1) (std.slen a0)) (std.toN 1)))) 2) (std.slen (std.ssub a0 (std.toN a1) (std.slen a0)))) <|
 req (std.nneg 8) <|
 req (std.inR (std.sub .i64 (std.add .i64 (std.shl .i64 (std.conv .i64 (std.sat (std.ssub a0 (std.toN a1) (std.slen a0)) (std.toN 0))) 8) (std.conv .i64 (std.sat (std.ssub a0 (std.toN a1) (std.slen a0)) (std.toN 1)))) 1) (std.slen (std.ssub a0 (std.toN a1) (std.slen a0)))) <|
 req (std.inR 2 (std.slen (std.ssub a0 (std.toN a1) (std.slen a0)))) <|
 req (std.upTo (std.sub .i64 (std.add .i64 (std.shl .i64 (std.conv .i64 (std.sat (std.ssub a0 (std.toN a1) (std.slen a0)) (std.toN 0))) 8) (std.conv .i64 (std.sat (std.ssub a0 (std.toN a1) (std.slen a0)) (std.toN 1)))) 2) (std.slen (std.ssub a0 (std.toN a1) (std.slen a0)))) <|
 req (std.upTo 3 (std.toN (std.sub .i64 (std.add .i64 (std.shl .i64 (std.conv .i64 (std.sat (std.ssub a0 (std.toN a1) (std.slen a0)) (std.toN 0))) 8) (std.conv .i64 (std.sat (std.ssub a0 (std.toN a1) (std.slen a0)) (std.toN 1)))) 2))) <|
 req (std.upTo (std.sub .i64 (std.add .i64 (std.shl .i64 (std.conv .i64 (std.sat (std.ssub a0 (std.toN a1) (std.slen a0)) (std.toN 0))) 8) (std.conv .i64 (std.sat (std.ssub a0 (std.toN a1) (std.slen a0)) (std.toN 1)))) 2) (std.slen (std.ssub a0 (std.toN a1) (std.slen a0)))) <|
 (F_impl_Checksum16 (std.ssub (std.ssub a0 (std.toN a1) (std.slen a0)) 0 (std.toN (std.sub .i64 (std.add .i64 (std.shl .i64 (std.conv .i64 (std.sat (std.ssub a0 (std.toN a1) (std.slen a0)) (std.toN 0))) 8) (std.conv .i64 (std.sat (std.ssub a0 (std.toN a1) (std.slen a0)) (std.toN 1)))) 2)))).bind fun y14 =>
 br (std.not (std.eq (std.add .i64 (std.shl .i64 (std.conv .i64 (std.sat (std.ssub a0 (std.toN a1) (std.slen a0)) (std.toN (std.sub .i64 (std.add .i64 (std.shl .i64 (std.conv .i64 (std.sat (std.ssub a0 (std.toN a1) (std.slen a0)) (std.toN 0))) 8) (std.conv .i64 (std.sat (std.ssub a0 (std.toN a1) (std.slen a0)) (std.toN 1)))) 2)))) 8) (std.conv .i64 (std.sat (std.ssub a0 (std.toN a1) (std.slen a0)) (std.toN (std.sub .i64 (std.add .i64 (std.shl .i64 (std.conv .i64 (std.sat (std.ssub a0 (std.toN a1) (std.slen a0)) (std.toN 0))) 8) (std.conv .i64 (std.sat (std.ssub a0 (std.toN a1) (std.slen a0)) (std.toN 1)))) 1))))) y14))
 (some ((0 : Int), (ByteArray.mk #[]), (0 : Int), (8 : Int)))
 (((
    (F_impl_within (std.conv .i64 (std.sat (std.ssub a0 (std.toN a1) (std.slen a0)) (std.toN 2))) 1 7).bind fun y23 =>
    br (!(y23))
    (some true)
    (some (std.lt 200 (std.ofN (std.slen (std.ssub (std.ssub a0 (std.toN a1) (std.slen a0)) (std.toN 3) (std.toN (std.sub .i64 (std.add .i64 (std.shl .i64 (std.conv .i64 (std.sat (std.ssub a0 (std.toN a1) (std.slen a0)) (std.toN 0))) 8) (std.conv .i64 (std.sat (std.ssub a0 (std.toN a1) (std.slen a0)) (std.toN 1)))) 2)))))))
  ) : Option (Bool)).bind fun y16 =>
 letO y16 fun w22 =>
 br w22
 (some ((0 : Int), (ByteArray.mk #[]), (0 : Int), (4 : Int)))
 (some (std.conv .i64 (std.sat (std.ssub a0 (std.toN a1) (std.slen a0)) (std.toN 2)), std.ssub (std.ssub a0 (std.toN a1) (std.slen a0)) (std.toN 3) (std.toN (std.sub .i64 (std.add .i64 (std.shl .i64 (std.conv .i64 (std.sat (std.ssub a0 (std.toN a1) (std.slen a0)) (std.toN 0))) 8) (std.conv .i64 (std.sat (std.ssub a0 (std.toN a1) (std.slen a0)) (std.toN 1)))) 2)), std.add .i64 a1 (std.add .i64 (std.shl .i64 (std.conv .i64 (std.sat (std.ssub a0 (std.toN a1) (std.slen a0)) (std.toN 0))) 8) (std.conv .i64 (std.sat (std.ssub a0 (std.toN a1) (std.slen a0)) (std.toN 1)))), (0 : Int))))))))
set_option maxHeartbeats 4000000 in
theorem run_impl_SplitRecord (a0 : ByteArray) (a1 : Int) (r : Int × ByteArray × Int × Int) (h : F_impl_SplitRecord a0 a1 = some r) : Fun Try.prog 42 [.c (.v (.string a0)), .c (.v (.int .i64 a1))] [] (.tup [.c (.v (.int .i64 r.1)), .c (.v (.string r.2.1)), .c (.v (.int .i64 r.2.2.1)), .c (.v (.int .i64 r.2.2.2))]) [] true := by
 refine ow [15] Try.func42 Try.ntmps42 ?_ (hv := (fun _ => ⟨(by simp [AV.flat, AV.flat1, AC.flat]), trivial⟩)); unfold F_impl_SplitRecord at h; have hf_impl_Checksum16 := @run_impl_Checksum16; have hf_impl_within := @run_impl_within; generalize hLEN : @len = LEN, hGD : @gd = GD, hA : std = A, hP : Try.prog = P at *; cbv; revert h; refine rk0 (hf_impl_within _ _ _) fun y1 h => ?_; cbv
 revert h; refine fk ?_ ?_ <;> intro h <;> cbv
 ·exact df
 revert h; refine ra fun c3 h => ?_; revert h; refine fk ?_ ?_ <;> intro h <;> cbv
 ·exact df
 revert h; refine ra fun c4 h => ?_; revert h; refine ra fun c5 h => ?_; revert h; refine ra fun c6 h => ?_; revert h; refine fk ?_ ?_ <;> intro h <;> cbv
 ·exact df
 revert h; refine fk ?_ ?_ <;> intro h <;> cbv
 ·exact df
 revert h; refine ra fun c7 h => ?_; revert h; refine ra fun c8 h => ?_; revert h; refine ra fun c9 h => ?_; revert h; refine ra fun c10 h => ?_; revert h; refine rd fun c11 c12 h => ?_; revert h; refine ra fun c13 h => ?_; revert h; refine rk0 (hf_impl_Checksum16 _) fun y14 h => ?_; cbv; revert h; refine fk ?_ ?_ <;> intro h <;> cbv
 ·exact df
 revert h; refine cu (fun y16 => (sparse 81 [(1, .c (.v (.int .i64 a1))), (9, .c (.v (.int .i64 (A.add .i64 (A.shl .i64 (A.conv .i64 (A.sat (A.ssub a0 (A.toN a1) (A.slen a0)) (A.toN 0))) 8) (A.conv .i64 (A.sat (A.ssub a0 (A.toN a1) (A.slen a0)) (A.toN 1))))))), (11, .c (.v (.int .i64 (A.conv .i64 (A.sat (A.ssub a0 (A.toN a1) (A.slen a0)) (A.toN 2)))))), (12, .c (.v (.string (A.ssub (A.ssub a0 (A.toN a1) (A.slen a0)) (A.toN 3) (A.toN (A.sub .i64 (A.add .i64 (A.shl .i64 (A.conv .i64 (A.sat (A.ssub a0 (A.toN a1) (A.slen a0)) (A.toN 0))) 8) (A.conv .i64 (A.sat (A.ssub a0 (A.toN a1) (A.slen a0)) (A.toN 1)))) 2)))))), (67, .c (.v (.bool y16)))] [])) ?_ fun w22 => rz fun h => ?_
 ·intro y16 S hS h; cbv; revert h; refine rk0 (hf_impl_within _ _ _) fun y23 h => ?_; cbv; revert h; refine fk ?_ ?_ <;> intro h <;> cbv
  ·exact dn
  exact dn
 cbv; revert h; refine fk ?_ ?_ <;> intro h <;> cbv
 ·exact df
 exact df

/-- impl.streamReader).possible -/
noncomputable def F_impl_streamReader_possible_mpb (a0 : TstreamReader) (a1 : Int) : Option (Bool) :=
 br a0.gdone
 (some false)
 (br (!(a0.gbegun))
 (some (std.eq a1 1))
 (((
    br (!(a0.ginside))
    (some (std.lt (std.ofN (len a0.glib.fCells)) a0.gcells))
    (some false)
  ) : Option (Bool)).bind fun y1 =>
 letO y1 fun w7 =>
 br w7
 (some (std.eq a1 2))
 (br (!(a0.ginside))
 (some (std.eq a1 7))
 (br (std.eq a1 3)
 (((
    br (std.eq (std.ofN (len a0.gcell.fLabels)) 0)
    (some (std.eq (std.ofN (len a0.gcell.fInstances)) 0))
    (some false)
  ) : Option (Bool)).bind fun y9 =>
 letO y9 fun w15 =>
 some w15)
 (br (std.eq a1 4)
 (some (std.eq (std.ofN (len a0.gcell.fInstances)) 0))
 (((
    br (std.eq a1 5)
    (some true)
    (some (std.eq a1 6))
  ) : Option (Bool)).bind fun y17 =>
 letO y17 fun w23 =>
 some w23))))))
set_option maxHeartbeats 4000000 in
theorem run_impl_streamReader_possible_mpb (a0 : TstreamReader) (a1 : Int) (r : Bool) (h : F_impl_streamReader_possible_mpb a0 a1 = some r) : Fun Try.prog 65 [.c (.bp 9 (encstreamReader len gd a0)), .c (.v (.int .i64 a1))] [] (.c (.v (.bool r))) [] true := by
 refine ow [5, 11, 14] Try.func65 Try.ntmps65 ?_; unfold F_impl_streamReader_possible_mpb at h; generalize hLEN : @len = LEN, hGD : @gd = GD, hA : std = A, hP : Try.prog = P at *; cbv; revert h; refine fk ?_ ?_ <;> intro h <;> cbv
 ·exact df
 revert h; refine fk ?_ ?_ <;> intro h <;> cbv
 ·exact df
 revert h; refine cu (fun y1 => (sparse 81 [(0, .c (.bp 9 (encstreamReader LEN GD a0))), (1, .c (.v (.int .i64 a1))), (18, .c (.v (.bool y1)))] [])) ?_ fun w7 => rz fun h => ?_
 ·intro y1 S hS h; cbv; revert h; refine fk ?_ ?_ <;> intro h <;> cbv
  ·exact dn
  exact dn
 cbv; revert h; refine fk ?_ ?_ <;> intro h <;> cbv
 ·exact df
 revert h; refine fk ?_ ?_ <;> intro h <;> cbv
 ·exact df
 revert h; refine fk ?_ ?_ <;> intro h <;> cbv
 ·revert h; refine cu (fun y9 => (sparse 81 [(4, .c (.v (.bool y9)))] [])) ?_ fun w15 => rz fun h => ?_
  ·intro y9 S hS h; cbv; revert h; refine fk ?_ ?_ <;> intro h <;> cbv
   ·exact dn
   exact dn
  cbv; exact df
 revert h; refine fk ?_ ?_ <;> intro h <;> cbv
 ·exact df
 revert h; refine cu (fun y17 => (sparse 81 [(4, .c (.v (.bool y17)))] [])) ?_ fun w23 => rz fun h => ?_
 ·intro y17 S hS h; cbv; revert h; refine fk ?_ ?_ <;> intro h <;> cbv
  ·exact dn
  exact dn
 cbv; exact df
/-- impl.byteReader).one -/
noncomputable def F_impl_byteReader_one_mPb (a0 : TbyteReader) : Option (Int × TbyteReader) :=
 br (std.lt (std.ofN (std.slen a0.gs)) 1)
 (some ((0 : Int), (TbyteReader.mk a0.gs true)))
 (req (std.inR 0 (std.slen a0.gs)) <|
 req (std.upTo 1 (std.slen a0.gs)) <|
 some (std.conv .i64 (std.sat a0.gs (std.toN 0)), (TbyteReader.mk (std.ssub a0.gs (std.toN 1) (std.slen a0.gs)) a0.gbad)))
set_option maxHeartbeats 4000000 in
theorem run_impl_byteReader_one_mPb (a0 : TbyteReader) (r : Int × TbyteReader) (h : F_impl_byteReader_one_mPb a0 = some r) : Fun Try.prog 67 [.c (.ptr 5 0)] [(5, .var [.v (.string a0.gs), .v (.bool a0.gbad)])] (.c (.v (.int .i64 r.1))) [(5, .var [.v (.string r.2.gs), .v (.bool r.2.gbad)])] true := by
 refine ow [] Try.func67 Try.ntmps67 ?_ (hv := (fun _ => ⟨trivial, ⟨(by simp [AO.flat, AC.flat]), trivial⟩⟩)); unfold F_impl_byteReader_one_mPb at h; generalize hLEN : @len = LEN, hGD : @gd = GD, hA : std = A, hP : Try.prog = P at *; cbv; revert h; refine fk ?_ ?_ <;> intro h <;> cbv
 ·exact df
 revert h; refine ra fun c1 h => ?_; revert h; refine ra fun c2 h => ?_; exact df

/-- impl.streamReader).take$1 -/
noncomputable def F_impl_streamReader_take_1_mPP (a0 : TbyteReader) : Option (Bool × TbyteReader × TbyteReader) :=
 ((
    br (!(a0.gbad))
    (some (std.seq a0.gs (ByteArray.mk #[])))
    (some false)
  ) : Option (Bool)).bind fun y1 =>
 letO y1 fun w7 =>
 some (w7, a0, a0)
set_option maxHeartbeats 4000000 in
theorem run_impl_streamReader_take_1_mPP (a0 : TbyteReader) (r : Bool × TbyteReader × TbyteReader) (h : F_impl_streamReader_take_1_mPP a0 = some r) : Fun Try.prog 66 [.c (.ptr 5 0)] [(5, .var [.ptr 7 0]), (7, .var [.v (.string a0.gs), .v (.bool a0.gbad)])] (.c (.v (.bool r.1))) [(5, .var [.ptr 7 0]), (7, .var [.v (.string r.2.2.gs), .v (.bool r.2.2.gbad)])] true := by
 refine ow [1] Try.func66 Try.ntmps66 ?_ (hv := (fun _ => ⟨trivial, ⟨(by simp [AO.flat, AC.flat]), (by simp [AO.flat, AC.flat]), trivial⟩⟩)); unfold F_impl_streamReader_take_1_mPP at h; generalize hLEN : @len = LEN, hGD : @gd = GD, hA : std = A, hP : Try.prog = P at *; cbv
 revert h; refine cu (fun y1 => (sparse 14 [(1, .c (.v (.bool y1)))] [(5, .var [.ptr 7 0]), (7, .var [.v (.string a0.gs), .v (.bool a0.gbad)])])) (fun y1 S hS h => rg) fun w7 => rz fun h => ?_; cbv; exact df

/-- impl.byteReader).name -/
noncomputable def F_impl_byteReader_name_mPb (a0 : TbyteReader) : Option (ByteArray × TbyteReader) :=
 (F_impl_byteReader_one_mPb a0).bind fun y1 =>
 br (std.lt (std.ofN (std.slen y1.2.gs)) y1.1)
 (some ((ByteArray.mk #[]), (TbyteReader.mk y1.2.gs true)))
 (req (std.upTo y1.1 (std.slen y1.2.gs)) <|
 req (std.upTo y1.1 (std.slen y1.2.gs)) <|
 some (std.ssub y1.2.gs 0 (std.toN y1.1), (TbyteReader.mk (std.ssub y1.2.gs (std.toN y1.1) (std.slen y1.2.gs)) y1.2.gbad)))
set_option maxHeartbeats 4000000 in
theorem run_impl_byteReader_name_mPb (a0 : TbyteReader) (r : ByteArray × TbyteReader) (h : F_impl_byteReader_name_mPb a0 = some r) : Fun Try.prog 68 [.c (.ptr 5 0)] [(5, .var [.v (.string a0.gs), .v (.bool a0.gbad)])] (.c (.v (.string r.1))) [(5, .var [.v (.string r.2.gs), .v (.bool r.2.gbad)])] true := by
 refine ow [] Try.func68 Try.ntmps68 ?_ (hv := (fun _ => ⟨trivial, ⟨(by simp [AO.flat, AC.flat]), trivial⟩⟩)); unfold F_impl_byteReader_name_mPb at h; have hf_impl_byteReader_one_mPb := @run_impl_byteReader_one_mPb; generalize hLEN : @len = LEN, hGD : @gd = GD, hA : std = A, hP : Try.prog = P at *; cbv; revert h; refine rk [(5, 5)] [(5, 5)] (hf_impl_byteReader_one_mPb _) (fun _ => yf) fun y1 h => ?_
 cbv; revert h; refine fk ?_ ?_ <;> intro h <;> cbv
 ·exact df
 revert h; refine ra fun c3 h => ?_; revert h; refine ra fun c4 h => ?_; exact df

/-- impl.byteReader).two -/
noncomputable def F_impl_byteReader_two_mPb (a0 : TbyteReader) : Option (Int × TbyteReader) :=
 (F_impl_byteReader_one_mPb a0).bind fun y1 =>
 req (std.nneg 8) <|
 (F_impl_byteReader_one_mPb y1.2).bind fun y4 =>
 some (std.add .i64 (std.shl .i64 y1.1 8) y4.1, y4.2)
set_option maxHeartbeats 4000000 in
theorem run_impl_byteReader_two_mPb (a0 : TbyteReader) (r : Int × TbyteReader) (h : F_impl_byteReader_two_mPb a0 = some r) : Fun Try.prog 73 [.c (.ptr 5 0)] [(5, .var [.v (.string a0.gs), .v (.bool a0.gbad)])] (.c (.v (.int .i64 r.1))) [(5, .var [.v (.string r.2.gs), .v (.bool r.2.gbad)])] true := by
 refine ow [] Try.func73 Try.ntmps73 ?_ (hv := (fun _ => ⟨trivial, ⟨(by simp [AO.flat, AC.flat]), trivial⟩⟩)); unfold F_impl_byteReader_two_mPb at h; have hf_impl_byteReader_one_mPb := @run_impl_byteReader_one_mPb; generalize hLEN : @len = LEN, hGD : @gd = GD, hA : std = A, hP : Try.prog = P at *; cbv; revert h; refine rk [(5, 5)] [(5, 5)] (hf_impl_byteReader_one_mPb _) (fun _ => yf) fun y1 h => ?_
 cbv; revert h; refine ra fun c3 h => ?_; revert h; refine rk [(5, 5)] [(5, 5)] (hf_impl_byteReader_one_mPb _) (fun _ => yf) fun y4 h => ?_; cbv; exact df

/-- impl.byteReader).coordinate -/
noncomputable def F_impl_byteReader_coordinate_mPb (a0 : TbyteReader) : Option (Int × TbyteReader) :=
 (F_impl_byteReader_two_mPb a0).bind fun y1 =>
 some (std.sub .i64 y1.1 32768, y1.2)
set_option maxHeartbeats 4000000 in
theorem run_impl_byteReader_coordinate_mPb (a0 : TbyteReader) (r : Int × TbyteReader) (h : F_impl_byteReader_coordinate_mPb a0 = some r) : Fun Try.prog 85 [.c (.ptr 5 0)] [(5, .var [.v (.string a0.gs), .v (.bool a0.gbad)])] (.c (.v (.int .i64 r.1))) [(5, .var [.v (.string r.2.gs), .v (.bool r.2.gbad)])] true := by
 refine ow [] Try.func85 Try.ntmps85 ?_ (hv := (fun _ => ⟨trivial, ⟨(by simp [AO.flat, AC.flat]), trivial⟩⟩)); unfold F_impl_byteReader_coordinate_mPb at h; have hf_impl_byteReader_two_mPb := @run_impl_byteReader_two_mPb; generalize hLEN : @len = LEN, hGD : @gd = GD, hA : std = A, hP : Try.prog = P at *; cbv
 revert h; refine rk [(5, 5)] [(5, 5)] (hf_impl_byteReader_two_mPb _) (fun _ => yf) fun y1 h => ?_; cbv; exact df

/-- impl.byteReader).shape -/
noncomputable def F_impl_byteReader_shape_mPb (a0 : TbyteReader) : Option (TShape × TbyteReader) :=
 (F_impl_byteReader_one_mPb a0).bind fun y1 =>
 (F_impl_byteReader_coordinate_mPb y1.2).bind fun y3 =>
 (F_impl_byteReader_coordinate_mPb y3.2).bind fun y5 =>
 (F_impl_byteReader_coordinate_mPb y5.2).bind fun y7 =>
 (F_impl_byteReader_coordinate_mPb y7.2).bind fun y9 =>
 some ((TShape.mk y1.1 (TRect.mk y3.1 y5.1 y7.1 y9.1)), y9.2)
set_option maxHeartbeats 4000000 in
theorem run_impl_byteReader_shape_mPb (a0 : TbyteReader) (r : TShape × TbyteReader) (h : F_impl_byteReader_shape_mPb a0 = some r) : Fun Try.prog 69 [.c (.ptr 5 0)] [(5, .var [.v (.string a0.gs), .v (.bool a0.gbad)])] (.agg [.v (.int .i64 r.1.fLayer), .v (.int .i64 r.1.fBox.fX0), .v (.int .i64 r.1.fBox.fY0), .v (.int .i64 r.1.fBox.fX1), .v (.int .i64 r.1.fBox.fY1)]) [(5, .var [.v (.string r.2.gs), .v (.bool r.2.gbad)])] true := by
 refine ow [] Try.func69 Try.ntmps69 ?_ (hv := (fun _ => ⟨(by simp [AV.flat, AV.flat1, AC.flat]), ⟨(by simp [AO.flat, AC.flat]), trivial⟩⟩)); unfold F_impl_byteReader_shape_mPb at h; have hf_impl_byteReader_coordinate_mPb := @run_impl_byteReader_coordinate_mPb; have hf_impl_byteReader_one_mPb := @run_impl_byteReader_one_mPb
 generalize hLEN : @len = LEN, hGD : @gd = GD, hA : std = A, hP : Try.prog = P at *; cbv; revert h; refine rk [(5, 5)] [(5, 5)] (hf_impl_byteReader_one_mPb _) (fun _ => yf) fun y1 h => ?_; cbv; revert h; refine rk [(5, 5)] [(5, 5)] (hf_impl_byteReader_coordinate_mPb _) (fun _ => yf) fun y3 h => ?_; cbv
 revert h; refine rk [(5, 5)] [(5, 5)] (hf_impl_byteReader_coordinate_mPb _) (fun _ => yf) fun y5 h => ?_; cbv; revert h; refine rk [(5, 5)] [(5, 5)] (hf_impl_byteReader_coordinate_mPb _) (fun _ => yf) fun y7 h => ?_; cbv; revert h; refine rk [(5, 5)] [(5, 5)] (hf_impl_byteReader_coordinate_mPb _) (fun _ => yf) fun y9 h => ?_; cbv; exact df
end Go.Proofs.Ytnpcpbkbenphaaa.AM
