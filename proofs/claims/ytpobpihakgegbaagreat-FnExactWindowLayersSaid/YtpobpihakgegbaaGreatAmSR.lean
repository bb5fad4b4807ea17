/-
  What the functions that the law reaches compute, and that they do. No condition.
-/
import Derived.Test.YtpobpihakgegbaaGreatAmSU
import Derived.Test.YtpobpihakgegbaaGreatAmE
namespace Go.Proofs.YtpobpihakgegbaaGreat.AM
open Go Go.Proofs Go.RowKit
set_option linter.unusedVariables false
set_option linter.unusedSimpArgs false
set_option maxRecDepth 100000

/-- impl.common -/
noncomputable def F_impl_common (a0 : TRect) (a1 : TRect) : Option (TRect) :=
 some (TRect.mk (std.imax a0.fX0 a1.fX0) (std.imax a0.fY0 a1.fY0) (std.imin a0.fX1 a1.fX1) (std.imin a0.fY1 a1.fY1))
set_option maxHeartbeats 4000000 in
theorem run_impl_common (a0 : TRect) (a1 : TRect) (r : TRect) (h : F_impl_common a0 a1 = some r) : Fun Tryz.prog 23 [.agg [.v (.int .i64 a0.fX0), .v (.int .i64 a0.fY0), .v (.int .i64 a0.fX1), .v (.int .i64 a0.fY1)], .agg [.v (.int .i64 a1.fX0), .v (.int .i64 a1.fY0), .v (.int .i64 a1.fX1), .v (.int .i64 a1.fY1)]] [] (.agg [.v (.int .i64 r.fX0), .v (.int .i64 r.fY0), .v (.int .i64 r.fX1), .v (.int .i64 r.fY1)]) [] true := by
 refine ow [] Tryz.func23 Tryz.ntmps23 ?_ (hv := (fun _ => ⟨(by simp [AV.flat, AV.flat1, AC.flat]), trivial⟩)); unfold F_impl_common at h; generalize hLEN : @len = LEN, hGD : @gd = GD, hA : std = A, hP : Tryz.prog = P at *; cbv; exact df

/-- impl.anywhere -/
noncomputable def F_impl_anywhere (a0 : TRect) (a1 : TRect) : Option (Bool) :=
 (F_impl_common a0 a1).bind fun y1 =>
 ((
    br (std.lt y1.fX0 y1.fX1)
    (some (std.lt y1.fY0 y1.fY1))
    (some false)
  ) : Option (Bool)).bind fun y3 =>
 letO y3 fun w9 =>
 some w9
set_option maxHeartbeats 4000000 in
theorem run_impl_anywhere (a0 : TRect) (a1 : TRect) (r : Bool) (h : F_impl_anywhere a0 a1 = some r) : Fun Tryz.prog 48 [.agg [.v (.int .i64 a0.fX0), .v (.int .i64 a0.fY0), .v (.int .i64 a0.fX1), .v (.int .i64 a0.fY1)], .agg [.v (.int .i64 a1.fX0), .v (.int .i64 a1.fY0), .v (.int .i64 a1.fX1), .v (.int .i64 a1.fY1)]] [] (.c (.v (.bool r))) [] true := by
 refine ow [2] Tryz.func48 Tryz.ntmps48 ?_; unfold F_impl_anywhere at h; have hf_impl_common := @run_impl_common; generalize hLEN : @len = LEN, hGD : @gd = GD, hA : std = A, hP : Tryz.prog = P at *; cbv; revert h; refine rk0 (hf_impl_common _ _) fun y1 h => ?_; cbv; revert h; refine cu (fun y3 => (sparse 21 [(4, .c (.v (.bool y3)))] [])) (fun y3 S hS h => rg) fun w9 => rz fun h => ?_; cbv; exact df

/-- slices.Clone[[]int64,int64] -/
noncomputable def F_slices_Clone_Lint64_int64 (a0 : List Int) : Option (List Int) :=
 nilB (len a0)
 (some ([] : List Int))
 (letO ([] : List Int) fun l1 =>
 req (std.room (std.nadd (len l1) (len a0)) 8) <|
 letO (l1 ++ a0) fun l3 =>
 some l3)
set_option maxHeartbeats 4000000 in
theorem run_slices_Clone_Lint64_int64 (a0 : List Int) (r : List Int) (h : F_slices_Clone_Lint64_int64 a0 = some r) : Fun Tryz.prog 49 [.c (.bs (len a0) 1 (row gd (encI .i64) a0))] [] (.c (.os 64000 0 (len r))) [(64000, .arr .rw [] (len r) 1 (row gd (encI .i64) r))] true := by
 refine ow [] Tryz.func49 Tryz.ntmps49 ?_ (hv := (fun _ => ⟨trivial, ⟨fun i _ j _ => val_flat (rfl), trivial⟩⟩)); unfold F_slices_Clone_Lint64_int64 at h; generalize hLEN : @len = LEN, hGD : @gd = GD, hA : std = A, hP : Tryz.prog = P at *; cbv; obtain ⟨h, hz7⟩ := of_nilB h; refine And.intro (fun hn6 => ?_) ?_
 ·have h := hz7 hn6; clear hz7; cbv; injection h with h; subst h; refine ⟨(sparse 8 [(2, .c (.os 64000 0 (LEN ([] : List Int))))] [(64000, .arr .rw [] (LEN ([] : List Int)) 1 (row GD (encI .i64) ([] : List Int)))]), ?_, ?_⟩
  ·refine St.le_trans (le_nilT 2 64000 1 (row GD (encI .i64) ([] : List Int)) (by decide) rfl) ?_; subst hLEN; exact zb
  ·subst hLEN; exact ⟨lR _, zo, rfl⟩
 ·clear hz7; cbv; revert h; refine rl fun l1 hl1 h => ?_; have e2 : 0 = LEN l1 := by subst hl1 hLEN; rfl
  refine ⟨_, (co e2), _, row GD (encI .i64) l1, e2, wkOf ?_, ?_⟩
  ·intro i hi j hj; rw [← e2] at hi; subst hl1; subst hGD; omega
  cbv; revert h; refine rq fun c5 => rl fun l3 hl3 h => ?_; have e4 := nl hA hLEN hl3; refine ⟨c5, _, (co e4), _, row GD (encI .i64) l3, e4, wkOf ?_, ?_⟩
  ·subst hGD hLEN hA; exact app_bs (fun _ _ => rfl) hl3 (Nat.le_refl _)
  cbv; injection h with h; subst h; exact ⟨_, le_ren 320 64000 (by decide) rfl, lR _, zo, rfl⟩

noncomputable def L_impl_visits_x8 (a0 : TLibrary) (a1 : List (List TRect)) (a2 : TRect) (a3 : TOccurrence) (F_REC_impl_visits : TLibrary → (List (List TRect)) → TRect → TOccurrence → Option (List TOccurrence)) (y4 : (List Telement)) : (Int × (List TOccurrence)) → Option ((Int × (List TOccurrence)) ⊕ (((List TOccurrence)))) := fun x8 =>
 letO x8.1 fun v6 =>
 letO x8.2 fun v7 =>
 br (std.lt v6 (std.ofN (len y4)))
 (req (std.inR v6 (len y4)) <|
 (F_impl_compose (gd y4 (std.nadd 0 (std.toN v6))).gplace a3.fPlace).bind fun y21 =>
 req (std.inR (gd y4 (std.nadd 0 (std.toN v6))).gcell (len a1)) <|
 ((
    br (std.lt 0 (std.ofN (len (gd a1 (std.toN (gd y4 (std.nadd 0 (std.toN v6))).gcell)))))
    (req (std.inR 0 (len (gd a1 (std.toN (gd y4 (std.nadd 0 (std.toN v6))).gcell)))) <|
    (F_impl_moveRect y21 (gd (gd a1 (std.toN (gd y4 (std.nadd 0 (std.toN v6))).gcell)) (std.toN 0))).bind fun y32 =>
    (F_impl_anywhere y32 a2).bind fun y34 =>
    some y34)
    (some false)
  ) : Option (Bool)).bind fun y24 =>
 letO y24 fun w30 =>
 ((
    br w30
    ((F_slices_Clone_Lint64_int64 a3.fPath).bind fun y44 =>
    letO ([v6] : List Int) fun l46 =>
    req (std.room (std.nadd (len y44) (len l46)) 8) <|
    letO (y44 ++ l46) fun l48 =>
    (F_REC_impl_visits (TLibrary.mk a0.fCells) a1 a2 (TOccurrence.mk (gd y4 (std.nadd 0 (std.toN v6))).gcell y21 l48)).bind fun y51 =>
    req (std.room (std.nadd (len v7) (len y51)) 56) <|
    letO (v7 ++ y51) fun l53 =>
    some l53)
    (some v7)
  ) : Option ((List TOccurrence))).bind fun y37 =>
 letO y37 fun w43 =>
 some (.inl (std.add .i64 v6 1, w43)))
 (some (.inr v7))
/-- impl.visits -/
noncomputable def FS_impl_visits (F_REC_impl_visits : TLibrary → (List (List TRect)) → TRect → TOccurrence → Option (List TOccurrence)) (a0 : TLibrary) (a1 : List (List TRect)) (a2 : TRect) (a3 : TOccurrence) : Option (List TOccurrence) :=
 letO ([a3] : List TOccurrence) fun l1 =>
 req (std.inR a3.fCell (len a0.fCells)) <|
 (F_impl_elements (gd a0.fCells (std.toN a3.fCell))).bind fun y4 =>
 (whileP (σ := Int × (List TOccurrence)) (ρ := ((List TOccurrence))) (L_impl_visits_x8 a0 a1 a2 a3 F_REC_impl_visits y4) (0, l1)).bind fun y9 =>
 letO y9 fun y9k0 =>
 letO y9k0 fun w58 =>
 some w58
set_option maxHeartbeats 4000000 in
theorem runS_impl_visits (F_REC_impl_visits : TLibrary → (List (List TRect)) → TRect → TOccurrence → Option (List TOccurrence)) (hf_REC_impl_visits : ∀ (a0 : TLibrary) (a1 : List (List TRect)) (a2 : TRect) (a3 : TOccurrence) (r : List TOccurrence), F_REC_impl_visits a0 a1 a2 a3 = some r → Fun Tryz.prog 45 [.agg [.bs (len a0.fCells) 4 (row gd (encCell len gd) a0.fCells)], .c (.bs (len a1) 1 (row gd (encL len gd 4 (encRect)) a1)), .agg [.v (.int .i64 a2.fX0), .v (.int .i64 a2.fY0), .v (.int .i64 a2.fX1), .v (.int .i64 a2.fY1)], .agg [.v (.int .i64 a3.fCell), .v (.int .i64 a3.fPlace.fOrientation), .v (.int .i64 a3.fPlace.fX), .v (.int .i64 a3.fPlace.fY), .bs (len a3.fPath) 1 (row gd (encI .i64) a3.fPath)]] [] (.c (.os 64000 0 (len r))) [(64000, .arr .rw [] (len r) 5 (row gd (encOccurrence len gd) r))] false) (a0 : TLibrary) (a1 : List (List TRect)) (a2 : TRect) (a3 : TOccurrence) (r : List TOccurrence) (h : FS_impl_visits F_REC_impl_visits a0 a1 a2 a3 = some r) : Fun Tryz.prog 45 [.agg [.bs (len a0.fCells) 4 (row gd (encCell len gd) a0.fCells)], .c (.bs (len a1) 1 (row gd (encL len gd 4 (encRect)) a1)), .agg [.v (.int .i64 a2.fX0), .v (.int .i64 a2.fY0), .v (.int .i64 a2.fX1), .v (.int .i64 a2.fY1)], .agg [.v (.int .i64 a3.fCell), .v (.int .i64 a3.fPlace.fOrientation), .v (.int .i64 a3.fPlace.fX), .v (.int .i64 a3.fPlace.fY), .bs (len a3.fPath) 1 (row gd (encI .i64) a3.fPath)]] [] (.c (.os 64000 0 (len r))) [(64000, .arr .rw [] (len r) 5 (row gd (encOccurrence len gd) r))] false := by
 refine ow [7, 100051] Tryz.func45 Tryz.ntmps45 ?_ (hv := (fun h => by cases h)); unfold FS_impl_visits at h; unfold L_impl_visits_x8 at h; have hf_impl_anywhere := @run_impl_anywhere; have hf_impl_compose := @run_impl_compose; have hf_impl_elements := @run_impl_elements; have hf_impl_moveRect := @run_impl_moveRect; have hf_slices_Clone_Lint64_int64 := @run_slices_Clone_Lint64_int64
 generalize hLEN : @len = LEN, hGD : @gd = GD, hA : std = A, hP : Tryz.prog = P at *; cbv; revert h; refine rl fun l1 hl1 h => ?_; have e2 : 1 = LEN l1 := by subst hl1 hLEN; rfl
 refine ⟨_, (co e2), _, row GD (encOccurrence LEN GD) l1, e2, wkOf ?_, ?_⟩
 ·intro i hi j hj; rw [← e2] at hi; subst hl1; subst hGD; obtain rfl : i = 0 := (by omega) <;> obtain rfl | rfl | rfl | rfl | rfl : j = 0 ∨ j = 1 ∨ j = 2 ∨ j = 3 ∨ j = 4 := (by omega)
  all_goals rfl
 cbv; revert h; refine ra fun c3 h => ?_; revert h; refine rk [] [(64000, 1472)] (hf_impl_elements _) (fun _ => zf) fun y4 h => ⟨_, rfl, _, _, rfl, fun _ _ _ _ => .refl _, ?_⟩
 cbv
 revert h; refine ln (.exit 0) (fun x => (sparse 71 [(1, .c (.bs (LEN a1) 1 (row GD (encL LEN GD 4 (encRect)) a1))), (4, .c (.ptr 256 0)), (6, .c (.ptr 384 0)), (7, .c (.ptr 448 0)), (9, .c (.os 1024 0 (LEN x.2))), (23, .c (.os 1472 0 (LEN y4))), (24, .c (.v (.int .i64 (A.ofN (LEN y4))))), (25, .c (.v (.int .i64 x.1)))] [(256, .var [.bs (LEN a0.fCells) 4 (row GD (encCell LEN GD) a0.fCells)]), (384, .var [.v (.int .i64 a2.fX0), .v (.int .i64 a2.fY0), .v (.int .i64 a2.fX1), .v (.int .i64 a2.fY1)]), (448, .var [.v (.int .i64 a3.fCell), .v (.int .i64 a3.fPlace.fOrientation), .v (.int .i64 a3.fPlace.fX), .v (.int .i64 a3.fPlace.fY), .bs (LEN a3.fPath) 1 (row GD (encI .i64) a3.fPath)]), (1024, .arr .rw [] (LEN x.2) 5 (row GD (encOccurrence LEN GD) x.2)), (1472, .arr .rw [] (LEN y4) 4 (row GD (encelement) y4))])) (fun w => (sparse 71 [(9, .c (.os 1024 0 (LEN w)))] [(1024, .arr .rw [] (LEN w) 5 (row GD (encOccurrence LEN GD) w))])) zb ?_ ?_
 ·rintro ⟨v6, v7⟩ z h K hK hY; replace h := oz (oz h); dsimp only at h; cbv; revert h; refine fk ?_ ?_ <;> intro h <;> cbv
  ·revert h; refine ra fun c20 h => ?_; refine ai c20 ?_; revert h; refine rk0 (hf_impl_compose _ _) fun y21 h => ?_; cbv; revert h; refine ra fun c23 h => ?_
   revert h; refine cu (fun y24 => (sparse 71 [(1, .c (.bs (LEN a1) 1 (row GD (encL LEN GD 4 (encRect)) a1))), (4, .c (.ptr 256 0)), (6, .c (.ptr 384 0)), (7, .c (.ptr 448 0)), (9, .c (.os 1024 0 (LEN v7))), (10, .c (.v (.int .i64 v6))), (11, .c (.ptr 704 0)), (12, .c (.ptr 768 0)), (23, .c (.os 1472 0 (LEN y4))), (24, .c (.v (.int .i64 (A.ofN (LEN y4))))), (25, .c (.v (.int .i64 v6))), (51, .c (.v (.bool y24)))] [(256, .var [.bs (LEN a0.fCells) 4 (row GD (encCell LEN GD) a0.fCells)]), (384, .var [.v (.int .i64 a2.fX0), .v (.int .i64 a2.fY0), .v (.int .i64 a2.fX1), .v (.int .i64 a2.fY1)]), (448, .var [.v (.int .i64 a3.fCell), .v (.int .i64 a3.fPlace.fOrientation), .v (.int .i64 a3.fPlace.fX), .v (.int .i64 a3.fPlace.fY), .bs (LEN a3.fPath) 1 (row GD (encI .i64) a3.fPath)]), (1024, .arr .rw [] (LEN v7) 5 (row GD (encOccurrence LEN GD) v7)), (704, .var [.v (.int .i64 (GD y4 (A.nadd 0 (A.toN v6))).gcell), .v (.int .i64 (GD y4 (A.nadd 0 (A.toN v6))).gplace.fOrientation), .v (.int .i64 (GD y4 (A.nadd 0 (A.toN v6))).gplace.fX), .v (.int .i64 (GD y4 (A.nadd 0 (A.toN v6))).gplace.fY)]), (768, .var [.v (.int .i64 y21.fOrientation), .v (.int .i64 y21.fX), .v (.int .i64 y21.fY)]), (1472, .arr .rw [] (LEN y4) 4 (row GD (encelement) y4))])) ?_ fun w30 => rz fun h => ?_
   ·intro y24 S hS h; cbv; revert h; refine fk ?_ ?_ <;> intro h <;> cbv
    ·revert h; refine ra fun c31 h => ?_; revert h; refine rk0 (hf_impl_moveRect _ _) fun y32 h => ?_; cbv; revert h; refine rk0 (hf_impl_anywhere _ _) fun y34 h => ?_; cbv; exact dn
    exact dn
   cbv
   revert h; refine cu (fun y37 => some (sparse 71 [(1, .c (.bs (LEN a1) 1 (row GD (encL LEN GD 4 (encRect)) a1))), (4, .c (.ptr 256 0)), (6, .c (.ptr 384 0)), (7, .c (.ptr 448 0)), (9, .c (.os 1024 0 (LEN y37))), (23, .c (.os 1472 0 (LEN y4))), (24, .c (.v (.int .i64 (A.ofN (LEN y4))))), (25, .c (.v (.int .i64 v6)))] [(256, .var [.bs (LEN a0.fCells) 4 (row GD (encCell LEN GD) a0.fCells)]), (384, .var [.v (.int .i64 a2.fX0), .v (.int .i64 a2.fY0), .v (.int .i64 a2.fX1), .v (.int .i64 a2.fY1)]), (448, .var [.v (.int .i64 a3.fCell), .v (.int .i64 a3.fPlace.fOrientation), .v (.int .i64 a3.fPlace.fX), .v (.int .i64 a3.fPlace.fY), .bs (LEN a3.fPath) 1 (row GD (encI .i64) a3.fPath)]), (1024, .arr .rw [] (LEN y37) 5 (row GD (encOccurrence LEN GD) y37)), (1472, .arr .rw [] (LEN y4) 4 (row GD (encelement) y4))])) ?_ fun w43 => rz fun h => ?_
   ·intro y37 S hS h; cbv; revert h; refine fk ?_ ?_ <;> intro h <;> cbv
    ·revert h; refine rk [] [(64000, 3456)] (hf_slices_Clone_Lint64_int64 _) (fun _ => zf) fun y44 h => ⟨_, rfl, _, _, rfl, fun _ _ _ _ => .refl _, ?_⟩
     cbv; revert h; refine rl fun l46 hl46 h => ?_; have e47 : 1 = LEN l46 := by subst hl46 hLEN; rfl
     refine ⟨_, (co e47), _, row GD (encI .i64) l46, e47, wkOf ?_, ?_⟩
     ·intro i hi j hj; rw [← e47] at hi; subst hl46; subst hGD; obtain rfl : i = 0 := (by omega); all_goals obtain rfl : j = 0 := by omega
      all_goals rfl
     cbv; revert h; refine rq fun c50 => rl fun l48 hl48 h => ?_; have e49 := nl hA hLEN hl48; refine ⟨c50, _, (co e49), _, row GD (encI .i64) l48, e49, wkOf ?_, ?_⟩
     ·subst hGD hLEN hA; exact app_os (off := 0) (fun _ _ => rfl) hl48 (Nat.le_refl _)
     cbv; revert h; refine rk [] [(64000, 4288)] (hf_REC_impl_visits _ _ _ _) (fun _ => zg (les_cons (lR _) (les_cons (lR _) (les_cons (lR _) (les_cons (le_agg ⟨lR _, lR _, lR _, lR _, give_os (fun _ _ => rfl) rfl rfl rfl, trivial⟩) (les_nil)))))) fun y51 h => ⟨_, rfl, _, _, rfl, fun _ _ _ _ => .refl _, _, _, rfl, fun _ _ _ _ => .refl _, ?_⟩
     cbv; revert h; refine rq fun c55 => rl fun l53 hl53 h => ?_; have e54 := nl hA hLEN hl53; refine ⟨c55, _, (co e54), _, row GD (encOccurrence LEN GD) l53, e54, wkOf ?_, ?_⟩
     ·subst hGD hLEN hA; exact app_os (off := 0) (pl_encOccurrence) hl53 (Nat.le_refl _)
     cbv; exact dn
    exact dn
   cbv; exact dm
  exact dx
 intro w58 h s q17; replace h := oz (oz h); cbv; refine ⟨_, q17, ?_⟩; cbv; injection h with h; subst h; exact ⟨_, le_ren 1024 64000 (by decide) rfl, lR _, zo, rfl⟩
/-- as deep as this -/
noncomputable def FR_impl_visits : Nat → TLibrary → (List (List TRect)) → TRect → TOccurrence → Option (List TOccurrence)
 | 0 => fun _ _ _ _ => none
 | k + 1 => FS_impl_visits (FR_impl_visits k)
theorem runR_impl_visits : ∀ (k : Nat) (a0 : TLibrary) (a1 : List (List TRect)) (a2 : TRect) (a3 : TOccurrence) (r : List TOccurrence), FR_impl_visits k a0 a1 a2 a3 = some r → Fun Tryz.prog 45 [.agg [.bs (len a0.fCells) 4 (row gd (encCell len gd) a0.fCells)], .c (.bs (len a1) 1 (row gd (encL len gd 4 (encRect)) a1)), .agg [.v (.int .i64 a2.fX0), .v (.int .i64 a2.fY0), .v (.int .i64 a2.fX1), .v (.int .i64 a2.fY1)], .agg [.v (.int .i64 a3.fCell), .v (.int .i64 a3.fPlace.fOrientation), .v (.int .i64 a3.fPlace.fX), .v (.int .i64 a3.fPlace.fY), .bs (len a3.fPath) 1 (row gd (encI .i64) a3.fPath)]] [] (.c (.os 64000 0 (len r))) [(64000, .arr .rw [] (len r) 5 (row gd (encOccurrence len gd) r))] false := by
 intro k
 induction k with
 | zero => intro a0 a1 a2 a3 r h; cases h
 | succ k ih => exact fun a0 a1 a2 a3 r h => runS_impl_visits (FR_impl_visits k) ih a0 a1 a2 a3 r h
/-- impl.visits -/
noncomputable def F_impl_visits (a0 : TLibrary) (a1 : List (List TRect)) (a2 : TRect) (a3 : TOccurrence) : Option (List TOccurrence) := FR_impl_visits 64 a0 a1 a2 a3
theorem run_impl_visits (a0 : TLibrary) (a1 : List (List TRect)) (a2 : TRect) (a3 : TOccurrence) (r : List TOccurrence) (h : F_impl_visits a0 a1 a2 a3 = some r) : Fun Tryz.prog 45 [.agg [.bs (len a0.fCells) 4 (row gd (encCell len gd) a0.fCells)], .c (.bs (len a1) 1 (row gd (encL len gd 4 (encRect)) a1)), .agg [.v (.int .i64 a2.fX0), .v (.int .i64 a2.fY0), .v (.int .i64 a2.fX1), .v (.int .i64 a2.fY1)], .agg [.v (.int .i64 a3.fCell), .v (.int .i64 a3.fPlace.fOrientation), .v (.int .i64 a3.fPlace.fX), .v (.int .i64 a3.fPlace.fY), .bs (len a3.fPath) 1 (row gd (encI .i64) a3.fPath)]] [] (.c (.os 64000 0 (len r))) [(64000, .arr .rw [] (len r) 5 (row gd (encOccurrence len gd) r))] false := runR_impl_visits 64 a0 a1 a2 a3 r h

/-- impl.visited -/
noncomputable def F_impl_visited (a0 : TLibrary) (a1 : Int) (a2 : TRect) : Option (List TOccurrence) :=
 (F_impl_contentBoxes (TLibrary.mk a0.fCells)).bind fun y1 =>
 (F_impl_visits (TLibrary.mk a0.fCells) y1 a2 (TOccurrence.mk a1 (TTransform.mk 0 0 0) ([] : List Int))).bind fun y3 =>
 some y3
set_option maxHeartbeats 4000000 in
theorem run_impl_visited (a0 : TLibrary) (a1 : Int) (a2 : TRect) (r : List TOccurrence) (h : F_impl_visited a0 a1 a2 = some r) : Fun Tryz.prog 20 [.agg [.bs (len a0.fCells) 4 (row gd (encCell len gd) a0.fCells)], .c (.v (.int .i64 a1)), .agg [.v (.int .i64 a2.fX0), .v (.int .i64 a2.fY0), .v (.int .i64 a2.fX1), .v (.int .i64 a2.fY1)]] [] (.c (.os 64000 0 (len r))) [(64000, .arr .rw [] (len r) 5 (row gd (encOccurrence len gd) r))] false := by
 refine ow [] Tryz.func20 Tryz.ntmps20 ?_ (hv := (fun h => by cases h)); unfold F_impl_visited at h; have hf_impl_contentBoxes := @run_impl_contentBoxes; have hf_impl_visits := @run_impl_visits; generalize hLEN : @len = LEN, hGD : @gd = GD, hA : std = A, hP : Tryz.prog = P at *; cbv
 revert h; refine rk [] [(64000, 576)] (hf_impl_contentBoxes _) (fun _ => zf) fun y1 h => ⟨_, rfl, _, _, rfl, fun _ _ _ _ => .refl _, ?_⟩
 cbv
 revert h; refine rk [] [(64000, 832)] (hf_impl_visits _ _ _ _) (fun _ => zg (les_cons (lR _) (les_cons (give_osD (fun _ _ => rfl) (fun _ _ => rfl) rfl rfl rfl) (les_cons (lR _) (les_cons (le_agg ⟨lR _, lR _, lR _, lR _, (by subst hLEN; exact le_nil_bs), trivial⟩) (les_nil)))))) fun y3 h => ⟨_, rfl, _, _, rfl, fun _ _ _ _ => .refl _, _, _, rfl, fun _ _ _ _ => .refl _, ?_⟩
 cbv; injection h with h; subst h; exact ⟨_, le_ren 832 64000 (by decide) rfl, lR _, zo, rfl⟩

noncomputable def L_impl_hits_x20 (a0 : TLibrary) (a1 : List TOccurrence) (a2 : Int) (a3 : TRect) (v2 : Int) : (Int × (List TWindowHit)) → Option ((Int × (List TWindowHit)) ⊕ (((List TWindowHit)))) := fun x20 =>
 letO x20.1 fun v18 =>
 letO x20.2 fun v19 =>
 br (std.lt v18 (std.ofN (len (gd a0.fCells (std.toN (gd a1 (std.toN v2)).fCell)).fShapes)))
 (req (std.inR v18 (len (gd a0.fCells (std.toN (gd a1 (std.toN v2)).fCell)).fShapes)) <|
 (F_impl_moveRect (gd a1 (std.toN v2)).fPlace (gd (gd a0.fCells (std.toN (gd a1 (std.toN v2)).fCell)).fShapes (std.toN v18)).fBox).bind fun y33 =>
 ((
    br (std.eq (gd (gd a0.fCells (std.toN (gd a1 (std.toN v2)).fCell)).fShapes (std.toN v18)).fLayer a2)
    ((F_impl_anywhere y33 a3).bind fun y42 =>
    some y42)
    (some false)
  ) : Option (Bool)).bind fun y35 =>
 letO y35 fun w41 =>
 ((
    br w41
    (((
       (F_slices_Clone_Lint64_int64 (gd a1 (std.toN v2)).fPath).bind fun y59 =>
       letO ([(TWindowHit.mk (gd a1 (std.toN v2)).fCell v18 a2 y33 y59)] : List TWindowHit) fun l61 =>
       req (std.room (std.nadd (len v19) (len l61)) 80) <|
       letO (v19 ++ l61) fun l63 =>
       some l63
     ) : Option ((List TWindowHit))).bind fun y52 =>
    letO y52 fun w58 =>
    some w58)
    (some v19)
  ) : Option ((List TWindowHit))).bind fun y45 =>
 letO y45 fun w51 =>
 some (.inl (std.add .i64 v18 1, w51)))
 (some (.inr v19))
noncomputable def L_impl_hits_x4 (a0 : TLibrary) (a1 : List TOccurrence) (a2 : Int) (a3 : TRect) : (Int × (List TWindowHit)) → Option ((Int × (List TWindowHit)) ⊕ (((List TWindowHit)))) := fun x4 =>
 letO x4.1 fun v2 =>
 letO x4.2 fun v3 =>
 br (std.lt v2 (std.ofN (len a1)))
 (req (std.inR v2 (len a1)) <|
 req (std.inR (gd a1 (std.toN v2)).fCell (len a0.fCells)) <|
 (whileP (σ := Int × (List TWindowHit)) (ρ := ((List TWindowHit))) (L_impl_hits_x20 a0 a1 a2 a3 v2) (0, v3)).bind fun y21 =>
 letO y21 fun y21k0 =>
 letO y21k0 fun w68 =>
 some (.inl (std.add .i64 v2 1, w68)))
 (some (.inr v3))
/-- impl.hits -/
noncomputable def F_impl_hits (a0 : TLibrary) (a1 : List TOccurrence) (a2 : Int) (a3 : TRect) : Option (List TWindowHit) :=
 (whileP (σ := Int × (List TWindowHit)) (ρ := ((List TWindowHit))) (L_impl_hits_x4 a0 a1 a2 a3) (0, ([] : List TWindowHit))).bind fun y5 =>
 letO y5 fun y5k0 =>
 letO y5k0 fun w70 =>
 some w70
set_option maxHeartbeats 4000000 in
theorem run_impl_hits (a0 : TLibrary) (a1 : List TOccurrence) (a2 : Int) (a3 : TRect) (r : List TWindowHit) (h : F_impl_hits a0 a1 a2 a3 = some r) : Fun Tryz.prog 21 [.agg [.bs (len a0.fCells) 4 (row gd (encCell len gd) a0.fCells)], .c (.bs (len a1) 5 (row gd (encOccurrence len gd) a1)), .c (.v (.int .i64 a2)), .agg [.v (.int .i64 a3.fX0), .v (.int .i64 a3.fY0), .v (.int .i64 a3.fX1), .v (.int .i64 a3.fY1)]] [] (.c (.os 64000 0 (len r))) [(64000, .arr .rw [] (len r) 8 (row gd (oncWindowHit len gd) r))] true := by
 refine ow [9, 10, 100048] Tryz.func21 Tryz.ntmps21 ?_ (hv := (fun _ => ⟨trivial, ⟨fun i _ j _ => fl_oncWindowHit _ _, trivial⟩⟩)); unfold F_impl_hits at h; unfold L_impl_hits_x4 at h; unfold L_impl_hits_x20 at h; have hf_impl_anywhere := @run_impl_anywhere; have hf_impl_moveRect := @run_impl_moveRect; have hf_slices_Clone_Lint64_int64 := @run_slices_Clone_Lint64_int64
 generalize hLEN : @len = LEN, hGD : @gd = GD, hA : std = A, hP : Tryz.prog = P at *; cbv; have e1 : 0 = LEN ([] : List TWindowHit) := by subst hLEN; rfl
 refine ⟨_, (co e1), _, row GD (oncWindowHit LEN GD) ([] : List TWindowHit), e1, wkOf ?_, ?_⟩
 ·intro i hi j hj; rw [← e1] at hi; subst hGD; omega
 cbv
 revert h; refine ln (.exit 0) (fun x => (sparse 64 [(2, .c (.v (.int .i64 a2))), (4, .c (.ptr 256 0)), (7, .c (.ptr 448 0)), (9, .c (.os 960 0 (LEN x.2))), (16, .c (.bs (LEN a1) 5 (row GD (encOccurrence LEN GD) a1))), (17, .c (.v (.int .i64 (A.ofN (LEN a1))))), (18, .c (.v (.int .i64 x.1)))] [(256, .var [.bs (LEN a0.fCells) 4 (row GD (encCell LEN GD) a0.fCells)]), (448, .var [.v (.int .i64 a3.fX0), .v (.int .i64 a3.fY0), .v (.int .i64 a3.fX1), .v (.int .i64 a3.fY1)]), (960, .arr .rw [] (LEN x.2) 8 (row GD (oncWindowHit LEN GD) x.2))])) (fun w => (sparse 64 [(9, .c (.os 960 0 (LEN w)))] [(960, .arr .rw [] (LEN w) 8 (row GD (oncWindowHit LEN GD) w))])) zb ?_ ?_
 ·rintro ⟨v2, v3⟩ z h K hK hY; replace h := oz (oz h); dsimp only at h; cbv; revert h; refine fk ?_ ?_ <;> intro h <;> cbv
  ·revert h; refine ra fun c16 h => ?_; revert h; refine ra fun c17 h => ?_
   revert h; refine ln (.exit 2) (fun x => (sparse 64 [(2, .c (.v (.int .i64 a2))), (4, .c (.ptr 256 0)), (7, .c (.ptr 448 0)), (9, .c (.os 960 0 (LEN x.2))), (11, .c (.ptr 704 0)), (16, .c (.bs (LEN a1) 5 (row GD (encOccurrence LEN GD) a1))), (17, .c (.v (.int .i64 (A.ofN (LEN a1))))), (18, .c (.v (.int .i64 v2))), (28, .c (.bs (LEN (GD a0.fCells (A.toN (GD a1 (A.toN v2)).fCell)).fShapes) 5 (row GD (encShape) (GD a0.fCells (A.toN (GD a1 (A.toN v2)).fCell)).fShapes))), (29, .c (.v (.int .i64 (A.ofN (LEN (GD a0.fCells (A.toN (GD a1 (A.toN v2)).fCell)).fShapes))))), (30, .c (.v (.int .i64 x.1)))] [(256, .var [.bs (LEN a0.fCells) 4 (row GD (encCell LEN GD) a0.fCells)]), (448, .var [.v (.int .i64 a3.fX0), .v (.int .i64 a3.fY0), .v (.int .i64 a3.fX1), .v (.int .i64 a3.fY1)]), (960, .arr .rw [] (LEN x.2) 8 (row GD (oncWindowHit LEN GD) x.2)), (704, .var [.v (.int .i64 (GD a1 (A.toN v2)).fCell), .v (.int .i64 (GD a1 (A.toN v2)).fPlace.fOrientation), .v (.int .i64 (GD a1 (A.toN v2)).fPlace.fX), .v (.int .i64 (GD a1 (A.toN v2)).fPlace.fY), .bs (LEN (GD a1 (A.toN v2)).fPath) 1 (row GD (encI .i64) (GD a1 (A.toN v2)).fPath)])])) (fun w => (sparse 64 [(2, .c (.v (.int .i64 a2))), (4, .c (.ptr 256 0)), (7, .c (.ptr 448 0)), (9, .c (.os 960 0 (LEN w))), (16, .c (.bs (LEN a1) 5 (row GD (encOccurrence LEN GD) a1))), (17, .c (.v (.int .i64 (A.ofN (LEN a1))))), (18, .c (.v (.int .i64 v2)))] [(256, .var [.bs (LEN a0.fCells) 4 (row GD (encCell LEN GD) a0.fCells)]), (448, .var [.v (.int .i64 a3.fX0), .v (.int .i64 a3.fY0), .v (.int .i64 a3.fX1), .v (.int .i64 a3.fY1)]), (960, .arr .rw [] (LEN w) 8 (row GD (oncWindowHit LEN GD) w))])) zb ?_ ?_
   ·rintro ⟨v18, v19⟩ z h K hK hY; replace h := oz (oz h); dsimp only at h; cbv; revert h; refine fk ?_ ?_ <;> intro h <;> cbv
    ·revert h; refine ra fun c32 h => ?_; revert h; refine rk0 (hf_impl_moveRect _ _) fun y33 h => ?_; cbv
     revert h; refine cu (fun y35 => (sparse 64 [(2, .c (.v (.int .i64 a2))), (4, .c (.ptr 256 0)), (7, .c (.ptr 448 0)), (9, .c (.os 960 0 (LEN v19))), (11, .c (.ptr 704 0)), (12, .c (.v (.int .i64 v18))), (14, .c (.ptr 896 0)), (16, .c (.bs (LEN a1) 5 (row GD (encOccurrence LEN GD) a1))), (17, .c (.v (.int .i64 (A.ofN (LEN a1))))), (18, .c (.v (.int .i64 v2))), (28, .c (.bs (LEN (GD a0.fCells (A.toN (GD a1 (A.toN v2)).fCell)).fShapes) 5 (row GD (encShape) (GD a0.fCells (A.toN (GD a1 (A.toN v2)).fCell)).fShapes))), (29, .c (.v (.int .i64 (A.ofN (LEN (GD a0.fCells (A.toN (GD a1 (A.toN v2)).fCell)).fShapes))))), (30, .c (.v (.int .i64 v18))), (48, .c (.v (.bool y35)))] [(256, .var [.bs (LEN a0.fCells) 4 (row GD (encCell LEN GD) a0.fCells)]), (448, .var [.v (.int .i64 a3.fX0), .v (.int .i64 a3.fY0), .v (.int .i64 a3.fX1), .v (.int .i64 a3.fY1)]), (960, .arr .rw [] (LEN v19) 8 (row GD (oncWindowHit LEN GD) v19)), (704, .var [.v (.int .i64 (GD a1 (A.toN v2)).fCell), .v (.int .i64 (GD a1 (A.toN v2)).fPlace.fOrientation), .v (.int .i64 (GD a1 (A.toN v2)).fPlace.fX), .v (.int .i64 (GD a1 (A.toN v2)).fPlace.fY), .bs (LEN (GD a1 (A.toN v2)).fPath) 1 (row GD (encI .i64) (GD a1 (A.toN v2)).fPath)]), (896, .var [.v (.int .i64 y33.fX0), .v (.int .i64 y33.fY0), .v (.int .i64 y33.fX1), .v (.int .i64 y33.fY1)])])) ?_ fun w41 => rz fun h => ?_
     ·intro y35 S hS h; cbv; revert h; refine fk ?_ ?_ <;> intro h <;> cbv
      ·revert h; refine rk0 (hf_impl_anywhere _ _) fun y42 h => ?_; cbv; exact dn
      exact dn
     cbv
     revert h; refine cu (fun y45 => some (sparse 64 [(2, .c (.v (.int .i64 a2))), (4, .c (.ptr 256 0)), (7, .c (.ptr 448 0)), (9, .c (.os 960 0 (LEN y45))), (11, .c (.ptr 704 0)), (16, .c (.bs (LEN a1) 5 (row GD (encOccurrence LEN GD) a1))), (17, .c (.v (.int .i64 (A.ofN (LEN a1))))), (18, .c (.v (.int .i64 v2))), (28, .c (.bs (LEN (GD a0.fCells (A.toN (GD a1 (A.toN v2)).fCell)).fShapes) 5 (row GD (encShape) (GD a0.fCells (A.toN (GD a1 (A.toN v2)).fCell)).fShapes))), (29, .c (.v (.int .i64 (A.ofN (LEN (GD a0.fCells (A.toN (GD a1 (A.toN v2)).fCell)).fShapes))))), (30, .c (.v (.int .i64 v18)))] [(256, .var [.bs (LEN a0.fCells) 4 (row GD (encCell LEN GD) a0.fCells)]), (448, .var [.v (.int .i64 a3.fX0), .v (.int .i64 a3.fY0), .v (.int .i64 a3.fX1), .v (.int .i64 a3.fY1)]), (960, .arr .rw [] (LEN y45) 8 (row GD (oncWindowHit LEN GD) y45)), (704, .var [.v (.int .i64 (GD a1 (A.toN v2)).fCell), .v (.int .i64 (GD a1 (A.toN v2)).fPlace.fOrientation), .v (.int .i64 (GD a1 (A.toN v2)).fPlace.fX), .v (.int .i64 (GD a1 (A.toN v2)).fPlace.fY), .bs (LEN (GD a1 (A.toN v2)).fPath) 1 (row GD (encI .i64) (GD a1 (A.toN v2)).fPath)])])) ?_ fun w51 => rz fun h => ?_
     ·intro y45 S hS h; cbv; revert h; refine fk ?_ ?_ <;> intro h <;> cbv
      ·revert h; refine cu (fun y52 => (sparse 64 [(2, .c (.v (.int .i64 a2))), (4, .c (.ptr 256 0)), (7, .c (.ptr 448 0)), (9, .c (.os 960 0 (LEN y52))), (11, .c (.ptr 704 0)), (16, .c (.bs (LEN a1) 5 (row GD (encOccurrence LEN GD) a1))), (17, .c (.v (.int .i64 (A.ofN (LEN a1))))), (18, .c (.v (.int .i64 v2))), (28, .c (.bs (LEN (GD a0.fCells (A.toN (GD a1 (A.toN v2)).fCell)).fShapes) 5 (row GD (encShape) (GD a0.fCells (A.toN (GD a1 (A.toN v2)).fCell)).fShapes))), (29, .c (.v (.int .i64 (A.ofN (LEN (GD a0.fCells (A.toN (GD a1 (A.toN v2)).fCell)).fShapes))))), (30, .c (.v (.int .i64 v18)))] [(256, .var [.bs (LEN a0.fCells) 4 (row GD (encCell LEN GD) a0.fCells)]), (448, .var [.v (.int .i64 a3.fX0), .v (.int .i64 a3.fY0), .v (.int .i64 a3.fX1), .v (.int .i64 a3.fY1)]), (960, .arr .rw [] (LEN y52) 8 (row GD (oncWindowHit LEN GD) y52)), (704, .var [.v (.int .i64 (GD a1 (A.toN v2)).fCell), .v (.int .i64 (GD a1 (A.toN v2)).fPlace.fOrientation), .v (.int .i64 (GD a1 (A.toN v2)).fPlace.fX), .v (.int .i64 (GD a1 (A.toN v2)).fPlace.fY), .bs (LEN (GD a1 (A.toN v2)).fPath) 1 (row GD (encI .i64) (GD a1 (A.toN v2)).fPath)])])) ?_ fun w58 => rz fun h => ?_
       ·intro y52 S hS h; cbv; revert h; refine rk [] [(64000, 3648)] (hf_slices_Clone_Lint64_int64 _) (fun _ => zf) fun y59 h => ⟨_, rfl, _, _, rfl, fun _ _ _ _ => .refl _, ?_⟩
        cbv; revert h; refine rl fun l61 hl61 h => ?_; have e62 : 1 = LEN l61 := by subst hl61 hLEN; rfl
        refine ⟨_, (co e62), _, (patchC (fun _ _ => AC.junk) 0 [.v (.int .i64 (GD a1 (A.toN v2)).fCell), .v (.int .i64 v18), .v (.int .i64 a2), .v (.int .i64 y33.fX0), .v (.int .i64 y33.fY0), .v (.int .i64 y33.fX1), .v (.int .i64 y33.fY1), .os 3648 0 (LEN y59)]), e62, wkOf ?_, ?_⟩
        ·refine patch_one (by subst hl61 hLEN; rfl) ?_; exact zr
        cbv; revert h; refine rq fun c65 => rl fun l63 hl63 h => ?_; have e64 := nl hA hLEN hl63; refine ⟨c65, _, (co e64), _, (patchC (row GD (oncWindowHit LEN GD) v19) (LEN v19) [.v (.int .i64 (GD a1 (A.toN v2)).fCell), .v (.int .i64 v18), .v (.int .i64 a2), .v (.int .i64 y33.fX0), .v (.int .i64 y33.fY0), .v (.int .i64 y33.fX1), .v (.int .i64 y33.fY1), .os 3648 0 (LEN y59)]), e64, wkOf ?_, ?_⟩
        ·subst hLEN hA; refine patch_joinG (by first | (rw [hl63]; simp [len]; done) | (rw [hl63]; simp [len]; omega) | (subst_vars; simp [len])) ?_; exact zr
        cbv; rw [hl61] at hl63; injection h with h; subst h; subst hS; show St.le _ _; refine St.le_trans (le_foldP 960 7 3648 rfl rfl rfl (by decide) (by subst hLEN; exact app_lt hl63) (by decide) rfl (fun _ _ => rf_oncWindowHit _ _)) ?_; exact le_sparse rfl zl ⟨rfl, rfl, oP (fun _ _ => rf_oncWindowHit _ _) (by subst hGD hLEN hA; exact patch_app hl63 (Nat.le_refl _) zr), rfl, trivial⟩ rfl
       cbv; exact dn
      exact dn
     cbv; exact dm
    exact dx
   intro w68 h s q29; replace h := oz (oz h); cbv; refine ⟨_, q29, ?_⟩; cbv; exact dm
  exact dx
 intro w70 h s q13; replace h := oz (oz h); cbv; refine ⟨_, q13, ?_⟩; cbv; injection h with h; subst h; exact ⟨_, le_ren 960 64000 (by decide) rfl, lR _, zo, rfl⟩
noncomputable def L_impl_cells_put_mAb_x17 (a1 : TRect) (v1 : Int) : (Int × (Nat → Nat → Bool)) → Option ((Int × (Nat → Nat → Bool)) ⊕ (((Nat → Nat → Bool)))) := fun x17 =>
 letO x17.1 fun v15 =>
 letO x17.2 fun v16 =>
 br (std.lt v15 (std.imin a1.fX1 40))
 (req (std.inR (std.add .i64 v1 40) 80) <|
 req (std.inR (std.add .i64 v15 40) 80) <|
 letO (setG v16 (std.nadd 0 (std.toN (std.add .i64 v1 40))) (std.nadd 0 (std.toN (std.add .i64 v15 40))) true) fun l31 =>
 some (.inl (std.add .i64 v15 1, l31)))
 (some (.inr v16))
noncomputable def L_impl_cells_put_mAb_x3 (a1 : TRect) : (Int × (Nat → Nat → Bool)) → Option ((Int × (Nat → Nat → Bool)) ⊕ (((Nat → Nat → Bool)))) := fun x3 =>
 letO x3.1 fun v1 =>
 letO x3.2 fun v2 =>
 br (std.lt v1 (std.imin a1.fY1 40))
 ((whileP (σ := Int × (Nat → Nat → Bool)) (ρ := ((Nat → Nat → Bool))) (L_impl_cells_put_mAb_x17 a1 v1) ((std.imax a1.fX0 (-40)), v2)).bind fun y18 =>
 letO y18 fun y18k0 =>
 letO y18k0 fun w33 =>
 some (.inl (std.add .i64 v1 1, w33)))
 (some (.inr v2))
/-- impl.cells).put -/
noncomputable def F_impl_cells_put_mAb (a0 : Nat → Nat → Bool) (a1 : TRect) : Option (Nat → Nat → Bool) :=
 (whileP (σ := Int × (Nat → Nat → Bool)) (ρ := ((Nat → Nat → Bool))) (L_impl_cells_put_mAb_x3 a1) ((std.imax a1.fY0 (-40)), a0)).bind fun y4 =>
 letO y4 fun y4k0 =>
 letO y4k0 fun w35 =>
 some w35
set_option maxHeartbeats 4000000 in
theorem run_impl_cells_put_mAb (a0 : Nat → Nat → Bool) (a1 : TRect) (r : Nat → Nat → Bool) (h : F_impl_cells_put_mAb a0 a1 = some r) : Fun Tryz.prog 22 [.c (.ep 5 0 0), .agg [.v (.int .i64 a1.fX0), .v (.int .i64 a1.fY0), .v (.int .i64 a1.fX1), .v (.int .i64 a1.fY1)]] [(5, .arr .rw [] 80 80 (encG a0))] (.tup []) [(5, .arr .rw [] 80 80 (encG r))] true := by
 refine ow [] Tryz.func22 Tryz.ntmps22 ?_ (hw := ⟨fun i _ j _ k hk => (noref (rfl) hk).elim, trivial⟩) (hv := (fun _ => ⟨(by simp [AV.flat, AV.flat1, AC.flat]), ⟨(fun i _ j _ => trivial), trivial⟩⟩)); unfold F_impl_cells_put_mAb at h; unfold L_impl_cells_put_mAb_x3 at h; unfold L_impl_cells_put_mAb_x17 at h; generalize hLEN : @len = LEN, hGD : @gd = GD, hA : std = A, hP : Tryz.prog = P at *; cbv
 revert h; refine ln (.exit 0) (fun x => (sparse 34 [(0, .c (.ep 5 0 0)), (3, .c (.ptr 192 0)), (4, .c (.v (.int .i64 x.1)))] [(5, .arr .rw [] 80 80 (encG x.2)), (192, .var [.v (.int .i64 a1.fX0), .v (.int .i64 a1.fY0), .v (.int .i64 a1.fX1), .v (.int .i64 a1.fY1)])])) (fun w => (sparse 34 [] [(5, .arr .rw [] 80 80 (encG w))])) zb ?_ ?_
 ·rintro ⟨v1, v2⟩ z h K hK hY; replace h := oz (oz h); dsimp only at h; cbv; revert h; refine fk ?_ ?_ <;> intro h <;> cbv
  ·revert h; refine ln (.exit 2) (fun x => (sparse 34 [(0, .c (.ep 5 0 0)), (3, .c (.ptr 192 0)), (4, .c (.v (.int .i64 v1))), (5, .c (.v (.int .i64 x.1)))] [(5, .arr .rw [] 80 80 (encG x.2)), (192, .var [.v (.int .i64 a1.fX0), .v (.int .i64 a1.fY0), .v (.int .i64 a1.fX1), .v (.int .i64 a1.fY1)])])) (fun w => (sparse 34 [(0, .c (.ep 5 0 0)), (3, .c (.ptr 192 0)), (4, .c (.v (.int .i64 v1)))] [(5, .arr .rw [] 80 80 (encG w)), (192, .var [.v (.int .i64 a1.fX0), .v (.int .i64 a1.fY0), .v (.int .i64 a1.fX1), .v (.int .i64 a1.fY1)])])) zb ?_ ?_
   ·rintro ⟨v15, v16⟩ z h K hK hY; replace h := oz (oz h); dsimp only at h; cbv; revert h; refine fk ?_ ?_ <;> intro h <;> cbv
    ·revert h; refine ra fun c29 h => ?_; revert h; refine ra fun c30 h => ?_; revert h; refine rl fun l31 hl31 h => ?_; refine And.intro (by first | exact ⟨gp_lt hA c29, gp_lt1 hA c30⟩ | exact ⟨gp_lt hA c29, gp_lt1 hA c30, trivial⟩ | (refine ⟨gp_lt hA c29, gp_lt1 hA c30, ?_⟩; first | trivial | exact ⟨trivial, trivial⟩)) ?_; refine ⟨_, rfl, _, encG l31, rfl, wkOf ?_, ?_⟩
     ·subst hl31; exact upd_grid
     cbv; exact dm
    exact dx
   intro w33 h s q26; replace h := oz (oz h); cbv; refine ⟨_, q26, ?_⟩; cbv; exact dm
  exact dx
 intro w35 h s q12; replace h := oz (oz h); cbv; refine ⟨_, q12, ?_⟩; cbv; exact df

noncomputable def L_impl_cells_region_mA_x59 (a0 : Nat → Nat → Bool) (v3 : Int) : (Int) → Option ((Int) ⊕ ((Int))) := fun x59 =>
 letO x59 fun v58 =>
 ((
    br (std.lt v58 80)
    (req (std.inR v3 80) <|
    req (std.inR v58 80) <|
    some (a0 (std.nadd 0 (std.toN v3)) (std.nadd 0 (std.toN v58))))
    (some false)
  ) : Option (Bool)).bind fun y71 =>
 letO y71 fun w77 =>
 br w77
 (some (.inl (std.add .i64 v58 1)))
 (some (.inr v58))
noncomputable def L_impl_cells_region_mA_x44 (a0 : Nat → Nat → Bool) (v3 : Int) (w41 : Int) : (Int × (List TRect)) → Option ((Int × (List TRect)) ⊕ (((List TRect)))) := fun x44 =>
 letO x44.1 fun v42 =>
 letO x44.2 fun v43 =>
 br (std.lt v42 80)
 (req (std.inR v3 80) <|
 req (std.inR v42 80) <|
 br (!(a0 (std.nadd 0 (std.toN v3)) (std.nadd 0 (std.toN v42))))
 (some (.inl (std.add .i64 v42 1, v43)))
 ((whileP (σ := Int) (ρ := (Int)) (L_impl_cells_region_mA_x59 a0 v3) v42).bind fun y60 =>
 letO y60 fun y60k0 =>
 letO y60k0 fun w82 =>
 letO ([(TRect.mk (std.sub .i64 v42 40) (std.sub .i64 v3 40) (std.sub .i64 w82 40) (std.sub .i64 w41 40))] : List TRect) fun l83 =>
 req (std.room (std.nadd (len v43) (len l83)) 32) <|
 letO (v43 ++ l83) fun l85 =>
 some (.inl (std.add .i64 w82 1, l85))))
 (some (.inr v43))
noncomputable def L_impl_cells_region_mA_x18 (a0 : Nat → Nat → Bool) (v3 : Int) : (Int) → Option ((Int) ⊕ ((Int))) := fun x18 =>
 letO x18 fun v17 =>
 ((
    br (std.lt v17 80)
    (req (std.inR v17 80) <|
    req (std.inR v3 80) <|
    some (std.beqs (rowG 80 a0 (std.nadd 0 (std.toN v17))) (rowG 80 a0 (std.nadd 0 (std.toN v3)))))
    (some false)
  ) : Option (Bool)).bind fun y30 =>
 letO y30 fun w36 =>
 br w36
 (some (.inl (std.add .i64 v17 1)))
 (some (.inr v17))
noncomputable def L_impl_cells_region_mA_x5 (a0 : Nat → Nat → Bool) : (Int × (List TRect)) → Option ((Int × (List TRect)) ⊕ (((List TRect)))) := fun x5 =>
 letO x5.1 fun v3 =>
 letO x5.2 fun v4 =>
 br (std.lt v3 80)
 ((whileP (σ := Int) (ρ := (Int)) (L_impl_cells_region_mA_x18 a0 v3) (std.add .i64 v3 1)).bind fun y19 =>
 letO y19 fun y19k0 =>
 letO y19k0 fun w41 =>
 (whileP (σ := Int × (List TRect)) (ρ := ((List TRect))) (L_impl_cells_region_mA_x44 a0 v3 w41) (0, v4)).bind fun y45 =>
 letO y45 fun y45k0 =>
 letO y45k0 fun w90 =>
 some (.inl (w41, w90)))
 (some (.inr v4))
/-- impl.cells).region -/
noncomputable def F_impl_cells_region_mA (a0 : Nat → Nat → Bool) : Option ((List TRect) × (Nat → Nat → Bool)) :=
 letO ([] : List TRect) fun l1 =>
 (whileP (σ := Int × (List TRect)) (ρ := ((List TRect))) (L_impl_cells_region_mA_x5 a0) (0, l1)).bind fun y6 =>
 letO y6 fun y6k0 =>
 letO y6k0 fun w92 =>
 some (w92, a0)
set_option maxHeartbeats 4000000 in
theorem run_impl_cells_region_mA (a0 : Nat → Nat → Bool) (r : (List TRect) × (Nat → Nat → Bool)) (h : F_impl_cells_region_mA a0 = some r) : Fun Tryz.prog 24 [.c (.ep 5 0 0)] [(5, .arr .rw [] 80 80 (encG a0))] (.c (.os 64000 0 (len r.1))) [(64000, .arr .rw [] (len r.1) 4 (row gd (encRect) r.1)), (5, .arr .rw [] 80 80 (encG r.2))] true := by
 refine ow [5, 12] Tryz.func24 Tryz.ntmps24 ?_ (hw := ⟨fun i _ j _ k hk => (noref (rfl) hk).elim, trivial⟩) (hv := (fun _ => ⟨trivial, ⟨fun i _ j _ => val_flat (vl_encRect _ _), (fun i _ j _ => trivial), trivial⟩⟩)); unfold F_impl_cells_region_mA at h; unfold L_impl_cells_region_mA_x5 at h; unfold L_impl_cells_region_mA_x18 at h; unfold L_impl_cells_region_mA_x44 at h
 unfold L_impl_cells_region_mA_x59 at h; generalize hLEN : @len = LEN, hGD : @gd = GD, hA : std = A, hP : Tryz.prog = P at *; cbv; revert h; refine rl fun l1 hl1 h => ?_; have e2 : 0 = LEN l1 := by subst hl1 hLEN; rfl
 refine ⟨_, (co e2), _, row GD (encRect) l1, e2, wkOf ?_, ?_⟩
 ·intro i hi j hj; rw [← e2] at hi; subst hl1; subst hGD; omega
 cbv; revert h; refine ln (.exit 0) (fun x => (sparse 70 [(0, .c (.ep 5 0 0)), (3, .c (.os 512 0 (LEN x.2))), (4, .c (.v (.int .i64 x.1)))] [(5, .arr .rw [] 80 80 (encG a0)), (512, .arr .rw [] (LEN x.2) 4 (row GD (encRect) x.2))])) (fun w => (sparse 70 [(3, .c (.os 512 0 (LEN w)))] [(512, .arr .rw [] (LEN w) 4 (row GD (encRect) w)), (5, .arr .rw [] 80 80 (encG a0))])) zb ?_ ?_
 ·rintro ⟨v3, v4⟩ z h K hK hY; replace h := oz (oz h); dsimp only at h; cbv; revert h; refine fk ?_ ?_ <;> intro h <;> cbv
  ·revert h; refine ln (.exit 2) (fun x => (sparse 70 [(0, .c (.ep 5 0 0)), (3, .c (.os 512 0 (LEN v4))), (4, .c (.v (.int .i64 v3))), (5, .c (.v (.int .i64 x)))] [(5, .arr .rw [] 80 80 (encG a0)), (512, .arr .rw [] (LEN v4) 4 (row GD (encRect) v4))])) (fun w => (sparse 70 [(0, .c (.ep 5 0 0)), (3, .c (.os 512 0 (LEN v4))), (4, .c (.v (.int .i64 v3))), (5, .c (.v (.int .i64 w)))] [(5, .arr .rw [] 80 80 (encG a0)), (512, .arr .rw [] (LEN v4) 4 (row GD (encRect) v4))])) zb ?_ ?_
   ·intro v17 z h K hK hY; replace h := oz h; cbv; revert h; refine cu (fun y30 => (sparse 70 [(0, .c (.ep 5 0 0)), (3, .c (.os 512 0 (LEN v4))), (4, .c (.v (.int .i64 v3))), (5, .c (.v (.int .i64 v17))), (27, .c (.v (.bool y30)))] [(5, .arr .rw [] 80 80 (encG a0)), (512, .arr .rw [] (LEN v4) 4 (row GD (encRect) v4))])) ?_ fun w36 => rz fun h => ?_
    ·intro y30 S hS h; cbv; revert h; refine fk ?_ ?_ <;> intro h <;> cbv
     ·revert h; refine ra fun c37 h => ?_; refine And.intro (by first | exact gp_lt hA c37 | exact ⟨gp_lt hA c37, by decide, by decide⟩ | (refine And.intro (gp_lt hA c37) ?_; first | trivial | exact ⟨trivial, trivial⟩)) ?_; revert h; refine ra fun c38 h => ?_
      refine And.intro (by first | exact gp_lt hA c38 | exact ⟨gp_lt hA c38, by decide, by decide⟩ | (refine And.intro (gp_lt hA c38) ?_; first | trivial | exact ⟨trivial, trivial⟩)) ?_; exact dn
     exact dn
    cbv; revert h; refine fk ?_ ?_ <;> intro h <;> cbv
    ·exact dm
    exact dx
   intro w41 h s q27; replace h := oz (oz h); cbv; refine ⟨_, q27, ?_⟩; cbv
   revert h; refine ln (.exit 4) (fun x => (sparse 70 [(0, .c (.ep 5 0 0)), (3, .c (.os 512 0 (LEN x.2))), (4, .c (.v (.int .i64 v3))), (5, .c (.v (.int .i64 w41))), (6, .c (.v (.int .i64 x.1)))] [(5, .arr .rw [] 80 80 (encG a0)), (512, .arr .rw [] (LEN x.2) 4 (row GD (encRect) x.2))])) (fun w => (sparse 70 [(0, .c (.ep 5 0 0)), (3, .c (.os 512 0 (LEN w))), (5, .c (.v (.int .i64 w41)))] [(5, .arr .rw [] 80 80 (encG a0)), (512, .arr .rw [] (LEN w) 4 (row GD (encRect) w))])) zb ?_ ?_
   ·rintro ⟨v42, v43⟩ z h K hK hY; replace h := oz (oz h); dsimp only at h; cbv; revert h; refine fk ?_ ?_ <;> intro h <;> cbv
    ·revert h; refine ra fun c56 h => ?_; revert h; refine ra fun c57 h => ?_; refine And.intro (by first | exact ⟨gp_lt hA c56, gp_lt1 hA c57⟩ | exact ⟨gp_lt hA c56, gp_lt1 hA c57, by decide⟩ | exact ⟨gp_lt hA c56, gp_lt1 hA c57, trivial⟩) ?_; revert h; refine fk ?_ ?_ <;> intro h <;> cbv
     ·refine bx ?_; cbv; exact dm
     revert h; refine ln (.exit 6) (fun x => (sparse 70 [(0, .c (.ep 5 0 0)), (3, .c (.os 512 0 (LEN v43))), (4, .c (.v (.int .i64 v3))), (5, .c (.v (.int .i64 w41))), (6, .c (.v (.int .i64 x))), (7, .c (.v (.int .i64 v42)))] [(5, .arr .rw [] 80 80 (encG a0)), (512, .arr .rw [] (LEN v43) 4 (row GD (encRect) v43))])) (fun w => (sparse 70 [(0, .c (.ep 5 0 0)), (3, .c (.os 512 0 (LEN v43))), (4, .c (.v (.int .i64 v3))), (5, .c (.v (.int .i64 w41))), (6, .c (.v (.int .i64 w))), (7, .c (.v (.int .i64 v42)))] [(5, .arr .rw [] 80 80 (encG a0)), (512, .arr .rw [] (LEN v43) 4 (row GD (encRect) v43))])) zb ?_ ?_
     ·intro v58 z h K hK hY; replace h := oz h; cbv
      revert h; refine cu (fun y71 => (sparse 70 [(0, .c (.ep 5 0 0)), (3, .c (.os 512 0 (LEN v43))), (4, .c (.v (.int .i64 v3))), (5, .c (.v (.int .i64 w41))), (6, .c (.v (.int .i64 v58))), (7, .c (.v (.int .i64 v42))), (53, .c (.v (.bool y71)))] [(5, .arr .rw [] 80 80 (encG a0)), (512, .arr .rw [] (LEN v43) 4 (row GD (encRect) v43))])) ?_ fun w77 => rz fun h => ?_
      ·intro y71 S hS h; cbv; revert h; refine fk ?_ ?_ <;> intro h <;> cbv
       ·revert h; refine ra fun c78 h => ?_; revert h; refine ra fun c79 h => ?_; refine And.intro (by first | exact ⟨gp_lt hA c78, gp_lt1 hA c79⟩ | exact ⟨gp_lt hA c78, gp_lt1 hA c79, by decide⟩ | exact ⟨gp_lt hA c78, gp_lt1 hA c79, trivial⟩) ?_; exact dn
       exact dn
      cbv; revert h; refine fk ?_ ?_ <;> intro h <;> cbv
      ·exact dm
      exact dx
     intro w82 h s q68; replace h := oz (oz h); cbv; refine ⟨_, q68, ?_⟩; cbv; revert h; refine rl fun l83 hl83 h => ?_; have e84 : 1 = LEN l83 := by subst hl83 hLEN; rfl
     refine ⟨_, (co e84), _, row GD (encRect) l83, e84, wkOf ?_, ?_⟩
     ·intro i hi j hj; rw [← e84] at hi; subst hl83; subst hGD; obtain rfl : i = 0 := (by omega) <;> obtain rfl | rfl | rfl | rfl : j = 0 ∨ j = 1 ∨ j = 2 ∨ j = 3 := (by omega)
      all_goals rfl
     cbv; revert h; refine rq fun c87 => rl fun l85 hl85 h => ?_; have e86 := nl hA hLEN hl85; refine ⟨c87, _, (co e86), _, row GD (encRect) l85, e86, wkOf ?_, ?_⟩
     ·subst hGD hLEN hA; exact app_os (off := 0) (pl_encRect) hl85 (Nat.le_refl _)
     cbv; exact dm
    exact dx
   intro w90 h s q53; replace h := oz (oz h); cbv; refine ⟨_, q53, ?_⟩; cbv; exact dm
  exact dx
 intro w92 h s q14; replace h := oz (oz h); cbv; refine ⟨_, q14, ?_⟩; cbv; injection h with h; subst h; exact ⟨_, le_ren 512 64000 (by decide) rfl, lR _, zo, rfl⟩

noncomputable def L_impl_WindowLayers_x25 (a2 : TRect) (y20 : (List TWindowHit)) : (Int × (Nat → Nat → Bool) × (List TWindowHit)) → Option ((Int × (Nat → Nat → Bool) × (List TWindowHit)) ⊕ (((Nat → Nat → Bool)))) := fun x25 =>
 letO x25.1 fun v22 =>
 letO x25.2.1 fun v23 =>
 letO x25.2.2 fun v24 =>
 br (std.lt v22 (std.ofN (len y20)))
 (((
    req (std.inR v22 (len y20)) <|
    some ((gd v24 (std.nadd 0 (std.toN v22))).fCell, (gd v24 (std.nadd 0 (std.toN v22))).fShape, (gd v24 (std.nadd 0 (std.toN v22))).fLayer, (gd v24 (std.nadd 0 (std.toN v22))).fBox.fX0, (gd v24 (std.nadd 0 (std.toN v22))).fBox.fY0, (gd v24 (std.nadd 0 (std.toN v22))).fBox.fX1, (gd v24 (std.nadd 0 (std.toN v22))).fBox.fY1)
  ) : Option (Int × Int × Int × Int × Int × Int × Int)).bind fun y37 =>
 letO y37.1 fun w43 =>
 letO y37.2.1 fun w44 =>
 letO y37.2.2.1 fun w45 =>
 letO y37.2.2.2.1 fun w46 =>
 letO y37.2.2.2.2.1 fun w47 =>
 letO y37.2.2.2.2.2.1 fun w48 =>
 letO y37.2.2.2.2.2.2 fun w49 =>
 req (std.inR v22 (len y20)) <|
 ((
    (F_impl_common (TRect.mk w46 w47 w48 w49) a2).bind fun y60 =>
    (F_impl_cells_put_mAb v23 y60).bind fun y62 =>
    some (y62, v24)
  ) : Option ((Nat → Nat → Bool) × (List TWindowHit))).bind fun y52 =>
 letO y52.1 fun w58 =>
 letO y52.2 fun w59 =>
 some (.inl (std.add .i64 v22 1, w58, w59)))
 (some (.inr v23))
noncomputable def L_impl_WindowLayers_x8 (a0 : TLibrary) (a2 : TRect) (y3 : (List TOccurrence)) : (Int × (List (List TRect))) → Option ((Int × (List (List TRect))) ⊕ ((Int) ⊕ ((List (List TRect))))) := fun x8 =>
 letO x8.1 fun v6 =>
 letO x8.2 fun v7 =>
 br (std.lt v6 8)
 ((F_impl_hits a0 y3 v6 a2).bind fun y20 =>
 br (std.lt 100 (std.ofN (len y20)))
 (some (.inr (.inl 3)))
 ((whileP (σ := Int × (Nat → Nat → Bool) × (List TWindowHit)) (ρ := ((Nat → Nat → Bool))) (L_impl_WindowLayers_x25 a2 y20) (0, zeroG, y20)).bind fun y26 =>
 letO y26 fun y26k0 =>
 letO y26k0 fun w65 =>
 ((
    (F_impl_cells_region_mA w65).bind fun y73 =>
    letO ([y73.1] : List (List TRect)) fun l75 =>
    req (std.room (std.nadd (len v7) (len l75)) 24) <|
    letO (v7 ++ l75) fun l77 =>
    some l77
  ) : Option ((List (List TRect)))).bind fun y66 =>
 letO y66 fun w72 =>
 some (.inl (std.add .i64 v6 1, w72))))
 (some (.inr (.inr v7)))
/-- impl.WindowLayers -/
noncomputable def F_impl_WindowLayers (a0 : TLibrary) (a1 : Int) (a2 : TRect) : Option ((List (List TRect)) × Int) :=
 (F_impl_windowCode a0 a1 0 a2).bind fun y1 =>
 br (std.not (std.eq y1 0))
 (some (([] : List (List TRect)), y1))
 ((F_impl_visited a0 a1 a2).bind fun y3 =>
 (whileP (σ := Int × (List (List TRect))) (ρ := (Int) ⊕ ((List (List TRect)))) (L_impl_WindowLayers_x8 a0 a2 y3) (0, ([] : List (List TRect)))).bind fun y9 =>
 (match y9 with
  | .inl y9k0 => (
    letO y9k0 fun w82 =>
    some (([] : List (List TRect)), w82))
  | .inr y9m0 =>
    letO y9m0 fun y9k1 =>
    letO y9k1 fun w83 =>
    some (w83, (0 : Int))))
set_option maxHeartbeats 4000000 in
theorem run_impl_WindowLayers (a0 : TLibrary) (a1 : Int) (a2 : TRect) (r : (List (List TRect)) × Int) (h : F_impl_WindowLayers a0 a1 a2 = some r) : Fun Tryz.prog 8 [.agg [.bs (len a0.fCells) 4 (row gd (encCell len gd) a0.fCells)], .c (.v (.int .i64 a1)), .agg [.v (.int .i64 a2.fX0), .v (.int .i64 a2.fY0), .v (.int .i64 a2.fX1), .v (.int .i64 a2.fY1)]] [] (.tup [.c (.os 64000 0 (len r.1)), .c (.v (.int .i64 r.2))]) [(64000, .arr .rw [] (len r.1) 1 (row gd (oncL len gd 4 (encRect)) r.1))] true := by
 refine ow [13, 14, 16] Tryz.func8 Tryz.ntmps8 ?_ (hv := (fun _ => ⟨(by simp [AV.flat, AV.flat1, AC.flat]), ⟨fun i _ j _ => fl_oncL (vl_encRect) _ _, trivial⟩⟩)); unfold F_impl_WindowLayers at h; unfold L_impl_WindowLayers_x8 at h; unfold L_impl_WindowLayers_x25 at h; have hf_impl_cells_put_mAb := @run_impl_cells_put_mAb; have hf_impl_cells_region_mA := @run_impl_cells_region_mA
 have hf_impl_common := @run_impl_common; have hf_impl_hits := @run_impl_hits; have hf_impl_visited := @run_impl_visited; have hf_impl_windowCode := @run_impl_windowCode; generalize hLEN : @len = LEN, hGD : @gd = GD, hA : std = A, hP : Tryz.prog = P at *; cbv; revert h; refine rk0 (hf_impl_windowCode _ _ _ _) fun y1 h => ?_; cbv; revert h; refine fk ?_ ?_ <;> intro h <;> cbv
 ·injection h with h; subst h; refine ⟨(sparse 61 [(6, .c (.os 64000 0 (LEN ([] : List (List TRect))))), (7, .c (.v (.int .i64 y1)))] [(64000, .arr .rw [] (LEN ([] : List (List TRect))) 1 (row GD (oncL LEN GD 4 (encRect)) ([] : List (List TRect))))]), ?_, ?_⟩
  ·refine St.le_trans (le_nilT 6 64000 1 (row GD (oncL LEN GD 4 (encRect)) ([] : List (List TRect))) (by decide) rfl) ?_; subst hLEN; exact zb
  ·subst hLEN; exact ⟨lR _, zo, rfl⟩
 revert h; refine rk [] [(64000, 1664)] (hf_impl_visited _ _ _) (fun _ => zf) fun y3 h => ⟨_, rfl, _, _, rfl, fun _ _ _ _ => .refl _, ?_⟩
 cbv; have e5 : 0 = LEN ([] : List (List TRect)) := by subst hLEN; rfl
 refine ⟨_, (co e5), _, row GD (oncL LEN GD 4 (encRect)) ([] : List (List TRect)), e5, wkOf ?_, ?_⟩
 ·intro i hi j hj; rw [← e5] at hi; subst hGD; omega
 cbv
 revert h; refine lc (fun x => (sparse 61 [(3, .c (.ptr 192 0)), (5, .c (.ptr 320 0)), (9, .c (.os 1664 0 (LEN y3))), (10, .c (.os 1728 0 (LEN x.2))), (28, .c (.v (.int .i64 x.1)))] [(192, .var [.bs (LEN a0.fCells) 4 (row GD (encCell LEN GD) a0.fCells)]), (320, .var [.v (.int .i64 a2.fX0), .v (.int .i64 a2.fY0), .v (.int .i64 a2.fX1), .v (.int .i64 a2.fY1)]), (1664, .arr .rw [] (LEN y3) 5 (row GD (encOccurrence LEN GD) y3)), (1728, .arr .rw [] (LEN x.2) 1 (row GD (oncL LEN GD 4 (encRect)) x.2))])) (fun y e s => (match y with | .inl w => e = .ret ∧ s.le (sparse 61 [(6, .c (.v (.slice none 0 0))), (7, .c (.v (.int .i64 w)))] []) | .inr w0 => (fun (w : (List (List TRect))) => e = .exit 0 ∧ s.le (sparse 61 [(10, .c (.os 1728 0 (LEN w)))] [(1728, .arr .rw [] (LEN w) 1 (row GD (oncL LEN GD 4 (encRect)) w))])) w0)) zb ?_ ?_
 ·rintro ⟨v6, v7⟩ z h K hK hY; replace h := oz (oz h); dsimp only at h; cbv; revert h; refine fk ?_ ?_ <;> intro h <;> cbv
  ·revert h; refine rk [] [(64000, 2240)] (hf_impl_hits _ _ _ _) (fun _ => zg (les_cons (lR _) (les_cons (give_os (pl_encOccurrence) rfl rfl rfl) (les_cons (lR _) (les_cons (lR _) (les_nil)))))) fun y20 h => ⟨_, rfl, _, _, rfl, fun _ _ _ _ => .refl _, ?_⟩
   cbv; refine And.intro (by subst hA; exact zf62) ?_; refine And.intro (by subst hA; exact zl_std 6400) ?_; refine ⟨_, rfl, _, encG zeroG, rfl, wkOf (zl_get hA 80 80 6400 rfl), ?_⟩; cbv; revert h; refine fk ?_ ?_ <;> intro h <;> cbv
   ·exact dy
   revert h; refine ln (.exit 2) (fun x => (sparse 61 [(3, .c (.ptr 192 0)), (5, .c (.ptr 320 0)), (9, .c (.os 1664 0 (LEN y3))), (10, .c (.os 1728 0 (LEN v7))), (13, .c (.ep 2368 0 0)), (28, .c (.v (.int .i64 v6))), (41, .c (.os 2240 0 (LEN y20))), (42, .c (.v (.int .i64 (A.ofN (LEN y20))))), (43, .c (.v (.int .i64 x.1)))] [(192, .var [.bs (LEN a0.fCells) 4 (row GD (encCell LEN GD) a0.fCells)]), (320, .var [.v (.int .i64 a2.fX0), .v (.int .i64 a2.fY0), .v (.int .i64 a2.fX1), .v (.int .i64 a2.fY1)]), (1664, .arr .rw [] (LEN y3) 5 (row GD (encOccurrence LEN GD) y3)), (1728, .arr .rw [] (LEN v7) 1 (row GD (oncL LEN GD 4 (encRect)) v7)), (2368, .arr .rw [] 80 80 (encG x.2.1)), (2240, .arr .rw [] (LEN y20) 8 (row GD (oncWindowHit LEN GD) x.2.2))])) (fun w => (sparse 61 [(3, .c (.ptr 192 0)), (5, .c (.ptr 320 0)), (9, .c (.os 1664 0 (LEN y3))), (10, .c (.os 1728 0 (LEN v7))), (13, .c (.ep 2368 0 0)), (28, .c (.v (.int .i64 v6)))] [(192, .var [.bs (LEN a0.fCells) 4 (row GD (encCell LEN GD) a0.fCells)]), (320, .var [.v (.int .i64 a2.fX0), .v (.int .i64 a2.fY0), .v (.int .i64 a2.fX1), .v (.int .i64 a2.fY1)]), (1664, .arr .rw [] (LEN y3) 5 (row GD (encOccurrence LEN GD) y3)), (1728, .arr .rw [] (LEN v7) 1 (row GD (oncL LEN GD 4 (encRect)) v7)), (2368, .arr .rw [] 80 80 (encG w))])) zb ?_ ?_
   ·rintro ⟨v22, v23, v24⟩ z h K hK hY; replace h := oz (oz (oz h)); dsimp only at h; cbv; revert h; refine fk ?_ ?_ <;> intro h <;> cbv
    ·revert h; refine cu (fun y37 => (sparse 61 [(3, .c (.ptr 192 0)), (5, .c (.ptr 320 0)), (9, .c (.os 1664 0 (LEN y3))), (10, .c (.os 1728 0 (LEN v7))), (13, .c (.ep 2368 0 0)), (15, .c (.ptr 960 0)), (28, .c (.v (.int .i64 v6))), (41, .c (.os 2240 0 (LEN y20))), (42, .c (.v (.int .i64 (A.ofN (LEN y20))))), (43, .c (.v (.int .i64 v22)))] [(192, .var [.bs (LEN a0.fCells) 4 (row GD (encCell LEN GD) a0.fCells)]), (320, .var [.v (.int .i64 a2.fX0), .v (.int .i64 a2.fY0), .v (.int .i64 a2.fX1), .v (.int .i64 a2.fY1)]), (1664, .arr .rw [] (LEN y3) 5 (row GD (encOccurrence LEN GD) y3)), (1728, .arr .rw [] (LEN v7) 1 (row GD (oncL LEN GD 4 (encRect)) v7)), (2368, .arr .rw [] 80 80 (encG v23)), (960, .var [.v (.int .i64 y37.1), .v (.int .i64 y37.2.1), .v (.int .i64 y37.2.2.1), .v (.int .i64 y37.2.2.2.1), .v (.int .i64 y37.2.2.2.2.1), .v (.int .i64 y37.2.2.2.2.2.1), .v (.int .i64 y37.2.2.2.2.2.2), .os 2960 0 (LEN (GD v24 (A.nadd 0 (A.toN v22))).fPath)]), (2240, .arr .rw [2960] (LEN y20) 8 (patchC (row GD (oncWindowHit LEN GD) v24) (A.nadd 0 (A.toN v22)) [.v (.int .i64 (GD v24 (A.nadd 0 (A.toN v22))).fCell), .v (.int .i64 (GD v24 (A.nadd 0 (A.toN v22))).fShape), .v (.int .i64 (GD v24 (A.nadd 0 (A.toN v22))).fLayer), .v (.int .i64 (GD v24 (A.nadd 0 (A.toN v22))).fBox.fX0), .v (.int .i64 (GD v24 (A.nadd 0 (A.toN v22))).fBox.fY0), .v (.int .i64 (GD v24 (A.nadd 0 (A.toN v22))).fBox.fX1), .v (.int .i64 (GD v24 (A.nadd 0 (A.toN v22))).fBox.fY1), .os 2960 0 (LEN (GD v24 (A.nadd 0 (A.toN v22))).fPath)])), (2960, .arr .rw [] (LEN (GD v24 (A.nadd 0 (A.toN v22))).fPath) 1 (row GD (encI .i64) (GD v24 (A.nadd 0 (A.toN v22))).fPath))])) ?_ ?_
     ·intro y37 S hS h; cbv; revert h; refine ra fun c50 h => ?_; refine ai c50 ?_
      refine ⟨_, rfl, _, (patchC (row GD (oncWindowHit LEN GD) v24) (A.nadd 0 (A.toN v22)) [.v (.int .i64 (GD v24 (A.nadd 0 (A.toN v22))).fCell), .v (.int .i64 (GD v24 (A.nadd 0 (A.toN v22))).fShape), .v (.int .i64 (GD v24 (A.nadd 0 (A.toN v22))).fLayer), .v (.int .i64 (GD v24 (A.nadd 0 (A.toN v22))).fBox.fX0), .v (.int .i64 (GD v24 (A.nadd 0 (A.toN v22))).fBox.fY0), .v (.int .i64 (GD v24 (A.nadd 0 (A.toN v22))).fBox.fX1), .v (.int .i64 (GD v24 (A.nadd 0 (A.toN v22))).fBox.fY1), .os 2960 0 (LEN (GD v24 (A.nadd 0 (A.toN v22))).fPath)]), rfl, wkOf (patch_of zr), ?_⟩
      refine ⟨_, row GD (encI .i64) (GD v24 (A.nadd 0 (A.toN v22))).fPath, rfl, wkOf (fun i _ j _ => plain_cp (rfl)), ?_⟩; cbv; exact dn
     rintro ⟨w43, w44, w45, w46, w47, w48, w49⟩ h; replace h := oz (oz (oz (oz (oz (oz (oz h)))))); dsimp only at h; revert h; refine rq fun c51 h => ?_; cbv
     revert h; refine cu (fun y52 => (sparse 61 [(3, .c (.ptr 192 0)), (5, .c (.ptr 320 0)), (9, .c (.os 1664 0 (LEN y3))), (10, .c (.os 1728 0 (LEN v7))), (13, .c (.ep 2368 0 0)), (28, .c (.v (.int .i64 v6))), (41, .c (.os 2240 0 (LEN y20))), (42, .c (.v (.int .i64 (A.ofN (LEN y20))))), (43, .c (.v (.int .i64 v22)))] [(192, .var [.bs (LEN a0.fCells) 4 (row GD (encCell LEN GD) a0.fCells)]), (320, .var [.v (.int .i64 a2.fX0), .v (.int .i64 a2.fY0), .v (.int .i64 a2.fX1), .v (.int .i64 a2.fY1)]), (1664, .arr .rw [] (LEN y3) 5 (row GD (encOccurrence LEN GD) y3)), (1728, .arr .rw [] (LEN v7) 1 (row GD (oncL LEN GD 4 (encRect)) v7)), (2368, .arr .rw [] 80 80 (encG y52.1)), (2240, .arr .rw [] (LEN y20) 8 (row GD (oncWindowHit LEN GD) y52.2))])) ?_ ?_
     ·intro y52 S hS h; cbv; revert h; refine rk0 (hf_impl_common _ _) fun y60 h => ?_; cbv
      revert h; refine rk [(5, 2368)] [(5, 2368)] (hf_impl_cells_put_mAb _ _) (fun _ => ⟨les_cons (lR _) (les_cons (lR _) (les_nil)), ⟨oS, trivial⟩, rfl, rfl, rfl, rfl, ⟨fun _ => ⟨rfl, rfl, fun c h => h⟩, trivial⟩, rfl⟩) fun y62 h => ⟨_, rfl, _, _, rfl, fun _ _ _ _ => .refl _, ?_⟩
      cbv; injection h with h; subst h; subst hS; show St.le _ _; refine St.le_trans (le_foldP 2240 7 2960 rfl rfl rfl (by decide) (by subst hA; exact idx_lt c51) (by decide) rfl (fun _ _ => rf_oncWindowHit _ _)) ?_; exact le_sparse rfl zl ⟨rfl, rfl, oS, oS, oS, oP (fun _ _ => rf_oncWindowHit _ _) (by subst hGD hLEN hA; exact patch_same zr), trivial⟩ rfl
     rintro ⟨w58, w59⟩ h; replace h := oz (oz h); dsimp only at h; cbv; exact dm
    exact dx
   intro w65 h s q34; replace h := oz (oz h); cbv; refine ⟨_, q34, ?_⟩; cbv
   revert h; refine cu (fun y66 => (sparse 61 [(3, .c (.ptr 192 0)), (5, .c (.ptr 320 0)), (9, .c (.os 1664 0 (LEN y3))), (10, .c (.os 1728 0 (LEN y66))), (28, .c (.v (.int .i64 v6)))] [(192, .var [.bs (LEN a0.fCells) 4 (row GD (encCell LEN GD) a0.fCells)]), (320, .var [.v (.int .i64 a2.fX0), .v (.int .i64 a2.fY0), .v (.int .i64 a2.fX1), .v (.int .i64 a2.fY1)]), (1664, .arr .rw [] (LEN y3) 5 (row GD (encOccurrence LEN GD) y3)), (1728, .arr .rw [] (LEN y66) 1 (row GD (oncL LEN GD 4 (encRect)) y66))])) ?_ fun w72 => rz fun h => ?_
   ·intro y66 S hS h; cbv
    revert h; refine rk [(5, 2368)] [(64000, 3584), (5, 2368)] (hf_impl_cells_region_mA _) (fun _ => ⟨les_cons (lR _) (les_nil), ⟨oS, trivial⟩, rfl, rfl, rfl, rfl, ⟨fun h => absurd (show (64000 : Nat) % 2 = 1 from h) (by decide), fun _ => ⟨rfl, rfl, fun c h => h⟩, trivial⟩, rfl⟩) fun y73 h => ⟨_, rfl, _, _, rfl, fun _ _ _ _ => .refl _, _, _, rfl, fun _ _ _ _ => .refl _, ?_⟩
    cbv; revert h; refine rl fun l75 hl75 h => ?_; have e76 : 1 = LEN l75 := by subst hl75 hLEN; rfl
    refine ⟨_, (co e76), _, (patchC (fun _ _ => AC.junk) 0 [.os 3584 0 (LEN y73.1)]), e76, wkOf ?_, ?_⟩
    ·refine patch_one (by subst hl75 hLEN; rfl) ?_; exact zr
    cbv; revert h; refine rq fun c79 => rl fun l77 hl77 h => ?_; have e78 := nl hA hLEN hl77; refine ⟨c79, _, (co e78), _, (patchC (row GD (oncL LEN GD 4 (encRect)) v7) (LEN v7) [.os 3584 0 (LEN y73.1)]), e78, wkOf ?_, ?_⟩
    ·subst hLEN hA; refine patch_joinG (by first | (rw [hl77]; simp [len]; done) | (rw [hl77]; simp [len]; omega) | (subst_vars; simp [len])) ?_; exact zr
    cbv; rw [hl75] at hl77; injection h with h; subst h; subst hS; show St.le _ _; refine St.le_trans (le_foldP 1728 0 3584 rfl rfl rfl (by decide) (by subst hLEN; exact app_lt hl77) (by decide) rfl (fun _ _ => rfl)) ?_; exact le_sparse rfl zl ⟨rfl, rfl, oS, oP (fun _ _ => rfl) (by subst hGD hLEN hA; exact patch_app hl77 (Nat.le_refl _) zr), trivial⟩ rfl
   cbv; exact dm
  exact dy
 intro y9 h e18 s19 q17 hne; rcases y9 with y9k0 | y9m0
 ·replace h := h; obtain ⟨rfl, q17⟩ := q17; revert h; refine rz fun h => ?_; cbv; injection h with h; subst h; refine ⟨(sparse 61 [(6, .c (.os 64000 0 (LEN ([] : List (List TRect))))), (7, .c (.v (.int .i64 y9k0)))] [(64000, .arr .rw [] (LEN ([] : List (List TRect))) 1 (row GD (oncL LEN GD 4 (encRect)) ([] : List (List TRect))))]), ?_, ?_⟩
  ·refine St.le_trans q17 ?_; refine St.le_trans (le_nilT 6 64000 1 (row GD (oncL LEN GD 4 (encRect)) ([] : List (List TRect))) (by decide) rfl) ?_; subst hLEN; exact zb
  ·subst hLEN; exact ⟨lR _, zo, rfl⟩
 ·revert h; refine rz fun h => ?_; obtain ⟨rfl, q17⟩ := q17; revert h; refine rz fun h => ?_; cbv; refine ⟨_, q17, ?_⟩; cbv; injection h with h; subst h; exact ⟨_, le_ren 1728 64000 (by decide) rfl, lR _, zo, rfl⟩

/-- laws.eqRect -/
noncomputable def F_laws_eqRect (a0 : TRect) (a1 : TRect) : Option (Bool) :=
 br (std.not (std.eq a0.fX0 a1.fX0))
 (some false)
 (br (std.not (std.eq a0.fY0 a1.fY0))
 (some false)
 (br (std.not (std.eq a0.fX1 a1.fX1))
 (some false)
 (br (std.not (std.eq a0.fY1 a1.fY1))
 (some false)
 (some true))))
set_option maxHeartbeats 4000000 in
theorem run_laws_eqRect (a0 : TRect) (a1 : TRect) (r : Bool) (h : F_laws_eqRect a0 a1 = some r) : Fun Tryz.prog 50 [.agg [.v (.int .i64 a0.fX0), .v (.int .i64 a0.fY0), .v (.int .i64 a0.fX1), .v (.int .i64 a0.fY1)], .agg [.v (.int .i64 a1.fX0), .v (.int .i64 a1.fY0), .v (.int .i64 a1.fX1), .v (.int .i64 a1.fY1)]] [] (.c (.v (.bool r))) [] true := by
 refine ow [] Tryz.func50 Tryz.ntmps50 ?_; unfold F_laws_eqRect at h; generalize hLEN : @len = LEN, hGD : @gd = GD, hA : std = A, hP : Tryz.prog = P at *; cbv; revert h; refine fk ?_ ?_ <;> intro h <;> cbv
 ·exact df
 revert h; refine fk ?_ ?_ <;> intro h <;> cbv
 ·exact df
 revert h; refine fk ?_ ?_ <;> intro h <;> cbv
 ·exact df
 revert h; refine fk ?_ ?_ <;> intro h <;> cbv
 ·exact df
 exact df

noncomputable def L_laws_eqRectS_x2 (a0 : List TRect) (a1 : List TRect) : (Int) → Option ((Int) ⊕ ((Unit) ⊕ (Unit))) := fun x2 =>
 letO x2 fun v1 =>
 br (std.lt v1 (std.ofN (len a0)))
 (req (std.inR v1 (len a0)) <|
 req (std.inR v1 (len a1)) <|
 (F_laws_eqRect (gd a0 (std.toN v1)) (gd a1 (std.toN v1))).bind fun y16 =>
 br (!(y16))
 (some (.inr (.inl ())))
 (some (.inl (std.add .i64 v1 1))))
 (some (.inr (.inr ())))
/-- laws.eqRectS -/
noncomputable def F_laws_eqRectS (a0 : List TRect) (a1 : List TRect) : Option (Bool) :=
 br (std.not (std.eq (std.ofN (len a0)) (std.ofN (len a1))))
 (some false)
 ((whileP (σ := Int) (ρ := (Unit) ⊕ (Unit)) (L_laws_eqRectS_x2 a0 a1) 0).bind fun y3 =>
 (match y3 with
  | .inl y3k0 => (
    some false)
  | .inr y3m0 =>
    some true))
set_option maxHeartbeats 4000000 in
theorem run_laws_eqRectS (a0 : List TRect) (a1 : List TRect) (r : Bool) (h : F_laws_eqRectS a0 a1 = some r) : Fun Tryz.prog 25 [.c (.bs (len a0) 4 (row gd (encRect) a0)), .c (.bs (len a1) 4 (row gd (encRect) a1))] [] (.c (.v (.bool r))) [] true := by
 refine ow [] Tryz.func25 Tryz.ntmps25 ?_; unfold F_laws_eqRectS at h; unfold L_laws_eqRectS_x2 at h; have hf_laws_eqRect := @run_laws_eqRect; generalize hLEN : @len = LEN, hGD : @gd = GD, hA : std = A, hP : Tryz.prog = P at *; cbv; revert h; refine fk ?_ ?_ <;> intro h <;> cbv
 ·exact df
 revert h; refine lc (fun x => (sparse 27 [(0, .c (.bs (LEN a0) 4 (row GD (encRect) a0))), (1, .c (.bs (LEN a1) 4 (row GD (encRect) a1))), (5, .c (.v (.int .i64 x)))] [])) (fun y e s => (match y with | .inl w => e = .ret ∧ s.le (sparse 27 [(4, .c (.v (.bool false)))] []) | .inr w0 => (fun (w : Unit) => e = .exit 0 ∧ s.le (sparse 27 [] [])) w0)) zb ?_ ?_
 ·intro v1 z h K hK hY; replace h := oz h; cbv; revert h; refine fk ?_ ?_ <;> intro h <;> cbv
  ·revert h; refine ra fun c14 h => ?_; revert h; refine ra fun c15 h => ?_; revert h; refine rk0 (hf_laws_eqRect _ _) fun y16 h => ?_; cbv; revert h; refine fk ?_ ?_ <;> intro h <;> cbv
   ·exact dy
   exact dm
  exact dy
 intro y3 h e12 s13 q11 hne; rcases y3 with y3k0 | y3m0
 ·replace h := h; obtain ⟨rfl, q11⟩ := q11; cbv; injection h with h; subst h; exact ⟨_, q11, lR _, zo, rfl⟩
 ·obtain ⟨rfl, q11⟩ := q11; cbv; refine ⟨_, q11, ?_⟩; cbv; exact df

noncomputable def L_laws_eqRectSS_x2 (a0 : List (List TRect)) (a1 : List (List TRect)) : (Int) → Option ((Int) ⊕ ((Unit) ⊕ (Unit))) := fun x2 =>
 letO x2 fun v1 =>
 br (std.lt v1 (std.ofN (len a0)))
 (req (std.inR v1 (len a0)) <|
 req (std.inR v1 (len a1)) <|
 (F_laws_eqRectS (gd a0 (std.toN v1)) (gd a1 (std.toN v1))).bind fun y16 =>
 br (!(y16))
 (some (.inr (.inl ())))
 (some (.inl (std.add .i64 v1 1))))
 (some (.inr (.inr ())))
/-- laws.eqRectSS -/
noncomputable def F_laws_eqRectSS (a0 : List (List TRect)) (a1 : List (List TRect)) : Option (Bool) :=
 br (std.not (std.eq (std.ofN (len a0)) (std.ofN (len a1))))
 (some false)
 ((whileP (σ := Int) (ρ := (Unit) ⊕ (Unit)) (L_laws_eqRectSS_x2 a0 a1) 0).bind fun y3 =>
 (match y3 with
  | .inl y3k0 => (
    some false)
  | .inr y3m0 =>
    some true))
set_option maxHeartbeats 4000000 in
theorem run_laws_eqRectSS (a0 : List (List TRect)) (a1 : List (List TRect)) (r : Bool) (h : F_laws_eqRectSS a0 a1 = some r) : Fun Tryz.prog 9 [.c (.bs (len a0) 1 (row gd (encL len gd 4 (encRect)) a0)), .c (.bs (len a1) 1 (row gd (encL len gd 4 (encRect)) a1))] [] (.c (.v (.bool r))) [] true := by
 refine ow [] Tryz.func9 Tryz.ntmps9 ?_; unfold F_laws_eqRectSS at h; unfold L_laws_eqRectSS_x2 at h; have hf_laws_eqRectS := @run_laws_eqRectS; generalize hLEN : @len = LEN, hGD : @gd = GD, hA : std = A, hP : Tryz.prog = P at *; cbv; revert h; refine fk ?_ ?_ <;> intro h <;> cbv
 ·exact df
 revert h; refine lc (fun x => (sparse 27 [(0, .c (.bs (LEN a0) 1 (row GD (encL LEN GD 4 (encRect)) a0))), (1, .c (.bs (LEN a1) 1 (row GD (encL LEN GD 4 (encRect)) a1))), (5, .c (.v (.int .i64 x)))] [])) (fun y e s => (match y with | .inl w => e = .ret ∧ s.le (sparse 27 [(4, .c (.v (.bool false)))] []) | .inr w0 => (fun (w : Unit) => e = .exit 0 ∧ s.le (sparse 27 [] [])) w0)) zb ?_ ?_
 ·intro v1 z h K hK hY; replace h := oz h; cbv; revert h; refine fk ?_ ?_ <;> intro h <;> cbv
  ·revert h; refine ra fun c14 h => ?_; revert h; refine ra fun c15 h => ?_; revert h; refine rk0 (hf_laws_eqRectS _ _) fun y16 h => ?_; cbv; revert h; refine fk ?_ ?_ <;> intro h <;> cbv
   ·exact dy
   exact dm
  exact dy
 intro y3 h e12 s13 q11 hne; rcases y3 with y3k0 | y3m0
 ·replace h := h; obtain ⟨rfl, q11⟩ := q11; cbv; injection h with h; subst h; exact ⟨_, q11, lR _, zo, rfl⟩
 ·obtain ⟨rfl, q11⟩ := q11; cbv; refine ⟨_, q11, ?_⟩; cbv; exact df
/-- laws.eqShape -/
noncomputable def F_laws_eqShape (a0 : TShape) (a1 : TShape) : Option (Bool) :=
 br (std.not (std.eq a0.fLayer a1.fLayer))
 (some false)
 ((F_laws_eqRect a0.fBox a1.fBox).bind fun y1 =>
 br (!(y1))
 (some false)
 (some true))
set_option maxHeartbeats 4000000 in
theorem run_laws_eqShape (a0 : TShape) (a1 : TShape) (r : Bool) (h : F_laws_eqShape a0 a1 = some r) : Fun Tryz.prog 106 [.agg [.v (.int .i64 a0.fLayer), .v (.int .i64 a0.fBox.fX0), .v (.int .i64 a0.fBox.fY0), .v (.int .i64 a0.fBox.fX1), .v (.int .i64 a0.fBox.fY1)], .agg [.v (.int .i64 a1.fLayer), .v (.int .i64 a1.fBox.fX0), .v (.int .i64 a1.fBox.fY0), .v (.int .i64 a1.fBox.fX1), .v (.int .i64 a1.fBox.fY1)]] [] (.c (.v (.bool r))) [] true := by
 refine ow [] Tryz.func106 Tryz.ntmps106 ?_; unfold F_laws_eqShape at h; have hf_laws_eqRect := @run_laws_eqRect; generalize hLEN : @len = LEN, hGD : @gd = GD, hA : std = A, hP : Tryz.prog = P at *; cbv; revert h; refine fk ?_ ?_ <;> intro h <;> cbv
 ·exact df
 revert h; refine rk0 (hf_laws_eqRect _ _) fun y1 h => ?_; cbv; revert h; refine fk ?_ ?_ <;> intro h <;> cbv
 ·exact df
 exact df

noncomputable def L_laws_eqShapeS_x2 (a0 : List TShape) (a1 : List TShape) : (Int) → Option ((Int) ⊕ ((Unit) ⊕ (Unit))) := fun x2 =>
 letO x2 fun v1 =>
 br (std.lt v1 (std.ofN (len a0)))
 (req (std.inR v1 (len a0)) <|
 req (std.inR v1 (len a1)) <|
 (F_laws_eqShape (gd a0 (std.toN v1)) (gd a1 (std.toN v1))).bind fun y16 =>
 br (!(y16))
 (some (.inr (.inl ())))
 (some (.inl (std.add .i64 v1 1))))
 (some (.inr (.inr ())))
/-- laws.eqShapeS -/
noncomputable def F_laws_eqShapeS (a0 : List TShape) (a1 : List TShape) : Option (Bool) :=
 br (std.not (std.eq (std.ofN (len a0)) (std.ofN (len a1))))
 (some false)
 ((whileP (σ := Int) (ρ := (Unit) ⊕ (Unit)) (L_laws_eqShapeS_x2 a0 a1) 0).bind fun y3 =>
 (match y3 with
  | .inl y3k0 => (
    some false)
  | .inr y3m0 =>
    some true))
set_option maxHeartbeats 4000000 in
theorem run_laws_eqShapeS (a0 : List TShape) (a1 : List TShape) (r : Bool) (h : F_laws_eqShapeS a0 a1 = some r) : Fun Tryz.prog 77 [.c (.bs (len a0) 5 (row gd (encShape) a0)), .c (.bs (len a1) 5 (row gd (encShape) a1))] [] (.c (.v (.bool r))) [] true := by
 refine ow [] Tryz.func77 Tryz.ntmps77 ?_; unfold F_laws_eqShapeS at h; unfold L_laws_eqShapeS_x2 at h; have hf_laws_eqShape := @run_laws_eqShape; generalize hLEN : @len = LEN, hGD : @gd = GD, hA : std = A, hP : Tryz.prog = P at *; cbv; revert h; refine fk ?_ ?_ <;> intro h <;> cbv
 ·exact df
 revert h; refine lc (fun x => (sparse 27 [(0, .c (.bs (LEN a0) 5 (row GD (encShape) a0))), (1, .c (.bs (LEN a1) 5 (row GD (encShape) a1))), (5, .c (.v (.int .i64 x)))] [])) (fun y e s => (match y with | .inl w => e = .ret ∧ s.le (sparse 27 [(4, .c (.v (.bool false)))] []) | .inr w0 => (fun (w : Unit) => e = .exit 0 ∧ s.le (sparse 27 [] [])) w0)) zb ?_ ?_
 ·intro v1 z h K hK hY; replace h := oz h; cbv; revert h; refine fk ?_ ?_ <;> intro h <;> cbv
  ·revert h; refine ra fun c14 h => ?_; revert h; refine ra fun c15 h => ?_; revert h; refine rk0 (hf_laws_eqShape _ _) fun y16 h => ?_; cbv; revert h; refine fk ?_ ?_ <;> intro h <;> cbv
   ·exact dy
   exact dm
  exact dy
 intro y3 h e12 s13 q11 hne; rcases y3 with y3k0 | y3m0
 ·replace h := h; obtain ⟨rfl, q11⟩ := q11; cbv; injection h with h; subst h; exact ⟨_, q11, lR _, zo, rfl⟩
 ·obtain ⟨rfl, q11⟩ := q11; cbv; refine ⟨_, q11, ?_⟩; cbv; exact df

/-- laws.eqPoint -/
noncomputable def F_laws_eqPoint (a0 : TPoint) (a1 : TPoint) : Option (Bool) :=
 br (std.not (std.eq a0.fX a1.fX))
 (some false)
 (br (std.not (std.eq a0.fY a1.fY))
 (some false)
 (some true))
set_option maxHeartbeats 4000000 in
theorem run_laws_eqPoint (a0 : TPoint) (a1 : TPoint) (r : Bool) (h : F_laws_eqPoint a0 a1 = some r) : Fun Tryz.prog 122 [.agg [.v (.int .i64 a0.fX), .v (.int .i64 a0.fY)], .agg [.v (.int .i64 a1.fX), .v (.int .i64 a1.fY)]] [] (.c (.v (.bool r))) [] true := by
 refine ow [] Tryz.func122 Tryz.ntmps122 ?_; unfold F_laws_eqPoint at h; generalize hLEN : @len = LEN, hGD : @gd = GD, hA : std = A, hP : Tryz.prog = P at *; cbv; revert h; refine fk ?_ ?_ <;> intro h <;> cbv
 ·exact df
 revert h; refine fk ?_ ?_ <;> intro h <;> cbv
 ·exact df
 exact df

/-- laws.eqLabel -/
noncomputable def F_laws_eqLabel (a0 : TLabel) (a1 : TLabel) : Option (Bool) :=
 br (std.not (std.eq a0.fLayer a1.fLayer))
 (some false)
 ((F_laws_eqPoint a0.fAt a1.fAt).bind fun y1 =>
 br (!(y1))
 (some false)
 (br (std.not (std.seq a0.fName a1.fName))
 (some false)
 (some true)))
set_option maxHeartbeats 4000000 in
theorem run_laws_eqLabel (a0 : TLabel) (a1 : TLabel) (r : Bool) (h : F_laws_eqLabel a0 a1 = some r) : Fun Tryz.prog 107 [.agg [.v (.int .i64 a0.fLayer), .v (.int .i64 a0.fAt.fX), .v (.int .i64 a0.fAt.fY), .v (.string a0.fName)], .agg [.v (.int .i64 a1.fLayer), .v (.int .i64 a1.fAt.fX), .v (.int .i64 a1.fAt.fY), .v (.string a1.fName)]] [] (.c (.v (.bool r))) [] true := by
 refine ow [] Tryz.func107 Tryz.ntmps107 ?_; unfold F_laws_eqLabel at h; have hf_laws_eqPoint := @run_laws_eqPoint; generalize hLEN : @len = LEN, hGD : @gd = GD, hA : std = A, hP : Tryz.prog = P at *; cbv; revert h; refine fk ?_ ?_ <;> intro h <;> cbv
 ·exact df
 revert h; refine rk0 (hf_laws_eqPoint _ _) fun y1 h => ?_; cbv; revert h; refine fk ?_ ?_ <;> intro h <;> cbv
 ·exact df
 revert h; refine fk ?_ ?_ <;> intro h <;> cbv
 ·exact df
 exact df

noncomputable def L_laws_eqLabelS_x2 (a0 : List TLabel) (a1 : List TLabel) : (Int) → Option ((Int) ⊕ ((Unit) ⊕ (Unit))) := fun x2 =>
 letO x2 fun v1 =>
 br (std.lt v1 (std.ofN (len a0)))
 (req (std.inR v1 (len a0)) <|
 req (std.inR v1 (len a1)) <|
 (F_laws_eqLabel (gd a0 (std.toN v1)) (gd a1 (std.toN v1))).bind fun y16 =>
 br (!(y16))
 (some (.inr (.inl ())))
 (some (.inl (std.add .i64 v1 1))))
 (some (.inr (.inr ())))
/-- laws.eqLabelS -/
noncomputable def F_laws_eqLabelS (a0 : List TLabel) (a1 : List TLabel) : Option (Bool) :=
 br (std.not (std.eq (std.ofN (len a0)) (std.ofN (len a1))))
 (some false)
 ((whileP (σ := Int) (ρ := (Unit) ⊕ (Unit)) (L_laws_eqLabelS_x2 a0 a1) 0).bind fun y3 =>
 (match y3 with
  | .inl y3k0 => (
    some false)
  | .inr y3m0 =>
    some true))
set_option maxHeartbeats 4000000 in
theorem run_laws_eqLabelS (a0 : List TLabel) (a1 : List TLabel) (r : Bool) (h : F_laws_eqLabelS a0 a1 = some r) : Fun Tryz.prog 78 [.c (.bs (len a0) 4 (row gd (encLabel) a0)), .c (.bs (len a1) 4 (row gd (encLabel) a1))] [] (.c (.v (.bool r))) [] true := by
 refine ow [] Tryz.func78 Tryz.ntmps78 ?_; unfold F_laws_eqLabelS at h; unfold L_laws_eqLabelS_x2 at h; have hf_laws_eqLabel := @run_laws_eqLabel; generalize hLEN : @len = LEN, hGD : @gd = GD, hA : std = A, hP : Tryz.prog = P at *; cbv; revert h; refine fk ?_ ?_ <;> intro h <;> cbv
 ·exact df
 revert h; refine lc (fun x => (sparse 27 [(0, .c (.bs (LEN a0) 4 (row GD (encLabel) a0))), (1, .c (.bs (LEN a1) 4 (row GD (encLabel) a1))), (5, .c (.v (.int .i64 x)))] [])) (fun y e s => (match y with | .inl w => e = .ret ∧ s.le (sparse 27 [(4, .c (.v (.bool false)))] []) | .inr w0 => (fun (w : Unit) => e = .exit 0 ∧ s.le (sparse 27 [] [])) w0)) zb ?_ ?_
 ·intro v1 z h K hK hY; replace h := oz h; cbv; revert h; refine fk ?_ ?_ <;> intro h <;> cbv
  ·revert h; refine ra fun c14 h => ?_; revert h; refine ra fun c15 h => ?_; revert h; refine rk0 (hf_laws_eqLabel _ _) fun y16 h => ?_; cbv; revert h; refine fk ?_ ?_ <;> intro h <;> cbv
   ·exact dy
   exact dm
  exact dy
 intro y3 h e12 s13 q11 hne; rcases y3 with y3k0 | y3m0
 ·replace h := h; obtain ⟨rfl, q11⟩ := q11; cbv; injection h with h; subst h; exact ⟨_, q11, lR _, zo, rfl⟩
 ·obtain ⟨rfl, q11⟩ := q11; cbv; refine ⟨_, q11, ?_⟩; cbv; exact df

/-- laws.eqTransform -/
noncomputable def F_laws_eqTransform (a0 : TTransform) (a1 : TTransform) : Option (Bool) :=
 br (std.not (std.eq a0.fOrientation a1.fOrientation))
 (some false)
 (br (std.not (std.eq a0.fX a1.fX))
 (some false)
 (br (std.not (std.eq a0.fY a1.fY))
 (some false)
 (some true)))
set_option maxHeartbeats 4000000 in
theorem run_laws_eqTransform (a0 : TTransform) (a1 : TTransform) (r : Bool) (h : F_laws_eqTransform a0 a1 = some r) : Fun Tryz.prog 123 [.agg [.v (.int .i64 a0.fOrientation), .v (.int .i64 a0.fX), .v (.int .i64 a0.fY)], .agg [.v (.int .i64 a1.fOrientation), .v (.int .i64 a1.fX), .v (.int .i64 a1.fY)]] [] (.c (.v (.bool r))) [] true := by
 refine ow [] Tryz.func123 Tryz.ntmps123 ?_; unfold F_laws_eqTransform at h; generalize hLEN : @len = LEN, hGD : @gd = GD, hA : std = A, hP : Tryz.prog = P at *; cbv; revert h; refine fk ?_ ?_ <;> intro h <;> cbv
 ·exact df
 revert h; refine fk ?_ ?_ <;> intro h <;> cbv
 ·exact df
 revert h; refine fk ?_ ?_ <;> intro h <;> cbv
 ·exact df
 exact df
/-- laws.eqInstance -/
noncomputable def F_laws_eqInstance (a0 : TInstance) (a1 : TInstance) : Option (Bool) :=
 br (std.not (std.eq a0.fCell a1.fCell))
 (some false)
 ((F_laws_eqTransform a0.fPlace a1.fPlace).bind fun y1 =>
 br (!(y1))
 (some false)
 (br (std.not (std.eq a0.fColumns a1.fColumns))
 (some false)
 (br (std.not (std.eq a0.fRows a1.fRows))
 (some false)
 (br (std.not (std.eq a0.fStepX a1.fStepX))
 (some false)
 (br (std.not (std.eq a0.fStepY a1.fStepY))
 (some false)
 (some true))))))
set_option maxHeartbeats 4000000 in
theorem run_laws_eqInstance (a0 : TInstance) (a1 : TInstance) (r : Bool) (h : F_laws_eqInstance a0 a1 = some r) : Fun Tryz.prog 108 [.agg [.v (.int .i64 a0.fCell), .v (.int .i64 a0.fPlace.fOrientation), .v (.int .i64 a0.fPlace.fX), .v (.int .i64 a0.fPlace.fY), .v (.int .i64 a0.fColumns), .v (.int .i64 a0.fRows), .v (.int .i64 a0.fStepX), .v (.int .i64 a0.fStepY)], .agg [.v (.int .i64 a1.fCell), .v (.int .i64 a1.fPlace.fOrientation), .v (.int .i64 a1.fPlace.fX), .v (.int .i64 a1.fPlace.fY), .v (.int .i64 a1.fColumns), .v (.int .i64 a1.fRows), .v (.int .i64 a1.fStepX), .v (.int .i64 a1.fStepY)]] [] (.c (.v (.bool r))) [] true := by
 refine ow [] Tryz.func108 Tryz.ntmps108 ?_; unfold F_laws_eqInstance at h; have hf_laws_eqTransform := @run_laws_eqTransform; generalize hLEN : @len = LEN, hGD : @gd = GD, hA : std = A, hP : Tryz.prog = P at *; cbv; revert h; refine fk ?_ ?_ <;> intro h <;> cbv
 ·exact df
 revert h; refine rk0 (hf_laws_eqTransform _ _) fun y1 h => ?_; cbv; revert h; refine fk ?_ ?_ <;> intro h <;> cbv
 ·exact df
 revert h; refine fk ?_ ?_ <;> intro h <;> cbv
 ·exact df
 revert h; refine fk ?_ ?_ <;> intro h <;> cbv
 ·exact df
 revert h; refine fk ?_ ?_ <;> intro h <;> cbv
 ·exact df
 revert h; refine fk ?_ ?_ <;> intro h <;> cbv
 ·exact df
 exact df

noncomputable def L_laws_eqInstanceS_x2 (a0 : List TInstance) (a1 : List TInstance) : (Int) → Option ((Int) ⊕ ((Unit) ⊕ (Unit))) := fun x2 =>
 letO x2 fun v1 =>
 br (std.lt v1 (std.ofN (len a0)))
 (req (std.inR v1 (len a0)) <|
 req (std.inR v1 (len a1)) <|
 (F_laws_eqInstance (gd a0 (std.toN v1)) (gd a1 (std.toN v1))).bind fun y16 =>
 br (!(y16))
 (some (.inr (.inl ())))
 (some (.inl (std.add .i64 v1 1))))
 (some (.inr (.inr ())))
/-- laws.eqInstanceS -/
noncomputable def F_laws_eqInstanceS (a0 : List TInstance) (a1 : List TInstance) : Option (Bool) :=
 br (std.not (std.eq (std.ofN (len a0)) (std.ofN (len a1))))
 (some false)
 ((whileP (σ := Int) (ρ := (Unit) ⊕ (Unit)) (L_laws_eqInstanceS_x2 a0 a1) 0).bind fun y3 =>
 (match y3 with
  | .inl y3k0 => (
    some false)
  | .inr y3m0 =>
    some true))
set_option maxHeartbeats 4000000 in
theorem run_laws_eqInstanceS (a0 : List TInstance) (a1 : List TInstance) (r : Bool) (h : F_laws_eqInstanceS a0 a1 = some r) : Fun Tryz.prog 79 [.c (.bs (len a0) 8 (row gd (encInstance) a0)), .c (.bs (len a1) 8 (row gd (encInstance) a1))] [] (.c (.v (.bool r))) [] true := by
 refine ow [] Tryz.func79 Tryz.ntmps79 ?_; unfold F_laws_eqInstanceS at h; unfold L_laws_eqInstanceS_x2 at h; have hf_laws_eqInstance := @run_laws_eqInstance; generalize hLEN : @len = LEN, hGD : @gd = GD, hA : std = A, hP : Tryz.prog = P at *; cbv; revert h; refine fk ?_ ?_ <;> intro h <;> cbv
 ·exact df
 revert h; refine lc (fun x => (sparse 27 [(0, .c (.bs (LEN a0) 8 (row GD (encInstance) a0))), (1, .c (.bs (LEN a1) 8 (row GD (encInstance) a1))), (5, .c (.v (.int .i64 x)))] [])) (fun y e s => (match y with | .inl w => e = .ret ∧ s.le (sparse 27 [(4, .c (.v (.bool false)))] []) | .inr w0 => (fun (w : Unit) => e = .exit 0 ∧ s.le (sparse 27 [] [])) w0)) zb ?_ ?_
 ·intro v1 z h K hK hY; replace h := oz h; cbv; revert h; refine fk ?_ ?_ <;> intro h <;> cbv
  ·revert h; refine ra fun c14 h => ?_; revert h; refine ra fun c15 h => ?_; revert h; refine rk0 (hf_laws_eqInstance _ _) fun y16 h => ?_; cbv; revert h; refine fk ?_ ?_ <;> intro h <;> cbv
   ·exact dy
   exact dm
  exact dy
 intro y3 h e12 s13 q11 hne; rcases y3 with y3k0 | y3m0
 ·replace h := h; obtain ⟨rfl, q11⟩ := q11; cbv; injection h with h; subst h; exact ⟨_, q11, lR _, zo, rfl⟩
 ·obtain ⟨rfl, q11⟩ := q11; cbv; refine ⟨_, q11, ?_⟩; cbv; exact df

/-- laws.eqCell -/
noncomputable def F_laws_eqCell (a0 : TCell) (a1 : TCell) : Option (Bool) :=
 br (std.not (std.seq a0.fName a1.fName))
 (some false)
 ((F_laws_eqShapeS a0.fShapes a1.fShapes).bind fun y1 =>
 br (!(y1))
 (some false)
 ((F_laws_eqLabelS a0.fLabels a1.fLabels).bind fun y3 =>
 br (!(y3))
 (some false)
 ((F_laws_eqInstanceS a0.fInstances a1.fInstances).bind fun y5 =>
 br (!(y5))
 (some false)
 (some true))))
set_option maxHeartbeats 4000000 in
theorem run_laws_eqCell (a0 : TCell) (a1 : TCell) (r : Bool) (h : F_laws_eqCell a0 a1 = some r) : Fun Tryz.prog 51 [.agg [.v (.string a0.fName), .bs (len a0.fShapes) 5 (row gd (encShape) a0.fShapes), .bs (len a0.fLabels) 4 (row gd (encLabel) a0.fLabels), .bs (len a0.fInstances) 8 (row gd (encInstance) a0.fInstances)], .agg [.v (.string a1.fName), .bs (len a1.fShapes) 5 (row gd (encShape) a1.fShapes), .bs (len a1.fLabels) 4 (row gd (encLabel) a1.fLabels), .bs (len a1.fInstances) 8 (row gd (encInstance) a1.fInstances)]] [] (.c (.v (.bool r))) [] true := by
 refine ow [] Tryz.func51 Tryz.ntmps51 ?_; unfold F_laws_eqCell at h; have hf_laws_eqInstanceS := @run_laws_eqInstanceS; have hf_laws_eqLabelS := @run_laws_eqLabelS; have hf_laws_eqShapeS := @run_laws_eqShapeS; generalize hLEN : @len = LEN, hGD : @gd = GD, hA : std = A, hP : Tryz.prog = P at *; cbv; revert h; refine fk ?_ ?_ <;> intro h <;> cbv
 ·exact df
 revert h; refine rk0 (hf_laws_eqShapeS _ _) fun y1 h => ?_; cbv; revert h; refine fk ?_ ?_ <;> intro h <;> cbv
 ·exact df
 revert h; refine rk0 (hf_laws_eqLabelS _ _) fun y3 h => ?_; cbv; revert h; refine fk ?_ ?_ <;> intro h <;> cbv
 ·exact df
 revert h; refine rk0 (hf_laws_eqInstanceS _ _) fun y5 h => ?_; cbv; revert h; refine fk ?_ ?_ <;> intro h <;> cbv
 ·exact df
 exact df

noncomputable def L_laws_eqCellS_x2 (a0 : List TCell) (a1 : List TCell) : (Int) → Option ((Int) ⊕ ((Unit) ⊕ (Unit))) := fun x2 =>
 letO x2 fun v1 =>
 br (std.lt v1 (std.ofN (len a0)))
 (req (std.inR v1 (len a0)) <|
 req (std.inR v1 (len a1)) <|
 (F_laws_eqCell (gd a0 (std.toN v1)) (gd a1 (std.toN v1))).bind fun y16 =>
 br (!(y16))
 (some (.inr (.inl ())))
 (some (.inl (std.add .i64 v1 1))))
 (some (.inr (.inr ())))
/-- laws.eqCellS -/
noncomputable def F_laws_eqCellS (a0 : List TCell) (a1 : List TCell) : Option (Bool) :=
 br (std.not (std.eq (std.ofN (len a0)) (std.ofN (len a1))))
 (some false)
 ((whileP (σ := Int) (ρ := (Unit) ⊕ (Unit)) (L_laws_eqCellS_x2 a0 a1) 0).bind fun y3 =>
 (match y3 with
  | .inl y3k0 => (
    some false)
  | .inr y3m0 =>
    some true))
set_option maxHeartbeats 4000000 in
theorem run_laws_eqCellS (a0 : List TCell) (a1 : List TCell) (r : Bool) (h : F_laws_eqCellS a0 a1 = some r) : Fun Tryz.prog 26 [.c (.bs (len a0) 4 (row gd (encCell len gd) a0)), .c (.bs (len a1) 4 (row gd (encCell len gd) a1))] [] (.c (.v (.bool r))) [] true := by
 refine ow [] Tryz.func26 Tryz.ntmps26 ?_; unfold F_laws_eqCellS at h; unfold L_laws_eqCellS_x2 at h; have hf_laws_eqCell := @run_laws_eqCell; generalize hLEN : @len = LEN, hGD : @gd = GD, hA : std = A, hP : Tryz.prog = P at *; cbv; revert h; refine fk ?_ ?_ <;> intro h <;> cbv
 ·exact df
 revert h; refine lc (fun x => (sparse 27 [(0, .c (.bs (LEN a0) 4 (row GD (encCell LEN GD) a0))), (1, .c (.bs (LEN a1) 4 (row GD (encCell LEN GD) a1))), (5, .c (.v (.int .i64 x)))] [])) (fun y e s => (match y with | .inl w => e = .ret ∧ s.le (sparse 27 [(4, .c (.v (.bool false)))] []) | .inr w0 => (fun (w : Unit) => e = .exit 0 ∧ s.le (sparse 27 [] [])) w0)) zb ?_ ?_
 ·intro v1 z h K hK hY; replace h := oz h; cbv; revert h; refine fk ?_ ?_ <;> intro h <;> cbv
  ·revert h; refine ra fun c14 h => ?_; revert h; refine ra fun c15 h => ?_; revert h; refine rk0 (hf_laws_eqCell _ _) fun y16 h => ?_; cbv; revert h; refine fk ?_ ?_ <;> intro h <;> cbv
   ·exact dy
   exact dm
  exact dy
 intro y3 h e12 s13 q11 hne; rcases y3 with y3k0 | y3m0
 ·replace h := h; obtain ⟨rfl, q11⟩ := q11; cbv; injection h with h; subst h; exact ⟨_, q11, lR _, zo, rfl⟩
 ·obtain ⟨rfl, q11⟩ := q11; cbv; refine ⟨_, q11, ?_⟩; cbv; exact df

/-- laws.eqLibrary -/
noncomputable def F_laws_eqLibrary (a0 : TLibrary) (a1 : TLibrary) : Option (Bool) :=
 (F_laws_eqCellS a0.fCells a1.fCells).bind fun y1 =>
 br (!(y1))
 (some false)
 (some true)
set_option maxHeartbeats 4000000 in
theorem run_laws_eqLibrary (a0 : TLibrary) (a1 : TLibrary) (r : Bool) (h : F_laws_eqLibrary a0 a1 = some r) : Fun Tryz.prog 10 [.agg [.bs (len a0.fCells) 4 (row gd (encCell len gd) a0.fCells)], .agg [.bs (len a1.fCells) 4 (row gd (encCell len gd) a1.fCells)]] [] (.c (.v (.bool r))) [] true := by
 refine ow [] Tryz.func10 Tryz.ntmps10 ?_; unfold F_laws_eqLibrary at h; have hf_laws_eqCellS := @run_laws_eqCellS; generalize hLEN : @len = LEN, hGD : @gd = GD, hA : std = A, hP : Tryz.prog = P at *; cbv; revert h; refine rk0 (hf_laws_eqCellS _ _) fun y1 h => ?_; cbv; revert h; refine fk ?_ ?_ <;> intro h <;> cbv
 ·exact df
 exact df

noncomputable def L_laws_markText_x3  : (Int × ByteArray) → Option ((Int × ByteArray) ⊕ ((ByteArray))) := fun x3 =>
 letO x3.1 fun v1 =>
 letO x3.2 fun v2 =>
 br (std.lt 0 v1)
 (req (std.nz 10) <|
 letO ([std.conv .u8 (std.add .i64 48 (std.rem v1 10))] : List Int) fun l16 =>
 req (std.room (std.nadd (std.slen (std.ofBytes (len l16) (fun i => gd l16 (0 + i)))) (std.slen v2)) 1) <|
 req (std.nz 10) <|
 some (.inl (std.quo .i64 v1 10, std.scat (std.ofBytes (len l16) (fun i => gd l16 (0 + i))) v2)))
 (some (.inr v2))
/-- laws.markText -/
noncomputable def F_laws_markText (a0 : Int) : Option (ByteArray) :=
 br (std.le a0 0)
 (some (ByteArray.mk #[109, 48]))
 ((whileP (σ := Int × ByteArray) (ρ := (ByteArray)) L_laws_markText_x3 (a0, (ByteArray.mk #[]))).bind fun y4 =>
 letO y4 fun y4k0 =>
 letO y4k0 fun w21 =>
 req (std.room (std.nadd (std.slen (ByteArray.mk #[109])) (std.slen w21)) 1) <|
 some (std.scat (ByteArray.mk #[109]) w21))
set_option maxHeartbeats 4000000 in
theorem run_laws_markText (a0 : Int) (r : ByteArray) (h : F_laws_markText a0 = some r) : Fun Tryz.prog 52 [.c (.v (.int .i64 a0))] [] (.c (.v (.string r))) [] true := by
 refine ow [] Tryz.func52 Tryz.ntmps52 ?_; unfold F_laws_markText at h; unfold L_laws_markText_x3 at h; generalize hLEN : @len = LEN, hGD : @gd = GD, hA : std = A, hP : Tryz.prog = P at *; cbv; revert h; refine fk ?_ ?_ <;> intro h <;> cbv
 ·exact df
 revert h; refine ln (.exit 0) (fun x => (sparse 20 [(0, .c (.v (.int .i64 x.1))), (3, .c (.v (.string x.2)))] [])) (fun w => (sparse 20 [(3, .c (.v (.string w)))] [])) zb ?_ ?_
 ·rintro ⟨v1, v2⟩ z h K hK hY; replace h := oz (oz h); dsimp only at h; cbv; revert h; refine fk ?_ ?_ <;> intro h <;> cbv
  ·revert h; refine ra fun c15 h => ?_; revert h; refine rl fun l16 hl16 h => ?_; have e17 : 1 = LEN l16 := by subst hl16 hLEN; rfl
   refine ⟨_, (co e17), _, row GD (encI .u8) l16, e17, wkOf ?_, ?_⟩
   ·intro i hi j hj; rw [← e17] at hi; subst hl16; subst hGD; obtain rfl : i = 0 := (by omega); all_goals obtain rfl : j = 0 := by omega
    all_goals rfl
   cbv; refine ⟨fun _ _ => rfl, ?_⟩; revert h; refine ra fun c18 h => ?_; revert h; refine ra fun c19 h => ?_; exact dm
  exact dx
 intro w21 h s q12; replace h := oz (oz h); cbv; refine ⟨_, q12, ?_⟩; cbv; revert h; refine ra fun c22 h => ?_; exact df
noncomputable def L_laws_markShapeS_mob_x4 (a0 : List TShape) : (Int × Int × (List TShape)) → Option ((Int × Int × (List TShape)) ⊕ ((Int × (List TShape)))) := fun x4 =>
 letO x4.1 fun v1 =>
 letO x4.2.1 fun v2 =>
 letO x4.2.2 fun v3 =>
 br (std.lt v2 (std.ofN (len a0)))
 (req (std.inR v2 (len a0)) <|
 req (len a0 = len v3) <|
 letO (List.set v3 (std.nadd 0 (std.toN v2)) (TShape.mk v1 (gd v3 (std.nadd 0 (std.toN v2))).fBox)) fun l17 =>
 req (std.inR v2 (len a0)) <|
 req (len a0 = len l17) <|
 letO (List.set l17 (std.nadd 0 (std.toN v2)) (TShape.mk (gd l17 (std.nadd 0 (std.toN v2))).fLayer (TRect.mk (std.add .i64 v1 1) (gd l17 (std.nadd 0 (std.toN v2))).fBox.fY0 (gd l17 (std.nadd 0 (std.toN v2))).fBox.fX1 (gd l17 (std.nadd 0 (std.toN v2))).fBox.fY1))) fun l19 =>
 req (std.inR v2 (len a0)) <|
 req (len a0 = len l19) <|
 letO (List.set l19 (std.nadd 0 (std.toN v2)) (TShape.mk (gd l19 (std.nadd 0 (std.toN v2))).fLayer (TRect.mk (gd l19 (std.nadd 0 (std.toN v2))).fBox.fX0 (std.add .i64 (std.add .i64 v1 1) 1) (gd l19 (std.nadd 0 (std.toN v2))).fBox.fX1 (gd l19 (std.nadd 0 (std.toN v2))).fBox.fY1))) fun l21 =>
 req (std.inR v2 (len a0)) <|
 req (len a0 = len l21) <|
 letO (List.set l21 (std.nadd 0 (std.toN v2)) (TShape.mk (gd l21 (std.nadd 0 (std.toN v2))).fLayer (TRect.mk (gd l21 (std.nadd 0 (std.toN v2))).fBox.fX0 (gd l21 (std.nadd 0 (std.toN v2))).fBox.fY0 (std.add .i64 (std.add .i64 (std.add .i64 v1 1) 1) 1) (gd l21 (std.nadd 0 (std.toN v2))).fBox.fY1))) fun l23 =>
 req (std.inR v2 (len a0)) <|
 req (len a0 = len l23) <|
 letO (List.set l23 (std.nadd 0 (std.toN v2)) (TShape.mk (gd l23 (std.nadd 0 (std.toN v2))).fLayer (TRect.mk (gd l23 (std.nadd 0 (std.toN v2))).fBox.fX0 (gd l23 (std.nadd 0 (std.toN v2))).fBox.fY0 (gd l23 (std.nadd 0 (std.toN v2))).fBox.fX1 (std.add .i64 (std.add .i64 (std.add .i64 (std.add .i64 v1 1) 1) 1) 1)))) fun l25 =>
 some (.inl (std.add .i64 (std.add .i64 (std.add .i64 (std.add .i64 (std.add .i64 v1 1) 1) 1) 1) 1, std.add .i64 v2 1, l25)))
 (some (.inr (v1, v3)))
/-- laws.markShapeS -/
noncomputable def F_laws_markShapeS_mob (a0 : List TShape) (a1 : Int) : Option (Int × (List TShape)) :=
 (whileP (σ := Int × Int × (List TShape)) (ρ := (Int × (List TShape))) (L_laws_markShapeS_mob_x4 a0) (a1, 0, a0)).bind fun y5 =>
 letO y5 fun y5k0 =>
 letO y5k0.1 fun w32 =>
 letO y5k0.2 fun w33 =>
 req (len a0 = len w33) <|
 some (w32, w33)
set_option maxHeartbeats 4000000 in
theorem run_laws_markShapeS_mob (a0 : List TShape) (a1 : Int) (r : Int × (List TShape)) (h : F_laws_markShapeS_mob a0 a1 = some r) : Fun Tryz.prog 53 [.c (.os 5 0 (len a0)), .c (.v (.int .i64 a1))] [(5, .arr .rw [] (len a0) 5 (row gd (encShape) a0))] (.c (.v (.int .i64 r.1))) [(5, .arr .rw [] (len r.2) 5 (row gd (encShape) r.2))] true := by
 refine ow [] Tryz.func53 Tryz.ntmps53 ?_ (hw := ⟨fun i _ j _ k hk => (noref (plain_nil (pl_encShape _ _)) hk).elim, trivial⟩) (hv := (fun _ => ⟨trivial, ⟨fun i _ j _ => val_flat (vl_encShape _ _), trivial⟩⟩)); unfold F_laws_markShapeS_mob at h; unfold L_laws_markShapeS_mob_x4 at h; generalize hLEN : @len = LEN, hGD : @gd = GD, hA : std = A, hP : Tryz.prog = P at *; cbv
 revert h; refine ln (.exit 0) (fun x => (sparse 52 [(0, .c (.os 5 0 (LEN a0))), (1, .c (.v (.int .i64 x.1))), (5, .c (.v (.int .i64 x.2.1)))] [(5, .arr .rw [] (LEN a0) 5 (row GD (encShape) x.2.2))])) (fun w => (sparse 52 [(1, .c (.v (.int .i64 w.1)))] [(5, .arr .rw [] (LEN a0) 5 (row GD (encShape) w.2))])) zb ?_ ?_
 ·rintro ⟨v1, v2, v3⟩ z h K hK hY; replace h := oz (oz (oz h)); dsimp only at h; cbv; revert h; refine fk ?_ ?_ <;> intro h <;> cbv
  ·revert h; refine ra fun c16 h => ?_; revert h; refine rq fun c30 => rl fun l17 hl17 h => ?_; refine ai c16 ?_; refine ⟨_, rfl, _, row GD (encShape) l17, rfl, wkOf (us hA hLEN hGD hl17 c16 c30), ?_⟩; cbv; revert h; refine ra fun c18 h => ?_; revert h; refine rq fun c29 => rl fun l19 hl19 h => ?_; refine ai c18 ?_; refine ⟨_, rfl, _, row GD (encShape) l19, rfl, wkOf (us hA hLEN hGD hl19 c18 c29), ?_⟩
   cbv; revert h; refine ra fun c20 h => ?_; revert h; refine rq fun c28 => rl fun l21 hl21 h => ?_; refine ai c20 ?_; refine ⟨_, rfl, _, row GD (encShape) l21, rfl, wkOf (us hA hLEN hGD hl21 c20 c28), ?_⟩; cbv; revert h; refine ra fun c22 h => ?_; revert h; refine rq fun c27 => rl fun l23 hl23 h => ?_; refine ai c22 ?_
   refine ⟨_, rfl, _, row GD (encShape) l23, rfl, wkOf (us hA hLEN hGD hl23 c22 c27), ?_⟩; cbv; revert h; refine ra fun c24 h => ?_; revert h; refine rq fun c26 => rl fun l25 hl25 h => ?_; refine ai c24 ?_; refine ⟨_, rfl, _, row GD (encShape) l25, rfl, wkOf (us hA hLEN hGD hl25 c24 c26), ?_⟩; cbv; exact dm
  exact dx
 rintro ⟨w32, w33⟩ h s q13; replace h := oz (oz (oz h)); dsimp only at h; cbv; refine ⟨_, q13, ?_⟩; cbv; revert h; refine rq fun c34 h => ?_; injection h with h; subst h; refine ⟨(sparse 52 [(4, .c (.v (.int .i64 w32)))] [(5, .arr .rw [] (LEN w33) 5 (row GD (encShape) w33))]), ?_, ?_⟩
 ·rw [c34]; exact zb
 ·exact ⟨lR _, zo, rfl⟩

noncomputable def L_laws_markLabelS_mob_x4 (a0 : List TLabel) : (Int × Int × (List TLabel)) → Option ((Int × Int × (List TLabel)) ⊕ ((Int × (List TLabel)))) := fun x4 =>
 letO x4.1 fun v1 =>
 letO x4.2.1 fun v2 =>
 letO x4.2.2 fun v3 =>
 br (std.lt v2 (std.ofN (len a0)))
 (req (std.inR v2 (len a0)) <|
 req (len a0 = len v3) <|
 letO (List.set v3 (std.nadd 0 (std.toN v2)) (TLabel.mk v1 (gd v3 (std.nadd 0 (std.toN v2))).fAt (gd v3 (std.nadd 0 (std.toN v2))).fName)) fun l17 =>
 req (std.inR v2 (len a0)) <|
 req (len a0 = len l17) <|
 letO (List.set l17 (std.nadd 0 (std.toN v2)) (TLabel.mk (gd l17 (std.nadd 0 (std.toN v2))).fLayer (TPoint.mk (std.add .i64 v1 1) (gd l17 (std.nadd 0 (std.toN v2))).fAt.fY) (gd l17 (std.nadd 0 (std.toN v2))).fName)) fun l19 =>
 req (std.inR v2 (len a0)) <|
 req (len a0 = len l19) <|
 letO (List.set l19 (std.nadd 0 (std.toN v2)) (TLabel.mk (gd l19 (std.nadd 0 (std.toN v2))).fLayer (TPoint.mk (gd l19 (std.nadd 0 (std.toN v2))).fAt.fX (std.add .i64 (std.add .i64 v1 1) 1)) (gd l19 (std.nadd 0 (std.toN v2))).fName)) fun l21 =>
 (F_laws_markText (std.add .i64 (std.add .i64 (std.add .i64 v1 1) 1) 1)).bind fun y22 =>
 req (std.inR v2 (len a0)) <|
 req (len a0 = len l21) <|
 letO (List.set l21 (std.nadd 0 (std.toN v2)) (TLabel.mk (gd l21 (std.nadd 0 (std.toN v2))).fLayer (gd l21 (std.nadd 0 (std.toN v2))).fAt y22)) fun l25 =>
 some (.inl (std.add .i64 (std.add .i64 (std.add .i64 (std.add .i64 v1 1) 1) 1) 1, std.add .i64 v2 1, l25)))
 (some (.inr (v1, v3)))
/-- laws.markLabelS -/
noncomputable def F_laws_markLabelS_mob (a0 : List TLabel) (a1 : Int) : Option (Int × (List TLabel)) :=
 (whileP (σ := Int × Int × (List TLabel)) (ρ := (Int × (List TLabel))) (L_laws_markLabelS_mob_x4 a0) (a1, 0, a0)).bind fun y5 =>
 letO y5 fun y5k0 =>
 letO y5k0.1 fun w31 =>
 letO y5k0.2 fun w32 =>
 req (len a0 = len w32) <|
 some (w31, w32)
set_option maxHeartbeats 4000000 in
theorem run_laws_markLabelS_mob (a0 : List TLabel) (a1 : Int) (r : Int × (List TLabel)) (h : F_laws_markLabelS_mob a0 a1 = some r) : Fun Tryz.prog 54 [.c (.os 5 0 (len a0)), .c (.v (.int .i64 a1))] [(5, .arr .rw [] (len a0) 4 (row gd (encLabel) a0))] (.c (.v (.int .i64 r.1))) [(5, .arr .rw [] (len r.2) 4 (row gd (encLabel) r.2))] true := by
 refine ow [] Tryz.func54 Tryz.ntmps54 ?_ (hw := ⟨fun i _ j _ k hk => (noref (plain_nil (pl_encLabel _ _)) hk).elim, trivial⟩) (hv := (fun _ => ⟨trivial, ⟨fun i _ j _ => val_flat (vl_encLabel _ _), trivial⟩⟩)); unfold F_laws_markLabelS_mob at h; unfold L_laws_markLabelS_mob_x4 at h; have hf_laws_markText := @run_laws_markText
 generalize hLEN : @len = LEN, hGD : @gd = GD, hA : std = A, hP : Tryz.prog = P at *; cbv
 revert h; refine ln (.exit 0) (fun x => (sparse 44 [(0, .c (.os 5 0 (LEN a0))), (1, .c (.v (.int .i64 x.1))), (5, .c (.v (.int .i64 x.2.1)))] [(5, .arr .rw [] (LEN a0) 4 (row GD (encLabel) x.2.2))])) (fun w => (sparse 44 [(1, .c (.v (.int .i64 w.1)))] [(5, .arr .rw [] (LEN a0) 4 (row GD (encLabel) w.2))])) zb ?_ ?_
 ·rintro ⟨v1, v2, v3⟩ z h K hK hY; replace h := oz (oz (oz h)); dsimp only at h; cbv; revert h; refine fk ?_ ?_ <;> intro h <;> cbv
  ·revert h; refine ra fun c16 h => ?_; revert h; refine rq fun c29 => rl fun l17 hl17 h => ?_; refine ai c16 ?_; refine ⟨_, rfl, _, row GD (encLabel) l17, rfl, wkOf (us hA hLEN hGD hl17 c16 c29), ?_⟩; cbv; revert h; refine ra fun c18 h => ?_; revert h; refine rq fun c28 => rl fun l19 hl19 h => ?_; refine ai c18 ?_; refine ⟨_, rfl, _, row GD (encLabel) l19, rfl, wkOf (us hA hLEN hGD hl19 c18 c28), ?_⟩
   cbv; revert h; refine ra fun c20 h => ?_; revert h; refine rq fun c27 => rl fun l21 hl21 h => ?_; refine ai c20 ?_; refine ⟨_, rfl, _, row GD (encLabel) l21, rfl, wkOf (us hA hLEN hGD hl21 c20 c27), ?_⟩; cbv; revert h; refine rk0 (hf_laws_markText _) fun y22 h => ?_; cbv; revert h; refine ra fun c24 h => ?_; revert h; refine rq fun c26 => rl fun l25 hl25 h => ?_; refine ai c24 ?_
   refine ⟨_, rfl, _, row GD (encLabel) l25, rfl, wkOf (us hA hLEN hGD hl25 c24 c26), ?_⟩; cbv; exact dm
  exact dx
 rintro ⟨w31, w32⟩ h s q13; replace h := oz (oz (oz h)); dsimp only at h; cbv; refine ⟨_, q13, ?_⟩; cbv; revert h; refine rq fun c33 h => ?_; injection h with h; subst h; refine ⟨(sparse 44 [(4, .c (.v (.int .i64 w31)))] [(5, .arr .rw [] (LEN w32) 4 (row GD (encLabel) w32))]), ?_, ?_⟩
 ·rw [c33]; exact zb
 ·exact ⟨lR _, zo, rfl⟩

noncomputable def L_laws_markInstanceS_mob_x4 (a0 : List TInstance) : (Int × Int × (List TInstance)) → Option ((Int × Int × (List TInstance)) ⊕ ((Int × (List TInstance)))) := fun x4 =>
 letO x4.1 fun v1 =>
 letO x4.2.1 fun v2 =>
 letO x4.2.2 fun v3 =>
 br (std.lt v2 (std.ofN (len a0)))
 (req (std.inR v2 (len a0)) <|
 req (len a0 = len v3) <|
 letO (List.set v3 (std.nadd 0 (std.toN v2)) (TInstance.mk v1 (gd v3 (std.nadd 0 (std.toN v2))).fPlace (gd v3 (std.nadd 0 (std.toN v2))).fColumns (gd v3 (std.nadd 0 (std.toN v2))).fRows (gd v3 (std.nadd 0 (std.toN v2))).fStepX (gd v3 (std.nadd 0 (std.toN v2))).fStepY)) fun l17 =>
 req (std.inR v2 (len a0)) <|
 req (len a0 = len l17) <|
 letO (List.set l17 (std.nadd 0 (std.toN v2)) (TInstance.mk (gd l17 (std.nadd 0 (std.toN v2))).fCell (TTransform.mk (std.add .i64 v1 1) (gd l17 (std.nadd 0 (std.toN v2))).fPlace.fX (gd l17 (std.nadd 0 (std.toN v2))).fPlace.fY) (gd l17 (std.nadd 0 (std.toN v2))).fColumns (gd l17 (std.nadd 0 (std.toN v2))).fRows (gd l17 (std.nadd 0 (std.toN v2))).fStepX (gd l17 (std.nadd 0 (std.toN v2))).fStepY)) fun l19 =>
 req (std.inR v2 (len a0)) <|
 req (len a0 = len l19) <|
 letO (List.set l19 (std.nadd 0 (std.toN v2)) (TInstance.mk (gd l19 (std.nadd 0 (std.toN v2))).fCell (TTransform.mk (gd l19 (std.nadd 0 (std.toN v2))).fPlace.fOrientation (std.add .i64 (std.add .i64 v1 1) 1) (gd l19 (std.nadd 0 (std.toN v2))).fPlace.fY) (gd l19 (std.nadd 0 (std.toN v2))).fColumns (gd l19 (std.nadd 0 (std.toN v2))).fRows (gd l19 (std.nadd 0 (std.toN v2))).fStepX (gd l19 (std.nadd 0 (std.toN v2))).fStepY)) fun l21 =>
 req (std.inR v2 (len a0)) <|
 req (len a0 = len l21) <|
 letO (List.set l21 (std.nadd 0 (std.toN v2)) (TInstance.mk (gd l21 (std.nadd 0 (std.toN v2))).fCell (TTransform.mk (gd l21 (std.nadd 0 (std.toN v2))).fPlace.fOrientation (gd l21 (std.nadd 0 (std.toN v2))).fPlace.fX (std.add .i64 (std.add .i64 (std.add .i64 v1 1) 1) 1)) (gd l21 (std.nadd 0 (std.toN v2))).fColumns (gd l21 (std.nadd 0 (std.toN v2))).fRows (gd l21 (std.nadd 0 (std.toN v2))).fStepX (gd l21 (std.nadd 0 (std.toN v2))).fStepY)) fun l23 =>
 req (std.inR v2 (len a0)) <|
 req (len a0 = len l23) <|
 letO (List.set l23 (std.nadd 0 (std.toN v2)) (TInstance.mk (gd l23 (std.nadd 0 (std.toN v2))).fCell (gd l23 (std.nadd 0 (std.toN v2))).fPlace (std.add .i64 (std.add .i64 (std.add .i64 (std.add .i64 v1 1) 1) 1) 1) (gd l23 (std.nadd 0 (std.toN v2))).fRows (gd l23 (std.nadd 0 (std.toN v2))).fStepX (gd l23 (std.nadd 0 (std.toN v2))).fStepY)) fun l25 =>
 req (std.inR v2 (len a0)) <|
 req (len a0 = len l25) <|
 letO (List.set l25 (std.nadd 0 (std.toN v2)) (TInstance.mk (gd l25 (std.nadd 0 (std.toN v2))).fCell (gd l25 (std.nadd 0 (std.toN v2))).fPlace (gd l25 (std.nadd 0 (std.toN v2))).fColumns (std.add .i64 (std.add .i64 (std.add .i64 (std.add .i64 (std.add .i64 v1 1) 1) 1) 1) 1) (gd l25 (std.nadd 0 (std.toN v2))).fStepX (gd l25 (std.nadd 0 (std.toN v2))).fStepY)) fun l27 =>
 req (std.inR v2 (len a0)) <|
 req (len a0 = len l27) <|
 letO (List.set l27 (std.nadd 0 (std.toN v2)) (TInstance.mk (gd l27 (std.nadd 0 (std.toN v2))).fCell (gd l27 (std.nadd 0 (std.toN v2))).fPlace (gd l27 (std.nadd 0 (std.toN v2))).fColumns (gd l27 (std.nadd 0 (std.toN v2))).fRows (std.add .i64 (std.add .i64 (std.add .i64 (std.add .i64 (std.add .i64 (std.add .i64 v1 1) 1) 1) 1) 1) 1) (gd l27 (std.nadd 0 (std.toN v2))).fStepY)) fun l29 =>
 req (std.inR v2 (len a0)) <|
 req (len a0 = len l29) <|
 letO (List.set l29 (std.nadd 0 (std.toN v2)) (TInstance.mk (gd l29 (std.nadd 0 (std.toN v2))).fCell (gd l29 (std.nadd 0 (std.toN v2))).fPlace (gd l29 (std.nadd 0 (std.toN v2))).fColumns (gd l29 (std.nadd 0 (std.toN v2))).fRows (gd l29 (std.nadd 0 (std.toN v2))).fStepX (std.add .i64 (std.add .i64 (std.add .i64 (std.add .i64 (std.add .i64 (std.add .i64 (std.add .i64 v1 1) 1) 1) 1) 1) 1) 1))) fun l31 =>
 some (.inl (std.add .i64 (std.add .i64 (std.add .i64 (std.add .i64 (std.add .i64 (std.add .i64 (std.add .i64 (std.add .i64 v1 1) 1) 1) 1) 1) 1) 1) 1, std.add .i64 v2 1, l31)))
 (some (.inr (v1, v3)))
/-- laws.markInstanceS -/
noncomputable def F_laws_markInstanceS_mob (a0 : List TInstance) (a1 : Int) : Option (Int × (List TInstance)) :=
 (whileP (σ := Int × Int × (List TInstance)) (ρ := (Int × (List TInstance))) (L_laws_markInstanceS_mob_x4 a0) (a1, 0, a0)).bind fun y5 =>
 letO y5 fun y5k0 =>
 letO y5k0.1 fun w41 =>
 letO y5k0.2 fun w42 =>
 req (len a0 = len w42) <|
 some (w41, w42)
set_option maxHeartbeats 4000000 in
theorem run_laws_markInstanceS_mob (a0 : List TInstance) (a1 : Int) (r : Int × (List TInstance)) (h : F_laws_markInstanceS_mob a0 a1 = some r) : Fun Tryz.prog 55 [.c (.os 5 0 (len a0)), .c (.v (.int .i64 a1))] [(5, .arr .rw [] (len a0) 8 (row gd (encInstance) a0))] (.c (.v (.int .i64 r.1))) [(5, .arr .rw [] (len r.2) 8 (row gd (encInstance) r.2))] true := by
 refine ow [] Tryz.func55 Tryz.ntmps55 ?_ (hw := ⟨fun i _ j _ k hk => (noref (plain_nil (pl_encInstance _ _)) hk).elim, trivial⟩) (hv := (fun _ => ⟨trivial, ⟨fun i _ j _ => val_flat (vl_encInstance _ _), trivial⟩⟩)); unfold F_laws_markInstanceS_mob at h; unfold L_laws_markInstanceS_mob_x4 at h; generalize hLEN : @len = LEN, hGD : @gd = GD, hA : std = A, hP : Tryz.prog = P at *; cbv
 revert h; refine ln (.exit 0) (fun x => (sparse 72 [(0, .c (.os 5 0 (LEN a0))), (1, .c (.v (.int .i64 x.1))), (5, .c (.v (.int .i64 x.2.1)))] [(5, .arr .rw [] (LEN a0) 8 (row GD (encInstance) x.2.2))])) (fun w => (sparse 72 [(1, .c (.v (.int .i64 w.1)))] [(5, .arr .rw [] (LEN a0) 8 (row GD (encInstance) w.2))])) zb ?_ ?_
 ·rintro ⟨v1, v2, v3⟩ z h K hK hY; replace h := oz (oz (oz h)); dsimp only at h; cbv; revert h; refine fk ?_ ?_ <;> intro h <;> cbv
  ·revert h; refine ra fun c16 h => ?_; revert h; refine rq fun c39 => rl fun l17 hl17 h => ?_; refine ai c16 ?_; refine ⟨_, rfl, _, row GD (encInstance) l17, rfl, wkOf (us hA hLEN hGD hl17 c16 c39), ?_⟩; cbv; revert h; refine ra fun c18 h => ?_; revert h; refine rq fun c38 => rl fun l19 hl19 h => ?_; refine ai c18 ?_
   refine ⟨_, rfl, _, row GD (encInstance) l19, rfl, wkOf (us hA hLEN hGD hl19 c18 c38), ?_⟩; cbv; revert h; refine ra fun c20 h => ?_; revert h; refine rq fun c37 => rl fun l21 hl21 h => ?_; refine ai c20 ?_; refine ⟨_, rfl, _, row GD (encInstance) l21, rfl, wkOf (us hA hLEN hGD hl21 c20 c37), ?_⟩; cbv; revert h; refine ra fun c22 h => ?_; revert h; refine rq fun c36 => rl fun l23 hl23 h => ?_
   refine ai c22 ?_; refine ⟨_, rfl, _, row GD (encInstance) l23, rfl, wkOf (us hA hLEN hGD hl23 c22 c36), ?_⟩; cbv; revert h; refine ra fun c24 h => ?_; revert h; refine rq fun c35 => rl fun l25 hl25 h => ?_; refine ai c24 ?_; refine ⟨_, rfl, _, row GD (encInstance) l25, rfl, wkOf (us hA hLEN hGD hl25 c24 c35), ?_⟩; cbv; revert h; refine ra fun c26 h => ?_
   revert h; refine rq fun c34 => rl fun l27 hl27 h => ?_; refine ai c26 ?_; refine ⟨_, rfl, _, row GD (encInstance) l27, rfl, wkOf (us hA hLEN hGD hl27 c26 c34), ?_⟩; cbv; revert h; refine ra fun c28 h => ?_; revert h; refine rq fun c33 => rl fun l29 hl29 h => ?_; refine ai c28 ?_; refine ⟨_, rfl, _, row GD (encInstance) l29, rfl, wkOf (us hA hLEN hGD hl29 c28 c33), ?_⟩; cbv
   revert h; refine ra fun c30 h => ?_; revert h; refine rq fun c32 => rl fun l31 hl31 h => ?_; refine ai c30 ?_; refine ⟨_, rfl, _, row GD (encInstance) l31, rfl, wkOf (us hA hLEN hGD hl31 c30 c32), ?_⟩; cbv; exact dm
  exact dx
 rintro ⟨w41, w42⟩ h s q13; replace h := oz (oz (oz h)); dsimp only at h; cbv; refine ⟨_, q13, ?_⟩; cbv; revert h; refine rq fun c43 h => ?_; injection h with h; subst h; refine ⟨(sparse 72 [(4, .c (.v (.int .i64 w41)))] [(5, .arr .rw [] (LEN w42) 8 (row GD (encInstance) w42))]), ?_, ?_⟩
 ·rw [c43]; exact zb
 ·exact ⟨lR _, zo, rfl⟩

noncomputable def L_laws_markCellS_mob_x4 (a0 : List TCell) : (Int × Int × (List TCell)) → Option ((Int × Int × (List TCell)) ⊕ ((Int × (List TCell)))) := fun x4 =>
 letO x4.1 fun v1 =>
 letO x4.2.1 fun v2 =>
 letO x4.2.2 fun v3 =>
 br (std.lt v2 (std.ofN (len a0)))
 (((
    (F_laws_markText v1).bind fun y23 =>
    req (std.inR v2 (len a0)) <|
    req (len a0 = len v3) <|
    letO (List.set v3 (std.nadd 0 (std.toN v2)) (TCell.mk y23 (gd v3 (std.nadd 0 (std.toN v2))).fShapes (gd v3 (std.nadd 0 (std.toN v2))).fLabels (gd v3 (std.nadd 0 (std.toN v2))).fInstances)) fun l26 =>
    some l26
  ) : Option ((List TCell))).bind fun y16 =>
 letO y16 fun w22 =>
 ((
    req (std.inR v2 (len a0)) <|
    (F_laws_markShapeS_mob (gd w22 (std.nadd 0 (std.toN v2))).fShapes (std.add .i64 v1 1)).bind fun y37 =>
    req (len y37.2 = len (gd w22 (std.nadd 0 (std.toN v2))).fShapes) <|
    req (len (gd w22 (std.nadd 0 (std.toN v2))).fShapes = len y37.2) <|
    req (len a0 = len w22) <|
    letO (List.set w22 (std.nadd 0 (std.toN v2)) (TCell.mk (gd w22 (std.nadd 0 (std.toN v2))).fName y37.2 (gd w22 (std.nadd 0 (std.toN v2))).fLabels (gd w22 (std.nadd 0 (std.toN v2))).fInstances)) fun l40 =>
    some (y37.1, l40)
  ) : Option (Int × (List TCell))).bind fun y28 =>
 letO y28.1 fun w34 =>
 letO y28.2 fun w35 =>
 ((
    req (std.inR v2 (len a0)) <|
    (F_laws_markLabelS_mob (gd w35 (std.nadd 0 (std.toN v2))).fLabels w34).bind fun y52 =>
    req (len y52.2 = len (gd w35 (std.nadd 0 (std.toN v2))).fLabels) <|
    req (len (gd w35 (std.nadd 0 (std.toN v2))).fLabels = len y52.2) <|
    req (len a0 = len w35) <|
    letO (List.set w35 (std.nadd 0 (std.toN v2)) (TCell.mk (gd w35 (std.nadd 0 (std.toN v2))).fName (gd w35 (std.nadd 0 (std.toN v2))).fShapes y52.2 (gd w35 (std.nadd 0 (std.toN v2))).fInstances)) fun l55 =>
    some (y52.1, l55)
  ) : Option (Int × (List TCell))).bind fun y43 =>
 letO y43.1 fun w49 =>
 letO y43.2 fun w50 =>
 ((
    req (std.inR v2 (len a0)) <|
    (F_laws_markInstanceS_mob (gd w50 (std.nadd 0 (std.toN v2))).fInstances w49).bind fun y67 =>
    req (len y67.2 = len (gd w50 (std.nadd 0 (std.toN v2))).fInstances) <|
    req (len (gd w50 (std.nadd 0 (std.toN v2))).fInstances = len y67.2) <|
    req (len a0 = len w50) <|
    letO (List.set w50 (std.nadd 0 (std.toN v2)) (TCell.mk (gd w50 (std.nadd 0 (std.toN v2))).fName (gd w50 (std.nadd 0 (std.toN v2))).fShapes (gd w50 (std.nadd 0 (std.toN v2))).fLabels y67.2)) fun l70 =>
    some (y67.1, l70)
  ) : Option (Int × (List TCell))).bind fun y58 =>
 letO y58.1 fun w64 =>
 letO y58.2 fun w65 =>
 some (.inl (w64, std.add .i64 v2 1, w65)))
 (some (.inr (v1, v3)))
/-- laws.markCellS -/
noncomputable def F_laws_markCellS_mob (a0 : List TCell) (a1 : Int) : Option (Int × (List TCell)) :=
 (whileP (σ := Int × Int × (List TCell)) (ρ := (Int × (List TCell))) (L_laws_markCellS_mob_x4 a0) (a1, 0, a0)).bind fun y5 =>
 letO y5 fun y5k0 =>
 letO y5k0.1 fun w74 =>
 letO y5k0.2 fun w75 =>
 req (len a0 = len w75) <|
 some (w74, w75)
set_option maxHeartbeats 4000000 in
theorem run_laws_markCellS_mob (a0 : List TCell) (a1 : Int) (r : Int × (List TCell)) (h : F_laws_markCellS_mob a0 a1 = some r) : Fun Tryz.prog 27 [.c (.os 5 0 (len a0)), .c (.v (.int .i64 a1))] [(5, .arr .rw [] (len a0) 4 (row gd (oncCell len gd) a0))] (.c (.v (.int .i64 r.1))) [(5, .arr .rw [] (len r.2) 4 (row gd (oncCell len gd) r.2))] true := by
 refine ow [4, 6, 7, 8] Tryz.func27 Tryz.ntmps27 ?_ (hw := ⟨fun i _ j _ k hk => (noref (rf_oncCell _ _) hk).elim, trivial⟩) (hv := (fun _ => ⟨trivial, ⟨fun i _ j _ => fl_oncCell _ _, trivial⟩⟩)); unfold F_laws_markCellS_mob at h; unfold L_laws_markCellS_mob_x4 at h; have hf_laws_markInstanceS_mob := @run_laws_markInstanceS_mob; have hf_laws_markLabelS_mob := @run_laws_markLabelS_mob
 have hf_laws_markShapeS_mob := @run_laws_markShapeS_mob; have hf_laws_markText := @run_laws_markText; generalize hLEN : @len = LEN, hGD : @gd = GD, hA : std = A, hP : Tryz.prog = P at *; cbv
 revert h; refine ln (.exit 0) (fun x => (sparse 42 [(0, .c (.os 5 0 (LEN a0))), (1, .c (.v (.int .i64 x.1))), (5, .c (.v (.int .i64 x.2.1)))] [(5, .arr .rw [] (LEN a0) 4 (row GD (oncCell LEN GD) x.2.2))])) (fun w => (sparse 42 [(1, .c (.v (.int .i64 w.1)))] [(5, .arr .rw [] (LEN a0) 4 (row GD (oncCell LEN GD) w.2))])) zb ?_ ?_
 ·rintro ⟨v1, v2, v3⟩ z h K hK hY; replace h := oz (oz (oz h)); dsimp only at h; cbv; revert h; refine fk ?_ ?_ <;> intro h <;> cbv
  ·revert h; refine cu (fun y16 => (sparse 42 [(0, .c (.os 5 0 (LEN a0))), (1, .c (.v (.int .i64 v1))), (5, .c (.v (.int .i64 v2)))] [(5, .arr .rw [] (LEN a0) 4 (row GD (oncCell LEN GD) y16))])) ?_ fun w22 => rz fun h => ?_
   ·intro y16 S hS h; cbv; revert h; refine rk0 (hf_laws_markText _) fun y23 h => ?_; cbv; revert h; refine ra fun c25 h => ?_; refine ai c25 ?_
    refine ⟨_, rfl, _, (patchC (row GD (oncCell LEN GD) v3) (A.nadd 0 (A.toN v2)) [.v (.string y23), .ow (LEN (GD v3 (A.nadd 0 (A.toN v2))).fShapes) 5 (row GD (encShape) (GD v3 (A.nadd 0 (A.toN v2))).fShapes), .ow (LEN (GD v3 (A.nadd 0 (A.toN v2))).fLabels) 4 (row GD (encLabel) (GD v3 (A.nadd 0 (A.toN v2))).fLabels), .ow (LEN (GD v3 (A.nadd 0 (A.toN v2))).fInstances) 8 (row GD (encInstance) (GD v3 (A.nadd 0 (A.toN v2))).fInstances)]), rfl, wkOf (patch_of zr), ?_⟩
    cbv; revert h; refine rq fun c27 => rl fun l26 hl26 h => ?_; injection h with h; subst h; subst hS; show St.le _ _; exact le_sparse rfl zl ⟨oP (fun _ _ => rf_oncCell _ _) (by subst hGD hLEN hA; exact patch_set hl26 (idx_lt (by rw [← c27]; exact c25)) zr), trivial⟩ rfl
   cbv; revert h; refine cu (fun y28 => (sparse 42 [(0, .c (.os 5 0 (LEN a0))), (1, .c (.v (.int .i64 y28.1))), (5, .c (.v (.int .i64 v2)))] [(5, .arr .rw [] (LEN a0) 4 (row GD (oncCell LEN GD) y28.2))])) ?_ ?_
   ·intro y28 S hS h; cbv; revert h; refine ra fun c36 h => ?_; refine ai c36 ?_
    refine ⟨_, rfl, _, (patchC (row GD (oncCell LEN GD) w22) (A.nadd 0 (A.toN v2)) [.v (.string (GD w22 (A.nadd 0 (A.toN v2))).fName), .os 1538 0 (LEN (GD w22 (A.nadd 0 (A.toN v2))).fShapes), .ow (LEN (GD w22 (A.nadd 0 (A.toN v2))).fLabels) 4 (row GD (encLabel) (GD w22 (A.nadd 0 (A.toN v2))).fLabels), .ow (LEN (GD w22 (A.nadd 0 (A.toN v2))).fInstances) 8 (row GD (encInstance) (GD w22 (A.nadd 0 (A.toN v2))).fInstances)]), rfl, wkOf (patch_of zr), ?_⟩
    refine ⟨_, row GD (encShape) (GD w22 (A.nadd 0 (A.toN v2))).fShapes, rfl, wkOf (fun i _ j _ => plain_cp (pl_encShape _ _)), ?_⟩; cbv; revert h; refine rb fun y37 hy38 => rq fun c42 h => ?_; refine rc [(5, 1538)] [(5, 1538)] (hf_laws_markShapeS_mob _ _ _ hy38) yf ⟨_, rfl, LEN (GD w22 (A.nadd 0 (A.toN v2))).fShapes, _, c42, fun _ _ _ _ => .refl _, ?_⟩; cbv
    revert h; refine rq fun c39 => rq fun c41 => rl fun l40 hl40 h => ?_; injection h with h; subst h; subst hS; show St.le _ _; refine St.le_trans (le_foldP 5 1 1538 rfl rfl rfl (by decide) (by subst hA; exact idx_lt c36) (by decide) rfl (fun _ _ => rf_oncCell _ _)) ?_
    exact le_sparse rfl zl ⟨oP (fun _ _ => rf_oncCell _ _) (by subst hGD hLEN hA; exact patch_set hl40 (idx_lt (by rw [← c41]; exact c36)) zr), trivial⟩ rfl
   rintro ⟨w34, w35⟩ h; replace h := oz (oz h); dsimp only at h; cbv; revert h; refine cu (fun y43 => (sparse 42 [(0, .c (.os 5 0 (LEN a0))), (1, .c (.v (.int .i64 y43.1))), (5, .c (.v (.int .i64 v2)))] [(5, .arr .rw [] (LEN a0) 4 (row GD (oncCell LEN GD) y43.2))])) ?_ ?_
   ·intro y43 S hS h; cbv; revert h; refine ra fun c51 h => ?_; refine ai c51 ?_
    refine ⟨_, rfl, _, (patchC (row GD (oncCell LEN GD) w35) (A.nadd 0 (A.toN v2)) [.v (.string (GD w35 (A.nadd 0 (A.toN v2))).fName), .ow (LEN (GD w35 (A.nadd 0 (A.toN v2))).fShapes) 5 (row GD (encShape) (GD w35 (A.nadd 0 (A.toN v2))).fShapes), .os 1986 0 (LEN (GD w35 (A.nadd 0 (A.toN v2))).fLabels), .ow (LEN (GD w35 (A.nadd 0 (A.toN v2))).fInstances) 8 (row GD (encInstance) (GD w35 (A.nadd 0 (A.toN v2))).fInstances)]), rfl, wkOf (patch_of zr), ?_⟩
    refine ⟨_, row GD (encLabel) (GD w35 (A.nadd 0 (A.toN v2))).fLabels, rfl, wkOf (fun i _ j _ => plain_cp (pl_encLabel _ _)), ?_⟩; cbv; revert h; refine rb fun y52 hy53 => rq fun c57 h => ?_; refine rc [(5, 1986)] [(5, 1986)] (hf_laws_markLabelS_mob _ _ _ hy53) yf ⟨_, rfl, LEN (GD w35 (A.nadd 0 (A.toN v2))).fLabels, _, c57, fun _ _ _ _ => .refl _, ?_⟩; cbv
    revert h; refine rq fun c54 => rq fun c56 => rl fun l55 hl55 h => ?_; injection h with h; subst h; subst hS; show St.le _ _; refine St.le_trans (le_foldP 5 2 1986 rfl rfl rfl (by decide) (by subst hA; exact idx_lt c51) (by decide) rfl (fun _ _ => rf_oncCell _ _)) ?_
    exact le_sparse rfl zl ⟨oP (fun _ _ => rf_oncCell _ _) (by subst hGD hLEN hA; exact patch_set hl55 (idx_lt (by rw [← c56]; exact c51)) zr), trivial⟩ rfl
   rintro ⟨w49, w50⟩ h; replace h := oz (oz h); dsimp only at h; cbv; revert h; refine cu (fun y58 => (sparse 42 [(0, .c (.os 5 0 (LEN a0))), (1, .c (.v (.int .i64 y58.1))), (5, .c (.v (.int .i64 v2)))] [(5, .arr .rw [] (LEN a0) 4 (row GD (oncCell LEN GD) y58.2))])) ?_ ?_
   ·intro y58 S hS h; cbv; revert h; refine ra fun c66 h => ?_; refine ai c66 ?_
    refine ⟨_, rfl, _, (patchC (row GD (oncCell LEN GD) w50) (A.nadd 0 (A.toN v2)) [.v (.string (GD w50 (A.nadd 0 (A.toN v2))).fName), .ow (LEN (GD w50 (A.nadd 0 (A.toN v2))).fShapes) 5 (row GD (encShape) (GD w50 (A.nadd 0 (A.toN v2))).fShapes), .ow (LEN (GD w50 (A.nadd 0 (A.toN v2))).fLabels) 4 (row GD (encLabel) (GD w50 (A.nadd 0 (A.toN v2))).fLabels), .os 2434 0 (LEN (GD w50 (A.nadd 0 (A.toN v2))).fInstances)]), rfl, wkOf (patch_of zr), ?_⟩
    refine ⟨_, row GD (encInstance) (GD w50 (A.nadd 0 (A.toN v2))).fInstances, rfl, wkOf (fun i _ j _ => plain_cp (pl_encInstance _ _)), ?_⟩; cbv; revert h; refine rb fun y67 hy68 => rq fun c72 h => ?_; refine rc [(5, 2434)] [(5, 2434)] (hf_laws_markInstanceS_mob _ _ _ hy68) yf ⟨_, rfl, LEN (GD w50 (A.nadd 0 (A.toN v2))).fInstances, _, c72, fun _ _ _ _ => .refl _, ?_⟩; cbv
    revert h; refine rq fun c69 => rq fun c71 => rl fun l70 hl70 h => ?_; injection h with h; subst h; subst hS; show St.le _ _; refine St.le_trans (le_foldP 5 3 2434 rfl rfl rfl (by decide) (by subst hA; exact idx_lt c66) (by decide) rfl (fun _ _ => rf_oncCell _ _)) ?_
    exact le_sparse rfl zl ⟨oP (fun _ _ => rf_oncCell _ _) (by subst hGD hLEN hA; exact patch_set hl70 (idx_lt (by rw [← c71]; exact c66)) zr), trivial⟩ rfl
   rintro ⟨w64, w65⟩ h; replace h := oz (oz h); dsimp only at h; cbv; exact dm
  exact dx
 rintro ⟨w74, w75⟩ h s q13; replace h := oz (oz (oz h)); dsimp only at h; cbv; refine ⟨_, q13, ?_⟩; cbv; revert h; refine rq fun c76 h => ?_; injection h with h; subst h; refine ⟨(sparse 42 [(4, .c (.v (.int .i64 w74)))] [(5, .arr .rw [] (LEN w75) 4 (row GD (oncCell LEN GD) w75))]), ?_, ?_⟩
 ·rw [c76]; exact zb
 ·exact ⟨lR _, zo, rfl⟩

/-- laws.markLibrary -/
noncomputable def F_laws_markLibrary_mob (a0 : TLibrary) (a1 : Int) : Option (Int × (List TCell)) :=
 (F_laws_markCellS_mob a0.fCells a1).bind fun y1 =>
 req (len y1.2 = len a0.fCells) <|
 req (len a0.fCells = len y1.2) <|
 some (y1.1, y1.2)
set_option maxHeartbeats 4000000 in
theorem run_laws_markLibrary_mob (a0 : TLibrary) (a1 : Int) (r : Int × (List TCell)) (h : F_laws_markLibrary_mob a0 a1 = some r) : Fun Tryz.prog 11 [.agg [.os 5 0 (len a0.fCells)], .c (.v (.int .i64 a1))] [(5, .arr .rw [] (len a0.fCells) 4 (row gd (oncCell len gd) a0.fCells))] (.c (.v (.int .i64 r.1))) [(5, .arr .rw [] (len r.2) 4 (row gd (oncCell len gd) r.2))] true := by
 refine ow [] Tryz.func11 Tryz.ntmps11 ?_ (hw := ⟨fun i _ j _ k hk => (noref (rf_oncCell _ _) hk).elim, trivial⟩) (hv := (fun _ => ⟨trivial, ⟨fun i _ j _ => fl_oncCell _ _, trivial⟩⟩)); unfold F_laws_markLibrary_mob at h; have hf_laws_markCellS_mob := @run_laws_markCellS_mob; generalize hLEN : @len = LEN, hGD : @gd = GD, hA : std = A, hP : Tryz.prog = P at *; cbv
 revert h; refine rb fun y1 hy2 => rq fun c4 h => ?_; refine rc [(5, 5)] [(5, 5)] (hf_laws_markCellS_mob _ _ _ hy2) yf ⟨_, rfl, LEN a0.fCells, _, c4, fun _ _ _ _ => .refl _, ?_⟩; cbv; revert h; refine rq fun c3 h => ?_; injection h with h; subst h; refine ⟨(sparse 10 [(4, .c (.v (.int .i64 y1.1)))] [(5, .arr .rw [] (LEN y1.2) 4 (row GD (oncCell LEN GD) y1.2))]), ?_, ?_⟩
 ·rw [c3]; exact zb
 ·exact ⟨lR _, zo, rfl⟩

noncomputable def L_laws_markRectS_mob_x4 (a0 : List TRect) : (Int × Int × (List TRect)) → Option ((Int × Int × (List TRect)) ⊕ ((Int × (List TRect)))) := fun x4 =>
 letO x4.1 fun v1 =>
 letO x4.2.1 fun v2 =>
 letO x4.2.2 fun v3 =>
 br (std.lt v2 (std.ofN (len a0)))
 (req (std.inR v2 (len a0)) <|
 req (len a0 = len v3) <|
 letO (List.set v3 (std.nadd 0 (std.toN v2)) (TRect.mk v1 (gd v3 (std.nadd 0 (std.toN v2))).fY0 (gd v3 (std.nadd 0 (std.toN v2))).fX1 (gd v3 (std.nadd 0 (std.toN v2))).fY1)) fun l17 =>
 req (std.inR v2 (len a0)) <|
 req (len a0 = len l17) <|
 letO (List.set l17 (std.nadd 0 (std.toN v2)) (TRect.mk (gd l17 (std.nadd 0 (std.toN v2))).fX0 (std.add .i64 v1 1) (gd l17 (std.nadd 0 (std.toN v2))).fX1 (gd l17 (std.nadd 0 (std.toN v2))).fY1)) fun l19 =>
 req (std.inR v2 (len a0)) <|
 req (len a0 = len l19) <|
 letO (List.set l19 (std.nadd 0 (std.toN v2)) (TRect.mk (gd l19 (std.nadd 0 (std.toN v2))).fX0 (gd l19 (std.nadd 0 (std.toN v2))).fY0 (std.add .i64 (std.add .i64 v1 1) 1) (gd l19 (std.nadd 0 (std.toN v2))).fY1)) fun l21 =>
 req (std.inR v2 (len a0)) <|
 req (len a0 = len l21) <|
 letO (List.set l21 (std.nadd 0 (std.toN v2)) (TRect.mk (gd l21 (std.nadd 0 (std.toN v2))).fX0 (gd l21 (std.nadd 0 (std.toN v2))).fY0 (gd l21 (std.nadd 0 (std.toN v2))).fX1 (std.add .i64 (std.add .i64 (std.add .i64 v1 1) 1) 1))) fun l23 =>
 some (.inl (std.add .i64 (std.add .i64 (std.add .i64 (std.add .i64 v1 1) 1) 1) 1, std.add .i64 v2 1, l23)))
 (some (.inr (v1, v3)))
/-- laws.markRectS -/
noncomputable def F_laws_markRectS_mob (a0 : List TRect) (a1 : Int) : Option (Int × (List TRect)) :=
 (whileP (σ := Int × Int × (List TRect)) (ρ := (Int × (List TRect))) (L_laws_markRectS_mob_x4 a0) (a1, 0, a0)).bind fun y5 =>
 letO y5 fun y5k0 =>
 letO y5k0.1 fun w29 =>
 letO y5k0.2 fun w30 =>
 req (len a0 = len w30) <|
 some (w29, w30)
set_option maxHeartbeats 4000000 in
theorem run_laws_markRectS_mob (a0 : List TRect) (a1 : Int) (r : Int × (List TRect)) (h : F_laws_markRectS_mob a0 a1 = some r) : Fun Tryz.prog 28 [.c (.os 5 0 (len a0)), .c (.v (.int .i64 a1))] [(5, .arr .rw [] (len a0) 4 (row gd (encRect) a0))] (.c (.v (.int .i64 r.1))) [(5, .arr .rw [] (len r.2) 4 (row gd (encRect) r.2))] true := by
 refine ow [] Tryz.func28 Tryz.ntmps28 ?_ (hw := ⟨fun i _ j _ k hk => (noref (plain_nil (pl_encRect _ _)) hk).elim, trivial⟩) (hv := (fun _ => ⟨trivial, ⟨fun i _ j _ => val_flat (vl_encRect _ _), trivial⟩⟩)); unfold F_laws_markRectS_mob at h; unfold L_laws_markRectS_mob_x4 at h; generalize hLEN : @len = LEN, hGD : @gd = GD, hA : std = A, hP : Tryz.prog = P at *; cbv
 revert h; refine ln (.exit 0) (fun x => (sparse 41 [(0, .c (.os 5 0 (LEN a0))), (1, .c (.v (.int .i64 x.1))), (5, .c (.v (.int .i64 x.2.1)))] [(5, .arr .rw [] (LEN a0) 4 (row GD (encRect) x.2.2))])) (fun w => (sparse 41 [(1, .c (.v (.int .i64 w.1)))] [(5, .arr .rw [] (LEN a0) 4 (row GD (encRect) w.2))])) zb ?_ ?_
 ·rintro ⟨v1, v2, v3⟩ z h K hK hY; replace h := oz (oz (oz h)); dsimp only at h; cbv; revert h; refine fk ?_ ?_ <;> intro h <;> cbv
  ·revert h; refine ra fun c16 h => ?_; revert h; refine rq fun c27 => rl fun l17 hl17 h => ?_; refine ai c16 ?_; refine ⟨_, rfl, _, row GD (encRect) l17, rfl, wkOf (us hA hLEN hGD hl17 c16 c27), ?_⟩; cbv; revert h; refine ra fun c18 h => ?_; revert h; refine rq fun c26 => rl fun l19 hl19 h => ?_; refine ai c18 ?_; refine ⟨_, rfl, _, row GD (encRect) l19, rfl, wkOf (us hA hLEN hGD hl19 c18 c26), ?_⟩
   cbv; revert h; refine ra fun c20 h => ?_; revert h; refine rq fun c25 => rl fun l21 hl21 h => ?_; refine ai c20 ?_; refine ⟨_, rfl, _, row GD (encRect) l21, rfl, wkOf (us hA hLEN hGD hl21 c20 c25), ?_⟩; cbv; revert h; refine ra fun c22 h => ?_; revert h; refine rq fun c24 => rl fun l23 hl23 h => ?_; refine ai c22 ?_
   refine ⟨_, rfl, _, row GD (encRect) l23, rfl, wkOf (us hA hLEN hGD hl23 c22 c24), ?_⟩; cbv; exact dm
  exact dx
 rintro ⟨w29, w30⟩ h s q13; replace h := oz (oz (oz h)); dsimp only at h; cbv; refine ⟨_, q13, ?_⟩; cbv; revert h; refine rq fun c31 h => ?_; injection h with h; subst h; refine ⟨(sparse 41 [(4, .c (.v (.int .i64 w29)))] [(5, .arr .rw [] (LEN w30) 4 (row GD (encRect) w30))]), ?_, ?_⟩
 ·rw [c31]; exact zb
 ·exact ⟨lR _, zo, rfl⟩
noncomputable def L_laws_markRectSS_mob_x4 (a0 : List (List TRect)) : (Int × Int × (List (List TRect))) → Option ((Int × Int × (List (List TRect))) ⊕ ((Int × (List (List TRect))))) := fun x4 =>
 letO x4.1 fun v1 =>
 letO x4.2.1 fun v2 =>
 letO x4.2.2 fun v3 =>
 br (std.lt v2 (std.ofN (len a0)))
 (((
    req (std.inR v2 (len a0)) <|
    (F_laws_markRectS_mob (gd v3 (std.nadd 0 (std.toN v2))) v1).bind fun y25 =>
    req (len y25.2 = len (gd v3 (std.nadd 0 (std.toN v2)))) <|
    req (len (gd v3 (std.nadd 0 (std.toN v2))) = len y25.2) <|
    req (len a0 = len v3) <|
    letO (List.set v3 (std.nadd 0 (std.toN v2)) y25.2) fun l28 =>
    some (y25.1, l28)
  ) : Option (Int × (List (List TRect)))).bind fun y16 =>
 letO y16.1 fun w22 =>
 letO y16.2 fun w23 =>
 some (.inl (w22, std.add .i64 v2 1, w23)))
 (some (.inr (v1, v3)))
/-- laws.markRectSS -/
noncomputable def F_laws_markRectSS_mob (a0 : List (List TRect)) (a1 : Int) : Option (Int × (List (List TRect))) :=
 (whileP (σ := Int × Int × (List (List TRect))) (ρ := (Int × (List (List TRect)))) (L_laws_markRectSS_mob_x4 a0) (a1, 0, a0)).bind fun y5 =>
 letO y5 fun y5k0 =>
 letO y5k0.1 fun w32 =>
 letO y5k0.2 fun w33 =>
 req (len a0 = len w33) <|
 some (w32, w33)
set_option maxHeartbeats 4000000 in
theorem run_laws_markRectSS_mob (a0 : List (List TRect)) (a1 : Int) (r : Int × (List (List TRect))) (h : F_laws_markRectSS_mob a0 a1 = some r) : Fun Tryz.prog 12 [.c (.os 5 0 (len a0)), .c (.v (.int .i64 a1))] [(5, .arr .rw [] (len a0) 1 (row gd (oncL len gd 4 (encRect)) a0))] (.c (.v (.int .i64 r.1))) [(5, .arr .rw [] (len r.2) 1 (row gd (oncL len gd 4 (encRect)) r.2))] true := by
 refine ow [4] Tryz.func12 Tryz.ntmps12 ?_ (hw := ⟨fun i _ j _ k hk => (noref (rfl) hk).elim, trivial⟩) (hv := (fun _ => ⟨trivial, ⟨fun i _ j _ => fl_oncL (vl_encRect) _ _, trivial⟩⟩)); unfold F_laws_markRectSS_mob at h; unfold L_laws_markRectSS_mob_x4 at h; have hf_laws_markRectS_mob := @run_laws_markRectS_mob; generalize hLEN : @len = LEN, hGD : @gd = GD, hA : std = A, hP : Tryz.prog = P at *; cbv
 revert h; refine ln (.exit 0) (fun x => (sparse 19 [(0, .c (.os 5 0 (LEN a0))), (1, .c (.v (.int .i64 x.1))), (5, .c (.v (.int .i64 x.2.1)))] [(5, .arr .rw [] (LEN a0) 1 (row GD (oncL LEN GD 4 (encRect)) x.2.2))])) (fun w => (sparse 19 [(1, .c (.v (.int .i64 w.1)))] [(5, .arr .rw [] (LEN a0) 1 (row GD (oncL LEN GD 4 (encRect)) w.2))])) zb ?_ ?_
 ·rintro ⟨v1, v2, v3⟩ z h K hK hY; replace h := oz (oz (oz h)); dsimp only at h; cbv; revert h; refine fk ?_ ?_ <;> intro h <;> cbv
  ·revert h; refine cu (fun y16 => (sparse 19 [(0, .c (.os 5 0 (LEN a0))), (1, .c (.v (.int .i64 y16.1))), (5, .c (.v (.int .i64 v2)))] [(5, .arr .rw [] (LEN a0) 1 (row GD (oncL LEN GD 4 (encRect)) y16.2))])) ?_ ?_
   ·intro y16 S hS h; cbv; revert h; refine ra fun c24 h => ?_; refine ai c24 ?_; refine ⟨_, rfl, _, (patchC (row GD (oncL LEN GD 4 (encRect)) v3) (A.nadd 0 (A.toN v2)) [.os 962 0 (LEN (GD v3 (A.nadd 0 (A.toN v2))))]), rfl, wkOf (patch_of zr), ?_⟩; refine ⟨_, row GD (encRect) (GD v3 (A.nadd 0 (A.toN v2))), rfl, wkOf (fun i _ j _ => plain_cp (pl_encRect _ _)), ?_⟩; cbv
    revert h; refine rb fun y25 hy26 => rq fun c30 h => ?_; refine rc [(5, 962)] [(5, 962)] (hf_laws_markRectS_mob _ _ _ hy26) yf ⟨_, rfl, LEN (GD v3 (A.nadd 0 (A.toN v2))), _, c30, fun _ _ _ _ => .refl _, ?_⟩; cbv; revert h; refine rq fun c27 => rq fun c29 => rl fun l28 hl28 h => ?_; injection h with h; subst h; subst hS; show St.le _ _
    refine St.le_trans (le_foldP 5 0 962 rfl rfl rfl (by decide) (by subst hA; exact idx_lt c24) (by decide) rfl (fun _ _ => rfl)) ?_; exact le_sparse rfl zl ⟨oP (fun _ _ => rfl) (by subst hGD hLEN hA; exact patch_set hl28 (idx_lt (by rw [← c29]; exact c24)) zr), trivial⟩ rfl
   rintro ⟨w22, w23⟩ h; replace h := oz (oz h); dsimp only at h; cbv; exact dm
  exact dx
 rintro ⟨w32, w33⟩ h s q13; replace h := oz (oz (oz h)); dsimp only at h; cbv; refine ⟨_, q13, ?_⟩; cbv; revert h; refine rq fun c34 h => ?_; injection h with h; subst h; refine ⟨(sparse 19 [(4, .c (.v (.int .i64 w32)))] [(5, .arr .rw [] (LEN w33) 1 (row GD (oncL LEN GD 4 (encRect)) w33))]), ?_, ?_⟩
 ·rw [c34]; exact zb
 ·exact ⟨lR _, zo, rfl⟩

noncomputable def L_laws_heldRectS_x3 (a0 : List TRect) : (Int × Int) → Option ((Int × Int) ⊕ ((Int) ⊕ (Int))) := fun x3 =>
 letO x3.1 fun v1 =>
 letO x3.2 fun v2 =>
 br (std.lt v2 (std.ofN (len a0)))
 (req (std.inR v2 (len a0)) <|
 br (std.not (std.eq (gd a0 (std.toN v2)).fX0 v1))
 (some (.inr (.inl (-1))))
 (req (std.inR v2 (len a0)) <|
 br (std.not (std.eq (gd a0 (std.toN v2)).fY0 (std.add .i64 v1 1)))
 (some (.inr (.inl (-1))))
 (req (std.inR v2 (len a0)) <|
 br (std.not (std.eq (gd a0 (std.toN v2)).fX1 (std.add .i64 (std.add .i64 v1 1) 1)))
 (some (.inr (.inl (-1))))
 (req (std.inR v2 (len a0)) <|
 br (std.not (std.eq (gd a0 (std.toN v2)).fY1 (std.add .i64 (std.add .i64 (std.add .i64 v1 1) 1) 1)))
 (some (.inr (.inl (-1))))
 (some (.inl (std.add .i64 (std.add .i64 (std.add .i64 (std.add .i64 v1 1) 1) 1) 1, std.add .i64 v2 1)))))))
 (some (.inr (.inr v1)))
/-- laws.heldRectS -/
noncomputable def F_laws_heldRectS (a0 : List TRect) (a1 : Int) : Option (Int) :=
 (whileP (σ := Int × Int) (ρ := (Int) ⊕ (Int)) (L_laws_heldRectS_x3 a0) (a1, 0)).bind fun y4 =>
 (match y4 with
  | .inl y4k0 => (
    letO y4k0 fun w24 =>
    some w24)
  | .inr y4m0 =>
    letO y4m0 fun y4k1 =>
    letO y4k1 fun w25 =>
    some w25)
set_option maxHeartbeats 4000000 in
theorem run_laws_heldRectS (a0 : List TRect) (a1 : Int) (r : Int) (h : F_laws_heldRectS a0 a1 = some r) : Fun Tryz.prog 29 [.c (.bs (len a0) 4 (row gd (encRect) a0)), .c (.v (.int .i64 a1))] [] (.c (.v (.int .i64 r))) [] true := by
 refine ow [] Tryz.func29 Tryz.ntmps29 ?_; unfold F_laws_heldRectS at h; unfold L_laws_heldRectS_x3 at h; generalize hLEN : @len = LEN, hGD : @gd = GD, hA : std = A, hP : Tryz.prog = P at *; cbv
 revert h; refine lc (fun x => (sparse 49 [(0, .c (.bs (LEN a0) 4 (row GD (encRect) a0))), (1, .c (.v (.int .i64 x.1))), (5, .c (.v (.int .i64 x.2)))] [])) (fun y e s => (match y with | .inl w => e = .ret ∧ s.le (sparse 49 [(4, .c (.v (.int .i64 w)))] []) | .inr w0 => (fun (w : Int) => e = .exit 0 ∧ s.le (sparse 49 [(1, .c (.v (.int .i64 w)))] [])) w0)) zb ?_ ?_
 ·rintro ⟨v1, v2⟩ z h K hK hY; replace h := oz (oz h); dsimp only at h; cbv; revert h; refine fk ?_ ?_ <;> intro h <;> cbv
  ·revert h; refine ra fun c15 h => ?_; revert h; refine fk ?_ ?_ <;> intro h <;> cbv
   ·exact dy
   revert h; refine ra fun c16 h => ?_; revert h; refine fk ?_ ?_ <;> intro h <;> cbv
   ·exact dy
   revert h; refine ra fun c17 h => ?_; revert h; refine fk ?_ ?_ <;> intro h <;> cbv
   ·exact dy
   revert h; refine ra fun c18 h => ?_; revert h; refine fk ?_ ?_ <;> intro h <;> cbv
   ·exact dy
   exact dm
  exact dy
 intro y4 h e13 s14 q12 hne; rcases y4 with y4k0 | y4m0
 ·replace h := h; obtain ⟨rfl, q12⟩ := q12; revert h; refine rz fun h => ?_; cbv; injection h with h; subst h; exact ⟨_, q12, lR _, zo, rfl⟩
 ·revert h; refine rz fun h => ?_; obtain ⟨rfl, q12⟩ := q12; revert h; refine rz fun h => ?_; cbv; refine ⟨_, q12, ?_⟩; cbv; exact df

noncomputable def L_laws_heldRectSS_x3 (a0 : List (List TRect)) : (Int × Int) → Option ((Int × Int) ⊕ ((Int) ⊕ (Int))) := fun x3 =>
 letO x3.1 fun v1 =>
 letO x3.2 fun v2 =>
 br (std.lt v2 (std.ofN (len a0)))
 (req (std.inR v2 (len a0)) <|
 (F_laws_heldRectS (gd a0 (std.toN v2)) v1).bind fun y16 =>
 br (std.lt y16 0)
 (some (.inr (.inl (-1))))
 (some (.inl (y16, std.add .i64 v2 1))))
 (some (.inr (.inr v1)))
/-- laws.heldRectSS -/
noncomputable def F_laws_heldRectSS (a0 : List (List TRect)) (a1 : Int) : Option (Int) :=
 (whileP (σ := Int × Int) (ρ := (Int) ⊕ (Int)) (L_laws_heldRectSS_x3 a0) (a1, 0)).bind fun y4 =>
 (match y4 with
  | .inl y4k0 => (
    letO y4k0 fun w20 =>
    some w20)
  | .inr y4m0 =>
    letO y4m0 fun y4k1 =>
    letO y4k1 fun w21 =>
    some w21)
set_option maxHeartbeats 4000000 in
theorem run_laws_heldRectSS (a0 : List (List TRect)) (a1 : Int) (r : Int) (h : F_laws_heldRectSS a0 a1 = some r) : Fun Tryz.prog 13 [.c (.bs (len a0) 1 (row gd (encL len gd 4 (encRect)) a0)), .c (.v (.int .i64 a1))] [] (.c (.v (.int .i64 r))) [] true := by
 refine ow [] Tryz.func13 Tryz.ntmps13 ?_; unfold F_laws_heldRectSS at h; unfold L_laws_heldRectSS_x3 at h; have hf_laws_heldRectS := @run_laws_heldRectS; generalize hLEN : @len = LEN, hGD : @gd = GD, hA : std = A, hP : Tryz.prog = P at *; cbv
 revert h; refine lc (fun x => (sparse 21 [(0, .c (.bs (LEN a0) 1 (row GD (encL LEN GD 4 (encRect)) a0))), (1, .c (.v (.int .i64 x.1))), (5, .c (.v (.int .i64 x.2)))] [])) (fun y e s => (match y with | .inl w => e = .ret ∧ s.le (sparse 21 [(4, .c (.v (.int .i64 w)))] []) | .inr w0 => (fun (w : Int) => e = .exit 0 ∧ s.le (sparse 21 [(1, .c (.v (.int .i64 w)))] [])) w0)) zb ?_ ?_
 ·rintro ⟨v1, v2⟩ z h K hK hY; replace h := oz (oz h); dsimp only at h; cbv; revert h; refine fk ?_ ?_ <;> intro h <;> cbv
  ·revert h; refine ra fun c15 h => ?_; revert h; refine rk0 (hf_laws_heldRectS _ _) fun y16 h => ?_; cbv; revert h; refine fk ?_ ?_ <;> intro h <;> cbv
   ·exact dy
   exact dm
  exact dy
 intro y4 h e13 s14 q12 hne; rcases y4 with y4k0 | y4m0
 ·replace h := h; obtain ⟨rfl, q12⟩ := q12; revert h; refine rz fun h => ?_; cbv; injection h with h; subst h; exact ⟨_, q12, lR _, zo, rfl⟩
 ·revert h; refine rz fun h => ?_; obtain ⟨rfl, q12⟩ := q12; revert h; refine rz fun h => ?_; cbv; refine ⟨_, q12, ?_⟩; cbv; exact df

/-- laws.FnExactWindowLayers -/
noncomputable def F_laws_FnExactWindowLayers (a0 : TLibrary) (a1 : Int) (a2 : TRect) : Option (Bool) :=
 (F_laws_szLibrary a0 1048576).bind fun y1 =>
 br (std.lt y1 0)
 (some true)
 ((F_laws_toLibrary a0).bind fun y3 =>
 (F_laws_toRect a2).bind fun y5 =>
 (F_spec_WindowLayers y3 a1 y5).bind fun y7 =>
 (F_laws_toLibrary a0).bind fun y9 =>
 (F_laws_toRect a2).bind fun y11 =>
 (F_impl_WindowLayers y9 a1 y11).bind fun y13 =>
 ((
    (F_laws_eqRectSS y13.1 y7.1).bind fun y22 =>
    br (!(y22))
    (some true)
    (some (std.not (std.eq y13.2 y7.2)))
  ) : Option (Bool)).bind fun y15 =>
 letO y15 fun w21 =>
 br w21
 (some false)
 ((F_laws_toLibrary a0).bind fun y25 =>
 (F_laws_eqLibrary y9 y25).bind fun y27 =>
 br (!(y27))
 (some false)
 ((F_laws_markLibrary_mob y9 1).bind fun y29 =>
 req (len y29.2 = len y9.fCells) <|
 ((
    br (std.lt y29.1 0)
    (some true)
    ((F_laws_eqRectSS y13.1 y7.1).bind fun y38 =>
    br (!(y38))
    (some true)
    (some (std.not (std.eq y13.2 y7.2))))
  ) : Option (Bool)).bind fun y31 =>
 letO y31 fun w37 =>
 br w37
 (some false)
 ((F_laws_markRectSS_mob y13.1 1).bind fun y42 =>
 req (len y42.2 = len y13.1) <|
 (F_laws_heldRectSS y42.2 1).bind fun y44 =>
 req (len y13.1 = len y42.2) <|
 br (std.lt y44 0)
 (some false)
 (br (std.not (std.eq y44 y42.1))
 (some false)
 ((F_laws_toLibrary a0).bind fun y46 =>
 (F_laws_toRect a2).bind fun y48 =>
 (F_impl_WindowLayers y46 a1 y48).bind fun y50 =>
 ((
    (F_laws_eqRectSS y50.1 y7.1).bind fun y59 =>
    br (!(y59))
    (some true)
    (some (std.not (std.eq y50.2 y7.2)))
  ) : Option (Bool)).bind fun y52 =>
 letO y52 fun w58 =>
 br w58
 (some false)
 ((F_laws_heldRectSS y42.2 1).bind fun y62 =>
 req (len y13.1 = len y42.2) <|
 br (std.lt y62 0)
 (some false)
 (br (std.not (std.eq y62 y42.1))
 (some false)
 (some true)))))))))
set_option maxHeartbeats 4000000 in
theorem run_laws_FnExactWindowLayers (a0 : TLibrary) (a1 : Int) (a2 : TRect) (r : Bool) (h : F_laws_FnExactWindowLayers a0 a1 a2 = some r) : Fun Tryz.prog 3 [.agg [.bs (len a0.fCells) 4 (row gd (encCell len gd) a0.fCells)], .c (.v (.int .i64 a1)), .agg [.v (.int .i64 a2.fX0), .v (.int .i64 a2.fY0), .v (.int .i64 a2.fX1), .v (.int .i64 a2.fY1)]] [] (.c (.v (.bool r))) [] true := by
 refine ow [8, 14, 25] Tryz.func3 Tryz.ntmps3 ?_; unfold F_laws_FnExactWindowLayers at h; have hf_impl_WindowLayers := @run_impl_WindowLayers; have hf_laws_eqLibrary := @run_laws_eqLibrary; have hf_laws_eqRectSS := @run_laws_eqRectSS; have hf_laws_heldRectSS := @run_laws_heldRectSS; have hf_laws_markLibrary_mob := @run_laws_markLibrary_mob; have hf_laws_markRectSS_mob := @run_laws_markRectSS_mob
 have hf_laws_szLibrary := @run_laws_szLibrary; have hf_laws_toLibrary := @run_laws_toLibrary; have hf_laws_toRect := @run_laws_toRect; have hf_spec_WindowLayers := @run_spec_WindowLayers; generalize hLEN : @len = LEN, hGD : @gd = GD, hA : std = A, hP : Tryz.prog = P at *; cbv; revert h; refine rk0 (hf_laws_szLibrary _ _) fun y1 h => ?_; cbv; revert h; refine fk ?_ ?_ <;> intro h <;> cbv
 ·exact df
 revert h; refine rk [] [(64000, 1600)] (hf_laws_toLibrary _) (fun _ => zf) fun y3 h => ⟨_, rfl, _, _, rfl, fun _ _ _ _ => .refl _, ?_⟩
 cbv; revert h; refine rk0 (hf_laws_toRect _) fun y5 h => ?_; cbv; revert h; refine rk [] [(64000, 1856)] (hf_spec_WindowLayers _ _ _) (fun _ => zg (les_cons (le_agg ⟨give_osD (rf_oncCell) (ln_oncCell) rfl rfl rfl, trivial⟩) (les_cons (lR _) (les_cons (lR _) (les_nil))))) fun y7 h => ⟨_, rfl, _, _, rfl, fun _ _ _ _ => .refl _, ?_⟩
 cbv; revert h; refine rk [] [(64000, 2112)] (hf_laws_toLibrary _) (fun _ => zf) fun y9 h => ⟨_, rfl, _, _, rfl, fun _ _ _ _ => .refl _, ?_⟩
 cbv; revert h; refine rk0 (hf_laws_toRect _) fun y11 h => ?_; cbv; revert h; refine rk [] [(64000, 2496)] (hf_impl_WindowLayers _ _ _) (fun _ => zg (les_cons (le_agg ⟨give_osD (rf_oncCell) (ln_oncCell) rfl rfl rfl, trivial⟩) (les_cons (lR _) (les_cons (lR _) (les_nil))))) fun y13 h => ⟨_, rfl, _, _, rfl, fun _ _ _ _ => .refl _, ?_⟩
 cbv
 revert h; refine cu (fun y15 => (sparse 109 [(1, .c (.v (.int .i64 a1))), (3, .c (.ptr 192 0)), (5, .c (.ptr 320 0)), (8, .c (.os 1856 0 (LEN y7.1))), (9, .c (.v (.int .i64 y7.2))), (10, .c (.ptr 640 0)), (11, .c (.os 2496 0 (LEN y13.1))), (12, .c (.v (.int .i64 y13.2))), (50, .c (.v (.bool y15)))] [(192, .var [.bs (LEN a0.fCells) 4 (row GD (encCell LEN GD) a0.fCells)]), (320, .var [.v (.int .i64 a2.fX0), .v (.int .i64 a2.fY0), .v (.int .i64 a2.fX1), .v (.int .i64 a2.fY1)]), (1856, .arr .rw [] (LEN y7.1) 1 (row GD (oncL LEN GD 4 (encRect)) y7.1)), (640, .var [.os 2112 0 (LEN y9.fCells)]), (2496, .arr .rw [] (LEN y13.1) 1 (row GD (oncL LEN GD 4 (encRect)) y13.1)), (2112, .arr .rw [] (LEN y9.fCells) 4 (row GD (oncCell LEN GD) y9.fCells))])) ?_ fun w21 => rz fun h => ?_
 ·intro y15 S hS h; cbv; revert h; refine rk [] [] (hf_laws_eqRectSS _ _) (fun _ => zg (les_cons (give_osD (fun _ _ => rfl) (fun _ _ => rfl) rfl rfl rfl) (les_cons (give_osD (fun _ _ => rfl) (fun _ _ => rfl) rfl rfl rfl) (les_nil)))) fun y22 h => ?_; cbv; revert h; refine fk ?_ ?_ <;> intro h <;> cbv
  ·exact dn
  exact dn
 cbv; revert h; refine fk ?_ ?_ <;> intro h <;> cbv
 ·exact df
 revert h; refine rk [] [(64000, 3392)] (hf_laws_toLibrary _) (fun _ => zf) fun y25 h => ⟨_, rfl, _, _, rfl, fun _ _ _ _ => .refl _, ?_⟩
 cbv; revert h; refine rk [] [] (hf_laws_eqLibrary _ _) (fun _ => zg (les_cons (le_agg ⟨give_osD (rf_oncCell) (ln_oncCell) rfl rfl rfl, trivial⟩) (les_cons (le_agg ⟨give_osD (rf_oncCell) (ln_oncCell) rfl rfl rfl, trivial⟩) (les_nil)))) fun y27 h => ?_; cbv; revert h; refine fk ?_ ?_ <;> intro h <;> cbv
 ·exact df
 revert h; refine rb fun y29 hy30 => rq fun c73 h => ?_; refine rc [(5, 2112)] [(5, 2112)] (hf_laws_markLibrary_mob _ _ _ hy30) yf ⟨_, rfl, LEN y9.fCells, _, c73, fun _ _ _ _ => .refl _, ?_⟩; cbv
 revert h; refine cu (fun y31 => (sparse 109 [(1, .c (.v (.int .i64 a1))), (3, .c (.ptr 192 0)), (5, .c (.ptr 320 0)), (8, .c (.os 1856 0 (LEN y7.1))), (9, .c (.v (.int .i64 y7.2))), (11, .c (.os 2496 0 (LEN y13.1))), (71, .c (.v (.bool y31)))] [(192, .var [.bs (LEN a0.fCells) 4 (row GD (encCell LEN GD) a0.fCells)]), (320, .var [.v (.int .i64 a2.fX0), .v (.int .i64 a2.fY0), .v (.int .i64 a2.fX1), .v (.int .i64 a2.fY1)]), (1856, .arr .rw [] (LEN y7.1) 1 (row GD (oncL LEN GD 4 (encRect)) y7.1)), (2496, .arr .rw [] (LEN y13.1) 1 (row GD (oncL LEN GD 4 (encRect)) y13.1))])) ?_ fun w37 => rz fun h => ?_
 ·intro y31 S hS h; cbv; revert h; refine fk ?_ ?_ <;> intro h <;> cbv
  ·exact dn
  revert h; refine rk [] [] (hf_laws_eqRectSS _ _) (fun _ => zg (les_cons (give_osD (fun _ _ => rfl) (fun _ _ => rfl) rfl rfl rfl) (les_cons (give_osD (fun _ _ => rfl) (fun _ _ => rfl) rfl rfl rfl) (les_nil)))) fun y38 h => ?_; cbv; revert h; refine fk ?_ ?_ <;> intro h <;> cbv
  ·exact dn
  exact dn
 cbv; revert h; refine fk ?_ ?_ <;> intro h <;> cbv
 ·exact df
 revert h; refine rb fun y42 hy43 => rq fun c71 h => ?_; refine rc [(5, 2496)] [(5, 2496)] (hf_laws_markRectSS_mob _ _ _ hy43) yf ⟨_, rfl, LEN y13.1, _, c71, fun _ _ _ _ => .refl _, ?_⟩; cbv; revert h; refine rb fun y44 hy45 => rq fun c70 h => ?_
 refine rc [] [] (hf_laws_heldRectSS _ _ _ hy45) (zg (les_cons (give_osD (fun _ _ => rfl) (fun _ _ => rfl) rfl rfl c70) (les_cons (lR _) (les_nil)))) ?_; cbv; revert h; refine fk ?_ ?_ <;> intro h <;> cbv
 ·exact df
 revert h; refine fk ?_ ?_ <;> intro h <;> cbv
 ·exact df
 revert h; refine rk [] [(64000, 5440)] (hf_laws_toLibrary _) (fun _ => zf) fun y46 h => ⟨_, rfl, _, _, rfl, fun _ _ _ _ => .refl _, ?_⟩
 cbv; revert h; refine rk0 (hf_laws_toRect _) fun y48 h => ?_; cbv; revert h; refine rk [] [(64000, 5696)] (hf_impl_WindowLayers _ _ _) (fun _ => zg (les_cons (le_agg ⟨give_osD (rf_oncCell) (ln_oncCell) rfl rfl rfl, trivial⟩) (les_cons (lR _) (les_cons (lR _) (les_nil))))) fun y50 h => ⟨_, rfl, _, _, rfl, fun _ _ _ _ => .refl _, ?_⟩
 cbv; revert h; refine cu (fun y52 => (sparse 109 [(11, .c (.os 2496 0 (LEN y13.1))), (14, .c (.v (.int .i64 y42.1))), (100, .c (.v (.bool y52)))] [(2496, .arr .rw [] (LEN y13.1) 1 (row GD (oncL LEN GD 4 (encRect)) y42.2))])) ?_ fun w58 => rz fun h => ?_
 ·intro y52 S hS h; cbv; revert h; refine rk [] [] (hf_laws_eqRectSS _ _) (fun _ => zg (les_cons (give_osD (fun _ _ => rfl) (fun _ _ => rfl) rfl rfl rfl) (les_cons (give_osD (fun _ _ => rfl) (fun _ _ => rfl) rfl rfl rfl) (les_nil)))) fun y59 h => ?_; cbv; revert h; refine fk ?_ ?_ <;> intro h <;> cbv
  ·exact dn
  exact dn
 cbv; revert h; refine fk ?_ ?_ <;> intro h <;> cbv
 ·exact df
 revert h; refine rb fun y62 hy63 => rq fun c66 h => ?_; refine rc [] [] (hf_laws_heldRectSS _ _ _ hy63) (zg (les_cons (give_osD (fun _ _ => rfl) (fun _ _ => rfl) rfl rfl c66) (les_cons (lR _) (les_nil)))) ?_; cbv; revert h; refine fk ?_ ?_ <;> intro h <;> cbv
 ·exact df
 revert h; refine fk ?_ ?_ <;> intro h <;> cbv
 ·exact df
 exact df
theorem op_9 (d : Nat) : Opens T (d + 1) 9 (clS) (wfS) := op_str (show T 9 = some d9 from rfl) rfl
theorem op_2 (d : Nat) : Opens T (d + 1) 2 (clI .i64) (wfI .i64) := op_int .i64 (show T 2 = some d2 from rfl) rfl
def clRect (e : TRect) : List AC := clI .i64 e.fX0 ++ (clI .i64 e.fY0 ++ (clI .i64 e.fX1 ++ (clI .i64 e.fY1 ++ ([]))))
def wfRect (e : TRect) : Prop := wfI .i64 e.fX0 ∧ wfI .i64 e.fY0 ∧ wfI .i64 e.fX1 ∧ wfI .i64 e.fY1
theorem op_26 (d : Nat) : Opens T (d + 2) 26 (clRect) (wfRect) := by
  intro cs hs
  obtain ⟨a0, b0, rfl, h0, a1, b1, rfl, h1, a2, b2, rfl, h2, a3, b3, rfl, h3, rfl⟩ := hs
  obtain ⟨e0, w0, r0⟩ := op_2 (d + 0) a0 h0
  obtain ⟨e1, w1, r1⟩ := op_2 (d + 0) a1 h1
  obtain ⟨e2, w2, r2⟩ := op_2 (d + 0) a2 h2
  obtain ⟨e3, w3, r3⟩ := op_2 (d + 0) a3 h3
  exact ⟨TRect.mk e0 e1 e2 e3, ⟨w0, w1, w2, w3⟩, rlist_app r0 (rlist_app r1 (rlist_app r2 (rlist_app r3 (trivial))))⟩
def clShape (e : TShape) : List AC := clI .i64 e.fLayer ++ (clRect e.fBox ++ ([]))
def wfShape (e : TShape) : Prop := wfI .i64 e.fLayer ∧ wfRect e.fBox
theorem op_146 (d : Nat) : Opens T (d + 3) 146 (clShape) (wfShape) := by
  intro cs hs
  obtain ⟨a0, b0, rfl, h0, a1, b1, rfl, h1, rfl⟩ := hs
  obtain ⟨e0, w0, r0⟩ := op_2 (d + 1) a0 h0
  obtain ⟨e1, w1, r1⟩ := op_26 (d + 0) a1 h1
  exact ⟨TShape.mk e0 e1, ⟨w0, w1⟩, rlist_app r0 (rlist_app r1 (trivial))⟩
theorem op_71 (d : Nat) : Opens T (d + 4) 71 (clL 5 (encShape)) (wfL wfShape) := op_slice (e := 146) (sz := 5) (show T 71 = some d71 from rfl) rfl (show T 146 = some d146 from rfl) rfl (fun x j hj => by match j, hj with | 0, _ => rfl | 1, _ => rfl | 2, _ => rfl | 3, _ => rfl | 4, _ => rfl | (j_ + 5), h_ => exact absurd h_ (by omega)) (op_146 d)
def clPoint (e : TPoint) : List AC := clI .i64 e.fX ++ (clI .i64 e.fY ++ ([]))
def wfPoint (e : TPoint) : Prop := wfI .i64 e.fX ∧ wfI .i64 e.fY
theorem op_135 (d : Nat) : Opens T (d + 2) 135 (clPoint) (wfPoint) := by
  intro cs hs
  obtain ⟨a0, b0, rfl, h0, a1, b1, rfl, h1, rfl⟩ := hs
  obtain ⟨e0, w0, r0⟩ := op_2 (d + 0) a0 h0
  obtain ⟨e1, w1, r1⟩ := op_2 (d + 0) a1 h1
  exact ⟨TPoint.mk e0 e1, ⟨w0, w1⟩, rlist_app r0 (rlist_app r1 (trivial))⟩
def clLabel (e : TLabel) : List AC := clI .i64 e.fLayer ++ (clPoint e.fAt ++ (clS e.fName ++ ([])))
def wfLabel (e : TLabel) : Prop := wfI .i64 e.fLayer ∧ wfPoint e.fAt ∧ wfS e.fName
theorem op_137 (d : Nat) : Opens T (d + 3) 137 (clLabel) (wfLabel) := by
  intro cs hs
  obtain ⟨a0, b0, rfl, h0, a1, b1, rfl, h1, a2, b2, rfl, h2, rfl⟩ := hs
  obtain ⟨e0, w0, r0⟩ := op_2 (d + 1) a0 h0
  obtain ⟨e1, w1, r1⟩ := op_135 (d + 0) a1 h1
  obtain ⟨e2, w2, r2⟩ := op_9 (d + 1) a2 h2
  exact ⟨TLabel.mk e0 e1 e2, ⟨w0, w1, w2⟩, rlist_app r0 (rlist_app r1 (rlist_app r2 (trivial)))⟩
theorem op_72 (d : Nat) : Opens T (d + 4) 72 (clL 4 (encLabel)) (wfL wfLabel) := op_slice (e := 137) (sz := 4) (show T 72 = some d72 from rfl) rfl (show T 137 = some d137 from rfl) rfl (fun x j hj => by match j, hj with | 0, _ => rfl | 1, _ => rfl | 2, _ => rfl | 3, _ => rfl | (j_ + 4), h_ => exact absurd h_ (by omega)) (op_137 d)
def clTransform (e : TTransform) : List AC := clI .i64 e.fOrientation ++ (clI .i64 e.fX ++ (clI .i64 e.fY ++ ([])))
def wfTransform (e : TTransform) : Prop := wfI .i64 e.fOrientation ∧ wfI .i64 e.fX ∧ wfI .i64 e.fY
theorem op_149 (d : Nat) : Opens T (d + 2) 149 (clTransform) (wfTransform) := by
  intro cs hs
  obtain ⟨a0, b0, rfl, h0, a1, b1, rfl, h1, a2, b2, rfl, h2, rfl⟩ := hs
  obtain ⟨e0, w0, r0⟩ := op_2 (d + 0) a0 h0
  obtain ⟨e1, w1, r1⟩ := op_2 (d + 0) a1 h1
  obtain ⟨e2, w2, r2⟩ := op_2 (d + 0) a2 h2
  exact ⟨TTransform.mk e0 e1 e2, ⟨w0, w1, w2⟩, rlist_app r0 (rlist_app r1 (rlist_app r2 (trivial)))⟩
def clInstance (e : TInstance) : List AC := clI .i64 e.fCell ++ (clTransform e.fPlace ++ (clI .i64 e.fColumns ++ (clI .i64 e.fRows ++ (clI .i64 e.fStepX ++ (clI .i64 e.fStepY ++ ([]))))))
def wfInstance (e : TInstance) : Prop := wfI .i64 e.fCell ∧ wfTransform e.fPlace ∧ wfI .i64 e.fColumns ∧ wfI .i64 e.fRows ∧ wfI .i64 e.fStepX ∧ wfI .i64 e.fStepY
theorem op_151 (d : Nat) : Opens T (d + 3) 151 (clInstance) (wfInstance) := by
  intro cs hs
  obtain ⟨a0, b0, rfl, h0, a1, b1, rfl, h1, a2, b2, rfl, h2, a3, b3, rfl, h3, a4, b4, rfl, h4, a5, b5, rfl, h5, rfl⟩ := hs
  obtain ⟨e0, w0, r0⟩ := op_2 (d + 1) a0 h0
  obtain ⟨e1, w1, r1⟩ := op_149 (d + 0) a1 h1
  obtain ⟨e2, w2, r2⟩ := op_2 (d + 1) a2 h2
  obtain ⟨e3, w3, r3⟩ := op_2 (d + 1) a3 h3
  obtain ⟨e4, w4, r4⟩ := op_2 (d + 1) a4 h4
  obtain ⟨e5, w5, r5⟩ := op_2 (d + 1) a5 h5
  exact ⟨TInstance.mk e0 e1 e2 e3 e4 e5, ⟨w0, w1, w2, w3, w4, w5⟩, rlist_app r0 (rlist_app r1 (rlist_app r2 (rlist_app r3 (rlist_app r4 (rlist_app r5 (trivial))))))⟩
theorem op_73 (d : Nat) : Opens T (d + 4) 73 (clL 8 (encInstance)) (wfL wfInstance) := op_slice (e := 151) (sz := 8) (show T 73 = some d73 from rfl) rfl (show T 151 = some d151 from rfl) rfl (fun x j hj => by match j, hj with | 0, _ => rfl | 1, _ => rfl | 2, _ => rfl | 3, _ => rfl | 4, _ => rfl | 5, _ => rfl | 6, _ => rfl | 7, _ => rfl | (j_ + 8), h_ => exact absurd h_ (by omega)) (op_151 d)
def clCell (e : TCell) : List AC := clS e.fName ++ (clL 5 (encShape) e.fShapes ++ (clL 4 (encLabel) e.fLabels ++ (clL 8 (encInstance) e.fInstances ++ ([]))))
def wfCell (e : TCell) : Prop := wfS e.fName ∧ wfL wfShape e.fShapes ∧ wfL wfLabel e.fLabels ∧ wfL wfInstance e.fInstances
theorem op_75 (d : Nat) : Opens T (d + 5) 75 (clCell) (wfCell) := by
  intro cs hs
  obtain ⟨a0, b0, rfl, h0, a1, b1, rfl, h1, a2, b2, rfl, h2, a3, b3, rfl, h3, rfl⟩ := hs
  obtain ⟨e0, w0, r0⟩ := op_9 (d + 3) a0 h0
  obtain ⟨e1, w1, r1⟩ := op_71 (d + 0) a1 h1
  obtain ⟨e2, w2, r2⟩ := op_72 (d + 0) a2 h2
  obtain ⟨e3, w3, r3⟩ := op_73 (d + 0) a3 h3
  exact ⟨TCell.mk e0 e1 e2 e3, ⟨w0, w1, w2, w3⟩, rlist_app r0 (rlist_app r1 (rlist_app r2 (rlist_app r3 (trivial))))⟩
theorem op_22 (d : Nat) : Opens T (d + 6) 22 (clL 4 (encCell len gd)) (wfL wfCell) := op_slice (e := 75) (sz := 4) (show T 22 = some d22 from rfl) rfl (show T 75 = some d75 from rfl) rfl (fun x j hj => by match j, hj with | 0, _ => rfl | 1, _ => rfl | 2, _ => rfl | 3, _ => rfl | (j_ + 4), h_ => exact absurd h_ (by omega)) (op_75 d)
def clLibrary (e : TLibrary) : List AC := clL 4 (encCell len gd) e.fCells ++ ([])
def wfLibrary (e : TLibrary) : Prop := wfL wfCell e.fCells
theorem op_24 (d : Nat) : Opens T (d + 7) 24 (clLibrary) (wfLibrary) := by
  intro cs hs
  obtain ⟨a0, b0, rfl, h0, rfl⟩ := hs
  obtain ⟨e0, w0, r0⟩ := op_22 (d + 0) a0 h0
  exact ⟨TLibrary.mk e0, w0, rlist_app r0 (trivial)⟩
theorem open_24 {H : Type} {enc : TypeId × Value → H} {W : World} {spare : Nat → Bool} {held : Bool} {r : Reach} {base : Nat} {v : Value} {x : DataW H} {ps : List MemPlace}
    (hv : Value.okWide Tryz.prog W r base 24 v) (h : DataW.Trod enc Tryz.prog W 0 spare held 24 v x ps) : ∃ e : TLibrary, wfLibrary e ∧ RelV (RelI (fun b => b < W.heap.size) W) (.agg [.bs (len e.fCells) 4 (row gd (encCell len gd) e.fCells)]) v :=
  opened_agg tok (op_24 0) (by kernel_rfl) (tok 24 d24 rfl).1 hv h
theorem open_26 {H : Type} {enc : TypeId × Value → H} {W : World} {spare : Nat → Bool} {held : Bool} {r : Reach} {base : Nat} {v : Value} {x : DataW H} {ps : List MemPlace}
    (hv : Value.okWide Tryz.prog W r base 26 v) (h : DataW.Trod enc Tryz.prog W 0 spare held 26 v x ps) : ∃ e : TRect, wfRect e ∧ RelV (RelI (fun b => b < W.heap.size) W) (.agg [.v (.int .i64 e.fX0), .v (.int .i64 e.fY0), .v (.int .i64 e.fX1), .v (.int .i64 e.fY1)]) v :=
  opened_agg tok (op_26 0) (by kernel_rfl) (tok 26 d26 rfl).1 hv h
end Go.Proofs.YtpobpihakgegbaaGreat.AM
