/-
  What the functions that the law reaches compute, and that they do. No condition.
-/
import Derived.Test.YtpobpihakgegbaaAnSU
import Derived.Test.YtpobpihakgegbaaAnE
namespace Go.Proofs.Ytpobpihakgegbaa.AM
open Go Go.Proofs Go.RowKit
set_option linter.unusedVariables false
set_option linter.unusedSimpArgs false
set_option maxRecDepth 100000

/-- spec.l12Visited -/
noncomputable def F_spec_l12Visited (a0 : TLibrary) (a1 : Int) (a2 : TRect) : Option (List TOccurrence) :=
 (F_spec_l12Visit_mbxbb (TLibrary.mk a0.fCells) ([] : List TOccurrence) (TOccurrence.mk a1 (TTransform.mk 0 0 0) ([] : List Int)) (TRect.mk a2.fX0 a2.fY0 a2.fX1 a2.fY1)).bind fun y2 =>
 some y2
set_option maxHeartbeats 4000000 in
theorem run_spec_l12Visited (a0 : TLibrary) (a1 : Int) (a2 : TRect) (r : List TOccurrence) (h : F_spec_l12Visited a0 a1 a2 = some r) : Fun Try.prog 31 [.agg [.bs (len a0.fCells) 4 (row gd (encCell len gd) a0.fCells)], .c (.v (.int .i64 a1)), .agg [.v (.int .i64 a2.fX0), .v (.int .i64 a2.fY0), .v (.int .i64 a2.fX1), .v (.int .i64 a2.fY1)]] [] (.c (.os 64000 0 (len r))) [(64000, .arr .rw [] (len r) 5 (row gd (encOccurrence len gd) r))] false := by
 refine ow [] Try.func31 Try.ntmps31 ?_ (hv := (fun h => by cases h)); unfold F_spec_l12Visited at h; have hf_spec_l12Visit_mbxbb := @run_spec_l12Visit_mbxbb; generalize hLEN : @len = LEN, hGD : @gd = GD, hA : std = A, hP : Try.prog = P at *; cbv; have e1 : 0 = LEN ([] : List TOccurrence) := by subst hLEN; rfl
 refine ⟨_, (co e1), _, row GD (oncOccurrence LEN GD) ([] : List TOccurrence), e1, wkOf ?_, ?_⟩
 ·intro i hi j hj; rw [← e1] at hi; subst hGD; omega
 cbv
 revert h; refine rk [(5, 512)] [(64000, 768)] (hf_spec_l12Visit_mbxbb _ _ _ _) (fun _ => ⟨les_cons (lR _) (les_cons (lR _) (les_cons (le_agg ⟨lR _, lR _, lR _, lR _, (by subst hLEN; exact le_nil_bs), trivial⟩) (les_cons (lR _) (les_nil)))), ⟨⟨fun hw => hw, fun c hc => (by cases hc), .inl rfl, rfl, rfl, (by subst hLEN; intro i hi; exact absurd hi (Nat.not_lt_zero i))⟩, trivial⟩, rfl, rfl, rfl, rfl, ⟨fun h => absurd (show (64000 : Nat) % 2 = 1 from h) (by decide), trivial⟩, rfl⟩) fun y2 h => ⟨_, rfl, _, _, rfl, fun _ _ _ _ => .refl _, ?_⟩
 cbv; injection h with h; subst h; exact ⟨_, le_ren 768 64000 (by decide) rfl, lR _, zo, rfl⟩

/-- spec.VisitedCount -/
noncomputable def F_spec_VisitedCount (a0 : TLibrary) (a1 : Int) (a2 : TRect) : Option (Int) :=
 ((
    (F_spec_l09Has (TLibrary.mk a0.fCells) a1).bind fun y8 =>
    br (!(y8))
    (some true)
    ((F_spec_l09Rect (TRect.mk a2.fX0 a2.fY0 a2.fX1 a2.fY1)).bind fun y10 =>
    br (!(y10))
    (some true)
    ((F_spec_ElementCount (TLibrary.mk a0.fCells) a1).bind fun y12 =>
    some (std.lt 200 y12)))
  ) : Option (Bool)).bind fun y1 =>
 letO y1 fun w7 =>
 br w7
 (some (-1))
 ((F_spec_l12Visited (TLibrary.mk a0.fCells) a1 (TRect.mk a2.fX0 a2.fY0 a2.fX1 a2.fY1)).bind fun y16 =>
 some (std.ofN (len y16)))
set_option maxHeartbeats 4000000 in
theorem run_spec_VisitedCount (a0 : TLibrary) (a1 : Int) (a2 : TRect) (r : Int) (h : F_spec_VisitedCount a0 a1 a2 = some r) : Fun Try.prog 13 [.agg [.bs (len a0.fCells) 4 (row gd (encCell len gd) a0.fCells)], .c (.v (.int .i64 a1)), .agg [.v (.int .i64 a2.fX0), .v (.int .i64 a2.fY0), .v (.int .i64 a2.fX1), .v (.int .i64 a2.fY1)]] [] (.c (.v (.int .i64 r))) [] true := by
 refine ow [1] Try.func13 Try.ntmps13 ?_; unfold F_spec_VisitedCount at h; have hf_spec_ElementCount := @run_spec_ElementCount; have hf_spec_l09Has := @run_spec_l09Has; have hf_spec_l09Rect := @run_spec_l09Rect; have hf_spec_l12Visited := @run_spec_l12Visited; generalize hLEN : @len = LEN, hGD : @gd = GD, hA : std = A, hP : Try.prog = P at *; cbv
 revert h; refine cu (fun y1 => (sparse 27 [(1, .c (.v (.int .i64 a1))), (3, .c (.ptr 192 0)), (5, .c (.ptr 320 0)), (21, .c (.v (.bool y1)))] [(192, .var [.bs (LEN a0.fCells) 4 (row GD (encCell LEN GD) a0.fCells)]), (320, .var [.v (.int .i64 a2.fX0), .v (.int .i64 a2.fY0), .v (.int .i64 a2.fX1), .v (.int .i64 a2.fY1)])])) ?_ fun w7 => rz fun h => ?_
 ·intro y1 S hS h; cbv; revert h; refine rk0 (hf_spec_l09Has _ _) fun y8 h => ?_; cbv; revert h; refine fk ?_ ?_ <;> intro h <;> cbv
  ·exact dn
  revert h; refine rk0 (hf_spec_l09Rect _) fun y10 h => ?_; cbv; revert h; refine fk ?_ ?_ <;> intro h <;> cbv
  ·exact dn
  revert h; refine rk0 (hf_spec_ElementCount _ _) fun y12 h => ?_; cbv; exact dn
 cbv; revert h; refine fk ?_ ?_ <;> intro h <;> cbv
 ·exact df
 revert h; refine rk [] [(64000, 1600)] (hf_spec_l12Visited _ _ _) (fun _ => zf) fun y16 h => ⟨_, rfl, _, _, rfl, fun _ _ _ _ => .refl _, ?_⟩
 cbv; exact df

/-- impl.windowCode -/
noncomputable def F_impl_windowCode (a0 : TLibrary) (a1 : Int) (a2 : Int) (a3 : TRect) : Option (Int) :=
 ((
    (F_impl_IsValidLibrary a0).bind fun y8 =>
    br (!(y8))
    (some true)
    ((F_impl_IsValidRect a3).bind fun y10 =>
    some (!(y10)))
  ) : Option (Bool)).bind fun y1 =>
 letO y1 fun w7 =>
 br w7
 (some 1)
 ((F_impl_hasCell a0 a1).bind fun y13 =>
 br (!(y13))
 (some 5)
 ((F_impl_within a2 0 7).bind fun y15 =>
 br (!(y15))
 (some 2)
 ((F_impl_elementCount a0 a1).bind fun y17 =>
 br (std.lt 200 y17)
 (some 3)
 (some 0))))
set_option maxHeartbeats 4000000 in
theorem run_impl_windowCode (a0 : TLibrary) (a1 : Int) (a2 : Int) (a3 : TRect) (r : Int) (h : F_impl_windowCode a0 a1 a2 a3 = some r) : Fun Try.prog 18 [.agg [.bs (len a0.fCells) 4 (row gd (encCell len gd) a0.fCells)], .c (.v (.int .i64 a1)), .c (.v (.int .i64 a2)), .agg [.v (.int .i64 a3.fX0), .v (.int .i64 a3.fY0), .v (.int .i64 a3.fX1), .v (.int .i64 a3.fY1)]] [] (.c (.v (.int .i64 r))) [] true := by
 refine ow [1] Try.func18 Try.ntmps18 ?_; unfold F_impl_windowCode at h; have hf_impl_IsValidLibrary := @run_impl_IsValidLibrary; have hf_impl_IsValidRect := @run_impl_IsValidRect; have hf_impl_elementCount := @run_impl_elementCount; have hf_impl_hasCell := @run_impl_hasCell; have hf_impl_within := @run_impl_within; generalize hLEN : @len = LEN, hGD : @gd = GD, hA : std = A, hP : Try.prog = P at *
 cbv; revert h; refine cu (fun y1 => (sparse 32 [(1, .c (.v (.int .i64 a1))), (2, .c (.v (.int .i64 a2))), (4, .c (.ptr 256 0)), (9, .c (.v (.bool y1)))] [(256, .var [.bs (LEN a0.fCells) 4 (row GD (encCell LEN GD) a0.fCells)])])) ?_ fun w7 => rz fun h => ?_
 ·intro y1 S hS h; cbv; revert h; refine rk0 (hf_impl_IsValidLibrary _) fun y8 h => ?_; cbv; revert h; refine fk ?_ ?_ <;> intro h <;> cbv
  ·exact dn
  revert h; refine rk0 (hf_impl_IsValidRect _) fun y10 h => ?_; cbv; exact dn
 cbv; revert h; refine fk ?_ ?_ <;> intro h <;> cbv
 ·exact df
 revert h; refine rk0 (hf_impl_hasCell _ _) fun y13 h => ?_; cbv; revert h; refine fk ?_ ?_ <;> intro h <;> cbv
 ·exact df
 revert h; refine rk0 (hf_impl_within _ _ _) fun y15 h => ?_; cbv; revert h; refine fk ?_ ?_ <;> intro h <;> cbv
 ·exact df
 revert h; refine rk0 (hf_impl_elementCount _ _) fun y17 h => ?_; cbv; revert h; refine fk ?_ ?_ <;> intro h <;> cbv
 ·exact df
 exact df

noncomputable def L_impl_hits_x20 (a0 : TLibrary) (a1 : List TOccurrence) (a2 : Int) (a3 : TRect) (v2 : Int) : (Int × (List TWindowHit)) → Option ((Int × (List TWindowHit)) ⊕ (((List TWindowHit)))) := fun x20 =>
 letO x20.1 fun v18 =>
 letO x20.2 fun v19 =>
 br (std.lt v18 (std.ofN (len (gd a0.fCells (std.toN (gd a1 (std.toN v2)).fCell)).fShapes)))
 (req (std.inR v18 (len (gd a0.fCells (std.toN (gd a1 (std.toN v2)).fCell)).fShapes)) <|
 (F_impl_moveRect (gd a1 (std.toN v2)).fPlace (gd (gd a0.fCells (std.toN (gd a1 (std.toN v2)).fCell)).fShapes (std.toN v18)).fBox).bind fun y33 =>
 ((
    br (std.eq (gd (gd a0.fCells (std.toN (gd a1 (std.toN v2)).fCell)).fShapes (std.toN v18)).fLayer a2)
    ((F_impl_anywhere y33 a3).bind fun y42 =>
    some y42)
    (some false)
  ) : Option (Bool)).bind fun y35 =>
 letO y35 fun w41 =>
 ((
    br w41
    (((
       (F_slices_Clone_Lint64_int64 (gd a1 (std.toN v2)).fPath).bind fun y59 =>
       letO ([(TWindowHit.mk (gd a1 (std.toN v2)).fCell v18 a2 y33 y59)] : List TWindowHit) fun l61 =>
       req (std.room (std.nadd (len v19) (len l61)) 80) <|
       letO (v19 ++ l61) fun l63 =>
       some l63
     ) : Option ((List TWindowHit))).bind fun y52 =>
    letO y52 fun w58 =>
    some w58)
    (some v19)
  ) : Option ((List TWindowHit))).bind fun y45 =>
 letO y45 fun w51 =>
 some (.inl (std.add .i64 v18 1, w51)))
 (some (.inr v19))
noncomputable def L_impl_hits_x4 (a0 : TLibrary) (a1 : List TOccurrence) (a2 : Int) (a3 : TRect) : (Int × (List TWindowHit)) → Option ((Int × (List TWindowHit)) ⊕ (((List TWindowHit)))) := fun x4 =>
 letO x4.1 fun v2 =>
 letO x4.2 fun v3 =>
 br (std.lt v2 (std.ofN (len a1)))
 (req (std.inR v2 (len a1)) <|
 req (std.inR (gd a1 (std.toN v2)).fCell (len a0.fCells)) <|
 (whileP (σ := Int × (List TWindowHit)) (ρ := ((List TWindowHit))) (L_impl_hits_x20 a0 a1 a2 a3 v2) (0, v3)).bind fun y21 =>
 letO y21 fun y21k0 =>
 letO y21k0 fun w68 =>
 some (.inl (std.add .i64 v2 1, w68)))
 (some (.inr v3))
/-- impl.hits -/
noncomputable def F_impl_hits (a0 : TLibrary) (a1 : List TOccurrence) (a2 : Int) (a3 : TRect) : Option (List TWindowHit) :=
 (whileP (σ := Int × (List TWindowHit)) (ρ := ((List TWindowHit))) (L_impl_hits_x4 a0 a1 a2 a3) (0, ([] : List TWindowHit))).bind fun y5 =>
 letO y5 fun y5k0 =>
 letO y5k0 fun w70 =>
 some w70
set_option maxHeartbeats 4000000 in
theorem run_impl_hits (a0 : TLibrary) (a1 : List TOccurrence) (a2 : Int) (a3 : TRect) (r : List TWindowHit) (h : F_impl_hits a0 a1 a2 a3 = some r) : Fun Try.prog 20 [.agg [.bs (len a0.fCells) 4 (row gd (encCell len gd) a0.fCells)], .c (.bs (len a1) 5 (row gd (encOccurrence len gd) a1)), .c (.v (.int .i64 a2)), .agg [.v (.int .i64 a3.fX0), .v (.int .i64 a3.fY0), .v (.int .i64 a3.fX1), .v (.int .i64 a3.fY1)]] [] (.c (.os 64000 0 (len r))) [(64000, .arr .rw [] (len r) 8 (row gd (oncWindowHit len gd) r))] true := by
 refine ow [9, 10, 100048] Try.func20 Try.ntmps20 ?_ (hv := (fun _ => ⟨trivial, ⟨fun i _ j _ => fl_oncWindowHit _ _, trivial⟩⟩)); unfold F_impl_hits at h; unfold L_impl_hits_x4 at h; unfold L_impl_hits_x20 at h; have hf_impl_anywhere := @run_impl_anywhere; have hf_impl_moveRect := @run_impl_moveRect; have hf_slices_Clone_Lint64_int64 := @run_slices_Clone_Lint64_int64
 generalize hLEN : @len = LEN, hGD : @gd = GD, hA : std = A, hP : Try.prog = P at *; cbv; have e1 : 0 = LEN ([] : List TWindowHit) := by subst hLEN; rfl
 refine ⟨_, (co e1), _, row GD (oncWindowHit LEN GD) ([] : List TWindowHit), e1, wkOf ?_, ?_⟩
 ·intro i hi j hj; rw [← e1] at hi; subst hGD; omega
 cbv
 revert h; refine ln (.exit 0) (fun x => (sparse 64 [(2, .c (.v (.int .i64 a2))), (4, .c (.ptr 256 0)), (7, .c (.ptr 448 0)), (9, .c (.os 960 0 (LEN x.2))), (16, .c (.bs (LEN a1) 5 (row GD (encOccurrence LEN GD) a1))), (17, .c (.v (.int .i64 (A.ofN (LEN a1))))), (18, .c (.v (.int .i64 x.1)))] [(256, .var [.bs (LEN a0.fCells) 4 (row GD (encCell LEN GD) a0.fCells)]), (448, .var [.v (.int .i64 a3.fX0), .v (.int .i64 a3.fY0), .v (.int .i64 a3.fX1), .v (.int .i64 a3.fY1)]), (960, .arr .rw [] (LEN x.2) 8 (row GD (oncWindowHit LEN GD) x.2))])) (fun w => (sparse 64 [(9, .c (.os 960 0 (LEN w)))] [(960, .arr .rw [] (LEN w) 8 (row GD (oncWindowHit LEN GD) w))])) zb ?_ ?_
 ·rintro ⟨v2, v3⟩ z h K hK hY; replace h := oz (oz h); dsimp only at h; cbv; revert h; refine fk ?_ ?_ <;> intro h <;> cbv
  ·revert h; refine ra fun c16 h => ?_; revert h; refine ra fun c17 h => ?_
   revert h; refine ln (.exit 2) (fun x => (sparse 64 [(2, .c (.v (.int .i64 a2))), (4, .c (.ptr 256 0)), (7, .c (.ptr 448 0)), (9, .c (.os 960 0 (LEN x.2))), (11, .c (.ptr 704 0)), (16, .c (.bs (LEN a1) 5 (row GD (encOccurrence LEN GD) a1))), (17, .c (.v (.int .i64 (A.ofN (LEN a1))))), (18, .c (.v (.int .i64 v2))), (28, .c (.bs (LEN (GD a0.fCells (A.toN (GD a1 (A.toN v2)).fCell)).fShapes) 5 (row GD (encShape) (GD a0.fCells (A.toN (GD a1 (A.toN v2)).fCell)).fShapes))), (29, .c (.v (.int .i64 (A.ofN (LEN (GD a0.fCells (A.toN (GD a1 (A.toN v2)).fCell)).fShapes))))), (30, .c (.v (.int .i64 x.1)))] [(256, .var [.bs (LEN a0.fCells) 4 (row GD (encCell LEN GD) a0.fCells)]), (448, .var [.v (.int .i64 a3.fX0), .v (.int .i64 a3.fY0), .v (.int .i64 a3.fX1), .v (.int .i64 a3.fY1)]), (960, .arr .rw [] (LEN x.2) 8 (row GD (oncWindowHit LEN GD) x.2)), (704, .var [.v (.int .i64 (GD a1 (A.toN v2)).fCell), .v (.int .i64 (GD a1 (A.toN v2)).fPlace.fOrientation), .v (.int .i64 (GD a1 (A.toN v2)).fPlace.fX), .v (.int .i64 (GD a1 (A.toN v2)).fPlace.fY), .bs (LEN (GD a1 (A.toN v2)).fPath) 1 (row GD (encI .i64) (GD a1 (A.toN v2)).fPath)])])) (fun w => (sparse 64 [(2, .c (.v (.int .i64 a2))), (4, .c (.ptr 256 0)), (7, .c (.ptr 448 0)), (9, .c (.os 960 0 (LEN w))), (16, .c (.bs (LEN a1) 5 (row GD (encOccurrence LEN GD) a1))), (17, .c (.v (.int .i64 (A.ofN (LEN a1))))), (18, .c (.v (.int .i64 v2)))] [(256, .var [.bs (LEN a0.fCells) 4 (row GD (encCell LEN GD) a0.fCells)]), (448, .var [.v (.int .i64 a3.fX0), .v (.int .i64 a3.fY0), .v (.int .i64 a3.fX1), .v (.int .i64 a3.fY1)]), (960, .arr .rw [] (LEN w) 8 (row GD (oncWindowHit LEN GD) w))])) zb ?_ ?_
   ·rintro ⟨v18, v19⟩ z h K hK hY; replace h := oz (oz h); dsimp only at h; cbv; revert h; refine fk ?_ ?_ <;> intro h <;> cbv
    ·revert h; refine ra fun c32 h => ?_; revert h; refine rk0 (hf_impl_moveRect _ _) fun y33 h => ?_; cbv
     revert h; refine cu (fun y35 => (sparse 64 [(2, .c (.v (.int .i64 a2))), (4, .c (.ptr 256 0)), (7, .c (.ptr 448 0)), (9, .c (.os 960 0 (LEN v19))), (11, .c (.ptr 704 0)), (12, .c (.v (.int .i64 v18))), (14, .c (.ptr 896 0)), (16, .c (.bs (LEN a1) 5 (row GD (encOccurrence LEN GD) a1))), (17, .c (.v (.int .i64 (A.ofN (LEN a1))))), (18, .c (.v (.int .i64 v2))), (28, .c (.bs (LEN (GD a0.fCells (A.toN (GD a1 (A.toN v2)).fCell)).fShapes) 5 (row GD (encShape) (GD a0.fCells (A.toN (GD a1 (A.toN v2)).fCell)).fShapes))), (29, .c (.v (.int .i64 (A.ofN (LEN (GD a0.fCells (A.toN (GD a1 (A.toN v2)).fCell)).fShapes))))), (30, .c (.v (.int .i64 v18))), (48, .c (.v (.bool y35)))] [(256, .var [.bs (LEN a0.fCells) 4 (row GD (encCell LEN GD) a0.fCells)]), (448, .var [.v (.int .i64 a3.fX0), .v (.int .i64 a3.fY0), .v (.int .i64 a3.fX1), .v (.int .i64 a3.fY1)]), (960, .arr .rw [] (LEN v19) 8 (row GD (oncWindowHit LEN GD) v19)), (704, .var [.v (.int .i64 (GD a1 (A.toN v2)).fCell), .v (.int .i64 (GD a1 (A.toN v2)).fPlace.fOrientation), .v (.int .i64 (GD a1 (A.toN v2)).fPlace.fX), .v (.int .i64 (GD a1 (A.toN v2)).fPlace.fY), .bs (LEN (GD a1 (A.toN v2)).fPath) 1 (row GD (encI .i64) (GD a1 (A.toN v2)).fPath)]), (896, .var [.v (.int .i64 y33.fX0), .v (.int .i64 y33.fY0), .v (.int .i64 y33.fX1), .v (.int .i64 y33.fY1)])])) ?_ fun w41 => rz fun h => ?_
     ·intro y35 S hS h; cbv; revert h; refine fk ?_ ?_ <;> intro h <;> cbv
      ·revert h; refine rk0 (hf_impl_anywhere _ _) fun y42 h => ?_; cbv; exact dn
      exact dn
     cbv
     revert h; refine cu (fun y45 => some (sparse 64 [(2, .c (.v (.int .i64 a2))), (4, .c (.ptr 256 0)), (7, .c (.ptr 448 0)), (9, .c (.os 960 0 (LEN y45))), (11, .c (.ptr 704 0)), (16, .c (.bs (LEN a1) 5 (row GD (encOccurrence LEN GD) a1))), (17, .c (.v (.int .i64 (A.ofN (LEN a1))))), (18, .c (.v (.int .i64 v2))), (28, .c (.bs (LEN (GD a0.fCells (A.toN (GD a1 (A.toN v2)).fCell)).fShapes) 5 (row GD (encShape) (GD a0.fCells (A.toN (GD a1 (A.toN v2)).fCell)).fShapes))), (29, .c (.v (.int .i64 (A.ofN (LEN (GD a0.fCells (A.toN (GD a1 (A.toN v2)).fCell)).fShapes))))), (30, .c (.v (.int .i64 v18)))] [(256, .var [.bs (LEN a0.fCells) 4 (row GD (encCell LEN GD) a0.fCells)]), (448, .var [.v (.int .i64 a3.fX0), .v (.int .i64 a3.fY0), .v (.int .i64 a3.fX1), .v (.int .i64 a3.fY1)]), (960, .arr .rw [] (LEN y45) 8 (row GD (oncWindowHit LEN GD) y45)), (704, .var [.v (.int .i64 (GD a1 (A.toN v2)).fCell), .v (.int .i64 (GD a1 (A.toN v2)).fPlace.fOrientation), .v (.int .i64 (GD a1 (A.toN v2)).fPlace.fX), .v (.int .i64 (GD a1 (A.toN v2)).fPlace.fY), .bs (LEN (GD a1 (A.toN v2)).fPath) 1 (row GD (encI .i64) (GD a1 (A.toN v2)).fPath)])])) ?_ fun w51 => rz fun h => ?_
     ·intro y45 S hS h; cbv; revert h; refine fk ?_ ?_ <;> intro h <;> cbv
      ·revert h; refine cu (fun y52 => (sparse 64 [(2, .c (.v (.int .i64 a2))), (4, .c (.ptr 256 0)), (7, .c (.ptr 448 0)), (9, .c (.os 960 0 (LEN y52))), (11, .c (.ptr 704 0)), (16, .c (.bs (LEN a1) 5 (row GD (encOccurrence LEN GD) a1))), (17, .c (.v (.int .i64 (A.ofN (LEN a1))))), (18, .c (.v (.int .i64 v2))), (28, .c (.bs (LEN (GD a0.fCells (A.toN (GD a1 (A.toN v2)).fCell)).fShapes) 5 (row GD (encShape) (GD a0.fCells (A.toN (GD a1 (A.toN v2)).fCell)).fShapes))), (29, .c (.v (.int .i64 (A.ofN (LEN (GD a0.fCells (A.toN (GD a1 (A.toN v2)).fCell)).fShapes))))), (30, .c (.v (.int .i64 v18)))] [(256, .var [.bs (LEN a0.fCells) 4 (row GD (encCell LEN GD) a0.fCells)]), (448, .var [.v (.int .i64 a3.fX0), .v (.int .i64 a3.fY0), .v (.int .i64 a3.fX1), .v (.int .i64 a3.fY1)]), (960, .arr .rw [] (LEN y52) 8 (row GD (oncWindowHit LEN GD) y52)), (704, .var [.v (.int .i64 (GD a1 (A.toN v2)).fCell), .v (.int .i64 (GD a1 (A.toN v2)).fPlace.fOrientation), .v (.int .i64 (GD a1 (A.toN v2)).fPlace.fX), .v (.int .i64 (GD a1 (A.toN v2)).fPlace.fY), .bs (LEN (GD a1 (A.toN v2)).fPath) 1 (row GD (encI .i64) (GD a1 (A.toN v2)).fPath)])])) ?_ fun w58 => rz fun h => ?_
       ·intro y52 S hS h; cbv; revert h; refine rk [] [(64000, 3648)] (hf_slices_Clone_Lint64_int64 _) (fun _ => zf) fun y59 h => ⟨_, rfl, _, _, rfl, fun _ _ _ _ => .refl _, ?_⟩
        cbv; revert h; refine rl fun l61 hl61 h => ?_; have e62 : 1 = LEN l61 := by subst hl61 hLEN; rfl
        refine ⟨_, (co e62), _, (patchC (fun _ _ => AC.junk) 0 [.v (.int .i64 (GD a1 (A.toN v2)).fCell), .v (.int .i64 v18), .v (.int .i64 a2), .v (.int .i64 y33.fX0), .v (.int .i64 y33.fY0), .v (.int .i64 y33.fX1), .v (.int .i64 y33.fY1), .os 3648 0 (LEN y59)]), e62, wkOf ?_, ?_⟩
        ·refine patch_one (by subst hl61 hLEN; rfl) ?_; exact zr
        cbv; revert h; refine rq fun c65 => rl fun l63 hl63 h => ?_; have e64 := nl hA hLEN hl63; refine ⟨c65, _, (co e64), _, (patchC (row GD (oncWindowHit LEN GD) v19) (LEN v19) [.v (.int .i64 (GD a1 (A.toN v2)).fCell), .v (.int .i64 v18), .v (.int .i64 a2), .v (.int .i64 y33.fX0), .v (.int .i64 y33.fY0), .v (.int .i64 y33.fX1), .v (.int .i64 y33.fY1), .os 3648 0 (LEN y59)]), e64, wkOf ?_, ?_⟩
        ·subst hLEN hA; refine patch_joinG (by first | (rw [hl63]; simp [len]; done) | (rw [hl63]; simp [len]; omega) | (subst_vars; simp [len])) ?_; exact zr
        cbv; rw [hl61] at hl63; injection h with h; subst h; subst hS; show St.le _ _; refine St.le_trans (le_foldP 960 7 3648 rfl rfl rfl (by decide) (by subst hLEN; exact app_lt hl63) (by decide) rfl (fun _ _ => rf_oncWindowHit _ _)) ?_; exact le_sparse rfl zl ⟨rfl, rfl, oP (fun _ _ => rf_oncWindowHit _ _) (by subst hGD hLEN hA; exact patch_app hl63 (Nat.le_refl _) zr), rfl, trivial⟩ rfl
       cbv; exact dn
      exact dn
     cbv; exact dm
    exact dx
   intro w68 h s q29; replace h := oz (oz h); cbv; refine ⟨_, q29, ?_⟩; cbv; exact dm
  exact dx
 intro w70 h s q13; replace h := oz (oz h); cbv; refine ⟨_, q13, ?_⟩; cbv; injection h with h; subst h; exact ⟨_, le_ren 960 64000 (by decide) rfl, lR _, zo, rfl⟩

noncomputable def L_impl_cells_put_mAb_x17 (a1 : TRect) (v1 : Int) : (Int × (Nat → Nat → Bool)) → Option ((Int × (Nat → Nat → Bool)) ⊕ (((Nat → Nat → Bool)))) := fun x17 =>
 letO x17.1 fun v15 =>
 letO x17.2 fun v16 =>
 br (std.lt v15 (std.imin a1.fX1 40))
 (req (std.inR (std.add .i64 v1 40) 80) <|
 req (std.inR (std.add .i64 v15 40) 80) <|
 letO (setG v16 (std.nadd 0 (std.toN (std.add .i64 v1 40))) (std.nadd 0 (std.toN (std.add .i64 v15 40))) true) fun l31 =>
 some (.inl (std.add .i64 v15 1, l31)))
 (some (.inr v16))
noncomputable def L_impl_cells_put_mAb_x3 (a1 : TRect) : (Int × (Nat → Nat → Bool)) → Option ((Int × (Nat → Nat → Bool)) ⊕ (((Nat → Nat → Bool)))) := fun x3 =>
 letO x3.1 fun v1 =>
 letO x3.2 fun v2 =>
 br (std.lt v1 (std.imin a1.fY1 40))
 ((whileP (σ := Int × (Nat → Nat → Bool)) (ρ := ((Nat → Nat → Bool))) (L_impl_cells_put_mAb_x17 a1 v1) ((std.imax a1.fX0 (-40)), v2)).bind fun y18 =>
 letO y18 fun y18k0 =>
 letO y18k0 fun w33 =>
 some (.inl (std.add .i64 v1 1, w33)))
 (some (.inr v2))
/-- impl.cells).put -/
noncomputable def F_impl_cells_put_mAb (a0 : Nat → Nat → Bool) (a1 : TRect) : Option (Nat → Nat → Bool) :=
 (whileP (σ := Int × (Nat → Nat → Bool)) (ρ := ((Nat → Nat → Bool))) (L_impl_cells_put_mAb_x3 a1) ((std.imax a1.fY0 (-40)), a0)).bind fun y4 =>
 letO y4 fun y4k0 =>
 letO y4k0 fun w35 =>
 some w35
set_option maxHeartbeats 4000000 in
theorem run_impl_cells_put_mAb (a0 : Nat → Nat → Bool) (a1 : TRect) (r : Nat → Nat → Bool) (h : F_impl_cells_put_mAb a0 a1 = some r) : Fun Try.prog 21 [.c (.ep 5 0 0), .agg [.v (.int .i64 a1.fX0), .v (.int .i64 a1.fY0), .v (.int .i64 a1.fX1), .v (.int .i64 a1.fY1)]] [(5, .arr .rw [] 80 80 (encG a0))] (.tup []) [(5, .arr .rw [] 80 80 (encG r))] true := by
 refine ow [] Try.func21 Try.ntmps21 ?_ (hw := ⟨fun i _ j _ k hk => (noref (rfl) hk).elim, trivial⟩) (hv := (fun _ => ⟨(by simp [AV.flat, AV.flat1, AC.flat]), ⟨(fun i _ j _ => trivial), trivial⟩⟩)); unfold F_impl_cells_put_mAb at h; unfold L_impl_cells_put_mAb_x3 at h; unfold L_impl_cells_put_mAb_x17 at h; generalize hLEN : @len = LEN, hGD : @gd = GD, hA : std = A, hP : Try.prog = P at *; cbv
 revert h; refine ln (.exit 0) (fun x => (sparse 34 [(0, .c (.ep 5 0 0)), (3, .c (.ptr 192 0)), (4, .c (.v (.int .i64 x.1)))] [(5, .arr .rw [] 80 80 (encG x.2)), (192, .var [.v (.int .i64 a1.fX0), .v (.int .i64 a1.fY0), .v (.int .i64 a1.fX1), .v (.int .i64 a1.fY1)])])) (fun w => (sparse 34 [] [(5, .arr .rw [] 80 80 (encG w))])) zb ?_ ?_
 ·rintro ⟨v1, v2⟩ z h K hK hY; replace h := oz (oz h); dsimp only at h; cbv; revert h; refine fk ?_ ?_ <;> intro h <;> cbv
  ·revert h; refine ln (.exit 2) (fun x => (sparse 34 [(0, .c (.ep 5 0 0)), (3, .c (.ptr 192 0)), (4, .c (.v (.int .i64 v1))), (5, .c (.v (.int .i64 x.1)))] [(5, .arr .rw [] 80 80 (encG x.2)), (192, .var [.v (.int .i64 a1.fX0), .v (.int .i64 a1.fY0), .v (.int .i64 a1.fX1), .v (.int .i64 a1.fY1)])])) (fun w => (sparse 34 [(0, .c (.ep 5 0 0)), (3, .c (.ptr 192 0)), (4, .c (.v (.int .i64 v1)))] [(5, .arr .rw [] 80 80 (encG w)), (192, .var [.v (.int .i64 a1.fX0), .v (.int .i64 a1.fY0), .v (.int .i64 a1.fX1), .v (.int .i64 a1.fY1)])])) zb ?_ ?_
   ·rintro ⟨v15, v16⟩ z h K hK hY; replace h := oz (oz h); dsimp only at h; cbv; revert h; refine fk ?_ ?_ <;> intro h <;> cbv
    ·revert h; refine ra fun c29 h => ?_; revert h; refine ra fun c30 h => ?_; revert h; refine rl fun l31 hl31 h => ?_; refine And.intro (by first | exact ⟨gp_lt hA c29, gp_lt1 hA c30⟩ | exact ⟨gp_lt hA c29, gp_lt1 hA c30, trivial⟩ | (refine ⟨gp_lt hA c29, gp_lt1 hA c30, ?_⟩; first | trivial | exact ⟨trivial, trivial⟩)) ?_; refine ⟨_, rfl, _, encG l31, rfl, wkOf ?_, ?_⟩
     ·subst hl31; exact upd_grid
     cbv; exact dm
    exact dx
   intro w33 h s q26; replace h := oz (oz h); cbv; refine ⟨_, q26, ?_⟩; cbv; exact dm
  exact dx
 intro w35 h s q12; replace h := oz (oz h); cbv; refine ⟨_, q12, ?_⟩; cbv; exact df

noncomputable def L_impl_cells_region_mA_x59 (a0 : Nat → Nat → Bool) (v3 : Int) : (Int) → Option ((Int) ⊕ ((Int))) := fun x59 =>
 letO x59 fun v58 =>
 ((
    br (std.lt v58 80)
    (req (std.inR v3 80) <|
    req (std.inR v58 80) <|
    some (a0 (std.nadd 0 (std.toN v3)) (std.nadd 0 (std.toN v58))))
    (some false)
  ) : Option (Bool)).bind fun y71 =>
 letO y71 fun w77 =>
 br w77
 (some (.inl (std.add .i64 v58 1)))
 (some (.inr v58))
noncomputable def L_impl_cells_region_mA_x44 (a0 : Nat → Nat → Bool) (v3 : Int) (w41 : Int) : (Int × (List TRect)) → Option ((Int × (List TRect)) ⊕ (((List TRect)))) := fun x44 =>
 letO x44.1 fun v42 =>
 letO x44.2 fun v43 =>
 br (std.lt v42 80)
 (req (std.inR v3 80) <|
 req (std.inR v42 80) <|
 br (!(a0 (std.nadd 0 (std.toN v3)) (std.nadd 0 (std.toN v42))))
 (some (.inl (std.add .i64 v42 1, v43)))
 ((whileP (σ := Int) (ρ := (Int)) (L_impl_cells_region_mA_x59 a0 v3) v42).bind fun y60 =>
 letO y60 fun y60k0 =>
 letO y60k0 fun w82 =>
 letO ([(TRect.mk (std.sub .i64 v42 40) (std.sub .i64 v3 40) (std.sub .i64 w82 40) (std.sub .i64 w41 40))] : List TRect) fun l83 =>
 req (std.room (std.nadd (len v43) (len l83)) 32) <|
 letO (v43 ++ l83) fun l85 =>
 some (.inl (std.add .i64 w82 1, l85))))
 (some (.inr v43))
noncomputable def L_impl_cells_region_mA_x18 (a0 : Nat → Nat → Bool) (v3 : Int) : (Int) → Option ((Int) ⊕ ((Int))) := fun x18 =>
 letO x18 fun v17 =>
 ((
    br (std.lt v17 80)
    (req (std.inR v17 80) <|
    req (std.inR v3 80) <|
    some (std.beqs (rowG 80 a0 (std.nadd 0 (std.toN v17))) (rowG 80 a0 (std.nadd 0 (std.toN v3)))))
    (some false)
  ) : Option (Bool)).bind fun y30 =>
 letO y30 fun w36 =>
 br w36
 (some (.inl (std.add .i64 v17 1)))
 (some (.inr v17))
noncomputable def L_impl_cells_region_mA_x5 (a0 : Nat → Nat → Bool) : (Int × (List TRect)) → Option ((Int × (List TRect)) ⊕ (((List TRect)))) := fun x5 =>
 letO x5.1 fun v3 =>
 letO x5.2 fun v4 =>
 br (std.lt v3 80)
 ((whileP (σ := Int) (ρ := (Int)) (L_impl_cells_region_mA_x18 a0 v3) (std.add .i64 v3 1)).bind fun y19 =>
 letO y19 fun y19k0 =>
 letO y19k0 fun w41 =>
 (whileP (σ := Int × (List TRect)) (ρ := ((List TRect))) (L_impl_cells_region_mA_x44 a0 v3 w41) (0, v4)).bind fun y45 =>
 letO y45 fun y45k0 =>
 letO y45k0 fun w90 =>
 some (.inl (w41, w90)))
 (some (.inr v4))
/-- impl.cells).region -/
noncomputable def F_impl_cells_region_mA (a0 : Nat → Nat → Bool) : Option ((List TRect) × (Nat → Nat → Bool)) :=
 letO ([] : List TRect) fun l1 =>
 (whileP (σ := Int × (List TRect)) (ρ := ((List TRect))) (L_impl_cells_region_mA_x5 a0) (0, l1)).bind fun y6 =>
 letO y6 fun y6k0 =>
 letO y6k0 fun w92 =>
 some (w92, a0)
set_option maxHeartbeats 4000000 in
theorem run_impl_cells_region_mA (a0 : Nat → Nat → Bool) (r : (List TRect) × (Nat → Nat → Bool)) (h : F_impl_cells_region_mA a0 = some r) : Fun Try.prog 23 [.c (.ep 5 0 0)] [(5, .arr .rw [] 80 80 (encG a0))] (.c (.os 64000 0 (len r.1))) [(64000, .arr .rw [] (len r.1) 4 (row gd (encRect) r.1)), (5, .arr .rw [] 80 80 (encG r.2))] true := by
 refine ow [5, 12] Try.func23 Try.ntmps23 ?_ (hw := ⟨fun i _ j _ k hk => (noref (rfl) hk).elim, trivial⟩) (hv := (fun _ => ⟨trivial, ⟨fun i _ j _ => val_flat (vl_encRect _ _), (fun i _ j _ => trivial), trivial⟩⟩)); unfold F_impl_cells_region_mA at h; unfold L_impl_cells_region_mA_x5 at h; unfold L_impl_cells_region_mA_x18 at h; unfold L_impl_cells_region_mA_x44 at h
 unfold L_impl_cells_region_mA_x59 at h; generalize hLEN : @len = LEN, hGD : @gd = GD, hA : std = A, hP : Try.prog = P at *; cbv; revert h; refine rl fun l1 hl1 h => ?_; have e2 : 0 = LEN l1 := by subst hl1 hLEN; rfl
 refine ⟨_, (co e2), _, row GD (encRect) l1, e2, wkOf ?_, ?_⟩
 ·intro i hi j hj; rw [← e2] at hi; subst hl1; subst hGD; omega
 cbv; revert h; refine ln (.exit 0) (fun x => (sparse 70 [(0, .c (.ep 5 0 0)), (3, .c (.os 512 0 (LEN x.2))), (4, .c (.v (.int .i64 x.1)))] [(5, .arr .rw [] 80 80 (encG a0)), (512, .arr .rw [] (LEN x.2) 4 (row GD (encRect) x.2))])) (fun w => (sparse 70 [(3, .c (.os 512 0 (LEN w)))] [(512, .arr .rw [] (LEN w) 4 (row GD (encRect) w)), (5, .arr .rw [] 80 80 (encG a0))])) zb ?_ ?_
 ·rintro ⟨v3, v4⟩ z h K hK hY; replace h := oz (oz h); dsimp only at h; cbv; revert h; refine fk ?_ ?_ <;> intro h <;> cbv
  ·revert h; refine ln (.exit 2) (fun x => (sparse 70 [(0, .c (.ep 5 0 0)), (3, .c (.os 512 0 (LEN v4))), (4, .c (.v (.int .i64 v3))), (5, .c (.v (.int .i64 x)))] [(5, .arr .rw [] 80 80 (encG a0)), (512, .arr .rw [] (LEN v4) 4 (row GD (encRect) v4))])) (fun w => (sparse 70 [(0, .c (.ep 5 0 0)), (3, .c (.os 512 0 (LEN v4))), (4, .c (.v (.int .i64 v3))), (5, .c (.v (.int .i64 w)))] [(5, .arr .rw [] 80 80 (encG a0)), (512, .arr .rw [] (LEN v4) 4 (row GD (encRect) v4))])) zb ?_ ?_
   ·intro v17 z h K hK hY; replace h := oz h; cbv; revert h; refine cu (fun y30 => (sparse 70 [(0, .c (.ep 5 0 0)), (3, .c (.os 512 0 (LEN v4))), (4, .c (.v (.int .i64 v3))), (5, .c (.v (.int .i64 v17))), (27, .c (.v (.bool y30)))] [(5, .arr .rw [] 80 80 (encG a0)), (512, .arr .rw [] (LEN v4) 4 (row GD (encRect) v4))])) ?_ fun w36 => rz fun h => ?_
    ·intro y30 S hS h; cbv; revert h; refine fk ?_ ?_ <;> intro h <;> cbv
     ·revert h; refine ra fun c37 h => ?_; refine And.intro (by first | exact gp_lt hA c37 | exact ⟨gp_lt hA c37, by decide, by decide⟩ | (refine And.intro (gp_lt hA c37) ?_; first | trivial | exact ⟨trivial, trivial⟩)) ?_; revert h; refine ra fun c38 h => ?_
      refine And.intro (by first | exact gp_lt hA c38 | exact ⟨gp_lt hA c38, by decide, by decide⟩ | (refine And.intro (gp_lt hA c38) ?_; first | trivial | exact ⟨trivial, trivial⟩)) ?_; exact dn
     exact dn
    cbv; revert h; refine fk ?_ ?_ <;> intro h <;> cbv
    ·exact dm
    exact dx
   intro w41 h s q27; replace h := oz (oz h); cbv; refine ⟨_, q27, ?_⟩; cbv
   revert h; refine ln (.exit 4) (fun x => (sparse 70 [(0, .c (.ep 5 0 0)), (3, .c (.os 512 0 (LEN x.2))), (4, .c (.v (.int .i64 v3))), (5, .c (.v (.int .i64 w41))), (6, .c (.v (.int .i64 x.1)))] [(5, .arr .rw [] 80 80 (encG a0)), (512, .arr .rw [] (LEN x.2) 4 (row GD (encRect) x.2))])) (fun w => (sparse 70 [(0, .c (.ep 5 0 0)), (3, .c (.os 512 0 (LEN w))), (5, .c (.v (.int .i64 w41)))] [(5, .arr .rw [] 80 80 (encG a0)), (512, .arr .rw [] (LEN w) 4 (row GD (encRect) w))])) zb ?_ ?_
   ·rintro ⟨v42, v43⟩ z h K hK hY; replace h := oz (oz h); dsimp only at h; cbv; revert h; refine fk ?_ ?_ <;> intro h <;> cbv
    ·revert h; refine ra fun c56 h => ?_; revert h; refine ra fun c57 h => ?_; refine And.intro (by first | exact ⟨gp_lt hA c56, gp_lt1 hA c57⟩ | exact ⟨gp_lt hA c56, gp_lt1 hA c57, by decide⟩ | exact ⟨gp_lt hA c56, gp_lt1 hA c57, trivial⟩) ?_; revert h; refine fk ?_ ?_ <;> intro h <;> cbv
     ·refine bx ?_; cbv; exact dm
     revert h; refine ln (.exit 6) (fun x => (sparse 70 [(0, .c (.ep 5 0 0)), (3, .c (.os 512 0 (LEN v43))), (4, .c (.v (.int .i64 v3))), (5, .c (.v (.int .i64 w41))), (6, .c (.v (.int .i64 x))), (7, .c (.v (.int .i64 v42)))] [(5, .arr .rw [] 80 80 (encG a0)), (512, .arr .rw [] (LEN v43) 4 (row GD (encRect) v43))])) (fun w => (sparse 70 [(0, .c (.ep 5 0 0)), (3, .c (.os 512 0 (LEN v43))), (4, .c (.v (.int .i64 v3))), (5, .c (.v (.int .i64 w41))), (6, .c (.v (.int .i64 w))), (7, .c (.v (.int .i64 v42)))] [(5, .arr .rw [] 80 80 (encG a0)), (512, .arr .rw [] (LEN v43) 4 (row GD (encRect) v43))])) zb ?_ ?_
     ·intro v58 z h K hK hY; replace h := oz h; cbv
      revert h; refine cu (fun y71 => (sparse 70 [(0, .c (.ep 5 0 0)), (3, .c (.os 512 0 (LEN v43))), (4, .c (.v (.int .i64 v3))), (5, .c (.v (.int .i64 w41))), (6, .c (.v (.int .i64 v58))), (7, .c (.v (.int .i64 v42))), (53, .c (.v (.bool y71)))] [(5, .arr .rw [] 80 80 (encG a0)), (512, .arr .rw [] (LEN v43) 4 (row GD (encRect) v43))])) ?_ fun w77 => rz fun h => ?_
      ·intro y71 S hS h; cbv; revert h; refine fk ?_ ?_ <;> intro h <;> cbv
       ·revert h; refine ra fun c78 h => ?_; revert h; refine ra fun c79 h => ?_; refine And.intro (by first | exact ⟨gp_lt hA c78, gp_lt1 hA c79⟩ | exact ⟨gp_lt hA c78, gp_lt1 hA c79, by decide⟩ | exact ⟨gp_lt hA c78, gp_lt1 hA c79, trivial⟩) ?_; exact dn
       exact dn
      cbv; revert h; refine fk ?_ ?_ <;> intro h <;> cbv
      ·exact dm
      exact dx
     intro w82 h s q68; replace h := oz (oz h); cbv; refine ⟨_, q68, ?_⟩; cbv; revert h; refine rl fun l83 hl83 h => ?_; have e84 : 1 = LEN l83 := by subst hl83 hLEN; rfl
     refine ⟨_, (co e84), _, row GD (encRect) l83, e84, wkOf ?_, ?_⟩
     ·intro i hi j hj; rw [← e84] at hi; subst hl83; subst hGD; obtain rfl : i = 0 := (by omega) <;> obtain rfl | rfl | rfl | rfl : j = 0 ∨ j = 1 ∨ j = 2 ∨ j = 3 := (by omega)
      all_goals rfl
     cbv; revert h; refine rq fun c87 => rl fun l85 hl85 h => ?_; have e86 := nl hA hLEN hl85; refine ⟨c87, _, (co e86), _, row GD (encRect) l85, e86, wkOf ?_, ?_⟩
     ·subst hGD hLEN hA; exact app_os (off := 0) (pl_encRect) hl85 (Nat.le_refl _)
     cbv; exact dm
    exact dx
   intro w90 h s q53; replace h := oz (oz h); cbv; refine ⟨_, q53, ?_⟩; cbv; exact dm
  exact dx
 intro w92 h s q14; replace h := oz (oz h); cbv; refine ⟨_, q14, ?_⟩; cbv; injection h with h; subst h; exact ⟨_, le_ren 512 64000 (by decide) rfl, lR _, zo, rfl⟩
noncomputable def L_impl_WindowLayers_x25 (a2 : TRect) (y20 : (List TWindowHit)) : (Int × (Nat → Nat → Bool) × (List TWindowHit)) → Option ((Int × (Nat → Nat → Bool) × (List TWindowHit)) ⊕ (((Nat → Nat → Bool)))) := fun x25 =>
 letO x25.1 fun v22 =>
 letO x25.2.1 fun v23 =>
 letO x25.2.2 fun v24 =>
 br (std.lt v22 (std.ofN (len y20)))
 (((
    req (std.inR v22 (len y20)) <|
    some ((gd v24 (std.nadd 0 (std.toN v22))).fCell, (gd v24 (std.nadd 0 (std.toN v22))).fShape, (gd v24 (std.nadd 0 (std.toN v22))).fLayer, (gd v24 (std.nadd 0 (std.toN v22))).fBox.fX0, (gd v24 (std.nadd 0 (std.toN v22))).fBox.fY0, (gd v24 (std.nadd 0 (std.toN v22))).fBox.fX1, (gd v24 (std.nadd 0 (std.toN v22))).fBox.fY1)
  ) : Option (Int × Int × Int × Int × Int × Int × Int)).bind fun y37 =>
 letO y37.1 fun w43 =>
 letO y37.2.1 fun w44 =>
 letO y37.2.2.1 fun w45 =>
 letO y37.2.2.2.1 fun w46 =>
 letO y37.2.2.2.2.1 fun w47 =>
 letO y37.2.2.2.2.2.1 fun w48 =>
 letO y37.2.2.2.2.2.2 fun w49 =>
 req (std.inR v22 (len y20)) <|
 ((
    (F_impl_common (TRect.mk w46 w47 w48 w49) a2).bind fun y60 =>
    (F_impl_cells_put_mAb v23 y60).bind fun y62 =>
    some (y62, v24)
  ) : Option ((Nat → Nat → Bool) × (List TWindowHit))).bind fun y52 =>
 letO y52.1 fun w58 =>
 letO y52.2 fun w59 =>
 some (.inl (std.add .i64 v22 1, w58, w59)))
 (some (.inr v23))
noncomputable def L_impl_WindowLayers_x8 (a0 : TLibrary) (a2 : TRect) (y3 : (List TOccurrence)) : (Int × (List (List TRect))) → Option ((Int × (List (List TRect))) ⊕ ((Int) ⊕ ((List (List TRect))))) := fun x8 =>
 letO x8.1 fun v6 =>
 letO x8.2 fun v7 =>
 br (std.lt v6 8)
 ((F_impl_hits a0 y3 v6 a2).bind fun y20 =>
 br (std.lt 100 (std.ofN (len y20)))
 (some (.inr (.inl 3)))
 ((whileP (σ := Int × (Nat → Nat → Bool) × (List TWindowHit)) (ρ := ((Nat → Nat → Bool))) (L_impl_WindowLayers_x25 a2 y20) (0, zeroG, y20)).bind fun y26 =>
 letO y26 fun y26k0 =>
 letO y26k0 fun w65 =>
 ((
    (F_impl_cells_region_mA w65).bind fun y73 =>
    letO ([y73.1] : List (List TRect)) fun l75 =>
    req (std.room (std.nadd (len v7) (len l75)) 24) <|
    letO (v7 ++ l75) fun l77 =>
    some l77
  ) : Option ((List (List TRect)))).bind fun y66 =>
 letO y66 fun w72 =>
 some (.inl (std.add .i64 v6 1, w72))))
 (some (.inr (.inr v7)))
/-- impl.WindowLayers -/
noncomputable def F_impl_WindowLayers (a0 : TLibrary) (a1 : Int) (a2 : TRect) : Option ((List (List TRect)) × Int) :=
 (F_impl_windowCode a0 a1 0 a2).bind fun y1 =>
 br (std.not (std.eq y1 0))
 (some (([] : List (List TRect)), y1))
 ((F_impl_visited a0 a1 a2).bind fun y3 =>
 (whileP (σ := Int × (List (List TRect))) (ρ := (Int) ⊕ ((List (List TRect)))) (L_impl_WindowLayers_x8 a0 a2 y3) (0, ([] : List (List TRect)))).bind fun y9 =>
 (match y9 with
  | .inl y9k0 => (
    letO y9k0 fun w82 =>
    some (([] : List (List TRect)), w82))
  | .inr y9m0 =>
    letO y9m0 fun y9k1 =>
    letO y9k1 fun w83 =>
    some (w83, (0 : Int))))
set_option maxHeartbeats 4000000 in
theorem run_impl_WindowLayers (a0 : TLibrary) (a1 : Int) (a2 : TRect) (r : (List (List TRect)) × Int) (h : F_impl_WindowLayers a0 a1 a2 = some r) : Fun Try.prog 8 [.agg [.bs (len a0.fCells) 4 (row gd (encCell len gd) a0.fCells)], .c (.v (.int .i64 a1)), .agg [.v (.int .i64 a2.fX0), .v (.int .i64 a2.fY0), .v (.int .i64 a2.fX1), .v (.int .i64 a2.fY1)]] [] (.tup [.c (.os 64000 0 (len r.1)), .c (.v (.int .i64 r.2))]) [(64000, .arr .rw [] (len r.1) 1 (row gd (oncL len gd 4 (encRect)) r.1))] true := by
 refine ow [13, 14, 16] Try.func8 Try.ntmps8 ?_ (hv := (fun _ => ⟨(by simp [AV.flat, AV.flat1, AC.flat]), ⟨fun i _ j _ => fl_oncL (vl_encRect) _ _, trivial⟩⟩)); unfold F_impl_WindowLayers at h; unfold L_impl_WindowLayers_x8 at h; unfold L_impl_WindowLayers_x25 at h; have hf_impl_cells_put_mAb := @run_impl_cells_put_mAb; have hf_impl_cells_region_mA := @run_impl_cells_region_mA
 have hf_impl_common := @run_impl_common; have hf_impl_hits := @run_impl_hits; have hf_impl_visited := @run_impl_visited; have hf_impl_windowCode := @run_impl_windowCode; generalize hLEN : @len = LEN, hGD : @gd = GD, hA : std = A, hP : Try.prog = P at *; cbv; revert h; refine rk0 (hf_impl_windowCode _ _ _ _) fun y1 h => ?_; cbv; revert h; refine fk ?_ ?_ <;> intro h <;> cbv
 ·injection h with h; subst h; refine ⟨(sparse 61 [(6, .c (.os 64000 0 (LEN ([] : List (List TRect))))), (7, .c (.v (.int .i64 y1)))] [(64000, .arr .rw [] (LEN ([] : List (List TRect))) 1 (row GD (oncL LEN GD 4 (encRect)) ([] : List (List TRect))))]), ?_, ?_⟩
  ·refine St.le_trans (le_nilT 6 64000 1 (row GD (oncL LEN GD 4 (encRect)) ([] : List (List TRect))) (by decide) rfl) ?_; subst hLEN; exact zb
  ·subst hLEN; exact ⟨lR _, zo, rfl⟩
 revert h; refine rk [] [(64000, 1664)] (hf_impl_visited _ _ _) (fun _ => zf) fun y3 h => ⟨_, rfl, _, _, rfl, fun _ _ _ _ => .refl _, ?_⟩
 cbv; have e5 : 0 = LEN ([] : List (List TRect)) := by subst hLEN; rfl
 refine ⟨_, (co e5), _, row GD (oncL LEN GD 4 (encRect)) ([] : List (List TRect)), e5, wkOf ?_, ?_⟩
 ·intro i hi j hj; rw [← e5] at hi; subst hGD; omega
 cbv
 revert h; refine lc (fun x => (sparse 61 [(3, .c (.ptr 192 0)), (5, .c (.ptr 320 0)), (9, .c (.os 1664 0 (LEN y3))), (10, .c (.os 1728 0 (LEN x.2))), (28, .c (.v (.int .i64 x.1)))] [(192, .var [.bs (LEN a0.fCells) 4 (row GD (encCell LEN GD) a0.fCells)]), (320, .var [.v (.int .i64 a2.fX0), .v (.int .i64 a2.fY0), .v (.int .i64 a2.fX1), .v (.int .i64 a2.fY1)]), (1664, .arr .rw [] (LEN y3) 5 (row GD (encOccurrence LEN GD) y3)), (1728, .arr .rw [] (LEN x.2) 1 (row GD (oncL LEN GD 4 (encRect)) x.2))])) (fun y e s => (match y with | .inl w => e = .ret ∧ s.le (sparse 61 [(6, .c (.v (.slice none 0 0))), (7, .c (.v (.int .i64 w)))] []) | .inr w0 => (fun (w : (List (List TRect))) => e = .exit 0 ∧ s.le (sparse 61 [(10, .c (.os 1728 0 (LEN w)))] [(1728, .arr .rw [] (LEN w) 1 (row GD (oncL LEN GD 4 (encRect)) w))])) w0)) zb ?_ ?_
 ·rintro ⟨v6, v7⟩ z h K hK hY; replace h := oz (oz h); dsimp only at h; cbv; revert h; refine fk ?_ ?_ <;> intro h <;> cbv
  ·revert h; refine rk [] [(64000, 2240)] (hf_impl_hits _ _ _ _) (fun _ => zg (les_cons (lR _) (les_cons (give_os (pl_encOccurrence) rfl rfl rfl) (les_cons (lR _) (les_cons (lR _) (les_nil)))))) fun y20 h => ⟨_, rfl, _, _, rfl, fun _ _ _ _ => .refl _, ?_⟩
   cbv; refine And.intro (by subst hA; exact zf53) ?_; refine And.intro (by subst hA; exact zl_std 6400) ?_; refine ⟨_, rfl, _, encG zeroG, rfl, wkOf (zl_get hA 80 80 6400 rfl), ?_⟩; cbv; revert h; refine fk ?_ ?_ <;> intro h <;> cbv
   ·exact dy
   revert h; refine ln (.exit 2) (fun x => (sparse 61 [(3, .c (.ptr 192 0)), (5, .c (.ptr 320 0)), (9, .c (.os 1664 0 (LEN y3))), (10, .c (.os 1728 0 (LEN v7))), (13, .c (.ep 2368 0 0)), (28, .c (.v (.int .i64 v6))), (41, .c (.os 2240 0 (LEN y20))), (42, .c (.v (.int .i64 (A.ofN (LEN y20))))), (43, .c (.v (.int .i64 x.1)))] [(192, .var [.bs (LEN a0.fCells) 4 (row GD (encCell LEN GD) a0.fCells)]), (320, .var [.v (.int .i64 a2.fX0), .v (.int .i64 a2.fY0), .v (.int .i64 a2.fX1), .v (.int .i64 a2.fY1)]), (1664, .arr .rw [] (LEN y3) 5 (row GD (encOccurrence LEN GD) y3)), (1728, .arr .rw [] (LEN v7) 1 (row GD (oncL LEN GD 4 (encRect)) v7)), (2368, .arr .rw [] 80 80 (encG x.2.1)), (2240, .arr .rw [] (LEN y20) 8 (row GD (oncWindowHit LEN GD) x.2.2))])) (fun w => (sparse 61 [(3, .c (.ptr 192 0)), (5, .c (.ptr 320 0)), (9, .c (.os 1664 0 (LEN y3))), (10, .c (.os 1728 0 (LEN v7))), (13, .c (.ep 2368 0 0)), (28, .c (.v (.int .i64 v6)))] [(192, .var [.bs (LEN a0.fCells) 4 (row GD (encCell LEN GD) a0.fCells)]), (320, .var [.v (.int .i64 a2.fX0), .v (.int .i64 a2.fY0), .v (.int .i64 a2.fX1), .v (.int .i64 a2.fY1)]), (1664, .arr .rw [] (LEN y3) 5 (row GD (encOccurrence LEN GD) y3)), (1728, .arr .rw [] (LEN v7) 1 (row GD (oncL LEN GD 4 (encRect)) v7)), (2368, .arr .rw [] 80 80 (encG w))])) zb ?_ ?_
   ·rintro ⟨v22, v23, v24⟩ z h K hK hY; replace h := oz (oz (oz h)); dsimp only at h; cbv; revert h; refine fk ?_ ?_ <;> intro h <;> cbv
    ·revert h; refine cu (fun y37 => (sparse 61 [(3, .c (.ptr 192 0)), (5, .c (.ptr 320 0)), (9, .c (.os 1664 0 (LEN y3))), (10, .c (.os 1728 0 (LEN v7))), (13, .c (.ep 2368 0 0)), (15, .c (.ptr 960 0)), (28, .c (.v (.int .i64 v6))), (41, .c (.os 2240 0 (LEN y20))), (42, .c (.v (.int .i64 (A.ofN (LEN y20))))), (43, .c (.v (.int .i64 v22)))] [(192, .var [.bs (LEN a0.fCells) 4 (row GD (encCell LEN GD) a0.fCells)]), (320, .var [.v (.int .i64 a2.fX0), .v (.int .i64 a2.fY0), .v (.int .i64 a2.fX1), .v (.int .i64 a2.fY1)]), (1664, .arr .rw [] (LEN y3) 5 (row GD (encOccurrence LEN GD) y3)), (1728, .arr .rw [] (LEN v7) 1 (row GD (oncL LEN GD 4 (encRect)) v7)), (2368, .arr .rw [] 80 80 (encG v23)), (960, .var [.v (.int .i64 y37.1), .v (.int .i64 y37.2.1), .v (.int .i64 y37.2.2.1), .v (.int .i64 y37.2.2.2.1), .v (.int .i64 y37.2.2.2.2.1), .v (.int .i64 y37.2.2.2.2.2.1), .v (.int .i64 y37.2.2.2.2.2.2), .os 2960 0 (LEN (GD v24 (A.nadd 0 (A.toN v22))).fPath)]), (2240, .arr .rw [2960] (LEN y20) 8 (patchC (row GD (oncWindowHit LEN GD) v24) (A.nadd 0 (A.toN v22)) [.v (.int .i64 (GD v24 (A.nadd 0 (A.toN v22))).fCell), .v (.int .i64 (GD v24 (A.nadd 0 (A.toN v22))).fShape), .v (.int .i64 (GD v24 (A.nadd 0 (A.toN v22))).fLayer), .v (.int .i64 (GD v24 (A.nadd 0 (A.toN v22))).fBox.fX0), .v (.int .i64 (GD v24 (A.nadd 0 (A.toN v22))).fBox.fY0), .v (.int .i64 (GD v24 (A.nadd 0 (A.toN v22))).fBox.fX1), .v (.int .i64 (GD v24 (A.nadd 0 (A.toN v22))).fBox.fY1), .os 2960 0 (LEN (GD v24 (A.nadd 0 (A.toN v22))).fPath)])), (2960, .arr .rw [] (LEN (GD v24 (A.nadd 0 (A.toN v22))).fPath) 1 (row GD (encI .i64) (GD v24 (A.nadd 0 (A.toN v22))).fPath))])) ?_ ?_
     ·intro y37 S hS h; cbv; revert h; refine ra fun c50 h => ?_; refine ai c50 ?_
      refine ⟨_, rfl, _, (patchC (row GD (oncWindowHit LEN GD) v24) (A.nadd 0 (A.toN v22)) [.v (.int .i64 (GD v24 (A.nadd 0 (A.toN v22))).fCell), .v (.int .i64 (GD v24 (A.nadd 0 (A.toN v22))).fShape), .v (.int .i64 (GD v24 (A.nadd 0 (A.toN v22))).fLayer), .v (.int .i64 (GD v24 (A.nadd 0 (A.toN v22))).fBox.fX0), .v (.int .i64 (GD v24 (A.nadd 0 (A.toN v22))).fBox.fY0), .v (.int .i64 (GD v24 (A.nadd 0 (A.toN v22))).fBox.fX1), .v (.int .i64 (GD v24 (A.nadd 0 (A.toN v22))).fBox.fY1), .os 2960 0 (LEN (GD v24 (A.nadd 0 (A.toN v22))).fPath)]), rfl, wkOf (patch_of zr), ?_⟩
      refine ⟨_, row GD (encI .i64) (GD v24 (A.nadd 0 (A.toN v22))).fPath, rfl, wkOf (fun i _ j _ => plain_cp (rfl)), ?_⟩; cbv; exact dn
     rintro ⟨w43, w44, w45, w46, w47, w48, w49⟩ h; replace h := oz (oz (oz (oz (oz (oz (oz h)))))); dsimp only at h; revert h; refine rq fun c51 h => ?_; cbv
     revert h; refine cu (fun y52 => (sparse 61 [(3, .c (.ptr 192 0)), (5, .c (.ptr 320 0)), (9, .c (.os 1664 0 (LEN y3))), (10, .c (.os 1728 0 (LEN v7))), (13, .c (.ep 2368 0 0)), (28, .c (.v (.int .i64 v6))), (41, .c (.os 2240 0 (LEN y20))), (42, .c (.v (.int .i64 (A.ofN (LEN y20))))), (43, .c (.v (.int .i64 v22)))] [(192, .var [.bs (LEN a0.fCells) 4 (row GD (encCell LEN GD) a0.fCells)]), (320, .var [.v (.int .i64 a2.fX0), .v (.int .i64 a2.fY0), .v (.int .i64 a2.fX1), .v (.int .i64 a2.fY1)]), (1664, .arr .rw [] (LEN y3) 5 (row GD (encOccurrence LEN GD) y3)), (1728, .arr .rw [] (LEN v7) 1 (row GD (oncL LEN GD 4 (encRect)) v7)), (2368, .arr .rw [] 80 80 (encG y52.1)), (2240, .arr .rw [] (LEN y20) 8 (row GD (oncWindowHit LEN GD) y52.2))])) ?_ ?_
     ·intro y52 S hS h; cbv; revert h; refine rk0 (hf_impl_common _ _) fun y60 h => ?_; cbv
      revert h; refine rk [(5, 2368)] [(5, 2368)] (hf_impl_cells_put_mAb _ _) (fun _ => ⟨les_cons (lR _) (les_cons (lR _) (les_nil)), ⟨oS, trivial⟩, rfl, rfl, rfl, rfl, ⟨fun _ => ⟨rfl, rfl, fun c h => h⟩, trivial⟩, rfl⟩) fun y62 h => ⟨_, rfl, _, _, rfl, fun _ _ _ _ => .refl _, ?_⟩
      cbv; injection h with h; subst h; subst hS; show St.le _ _; refine St.le_trans (le_foldP 2240 7 2960 rfl rfl rfl (by decide) (by subst hA; exact idx_lt c51) (by decide) rfl (fun _ _ => rf_oncWindowHit _ _)) ?_; exact le_sparse rfl zl ⟨rfl, rfl, oS, oS, oS, oP (fun _ _ => rf_oncWindowHit _ _) (by subst hGD hLEN hA; exact patch_same zr), trivial⟩ rfl
     rintro ⟨w58, w59⟩ h; replace h := oz (oz h); dsimp only at h; cbv; exact dm
    exact dx
   intro w65 h s q34; replace h := oz (oz h); cbv; refine ⟨_, q34, ?_⟩; cbv
   revert h; refine cu (fun y66 => (sparse 61 [(3, .c (.ptr 192 0)), (5, .c (.ptr 320 0)), (9, .c (.os 1664 0 (LEN y3))), (10, .c (.os 1728 0 (LEN y66))), (28, .c (.v (.int .i64 v6)))] [(192, .var [.bs (LEN a0.fCells) 4 (row GD (encCell LEN GD) a0.fCells)]), (320, .var [.v (.int .i64 a2.fX0), .v (.int .i64 a2.fY0), .v (.int .i64 a2.fX1), .v (.int .i64 a2.fY1)]), (1664, .arr .rw [] (LEN y3) 5 (row GD (encOccurrence LEN GD) y3)), (1728, .arr .rw [] (LEN y66) 1 (row GD (oncL LEN GD 4 (encRect)) y66))])) ?_ fun w72 => rz fun h => ?_
   ·intro y66 S hS h; cbv
    revert h; refine rk [(5, 2368)] [(64000, 3584), (5, 2368)] (hf_impl_cells_region_mA _) (fun _ => ⟨les_cons (lR _) (les_nil), ⟨oS, trivial⟩, rfl, rfl, rfl, rfl, ⟨fun h => absurd (show (64000 : Nat) % 2 = 1 from h) (by decide), fun _ => ⟨rfl, rfl, fun c h => h⟩, trivial⟩, rfl⟩) fun y73 h => ⟨_, rfl, _, _, rfl, fun _ _ _ _ => .refl _, _, _, rfl, fun _ _ _ _ => .refl _, ?_⟩
    cbv; revert h; refine rl fun l75 hl75 h => ?_; have e76 : 1 = LEN l75 := by subst hl75 hLEN; rfl
    refine ⟨_, (co e76), _, (patchC (fun _ _ => AC.junk) 0 [.os 3584 0 (LEN y73.1)]), e76, wkOf ?_, ?_⟩
    ·refine patch_one (by subst hl75 hLEN; rfl) ?_; exact zr
    cbv; revert h; refine rq fun c79 => rl fun l77 hl77 h => ?_; have e78 := nl hA hLEN hl77; refine ⟨c79, _, (co e78), _, (patchC (row GD (oncL LEN GD 4 (encRect)) v7) (LEN v7) [.os 3584 0 (LEN y73.1)]), e78, wkOf ?_, ?_⟩
    ·subst hLEN hA; refine patch_joinG (by first | (rw [hl77]; simp [len]; done) | (rw [hl77]; simp [len]; omega) | (subst_vars; simp [len])) ?_; exact zr
    cbv; rw [hl75] at hl77; injection h with h; subst h; subst hS; show St.le _ _; refine St.le_trans (le_foldP 1728 0 3584 rfl rfl rfl (by decide) (by subst hLEN; exact app_lt hl77) (by decide) rfl (fun _ _ => rfl)) ?_; exact le_sparse rfl zl ⟨rfl, rfl, oS, oP (fun _ _ => rfl) (by subst hGD hLEN hA; exact patch_app hl77 (Nat.le_refl _) zr), trivial⟩ rfl
   cbv; exact dm
  exact dy
 intro y9 h e18 s19 q17 hne; rcases y9 with y9k0 | y9m0
 ·replace h := h; obtain ⟨rfl, q17⟩ := q17; revert h; refine rz fun h => ?_; cbv; injection h with h; subst h; refine ⟨(sparse 61 [(6, .c (.os 64000 0 (LEN ([] : List (List TRect))))), (7, .c (.v (.int .i64 y9k0)))] [(64000, .arr .rw [] (LEN ([] : List (List TRect))) 1 (row GD (oncL LEN GD 4 (encRect)) ([] : List (List TRect))))]), ?_, ?_⟩
  ·refine St.le_trans q17 ?_; refine St.le_trans (le_nilT 6 64000 1 (row GD (oncL LEN GD 4 (encRect)) ([] : List (List TRect))) (by decide) rfl) ?_; subst hLEN; exact zb
  ·subst hLEN; exact ⟨lR _, zo, rfl⟩
 ·revert h; refine rz fun h => ?_; obtain ⟨rfl, q17⟩ := q17; revert h; refine rz fun h => ?_; cbv; refine ⟨_, q17, ?_⟩; cbv; injection h with h; subst h; exact ⟨_, le_ren 1728 64000 (by decide) rfl, lR _, zo, rfl⟩

noncomputable def L_impl_validRects_x2 (a0 : List TRect) : (Int) → Option ((Int) ⊕ ((Unit) ⊕ (Unit))) := fun x2 =>
 letO x2 fun v1 =>
 br (std.lt v1 (std.ofN (len a0)))
 (req (std.inR v1 (len a0)) <|
 (F_impl_IsValidRect (gd a0 (std.toN v1))).bind fun y15 =>
 br (!(y15))
 (some (.inr (.inl ())))
 (some (.inl (std.add .i64 v1 1))))
 (some (.inr (.inr ())))
/-- impl.validRects -/
noncomputable def F_impl_validRects (a0 : List TRect) : Option (Bool) :=
 br (std.lt 3200 (std.ofN (len a0)))
 (some false)
 ((whileP (σ := Int) (ρ := (Unit) ⊕ (Unit)) (L_impl_validRects_x2 a0) 0).bind fun y3 =>
 (match y3 with
  | .inl y3k0 => (
    some false)
  | .inr y3m0 =>
    some true))
set_option maxHeartbeats 4000000 in
theorem run_impl_validRects (a0 : List TRect) (r : Bool) (h : F_impl_validRects a0 = some r) : Fun Try.prog 45 [.c (.bs (len a0) 4 (row gd (encRect) a0))] [] (.c (.v (.bool r))) [] true := by
 refine ow [] Try.func45 Try.ntmps45 ?_; unfold F_impl_validRects at h; unfold L_impl_validRects_x2 at h; have hf_impl_IsValidRect := @run_impl_IsValidRect; generalize hLEN : @len = LEN, hGD : @gd = GD, hA : std = A, hP : Try.prog = P at *; cbv; revert h; refine fk ?_ ?_ <;> intro h <;> cbv
 ·exact df
 revert h; refine lc (fun x => (sparse 18 [(8, .c (.bs (LEN a0) 4 (row GD (encRect) a0))), (9, .c (.v (.int .i64 (A.ofN (LEN a0))))), (10, .c (.v (.int .i64 x)))] [])) (fun y e s => (match y with | .inl w => e = .ret ∧ s.le (sparse 18 [(2, .c (.v (.bool false)))] []) | .inr w0 => (fun (w : Unit) => e = .exit 0 ∧ s.le (sparse 18 [] [])) w0)) zb ?_ ?_
 ·intro v1 z h K hK hY; replace h := oz h; cbv; revert h; refine fk ?_ ?_ <;> intro h <;> cbv
  ·revert h; refine ra fun c14 h => ?_; revert h; refine rk0 (hf_impl_IsValidRect _) fun y15 h => ?_; cbv; revert h; refine fk ?_ ?_ <;> intro h <;> cbv
   ·exact dy
   exact dm
  exact dy
 intro y3 h e12 s13 q11 hne; rcases y3 with y3k0 | y3m0
 ·replace h := h; obtain ⟨rfl, q11⟩ := q11; cbv; injection h with h; subst h; exact ⟨_, q11, lR _, zo, rfl⟩
 ·obtain ⟨rfl, q11⟩ := q11; cbv; refine ⟨_, q11, ?_⟩; cbv; exact df

noncomputable def L_impl_cellsOf_x3 (a0 : List TRect) : (Int × (Nat → Nat → Bool)) → Option ((Int × (Nat → Nat → Bool)) ⊕ (((Nat → Nat → Bool)))) := fun x3 =>
 letO x3.1 fun v1 =>
 letO x3.2 fun v2 =>
 br (std.lt v1 (std.ofN (len a0)))
 (req (std.inR v1 (len a0)) <|
 (F_impl_cells_put_mAb v2 (gd a0 (std.toN v1))).bind fun y16 =>
 some (.inl (std.add .i64 v1 1, y16)))
 (some (.inr v2))
/-- impl.cellsOf -/
noncomputable def F_impl_cellsOf (a0 : List TRect) : Option (Nat → Nat → Bool) :=
 (whileP (σ := Int × (Nat → Nat → Bool)) (ρ := ((Nat → Nat → Bool))) (L_impl_cellsOf_x3 a0) (0, zeroG)).bind fun y4 =>
 letO y4 fun y4k0 =>
 letO y4k0 fun w19 =>
 some w19
set_option maxHeartbeats 4000000 in
theorem run_impl_cellsOf (a0 : List TRect) (r : Nat → Nat → Bool) (h : F_impl_cellsOf a0 = some r) : Fun Try.prog 47 [.c (.bs (len a0) 4 (row gd (encRect) a0))] [] (.c (.ep 64000 0 0)) [(64000, .arr .rw [] 80 80 (encG r))] true := by
 refine ow [] Try.func47 Try.ntmps47 ?_ (hv := (fun _ => ⟨trivial, ⟨(fun i _ j _ => trivial), trivial⟩⟩)); unfold F_impl_cellsOf at h; unfold L_impl_cellsOf_x3 at h; have hf_impl_cells_put_mAb := @run_impl_cells_put_mAb; generalize hLEN : @len = LEN, hGD : @gd = GD, hA : std = A, hP : Try.prog = P at *; cbv; refine And.intro (by subst hA; exact zf53) ?_
 refine And.intro (by subst hA; exact zl_std 6400) ?_; refine ⟨_, rfl, _, encG zeroG, rfl, wkOf (zl_get hA 80 80 6400 rfl), ?_⟩; cbv
 revert h; refine ln (.exit 0) (fun x => (sparse 19 [(3, .c (.ep 448 0 0)), (8, .c (.bs (LEN a0) 4 (row GD (encRect) a0))), (9, .c (.v (.int .i64 (A.ofN (LEN a0))))), (10, .c (.v (.int .i64 x.1)))] [(448, .arr .rw [] 80 80 (encG x.2))])) (fun w => (sparse 19 [(3, .c (.ep 448 0 0))] [(448, .arr .rw [] 80 80 (encG w))])) zb ?_ ?_
 ·rintro ⟨v1, v2⟩ z h K hK hY; replace h := oz (oz h); dsimp only at h; cbv; revert h; refine fk ?_ ?_ <;> intro h <;> cbv
  ·revert h; refine ra fun c15 h => ?_
   revert h; refine rk [(5, 448)] [(5, 448)] (hf_impl_cells_put_mAb _ _) (fun _ => ⟨les_cons (lR _) (les_cons (lR _) (les_nil)), ⟨oS, trivial⟩, rfl, rfl, rfl, rfl, ⟨fun _ => ⟨rfl, rfl, fun c h => h⟩, trivial⟩, rfl⟩) fun y16 h => ⟨_, rfl, _, _, rfl, fun _ _ _ _ => .refl _, ?_⟩
   cbv; exact dm
  exact dx
 intro w19 h s q12; replace h := oz (oz h); cbv; refine ⟨_, q12, ?_⟩; cbv; injection h with h; subst h; exact ⟨_, le_ren 448 64000 (by decide) rfl, lR _, zo, rfl⟩

noncomputable def L_slices_Equal_Limpl_Rect_impl_Rect_x2 (a0 : List TRect) (a1 : List TRect) : (Int) → Option ((Int) ⊕ ((Unit) ⊕ (Unit))) := fun x2 =>
 letO x2 fun v1 =>
 br (std.lt v1 (std.ofN (len a0)))
 (req (std.inR v1 (len a0)) <|
 req (std.inR v1 (len a1)) <|
 br (std.not (std.band (std.eq (gd a0 (std.toN v1)).fX0 (gd a1 (std.toN v1)).fX0) (std.band (std.eq (gd a0 (std.toN v1)).fY0 (gd a1 (std.toN v1)).fY0) (std.band (std.eq (gd a0 (std.toN v1)).fX1 (gd a1 (std.toN v1)).fX1) (std.band (std.eq (gd a0 (std.toN v1)).fY1 (gd a1 (std.toN v1)).fY1) (true))))))
 (some (.inr (.inl ())))
 (some (.inl (std.add .i64 v1 1))))
 (some (.inr (.inr ())))
/-- impl.Rect] -/
noncomputable def F_slices_Equal_Limpl_Rect_impl_Rect (a0 : List TRect) (a1 : List TRect) : Option (Bool) :=
 br (std.not (std.eq (std.ofN (len a0)) (std.ofN (len a1))))
 (some false)
 ((whileP (σ := Int) (ρ := (Unit) ⊕ (Unit)) (L_slices_Equal_Limpl_Rect_impl_Rect_x2 a0 a1) 0).bind fun y3 =>
 (match y3 with
  | .inl y3k0 => (
    some false)
  | .inr y3m0 =>
    some true))
set_option maxHeartbeats 4000000 in
theorem run_slices_Equal_Limpl_Rect_impl_Rect (a0 : List TRect) (a1 : List TRect) (r : Bool) (h : F_slices_Equal_Limpl_Rect_impl_Rect a0 a1 = some r) : Fun Try.prog 46 [.c (.bs (len a0) 4 (row gd (encRect) a0)), .c (.bs (len a1) 4 (row gd (encRect) a1))] [] (.c (.v (.bool r))) [] true := by
 refine ow [] Try.func46 Try.ntmps46 ?_; unfold F_slices_Equal_Limpl_Rect_impl_Rect at h; unfold L_slices_Equal_Limpl_Rect_impl_Rect_x2 at h; generalize hLEN : @len = LEN, hGD : @gd = GD, hA : std = A, hP : Try.prog = P at *; cbv; revert h; refine fk ?_ ?_ <;> intro h <;> cbv
 ·exact df
 revert h; refine lc (fun x => (sparse 26 [(0, .c (.bs (LEN a0) 4 (row GD (encRect) a0))), (1, .c (.bs (LEN a1) 4 (row GD (encRect) a1))), (12, .c (.v (.int .i64 (A.ofN (LEN a0))))), (13, .c (.v (.int .i64 x)))] [])) (fun y e s => (match y with | .inl w => e = .ret ∧ s.le (sparse 26 [(4, .c (.v (.bool false)))] []) | .inr w0 => (fun (w : Unit) => e = .exit 0 ∧ s.le (sparse 26 [] [])) w0)) zb ?_ ?_
 ·intro v1 z h K hK hY; replace h := oz h; cbv; revert h; refine fk ?_ ?_ <;> intro h <;> cbv
  ·revert h; refine ra fun c14 h => ?_; revert h; refine ra fun c15 h => ?_; revert h; refine fk ?_ ?_ <;> intro h <;> cbv
   ·exact dy
   exact dm
  exact dy
 intro y3 h e12 s13 q11 hne; rcases y3 with y3k0 | y3m0
 ·replace h := h; obtain ⟨rfl, q11⟩ := q11; cbv; injection h with h; subst h; exact ⟨_, q11, lR _, zo, rfl⟩
 ·obtain ⟨rfl, q11⟩ := q11; cbv; refine ⟨_, q11, ?_⟩; cbv; exact df

/-- impl.IsRegion -/
noncomputable def F_impl_IsRegion (a0 : List TRect) : Option (Bool) :=
 ((
    (F_impl_validRects a0).bind fun y8 =>
    br y8
    ((F_impl_cellsOf a0).bind fun y10 =>
    (F_impl_cells_region_mA y10).bind fun y12 =>
    (F_slices_Equal_Limpl_Rect_impl_Rect y12.1 a0).bind fun y14 =>
    some y14)
    (some false)
  ) : Option (Bool)).bind fun y1 =>
 letO y1 fun w7 =>
 some w7
set_option maxHeartbeats 4000000 in
theorem run_impl_IsRegion (a0 : List TRect) (r : Bool) (h : F_impl_IsRegion a0 = some r) : Fun Try.prog 24 [.c (.bs (len a0) 4 (row gd (encRect) a0))] [] (.c (.v (.bool r))) [] true := by
 refine ow [1] Try.func24 Try.ntmps24 ?_; unfold F_impl_IsRegion at h; have hf_impl_cellsOf := @run_impl_cellsOf; have hf_impl_cells_region_mA := @run_impl_cells_region_mA; have hf_impl_validRects := @run_impl_validRects; have hf_slices_Equal_Limpl_Rect_impl_Rect := @run_slices_Equal_Limpl_Rect_impl_Rect; generalize hLEN : @len = LEN, hGD : @gd = GD, hA : std = A, hP : Try.prog = P at *; cbv
 revert h; refine cu (fun y1 => (sparse 12 [(2, .c (.v (.bool y1)))] [])) ?_ fun w7 => rz fun h => ?_
 ·intro y1 S hS h; cbv; revert h; refine rk0 (hf_impl_validRects _) fun y8 h => ?_; cbv; revert h; refine fk ?_ ?_ <;> intro h <;> cbv
  ·revert h; refine rk [] [(64000, 448)] (hf_impl_cellsOf _) (fun _ => zf) fun y10 h => ⟨_, rfl, _, _, rfl, fun _ _ _ _ => .refl _, ?_⟩
   cbv
   revert h; refine rk [(5, 448)] [(64000, 512), (5, 448)] (hf_impl_cells_region_mA _) (fun _ => ⟨les_cons (lR _) (les_nil), ⟨oS, trivial⟩, rfl, rfl, rfl, rfl, ⟨fun h => absurd (show (64000 : Nat) % 2 = 1 from h) (by decide), fun _ => ⟨rfl, rfl, fun c h => h⟩, trivial⟩, rfl⟩) fun y12 h => ⟨_, rfl, _, _, rfl, fun _ _ _ _ => .refl _, _, _, rfl, fun _ _ _ _ => .refl _, ?_⟩
   cbv; revert h; refine rk [] [] (hf_slices_Equal_Limpl_Rect_impl_Rect _ _) (fun _ => zg (les_cons (give_os (pl_encRect) rfl rfl rfl) (les_cons (lR _) (les_nil)))) fun y14 h => ?_; cbv; exact dn
  exact dn
 cbv; exact df

/-- impl.Union$1 -/
noncomputable def F_impl_Union_1 (a0 : Bool) (a1 : Bool) : Option (Bool) :=
 ((
    br a0
    (some true)
    (some a1)
  ) : Option (Bool)).bind fun y1 =>
 letO y1 fun w7 =>
 some w7
set_option maxHeartbeats 4000000 in
theorem run_impl_Union_1 (a0 : Bool) (a1 : Bool) (r : Bool) (h : F_impl_Union_1 a0 a1 = some r) : Fun Try.prog 33 [.c (.v (.bool a0)), .c (.v (.bool a1))] [] (.c (.v (.bool r))) [] true := by
 refine ow [1] Try.func33 Try.ntmps33 ?_; unfold F_impl_Union_1 at h; generalize hLEN : @len = LEN, hGD : @gd = GD, hA : std = A, hP : Try.prog = P at *; cbv; revert h; refine cu (fun y1 => (sparse 9 [(4, .c (.v (.bool y1)))] [])) (fun y1 S hS h => rg) fun w7 => rz fun h => ?_; cbv; exact df
noncomputable def L_impl_combine_mbbFimpl_Union_1_x33 (y13 : (Nat → Nat → Bool)) (y15 : (Nat → Nat → Bool)) (v17 : Int) : (Int × (Nat → Nat → Bool)) → Option ((Int × (Nat → Nat → Bool)) ⊕ (((Nat → Nat → Bool)))) := fun x33 =>
 letO x33.1 fun v31 =>
 letO x33.2 fun v32 =>
 br (std.lt v31 80)
 (req (std.inR v17 80) <|
 req (std.inR v31 80) <|
 req (std.inR v17 80) <|
 req (std.inR v31 80) <|
 (F_impl_Union_1 (y13 (std.nadd 0 (std.toN v17)) (std.nadd 0 (std.toN v31))) (y15 (std.nadd 0 (std.toN v17)) (std.nadd 0 (std.toN v31)))).bind fun y49 =>
 req (std.inR v17 80) <|
 req (std.inR v31 80) <|
 letO (setG v32 (std.nadd 0 (std.toN v17)) (std.nadd 0 (std.toN v31)) y49) fun l53 =>
 some (.inl (std.add .i64 v31 1, l53)))
 (some (.inr v32))
noncomputable def L_impl_combine_mbbFimpl_Union_1_x19 (y13 : (Nat → Nat → Bool)) (y15 : (Nat → Nat → Bool)) : (Int × (Nat → Nat → Bool)) → Option ((Int × (Nat → Nat → Bool)) ⊕ (((Nat → Nat → Bool)))) := fun x19 =>
 letO x19.1 fun v17 =>
 letO x19.2 fun v18 =>
 br (std.lt v17 80)
 ((whileP (σ := Int × (Nat → Nat → Bool)) (ρ := ((Nat → Nat → Bool))) (L_impl_combine_mbbFimpl_Union_1_x33 y13 y15 v17) (0, v18)).bind fun y34 =>
 letO y34 fun y34k0 =>
 letO y34k0 fun w55 =>
 some (.inl (std.add .i64 v17 1, w55)))
 (some (.inr v18))
/-- impl.combine -/
noncomputable def F_impl_combine_mbbFimpl_Union_1 (a0 : List TRect) (a1 : List TRect) : Option (List TRect) :=
 ((
    (F_impl_IsRegion a0).bind fun y8 =>
    br (!(y8))
    (some true)
    ((F_impl_IsRegion a1).bind fun y10 =>
    some (!(y10)))
  ) : Option (Bool)).bind fun y1 =>
 letO y1 fun w7 =>
 br w7
 (some ([] : List TRect))
 ((F_impl_cellsOf a0).bind fun y13 =>
 (F_impl_cellsOf a1).bind fun y15 =>
 (whileP (σ := Int × (Nat → Nat → Bool)) (ρ := ((Nat → Nat → Bool))) (L_impl_combine_mbbFimpl_Union_1_x19 y13 y15) (0, zeroG)).bind fun y20 =>
 letO y20 fun y20k0 =>
 letO y20k0 fun w57 =>
 (F_impl_cells_region_mA w57).bind fun y58 =>
 some y58.1)
set_option maxHeartbeats 4000000 in
theorem run_impl_combine_mbbFimpl_Union_1 (a0 : List TRect) (a1 : List TRect) (r : List TRect) (h : F_impl_combine_mbbFimpl_Union_1 a0 a1 = some r) : Fun Try.prog 32 [.c (.bs (len a0) 4 (row gd (encRect) a0)), .c (.bs (len a1) 4 (row gd (encRect) a1)), .c (.fn 33 0 fun _ => .junk)] [] (.c (.os 64000 0 (len r))) [(64000, .arr .rw [] (len r) 4 (row gd (encRect) r))] true := by
 refine ow [1] Try.func32 Try.ntmps32 ?_ (hv := (fun _ => ⟨trivial, ⟨fun i _ j _ => val_flat (vl_encRect _ _), trivial⟩⟩)); unfold F_impl_combine_mbbFimpl_Union_1 at h; unfold L_impl_combine_mbbFimpl_Union_1_x19 at h; unfold L_impl_combine_mbbFimpl_Union_1_x33 at h; have hf_impl_IsRegion := @run_impl_IsRegion; have hf_impl_Union_1 := @run_impl_Union_1; have hf_impl_cellsOf := @run_impl_cellsOf
 have hf_impl_cells_region_mA := @run_impl_cells_region_mA; generalize hLEN : @len = LEN, hGD : @gd = GD, hA : std = A, hP : Try.prog = P at *; cbv; revert h; refine cu (fun y1 => (sparse 58 [(0, .c (.bs (LEN a0) 4 (row GD (encRect) a0))), (1, .c (.bs (LEN a1) 4 (row GD (encRect) a1))), (2, .c (.fn 33 0 fun _ => .junk)), (19, .c (.v (.bool y1)))] [])) ?_ fun w7 => rz fun h => ?_
 ·intro y1 S hS h; cbv; revert h; refine rk0 (hf_impl_IsRegion _) fun y8 h => ?_; cbv; revert h; refine fk ?_ ?_ <;> intro h <;> cbv
  ·exact dn
  revert h; refine rk0 (hf_impl_IsRegion _) fun y10 h => ?_; cbv; exact dn
 cbv; revert h; refine fk ?_ ?_ <;> intro h <;> cbv
 ·injection h with h; subst h; refine ⟨(sparse 58 [(6, .c (.os 64000 0 (LEN ([] : List TRect))))] [(64000, .arr .rw [] (LEN ([] : List TRect)) 4 (row GD (encRect) ([] : List TRect)))]), ?_, ?_⟩
  ·refine St.le_trans (le_nilT 6 64000 4 (row GD (encRect) ([] : List TRect)) (by decide) rfl) ?_; subst hLEN; exact zb
  ·subst hLEN; exact ⟨lR _, zo, rfl⟩
 revert h; refine rk [] [(64000, 1344)] (hf_impl_cellsOf _) (fun _ => zf) fun y13 h => ⟨_, rfl, _, _, rfl, fun _ _ _ _ => .refl _, ?_⟩
 cbv; revert h; refine rk [] [(64000, 1472)] (hf_impl_cellsOf _) (fun _ => zf) fun y15 h => ⟨_, rfl, _, _, rfl, fun _ _ _ _ => .refl _, ?_⟩
 cbv; refine And.intro (by subst hA; exact zf53) ?_; refine And.intro (by subst hA; exact zl_std 6400) ?_; refine ⟨_, rfl, _, encG zeroG, rfl, wkOf (zl_get hA 80 80 6400 rfl), ?_⟩; cbv
 revert h; refine ln (.exit 0) (fun x => (sparse 58 [(2, .c (.fn 33 0 fun _ => .junk)), (7, .c (.ep 1344 0 0)), (8, .c (.ep 1472 0 0)), (9, .c (.ep 1600 0 0)), (26, .c (.v (.int .i64 x.1)))] [(1344, .arr .rw [] 80 80 (encG y13)), (1472, .arr .rw [] 80 80 (encG y15)), (1600, .arr .rw [] 80 80 (encG x.2))])) (fun w => (sparse 58 [(9, .c (.ep 1600 0 0))] [(1600, .arr .rw [] 80 80 (encG w))])) zb ?_ ?_
 ·rintro ⟨v17, v18⟩ z h K hK hY; replace h := oz (oz h); dsimp only at h; cbv; revert h; refine fk ?_ ?_ <;> intro h <;> cbv
  ·revert h; refine ln (.exit 2) (fun x => (sparse 58 [(2, .c (.fn 33 0 fun _ => .junk)), (7, .c (.ep 1344 0 0)), (8, .c (.ep 1472 0 0)), (9, .c (.ep 1600 0 0)), (10, .c (.v (.int .i64 v17))), (26, .c (.v (.int .i64 v17))), (29, .c (.v (.int .i64 x.1)))] [(1344, .arr .rw [] 80 80 (encG y13)), (1472, .arr .rw [] 80 80 (encG y15)), (1600, .arr .rw [] 80 80 (encG x.2))])) (fun w => (sparse 58 [(2, .c (.fn 33 0 fun _ => .junk)), (7, .c (.ep 1344 0 0)), (8, .c (.ep 1472 0 0)), (9, .c (.ep 1600 0 0)), (26, .c (.v (.int .i64 v17)))] [(1344, .arr .rw [] 80 80 (encG y13)), (1472, .arr .rw [] 80 80 (encG y15)), (1600, .arr .rw [] 80 80 (encG w))])) zb ?_ ?_
   ·rintro ⟨v31, v32⟩ z h K hK hY; replace h := oz (oz h); dsimp only at h; cbv; revert h; refine fk ?_ ?_ <;> intro h <;> cbv
    ·revert h; refine ra fun c45 h => ?_; revert h; refine ra fun c46 h => ?_; refine And.intro (by first | exact ⟨gp_lt hA c45, gp_lt1 hA c46⟩ | exact ⟨gp_lt hA c45, gp_lt1 hA c46, by decide⟩ | exact ⟨gp_lt hA c45, gp_lt1 hA c46, trivial⟩) ?_; revert h; refine ra fun c47 h => ?_; revert h; refine ra fun c48 h => ?_
     refine And.intro (by first | exact ⟨gp_lt hA c47, gp_lt1 hA c48⟩ | exact ⟨gp_lt hA c47, gp_lt1 hA c48, by decide⟩ | exact ⟨gp_lt hA c47, gp_lt1 hA c48, trivial⟩) ?_; revert h; refine rk0 (hf_impl_Union_1 _ _) fun y49 h => ?_; cbv; revert h; refine ra fun c51 h => ?_; revert h; refine ra fun c52 h => ?_; revert h; refine rl fun l53 hl53 h => ?_
     refine And.intro (by first | exact ⟨gp_lt hA c51, gp_lt1 hA c52⟩ | exact ⟨gp_lt hA c51, gp_lt1 hA c52, trivial⟩ | (refine ⟨gp_lt hA c51, gp_lt1 hA c52, ?_⟩; first | trivial | exact ⟨trivial, trivial⟩)) ?_; refine ⟨_, rfl, _, encG l53, rfl, wkOf ?_, ?_⟩
     ·subst hl53; exact upd_grid
     cbv; exact dm
    exact dx
   intro w55 h s q42; replace h := oz (oz h); cbv; refine ⟨_, q42, ?_⟩; cbv; exact dm
  exact dx
 intro w57 h s q28; replace h := oz (oz h); cbv; refine ⟨_, q28, ?_⟩; cbv
 revert h; refine rk [(5, 1600)] [(64000, 3648), (5, 1600)] (hf_impl_cells_region_mA _) (fun _ => ⟨les_cons (lR _) (les_nil), ⟨oS, trivial⟩, rfl, rfl, rfl, rfl, ⟨fun h => absurd (show (64000 : Nat) % 2 = 1 from h) (by decide), fun _ => ⟨rfl, rfl, fun c h => h⟩, trivial⟩, rfl⟩) fun y58 h => ⟨_, rfl, _, _, rfl, fun _ _ _ _ => .refl _, _, _, rfl, fun _ _ _ _ => .refl _, ?_⟩
 cbv; injection h with h; subst h; exact ⟨_, le_ren 3648 64000 (by decide) rfl, lR _, zo, rfl⟩

/-- impl.Union -/
noncomputable def F_impl_Union (a0 : List TRect) (a1 : List TRect) : Option (List TRect) :=
 (F_impl_combine_mbbFimpl_Union_1 a0 a1).bind fun y1 =>
 some y1
set_option maxHeartbeats 4000000 in
theorem run_impl_Union (a0 : List TRect) (a1 : List TRect) (r : List TRect) (h : F_impl_Union a0 a1 = some r) : Fun Try.prog 14 [.c (.bs (len a0) 4 (row gd (encRect) a0)), .c (.bs (len a1) 4 (row gd (encRect) a1))] [] (.c (.os 64000 0 (len r))) [(64000, .arr .rw [] (len r) 4 (row gd (encRect) r))] true := by
 refine ow [] Try.func14 Try.ntmps14 ?_ (hv := (fun _ => ⟨trivial, ⟨fun i _ j _ => val_flat (vl_encRect _ _), trivial⟩⟩)); unfold F_impl_Union at h; have hf_impl_combine_mbbFimpl_Union_1 := @run_impl_combine_mbbFimpl_Union_1; generalize hLEN : @len = LEN, hGD : @gd = GD, hA : std = A, hP : Try.prog = P at *; cbv
 revert h; refine rk [] [(64000, 448)] (hf_impl_combine_mbbFimpl_Union_1 _ _) (fun _ => zf) fun y1 h => ⟨_, rfl, _, _, rfl, fun _ _ _ _ => .refl _, ?_⟩
 cbv; injection h with h; subst h; exact ⟨_, le_ren 448 64000 (by decide) rfl, lR _, zo, rfl⟩

noncomputable def L_laws_sameRects_x2 (a0 : List TRect) (a1 : List TRect) : (Int) → Option ((Int) ⊕ ((Unit) ⊕ (Unit))) := fun x2 =>
 letO x2 fun v1 =>
 br (std.lt v1 (std.ofN (len a0)))
 (req (std.inR v1 (len a0)) <|
 req (std.inR v1 (len a1)) <|
 br (std.not (std.band (std.eq (gd a0 (std.toN v1)).fX0 (gd a1 (std.toN v1)).fX0) (std.band (std.eq (gd a0 (std.toN v1)).fY0 (gd a1 (std.toN v1)).fY0) (std.band (std.eq (gd a0 (std.toN v1)).fX1 (gd a1 (std.toN v1)).fX1) (std.band (std.eq (gd a0 (std.toN v1)).fY1 (gd a1 (std.toN v1)).fY1) (true))))))
 (some (.inr (.inl ())))
 (some (.inl (std.add .i64 v1 1))))
 (some (.inr (.inr ())))
/-- laws.sameRects -/
noncomputable def F_laws_sameRects (a0 : List TRect) (a1 : List TRect) : Option (Bool) :=
 br (std.not (std.eq (std.ofN (len a0)) (std.ofN (len a1))))
 (some false)
 ((whileP (σ := Int) (ρ := (Unit) ⊕ (Unit)) (L_laws_sameRects_x2 a0 a1) 0).bind fun y3 =>
 (match y3 with
  | .inl y3k0 => (
    some false)
  | .inr y3m0 =>
    some true))
set_option maxHeartbeats 4000000 in
theorem run_laws_sameRects (a0 : List TRect) (a1 : List TRect) (r : Bool) (h : F_laws_sameRects a0 a1 = some r) : Fun Try.prog 9 [.c (.bs (len a0) 4 (row gd (encRect) a0)), .c (.bs (len a1) 4 (row gd (encRect) a1))] [] (.c (.v (.bool r))) [] true := by
 refine ow [] Try.func9 Try.ntmps9 ?_; unfold F_laws_sameRects at h; unfold L_laws_sameRects_x2 at h; generalize hLEN : @len = LEN, hGD : @gd = GD, hA : std = A, hP : Try.prog = P at *; cbv; revert h; refine fk ?_ ?_ <;> intro h <;> cbv
 ·exact df
 revert h; refine lc (fun x => (sparse 26 [(0, .c (.bs (LEN a0) 4 (row GD (encRect) a0))), (1, .c (.bs (LEN a1) 4 (row GD (encRect) a1))), (5, .c (.v (.int .i64 x)))] [])) (fun y e s => (match y with | .inl w => e = .ret ∧ s.le (sparse 26 [(4, .c (.v (.bool false)))] []) | .inr w0 => (fun (w : Unit) => e = .exit 0 ∧ s.le (sparse 26 [] [])) w0)) zb ?_ ?_
 ·intro v1 z h K hK hY; replace h := oz h; cbv; revert h; refine fk ?_ ?_ <;> intro h <;> cbv
  ·revert h; refine ra fun c14 h => ?_; revert h; refine ra fun c15 h => ?_; revert h; refine fk ?_ ?_ <;> intro h <;> cbv
   ·exact dy
   exact dm
  exact dy
 intro y3 h e12 s13 q11 hne; rcases y3 with y3k0 | y3m0
 ·replace h := h; obtain ⟨rfl, q11⟩ := q11; cbv; injection h with h; subst h; exact ⟨_, q11, lR _, zo, rfl⟩
 ·obtain ⟨rfl, q11⟩ := q11; cbv; refine ⟨_, q11, ?_⟩; cbv; exact df

noncomputable def L_laws_FnWindowSplit_x38 (y20 : (List (List TRect)) × Int) (y22 : (List (List TRect)) × Int) (y24 : (List (List TRect)) × Int) : (Int) → Option ((Int) ⊕ ((Bool) ⊕ (Unit))) := fun x38 =>
 letO x38 fun v37 =>
 br (std.lt v37 8)
 (((
    req (std.inR v37 (len y20.1)) <|
    req (std.inR v37 (len y22.1)) <|
    (F_impl_Union (gd y20.1 (std.nadd 0 (std.toN v37))) (gd y22.1 (std.nadd 0 (std.toN v37)))).bind fun y59 =>
    req (std.inR v37 (len y24.1)) <|
    (F_laws_sameRects y59 (gd y24.1 (std.nadd 0 (std.toN v37)))).bind fun y62 =>
    some (!(y62))
  ) : Option (Bool)).bind fun y50 =>
 letO y50 fun w56 =>
 br w56
 (some (.inr (.inl false)))
 (some (.inl (std.add .i64 v37 1))))
 (some (.inr (.inr ())))
/-- laws.FnWindowSplit -/
noncomputable def F_laws_FnWindowSplit (a0 : List Int) : Option (Bool) :=
 (F_laws_big a0).bind fun y1 =>
 br y1
 (some true)
 ((F_spec_DrawWindowLayers a0).bind fun y3 =>
 ((
    (F_spec_IsValidRect y3.2.2).bind fun y12 =>
    br (!(y12))
    (some true)
    (some (std.lt (std.sub .i64 y3.2.2.fX1 y3.2.2.fX0) 2))
  ) : Option (Bool)).bind fun y5 =>
 letO y5 fun w11 =>
 br w11
 ((F_impl_VisitedCount y3.1 y3.2.1 y3.2.2).bind fun y15 =>
 (F_spec_VisitedCount y3.1 y3.2.1 y3.2.2).bind fun y17 =>
 some (std.eq y15 y17))
 (req (std.nz 2) <|
 (F_impl_WindowLayers y3.1 y3.2.1 (TRect.mk y3.2.2.fX0 y3.2.2.fY0 (std.add .i64 y3.2.2.fX0 (std.quo .i64 (std.sub .i64 y3.2.2.fX1 y3.2.2.fX0) 2)) y3.2.2.fY1)).bind fun y20 =>
 (F_impl_WindowLayers y3.1 y3.2.1 (TRect.mk (std.add .i64 y3.2.2.fX0 (std.quo .i64 (std.sub .i64 y3.2.2.fX1 y3.2.2.fX0) 2)) y3.2.2.fY0 y3.2.2.fX1 y3.2.2.fY1)).bind fun y22 =>
 (F_impl_WindowLayers y3.1 y3.2.1 y3.2.2).bind fun y24 =>
 br (std.not (std.eq y24.2 0))
 (some (std.eq (std.ofN (len y24.1)) 0))
 (((
    br (std.not (std.eq y20.2 0))
    (some true)
    (br (std.not (std.eq y22.2 0))
    (some true)
    (br (std.not (std.eq (std.ofN (len y20.1)) 8))
    (some true)
    (br (std.not (std.eq (std.ofN (len y22.1)) 8))
    (some true)
    (some (std.not (std.eq (std.ofN (len y24.1)) 8))))))
  ) : Option (Bool)).bind fun y26 =>
 letO y26 fun w32 =>
 br w32
 (some false)
 ((whileP (σ := Int) (ρ := (Bool) ⊕ (Unit)) (L_laws_FnWindowSplit_x38 y20 y22 y24) 0).bind fun y39 =>
 (match y39 with
  | .inl y39k0 => (
    letO y39k0 fun w66 =>
    some w66)
  | .inr y39m0 =>
    some true)))))
set_option maxHeartbeats 4000000 in
theorem run_laws_FnWindowSplit (a0 : List Int) (r : Bool) (h : F_laws_FnWindowSplit a0 = some r) : Fun Try.prog 4 [.c (.bs (len a0) 1 (row gd (encI .u8) a0))] [] (.c (.v (.bool r))) [] true := by
 refine ow [4, 15, 20] Try.func4 Try.ntmps4 ?_; unfold F_laws_FnWindowSplit at h; unfold L_laws_FnWindowSplit_x38 at h; have hf_impl_Union := @run_impl_Union; have hf_impl_VisitedCount := @run_impl_VisitedCount; have hf_impl_WindowLayers := @run_impl_WindowLayers; have hf_laws_big := @run_laws_big; have hf_laws_sameRects := @run_laws_sameRects
 have hf_spec_DrawWindowLayers := @run_spec_DrawWindowLayers; have hf_spec_IsValidRect := @run_spec_IsValidRect; have hf_spec_VisitedCount := @run_spec_VisitedCount; generalize hLEN : @len = LEN, hGD : @gd = GD, hA : std = A, hP : Try.prog = P at *; cbv; revert h; refine rk0 (hf_laws_big _) fun y1 h => ?_; cbv; revert h; refine fk ?_ ?_ <;> intro h <;> cbv
 ·exact df
 revert h; refine rk [] [(64000, 1216)] (hf_spec_DrawWindowLayers _) (fun _ => zf) fun y3 h => ⟨_, rfl, _, _, rfl, fun _ _ _ _ => .refl _, ?_⟩
 cbv
 revert h; refine cu (fun y5 => (sparse 124 [(3, .c (.ptr 192 0)), (4, .c (.v (.int .i64 y3.2.1))), (5, .c (.ptr 320 0)), (33, .c (.v (.bool y5)))] [(192, .var [.os 1216 0 (LEN y3.1.fCells)]), (320, .var [.v (.int .i64 y3.2.2.fX0), .v (.int .i64 y3.2.2.fY0), .v (.int .i64 y3.2.2.fX1), .v (.int .i64 y3.2.2.fY1)]), (1216, .arr .rw [] (LEN y3.1.fCells) 4 (row GD (oncCell LEN GD) y3.1.fCells))])) ?_ fun w11 => rz fun h => ?_
 ·intro y5 S hS h; cbv; revert h; refine rk0 (hf_spec_IsValidRect _) fun y12 h => ?_; cbv; revert h; refine fk ?_ ?_ <;> intro h <;> cbv
  ·exact dn
  exact dn
 cbv; revert h; refine fk ?_ ?_ <;> intro h <;> cbv
 ·revert h; refine rk [] [] (hf_impl_VisitedCount _ _ _) (fun _ => zg (les_cons (le_agg ⟨give_osD (rf_oncCell) (ln_oncCell) rfl rfl rfl, trivial⟩) (les_cons (lR _) (les_cons (lR _) (les_nil))))) fun y15 h => ?_; cbv
  revert h; refine rk [] [] (hf_spec_VisitedCount _ _ _) (fun _ => zg (les_cons (le_agg ⟨give_osD (rf_oncCell) (ln_oncCell) rfl rfl rfl, trivial⟩) (les_cons (lR _) (les_cons (lR _) (les_nil))))) fun y17 h => ?_; cbv; exact df
 revert h; refine ra fun c19 h => ?_; revert h; refine rk [] [(64000, 3968)] (hf_impl_WindowLayers _ _ _) (fun _ => zg (les_cons (le_agg ⟨give_osD (rf_oncCell) (ln_oncCell) rfl rfl rfl, trivial⟩) (les_cons (lR _) (les_cons (lR _) (les_nil))))) fun y20 h => ⟨_, rfl, _, _, rfl, fun _ _ _ _ => .refl _, ?_⟩
 cbv; revert h; refine rk [] [(64000, 4416)] (hf_impl_WindowLayers _ _ _) (fun _ => zg (les_cons (le_agg ⟨give_osD (rf_oncCell) (ln_oncCell) rfl rfl rfl, trivial⟩) (les_cons (lR _) (les_cons (lR _) (les_nil))))) fun y22 h => ⟨_, rfl, _, _, rfl, fun _ _ _ _ => .refl _, ?_⟩
 cbv; revert h; refine rk [] [(64000, 4864)] (hf_impl_WindowLayers _ _ _) (fun _ => zg (les_cons (le_agg ⟨give_osD (rf_oncCell) (ln_oncCell) rfl rfl rfl, trivial⟩) (les_cons (lR _) (les_cons (lR _) (les_nil))))) fun y24 h => ⟨_, rfl, _, _, rfl, fun _ _ _ _ => .refl _, ?_⟩
 cbv; revert h; refine fk ?_ ?_ <;> intro h <;> cbv
 ·exact df
 revert h; refine cu (fun y26 => (sparse 124 [(8, .c (.os 3968 0 (LEN y20.1))), (10, .c (.os 4416 0 (LEN y22.1))), (12, .c (.os 4864 0 (LEN y24.1))), (104, .c (.v (.bool y26)))] [(3968, .arr .rw [] (LEN y20.1) 1 (row GD (oncL LEN GD 4 (encRect)) y20.1)), (4416, .arr .rw [] (LEN y22.1) 1 (row GD (oncL LEN GD 4 (encRect)) y22.1)), (4864, .arr .rw [] (LEN y24.1) 1 (row GD (oncL LEN GD 4 (encRect)) y24.1))])) (fun y26 S hS h => rg) fun w32 => rz fun h => ?_
 cbv; revert h; refine fk ?_ ?_ <;> intro h <;> cbv
 ·exact df
 revert h; refine lc (fun x => (sparse 124 [(8, .c (.os 3968 0 (LEN y20.1))), (10, .c (.os 4416 0 (LEN y22.1))), (12, .c (.os 4864 0 (LEN y24.1))), (14, .c (.v (.int .i64 x)))] [(3968, .arr .rw [] (LEN y20.1) 1 (row GD (oncL LEN GD 4 (encRect)) y20.1)), (4416, .arr .rw [] (LEN y22.1) 1 (row GD (oncL LEN GD 4 (encRect)) y22.1)), (4864, .arr .rw [] (LEN y24.1) 1 (row GD (oncL LEN GD 4 (encRect)) y24.1))])) (fun y e s => (match y with | .inl w => e = .ret ∧ s.le (sparse 124 [(2, .c (.v (.bool w)))] []) | .inr w0 => (fun (w : Unit) => e = .exit 0 ∧ s.le (sparse 124 [] [])) w0)) zb ?_ ?_
 ·intro v37 z h K hK hY; replace h := oz h; cbv; revert h; refine fk ?_ ?_ <;> intro h <;> cbv
  ·revert h; refine cu (fun y50 => (sparse 124 [(8, .c (.os 3968 0 (LEN y20.1))), (10, .c (.os 4416 0 (LEN y22.1))), (12, .c (.os 4864 0 (LEN y24.1))), (14, .c (.v (.int .i64 v37))), (123, .c (.v (.bool y50)))] [(3968, .arr .rw [] (LEN y20.1) 1 (row GD (oncL LEN GD 4 (encRect)) y20.1)), (4416, .arr .rw [] (LEN y22.1) 1 (row GD (oncL LEN GD 4 (encRect)) y22.1)), (4864, .arr .rw [] (LEN y24.1) 1 (row GD (oncL LEN GD 4 (encRect)) y24.1))])) ?_ fun w56 => rz fun h => ?_
   ·intro y50 S hS h; cbv; revert h; refine ra fun c57 h => ?_; refine ai c57 ?_; refine ⟨_, rfl, _, (patchC (row GD (oncL LEN GD 4 (encRect)) y20.1) (A.nadd 0 (A.toN v37)) [.os 7170 0 (LEN (GD y20.1 (A.nadd 0 (A.toN v37))))]), rfl, wkOf (patch_of zr), ?_⟩; refine ⟨_, row GD (encRect) (GD y20.1 (A.nadd 0 (A.toN v37))), rfl, wkOf (fun i _ j _ => plain_cp (pl_encRect _ _)), ?_⟩; cbv
    revert h; refine ra fun c58 h => ?_; refine ai c58 ?_; refine ⟨_, rfl, _, (patchC (row GD (oncL LEN GD 4 (encRect)) y22.1) (A.nadd 0 (A.toN v37)) [.os 7426 0 (LEN (GD y22.1 (A.nadd 0 (A.toN v37))))]), rfl, wkOf (patch_of zr), ?_⟩; refine ⟨_, row GD (encRect) (GD y22.1 (A.nadd 0 (A.toN v37))), rfl, wkOf (fun i _ j _ => plain_cp (pl_encRect _ _)), ?_⟩; cbv
    revert h; refine rk [] [(64000, 7488)] (hf_impl_Union _ _) (fun _ => zg (les_cons (give_os (pl_encRect) rfl rfl rfl) (les_cons (give_os (pl_encRect) rfl rfl rfl) (les_nil)))) fun y59 h => ⟨_, rfl, _, _, rfl, fun _ _ _ _ => .refl _, ?_⟩
    cbv; revert h; refine ra fun c61 h => ?_; refine ai c61 ?_; refine ⟨_, rfl, _, (patchC (row GD (oncL LEN GD 4 (encRect)) y24.1) (A.nadd 0 (A.toN v37)) [.os 7746 0 (LEN (GD y24.1 (A.nadd 0 (A.toN v37))))]), rfl, wkOf (patch_of zr), ?_⟩; refine ⟨_, row GD (encRect) (GD y24.1 (A.nadd 0 (A.toN v37))), rfl, wkOf (fun i _ j _ => plain_cp (pl_encRect _ _)), ?_⟩; cbv
    revert h; refine rk [] [] (hf_laws_sameRects _ _) (fun _ => zg (les_cons (give_os (pl_encRect) rfl rfl rfl) (les_cons (give_os (pl_encRect) rfl rfl rfl) (les_nil)))) fun y62 h => ?_; cbv; injection h with h; subst h; subst hS; show St.le _ _; refine St.le_trans (le_foldP 3968 0 7170 rfl rfl rfl (by decide) (by subst hA; exact idx_lt c57) (by decide) rfl (fun _ _ => rfl)) ?_
    refine St.le_trans (le_foldP 4416 0 7426 rfl rfl rfl (by decide) (by subst hA; exact idx_lt c58) (by decide) rfl (fun _ _ => rfl)) ?_; refine St.le_trans (le_foldP 4864 0 7746 rfl rfl rfl (by decide) (by subst hA; exact idx_lt c61) (by decide) rfl (fun _ _ => rfl)) ?_
    exact le_sparse rfl zl ⟨oP (fun _ _ => rfl) (by subst hGD hLEN hA; exact patch_same zr), oP (fun _ _ => rfl) (by subst hGD hLEN hA; exact patch_same zr), oP (fun _ _ => rfl) (by subst hGD hLEN hA; exact patch_same zr), trivial⟩ rfl
   cbv; revert h; refine fk ?_ ?_ <;> intro h <;> cbv
   ·exact dy
   exact dm
  exact dy
 intro y39 h e48 s49 q47 hne; rcases y39 with y39k0 | y39m0
 ·replace h := h; obtain ⟨rfl, q47⟩ := q47; revert h; refine rz fun h => ?_; cbv; injection h with h; subst h; exact ⟨_, q47, lR _, zo, rfl⟩
 ·obtain ⟨rfl, q47⟩ := q47; cbv; refine ⟨_, q47, ?_⟩; cbv; exact df
theorem op_5 (d : Nat) : Opens T (d + 1) 5 (clI .u8) (wfI .u8) := op_int .u8 (show T 5 = some d5 from rfl) rfl
theorem op_22 (d : Nat) : Opens T (d + 2) 22 (clL 1 (encI .u8)) (wfL (wfI .u8)) := op_slice (e := 5) (sz := 1) (show T 22 = some d22 from rfl) rfl (show T 5 = some d5 from rfl) rfl (fun x j hj => by match j, hj with | 0, _ => rfl | (j_ + 1), h_ => exact absurd h_ (by omega)) (op_5 d)
theorem open_22 {H : Type} {enc : TypeId × Value → H} {W : World} {spare : Nat → Bool} {held : Bool} {r : Reach} {base : Nat} {v : Value} {x : DataW H} {ps : List MemPlace}
    (hv : Value.okWide Try.prog W r base 22 v) (h : DataW.Trod enc Try.prog W 0 spare held 22 v x ps) : ∃ e : List Int, (wfL (wfI .u8)) e ∧ RelV (RelI (fun b => b < W.heap.size) W) (.c (.bs (len e) 1 (row gd (encI .u8) e))) v := by
  refine opened_one tok (op_22 0) (fun _ => rfl) (by kernel_rfl) ?_ h
  have ht : Try.prog.underlying 22 = some (.slice 5) := (tok 22 d22 rfl).1
  unfold Value.okWide at hv
  rw [ht] at hv
  cases v <;> first | rfl | exact False.elim hv
end Go.Proofs.Ytpobpihakgegbaa.AM
