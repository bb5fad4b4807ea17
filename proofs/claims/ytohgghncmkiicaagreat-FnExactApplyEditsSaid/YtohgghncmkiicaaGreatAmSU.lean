/-
  What the functions that the law reaches compute, and that they do. No condition.
-/
import Derived.Test.YtohgghncmkiicaaGreatAmSY
import Derived.Test.YtohgghncmkiicaaGreatAmE
namespace Go.Proofs.YtohgghncmkiicaaGreat.AM
noncomputable section
open Go Go.Proofs Go.RowKit
set_option linter.unusedVariables false
set_option linter.unusedSimpArgs false
set_option maxRecDepth 100000

set_option maxHeartbeats 4000000
def Lq48_x4 (a0 : List TS) : (Int × Int × (List TS)) -> Option ((Int × Int × (List TS)) ⊕ ((Int × (List TS)))) := fun x4 =>
 letO x4.1 fun v1 =>
 letO x4.2.1 fun v2 =>
 letO x4.2.2 fun v3 =>
 br (std.lt v2 (std.ofN (len a0)))
 (req (std.inR v2 (len a0)) <|
 req (len a0 = len v3) <|
 letO (List.set v3 (std.nadd 0 (std.toN v2)) (TS.mk v1 (gd v3 (std.nadd 0 (std.toN v2))).fb)) fun l17 =>
 req (std.inR v2 (len a0)) <|
 req (len a0 = len l17) <|
 letO (List.set l17 (std.nadd 0 (std.toN v2)) (TS.mk (gd l17 (std.nadd 0 (std.toN v2))).fy (TRect.mk (std.add .i64 v1 1) (gd l17 (std.nadd 0 (std.toN v2))).fb.fY0 (gd l17 (std.nadd 0 (std.toN v2))).fb.fX1 (gd l17 (std.nadd 0 (std.toN v2))).fb.fY1))) fun l19 =>
 req (std.inR v2 (len a0)) <|
 req (len a0 = len l19) <|
 letO (List.set l19 (std.nadd 0 (std.toN v2)) (TS.mk (gd l19 (std.nadd 0 (std.toN v2))).fy (TRect.mk (gd l19 (std.nadd 0 (std.toN v2))).fb.fX0 (std.add .i64 (std.add .i64 v1 1) 1) (gd l19 (std.nadd 0 (std.toN v2))).fb.fX1 (gd l19 (std.nadd 0 (std.toN v2))).fb.fY1))) fun l21 =>
 req (std.inR v2 (len a0)) <|
 req (len a0 = len l21) <|
 letO (List.set l21 (std.nadd 0 (std.toN v2)) (TS.mk (gd l21 (std.nadd 0 (std.toN v2))).fy (TRect.mk (gd l21 (std.nadd 0 (std.toN v2))).fb.fX0 (gd l21 (std.nadd 0 (std.toN v2))).fb.fY0 (std.add .i64 (std.add .i64 (std.add .i64 v1 1) 1) 1) (gd l21 (std.nadd 0 (std.toN v2))).fb.fY1))) fun l23 =>
 req (std.inR v2 (len a0)) <|
 req (len a0 = len l23) <|
 letO (List.set l23 (std.nadd 0 (std.toN v2)) (TS.mk (gd l23 (std.nadd 0 (std.toN v2))).fy (TRect.mk (gd l23 (std.nadd 0 (std.toN v2))).fb.fX0 (gd l23 (std.nadd 0 (std.toN v2))).fb.fY0 (gd l23 (std.nadd 0 (std.toN v2))).fb.fX1 (std.add .i64 (std.add .i64 (std.add .i64 (std.add .i64 v1 1) 1) 1) 1)))) fun l25 =>
 some (.inl (std.add .i64 (std.add .i64 (std.add .i64 (std.add .i64 (std.add .i64 v1 1) 1) 1) 1) 1, std.add .i64 v2 1, l25)))
 (some (.inr (v1, v3)))
/-- laws.markShapeS -/
def Fq48 (a0 : List TS) (a1 : Int) : Option (Int × (List TS)) :=
 (whileP (σ := Int × Int × (List TS)) (ρ := (Int × (List TS))) (Lq48_x4 a0) (a1, 0, a0)).bind fun y5 =>
 letO y5 fun y5k0 =>
 letO y5k0.1 fun w32 =>
 letO y5k0.2 fun w33 =>
 req (len a0 = len w33) <|
 some (w32, w33)
theorem runq48 (a0 : List TS) (a1 : Int) (r : Int × (List TS)) (h : Fq48 a0 a1 = some r) : Fun Tryz.prog 128 [.c (.os 5 0 (len a0)), .c (wi a1)] [(5, .arr .rw [] (len a0) 5 (row gd (eS) a0))] (.c (wi r.1)) [(5, .arr .rw [] (len r.2) 5 (row gd (eS) r.2))] true := by
 refine Fun.of_wp (oneOf []) tok mixed Tryz.func128 (by kernel_rfl) rfl Tryz.ntmps128 rfl ⟨fun i _ j _ k hk => (noref (plain_nil (pl_encShape _ _)) hk).elim, tv⟩ (fun _ => ⟨trivial, ⟨fun i _ j _ => val_flat (vl_encShape _ _), tv⟩⟩) ?_; unfold Fq48 at h; unfold Lq48_x4 at h; generalize hLEN : @len = LEN, hGD : @gd = GD, hA : std = A, hP : Tryz.prog = P at *
 cbv; revert h; refine ln (.exit 0) (fun x => (sp 52 [(0, .c (.os 5 0 (LEN a0))), (1, .c (wi x.1)), (5, .c (wi x.2.1))] [(5, .arr .rw [] (LEN a0) 5 (row GD (eS) x.2.2))])) (fun w => (sp 52 [(1, .c (wi w.1))] [(5, .arr .rw [] (LEN a0) 5 (row GD (eS) w.2))])) zb ?_ ?_
 ·rintro ⟨v1, v2, v3⟩ z h K hK hY; replace h := oz (oz (oz h)); dsimp only at h; cbv; revert h; refine fk ?_ ?_ <;> intro h <;> cbv
  ·revert h; refine ra fun c16 h => ?_; revert h; refine rq fun c30 => rl fun l17 hl17 h => ?_; refine ai c16 ?_; refine ⟨_, rfl, _, row GD (eS) l17, rfl, wkOf ?_, ?_⟩
   ·subst hGD hLEN hA; rw [c30] at c16; refine upd_set hl17 (ix c16) ?_ ?_
    ·intro b hb hh
     match b, hb, hh with | 0, _, hh => exact rfl | 1, _, hh => exact (absurd hh (nd rfl)) | 2, _, hh => exact (absurd hh (nd rfl)) | 3, _, hh => exact (absurd hh (nd rfl)) | 4, _, hh => exact (absurd hh (nd rfl)) | (b_ + 5), h_, _ => omega
    ·intro b hb hh; match b, hb, hh with | 0, _, hh => exact (hh (yd rfl)).elim | 1, _, hh => exact rfl | 2, _, hh => exact rfl | 3, _, hh => exact rfl | 4, _, hh => exact rfl | (b_ + 5), h_, _ => omega
   cbv; revert h; refine ra fun c18 h => ?_; revert h; refine rq fun c29 => rl fun l19 hl19 h => ?_; refine ai c18 ?_; refine ⟨_, rfl, _, row GD (eS) l19, rfl, wkOf ?_, ?_⟩
   ·subst hGD hLEN hA; rw [c29] at c18; refine upd_set hl19 (ix c18) ?_ ?_
    ·intro b hb hh
     match b, hb, hh with | 0, _, hh => exact (absurd hh (nd rfl)) | 1, _, hh => exact rfl | 2, _, hh => exact (absurd hh (nd rfl)) | 3, _, hh => exact (absurd hh (nd rfl)) | 4, _, hh => exact (absurd hh (nd rfl)) | (b_ + 5), h_, _ => omega
    ·intro b hb hh; match b, hb, hh with | 0, _, hh => exact rfl | 1, _, hh => exact (hh (yd rfl)).elim | 2, _, hh => exact rfl | 3, _, hh => exact rfl | 4, _, hh => exact rfl | (b_ + 5), h_, _ => omega
   cbv; revert h; refine ra fun c20 h => ?_; revert h; refine rq fun c28 => rl fun l21 hl21 h => ?_; refine ai c20 ?_; refine ⟨_, rfl, _, row GD (eS) l21, rfl, wkOf ?_, ?_⟩
   ·subst hGD hLEN hA; rw [c28] at c20; refine upd_set hl21 (ix c20) ?_ ?_
    ·intro b hb hh
     match b, hb, hh with | 0, _, hh => exact (absurd hh (nd rfl)) | 1, _, hh => exact (absurd hh (nd rfl)) | 2, _, hh => exact rfl | 3, _, hh => exact (absurd hh (nd rfl)) | 4, _, hh => exact (absurd hh (nd rfl)) | (b_ + 5), h_, _ => omega
    ·intro b hb hh; match b, hb, hh with | 0, _, hh => exact rfl | 1, _, hh => exact rfl | 2, _, hh => exact (hh (yd rfl)).elim | 3, _, hh => exact rfl | 4, _, hh => exact rfl | (b_ + 5), h_, _ => omega
   cbv; revert h; refine ra fun c22 h => ?_; revert h; refine rq fun c27 => rl fun l23 hl23 h => ?_; refine ai c22 ?_; refine ⟨_, rfl, _, row GD (eS) l23, rfl, wkOf ?_, ?_⟩
   ·subst hGD hLEN hA; rw [c27] at c22; refine upd_set hl23 (ix c22) ?_ ?_
    ·intro b hb hh
     match b, hb, hh with | 0, _, hh => exact (absurd hh (nd rfl)) | 1, _, hh => exact (absurd hh (nd rfl)) | 2, _, hh => exact (absurd hh (nd rfl)) | 3, _, hh => exact rfl | 4, _, hh => exact (absurd hh (nd rfl)) | (b_ + 5), h_, _ => omega
    ·intro b hb hh; match b, hb, hh with | 0, _, hh => exact rfl | 1, _, hh => exact rfl | 2, _, hh => exact rfl | 3, _, hh => exact (hh (yd rfl)).elim | 4, _, hh => exact rfl | (b_ + 5), h_, _ => omega
   cbv; revert h; refine ra fun c24 h => ?_; revert h; refine rq fun c26 => rl fun l25 hl25 h => ?_; refine ai c24 ?_; refine ⟨_, rfl, _, row GD (eS) l25, rfl, wkOf ?_, ?_⟩
   ·subst hGD hLEN hA; rw [c26] at c24; refine upd_set hl25 (ix c24) ?_ ?_
    ·intro b hb hh
     match b, hb, hh with | 0, _, hh => exact (absurd hh (nd rfl)) | 1, _, hh => exact (absurd hh (nd rfl)) | 2, _, hh => exact (absurd hh (nd rfl)) | 3, _, hh => exact (absurd hh (nd rfl)) | 4, _, hh => exact rfl | (b_ + 5), h_, _ => omega
    ·intro b hb hh; match b, hb, hh with | 0, _, hh => exact rfl | 1, _, hh => exact rfl | 2, _, hh => exact rfl | 3, _, hh => exact rfl | 4, _, hh => exact (hh (yd rfl)).elim | (b_ + 5), h_, _ => omega
   cbv; exact dm
  exact dx
 rintro ⟨w32, w33⟩ h s q13; replace h := oz (oz (oz h)); dsimp only at h; cbv; refine ⟨_, q13, ?_⟩; cbv; revert h; refine rq fun c34 h => ?_; injection h with h; subst h; refine ⟨(sp 52 [(4, .c (wi w32))] [(5, .arr .rw [] (LEN w33) 5 (row GD (eS) w33))]), ?_, ?_⟩
 ·rw [c34]; exact zb
 ·exact ⟨lR _, ⟨oS, tv⟩, rfl⟩

def Lq52_x4 (a0 : List TB) : (Int × Int × (List TB)) -> Option ((Int × Int × (List TB)) ⊕ ((Int × (List TB)))) := fun x4 =>
 letO x4.1 fun v1 =>
 letO x4.2.1 fun v2 =>
 letO x4.2.2 fun v3 =>
 br (std.lt v2 (std.ofN (len a0)))
 (req (std.inR v2 (len a0)) <|
 req (len a0 = len v3) <|
 letO (List.set v3 (std.nadd 0 (std.toN v2)) (TB.mk v1 (gd v3 (std.nadd 0 (std.toN v2))).fa (gd v3 (std.nadd 0 (std.toN v2))).fN)) fun l17 =>
 req (std.inR v2 (len a0)) <|
 req (len a0 = len l17) <|
 letO (List.set l17 (std.nadd 0 (std.toN v2)) (TB.mk (gd l17 (std.nadd 0 (std.toN v2))).fy (TPoint.mk (std.add .i64 v1 1) (gd l17 (std.nadd 0 (std.toN v2))).fa.fY) (gd l17 (std.nadd 0 (std.toN v2))).fN)) fun l19 =>
 req (std.inR v2 (len a0)) <|
 req (len a0 = len l19) <|
 letO (List.set l19 (std.nadd 0 (std.toN v2)) (TB.mk (gd l19 (std.nadd 0 (std.toN v2))).fy (TPoint.mk (gd l19 (std.nadd 0 (std.toN v2))).fa.fX (std.add .i64 (std.add .i64 v1 1) 1)) (gd l19 (std.nadd 0 (std.toN v2))).fN)) fun l21 =>
 (Fq2 (std.add .i64 (std.add .i64 (std.add .i64 v1 1) 1) 1)).bind fun y22 =>
 req (std.inR v2 (len a0)) <|
 req (len a0 = len l21) <|
 letO (List.set l21 (std.nadd 0 (std.toN v2)) (TB.mk (gd l21 (std.nadd 0 (std.toN v2))).fy (gd l21 (std.nadd 0 (std.toN v2))).fa y22)) fun l25 =>
 some (.inl (std.add .i64 (std.add .i64 (std.add .i64 (std.add .i64 v1 1) 1) 1) 1, std.add .i64 v2 1, l25)))
 (some (.inr (v1, v3)))
/-- laws.markLabelS -/
def Fq52 (a0 : List TB) (a1 : Int) : Option (Int × (List TB)) :=
 (whileP (σ := Int × Int × (List TB)) (ρ := (Int × (List TB))) (Lq52_x4 a0) (a1, 0, a0)).bind fun y5 =>
 letO y5 fun y5k0 =>
 letO y5k0.1 fun w31 =>
 letO y5k0.2 fun w32 =>
 req (len a0 = len w32) <|
 some (w31, w32)
theorem runq52 (a0 : List TB) (a1 : Int) (r : Int × (List TB)) (h : Fq52 a0 a1 = some r) : Fun Tryz.prog 129 [.c (.os 5 0 (len a0)), .c (wi a1)] [(5, .arr .rw [] (len a0) 4 (row gd (eL) a0))] (.c (wi r.1)) [(5, .arr .rw [] (len r.2) 4 (row gd (eL) r.2))] true := by
 refine Fun.of_wp (oneOf []) tok mixed Tryz.func129 (by kernel_rfl) rfl Tryz.ntmps129 rfl ⟨fun i _ j _ k hk => (noref (plain_nil (pl_encLabel _ _)) hk).elim, tv⟩ (fun _ => ⟨trivial, ⟨fun i _ j _ => val_flat (vl_encLabel _ _), tv⟩⟩) ?_; unfold Fq52 at h; unfold Lq52_x4 at h; have hfq2 := @runq2
 generalize hLEN : @len = LEN, hGD : @gd = GD, hA : std = A, hP : Tryz.prog = P at *; cbv
 revert h; refine ln (.exit 0) (fun x => (sp 44 [(0, .c (.os 5 0 (LEN a0))), (1, .c (wi x.1)), (5, .c (wi x.2.1))] [(5, .arr .rw [] (LEN a0) 4 (row GD (eL) x.2.2))])) (fun w => (sp 44 [(1, .c (wi w.1))] [(5, .arr .rw [] (LEN a0) 4 (row GD (eL) w.2))])) zb ?_ ?_
 ·rintro ⟨v1, v2, v3⟩ z h K hK hY; replace h := oz (oz (oz h)); dsimp only at h; cbv; revert h; refine fk ?_ ?_ <;> intro h <;> cbv
  ·revert h; refine ra fun c16 h => ?_; revert h; refine rq fun c29 => rl fun l17 hl17 h => ?_; refine ai c16 ?_; refine ⟨_, rfl, _, row GD (eL) l17, rfl, wkOf ?_, ?_⟩
   ·subst hGD hLEN hA; rw [c29] at c16; refine upd_set hl17 (ix c16) ?_ ?_
    ·intro b hb hh; match b, hb, hh with | 0, _, hh => exact rfl | 1, _, hh => exact (absurd hh (nd rfl)) | 2, _, hh => exact (absurd hh (nd rfl)) | 3, _, hh => exact (absurd hh (nd rfl)) | (b_ + 4), h_, _ => omega
    ·intro b hb hh; match b, hb, hh with | 0, _, hh => exact (hh (yd rfl)).elim | 1, _, hh => exact rfl | 2, _, hh => exact rfl | 3, _, hh => exact rfl | (b_ + 4), h_, _ => omega
   cbv; revert h; refine ra fun c18 h => ?_; revert h; refine rq fun c28 => rl fun l19 hl19 h => ?_; refine ai c18 ?_; refine ⟨_, rfl, _, row GD (eL) l19, rfl, wkOf ?_, ?_⟩
   ·subst hGD hLEN hA; rw [c28] at c18; refine upd_set hl19 (ix c18) ?_ ?_
    ·intro b hb hh; match b, hb, hh with | 0, _, hh => exact (absurd hh (nd rfl)) | 1, _, hh => exact rfl | 2, _, hh => exact (absurd hh (nd rfl)) | 3, _, hh => exact (absurd hh (nd rfl)) | (b_ + 4), h_, _ => omega
    ·intro b hb hh; match b, hb, hh with | 0, _, hh => exact rfl | 1, _, hh => exact (hh (yd rfl)).elim | 2, _, hh => exact rfl | 3, _, hh => exact rfl | (b_ + 4), h_, _ => omega
   cbv; revert h; refine ra fun c20 h => ?_; revert h; refine rq fun c27 => rl fun l21 hl21 h => ?_; refine ai c20 ?_; refine ⟨_, rfl, _, row GD (eL) l21, rfl, wkOf ?_, ?_⟩
   ·subst hGD hLEN hA; rw [c27] at c20; refine upd_set hl21 (ix c20) ?_ ?_
    ·intro b hb hh; match b, hb, hh with | 0, _, hh => exact (absurd hh (nd rfl)) | 1, _, hh => exact (absurd hh (nd rfl)) | 2, _, hh => exact rfl | 3, _, hh => exact (absurd hh (nd rfl)) | (b_ + 4), h_, _ => omega
    ·intro b hb hh; match b, hb, hh with | 0, _, hh => exact rfl | 1, _, hh => exact rfl | 2, _, hh => exact (hh (yd rfl)).elim | 3, _, hh => exact rfl | (b_ + 4), h_, _ => omega
   cbv; revert h; refine rb fun y22 hy23 h => ?_; refine rc [] [] (hfq2 _ _ hy23) zf ?_; cbv; revert h; refine ra fun c24 h => ?_; revert h; refine rq fun c26 => rl fun l25 hl25 h => ?_; refine ai c24 ?_; refine ⟨_, rfl, _, row GD (eL) l25, rfl, wkOf ?_, ?_⟩
   ·subst hGD hLEN hA; rw [c26] at c24; refine upd_set hl25 (ix c24) ?_ ?_
    ·intro b hb hh; match b, hb, hh with | 0, _, hh => exact (absurd hh (nd rfl)) | 1, _, hh => exact (absurd hh (nd rfl)) | 2, _, hh => exact (absurd hh (nd rfl)) | 3, _, hh => exact rfl | (b_ + 4), h_, _ => omega
    ·intro b hb hh; match b, hb, hh with | 0, _, hh => exact rfl | 1, _, hh => exact rfl | 2, _, hh => exact rfl | 3, _, hh => exact (hh (yd rfl)).elim | (b_ + 4), h_, _ => omega
   cbv; exact dm
  exact dx
 rintro ⟨w31, w32⟩ h s q13; replace h := oz (oz (oz h)); dsimp only at h; cbv; refine ⟨_, q13, ?_⟩; cbv; revert h; refine rq fun c33 h => ?_; injection h with h; subst h; refine ⟨(sp 44 [(4, .c (wi w31))] [(5, .arr .rw [] (LEN w32) 4 (row GD (eL) w32))]), ?_, ?_⟩
 ·rw [c33]; exact zb
 ·exact ⟨lR _, ⟨oS, tv⟩, rfl⟩

def Lq56_x4 (a0 : List TI) : (Int × Int × (List TI)) -> Option ((Int × Int × (List TI)) ⊕ ((Int × (List TI)))) := fun x4 =>
 letO x4.1 fun v1 =>
 letO x4.2.1 fun v2 =>
 letO x4.2.2 fun v3 =>
 br (std.lt v2 (std.ofN (len a0)))
 (req (std.inR v2 (len a0)) <|
 req (len a0 = len v3) <|
 letO (List.set v3 (std.nadd 0 (std.toN v2)) (TI.mk v1 (gd v3 (std.nadd 0 (std.toN v2))).fp (gd v3 (std.nadd 0 (std.toN v2))).fK (gd v3 (std.nadd 0 (std.toN v2))).fR (gd v3 (std.nadd 0 (std.toN v2))).fu (gd v3 (std.nadd 0 (std.toN v2))).fv)) fun l17 =>
 req (std.inR v2 (len a0)) <|
 req (len a0 = len l17) <|
 letO (List.set l17 (std.nadd 0 (std.toN v2)) (TI.mk (gd l17 (std.nadd 0 (std.toN v2))).fc (TM.mk (std.add .i64 v1 1) (gd l17 (std.nadd 0 (std.toN v2))).fp.fX (gd l17 (std.nadd 0 (std.toN v2))).fp.fY) (gd l17 (std.nadd 0 (std.toN v2))).fK (gd l17 (std.nadd 0 (std.toN v2))).fR (gd l17 (std.nadd 0 (std.toN v2))).fu (gd l17 (std.nadd 0 (std.toN v2))).fv)) fun l19 =>
 req (std.inR v2 (len a0)) <|
 req (len a0 = len l19) <|
 letO (List.set l19 (std.nadd 0 (std.toN v2)) (TI.mk (gd l19 (std.nadd 0 (std.toN v2))).fc (TM.mk (gd l19 (std.nadd 0 (std.toN v2))).fp.fo (std.add .i64 (std.add .i64 v1 1) 1) (gd l19 (std.nadd 0 (std.toN v2))).fp.fY) (gd l19 (std.nadd 0 (std.toN v2))).fK (gd l19 (std.nadd 0 (std.toN v2))).fR (gd l19 (std.nadd 0 (std.toN v2))).fu (gd l19 (std.nadd 0 (std.toN v2))).fv)) fun l21 =>
 req (std.inR v2 (len a0)) <|
 req (len a0 = len l21) <|
 letO (List.set l21 (std.nadd 0 (std.toN v2)) (TI.mk (gd l21 (std.nadd 0 (std.toN v2))).fc (TM.mk (gd l21 (std.nadd 0 (std.toN v2))).fp.fo (gd l21 (std.nadd 0 (std.toN v2))).fp.fX (std.add .i64 (std.add .i64 (std.add .i64 v1 1) 1) 1)) (gd l21 (std.nadd 0 (std.toN v2))).fK (gd l21 (std.nadd 0 (std.toN v2))).fR (gd l21 (std.nadd 0 (std.toN v2))).fu (gd l21 (std.nadd 0 (std.toN v2))).fv)) fun l23 =>
 req (std.inR v2 (len a0)) <|
 req (len a0 = len l23) <|
 letO (List.set l23 (std.nadd 0 (std.toN v2)) (TI.mk (gd l23 (std.nadd 0 (std.toN v2))).fc (gd l23 (std.nadd 0 (std.toN v2))).fp (std.add .i64 (std.add .i64 (std.add .i64 (std.add .i64 v1 1) 1) 1) 1) (gd l23 (std.nadd 0 (std.toN v2))).fR (gd l23 (std.nadd 0 (std.toN v2))).fu (gd l23 (std.nadd 0 (std.toN v2))).fv)) fun l25 =>
 req (std.inR v2 (len a0)) <|
 req (len a0 = len l25) <|
 letO (List.set l25 (std.nadd 0 (std.toN v2)) (TI.mk (gd l25 (std.nadd 0 (std.toN v2))).fc (gd l25 (std.nadd 0 (std.toN v2))).fp (gd l25 (std.nadd 0 (std.toN v2))).fK (std.add .i64 (std.add .i64 (std.add .i64 (std.add .i64 (std.add .i64 v1 1) 1) 1) 1) 1) (gd l25 (std.nadd 0 (std.toN v2))).fu (gd l25 (std.nadd 0 (std.toN v2))).fv)) fun l27 =>
 req (std.inR v2 (len a0)) <|
 req (len a0 = len l27) <|
 letO (List.set l27 (std.nadd 0 (std.toN v2)) (TI.mk (gd l27 (std.nadd 0 (std.toN v2))).fc (gd l27 (std.nadd 0 (std.toN v2))).fp (gd l27 (std.nadd 0 (std.toN v2))).fK (gd l27 (std.nadd 0 (std.toN v2))).fR (std.add .i64 (std.add .i64 (std.add .i64 (std.add .i64 (std.add .i64 (std.add .i64 v1 1) 1) 1) 1) 1) 1) (gd l27 (std.nadd 0 (std.toN v2))).fv)) fun l29 =>
 req (std.inR v2 (len a0)) <|
 req (len a0 = len l29) <|
 letO (List.set l29 (std.nadd 0 (std.toN v2)) (TI.mk (gd l29 (std.nadd 0 (std.toN v2))).fc (gd l29 (std.nadd 0 (std.toN v2))).fp (gd l29 (std.nadd 0 (std.toN v2))).fK (gd l29 (std.nadd 0 (std.toN v2))).fR (gd l29 (std.nadd 0 (std.toN v2))).fu (std.add .i64 (std.add .i64 (std.add .i64 (std.add .i64 (std.add .i64 (std.add .i64 (std.add .i64 v1 1) 1) 1) 1) 1) 1) 1))) fun l31 =>
 some (.inl (std.add .i64 (std.add .i64 (std.add .i64 (std.add .i64 (std.add .i64 (std.add .i64 (std.add .i64 (std.add .i64 v1 1) 1) 1) 1) 1) 1) 1) 1, std.add .i64 v2 1, l31)))
 (some (.inr (v1, v3)))
/-- laws.markInstanceS -/
def Fq56 (a0 : List TI) (a1 : Int) : Option (Int × (List TI)) :=
 (whileP (σ := Int × Int × (List TI)) (ρ := (Int × (List TI))) (Lq56_x4 a0) (a1, 0, a0)).bind fun y5 =>
 letO y5 fun y5k0 =>
 letO y5k0.1 fun w41 =>
 letO y5k0.2 fun w42 =>
 req (len a0 = len w42) <|
 some (w41, w42)
theorem runq56 (a0 : List TI) (a1 : Int) (r : Int × (List TI)) (h : Fq56 a0 a1 = some r) : Fun Tryz.prog 130 [.c (.os 5 0 (len a0)), .c (wi a1)] [(5, .arr .rw [] (len a0) 8 (row gd (eI) a0))] (.c (wi r.1)) [(5, .arr .rw [] (len r.2) 8 (row gd (eI) r.2))] true := by
 refine Fun.of_wp (oneOf []) tok mixed Tryz.func130 (by kernel_rfl) rfl Tryz.ntmps130 rfl ⟨fun i _ j _ k hk => (noref (plain_nil (pl_encInstance _ _)) hk).elim, tv⟩ (fun _ => ⟨trivial, ⟨fun i _ j _ => val_flat (vl_encInstance _ _), tv⟩⟩) ?_; unfold Fq56 at h; unfold Lq56_x4 at h
 generalize hLEN : @len = LEN, hGD : @gd = GD, hA : std = A, hP : Tryz.prog = P at *; cbv
 revert h; refine ln (.exit 0) (fun x => (sp 72 [(0, .c (.os 5 0 (LEN a0))), (1, .c (wi x.1)), (5, .c (wi x.2.1))] [(5, .arr .rw [] (LEN a0) 8 (row GD (eI) x.2.2))])) (fun w => (sp 72 [(1, .c (wi w.1))] [(5, .arr .rw [] (LEN a0) 8 (row GD (eI) w.2))])) zb ?_ ?_
 ·rintro ⟨v1, v2, v3⟩ z h K hK hY; replace h := oz (oz (oz h)); dsimp only at h; cbv; revert h; refine fk ?_ ?_ <;> intro h <;> cbv
  ·revert h; refine ra fun c16 h => ?_; revert h; refine rq fun c39 => rl fun l17 hl17 h => ?_; refine ai c16 ?_; refine ⟨_, rfl, _, row GD (eI) l17, rfl, wkOf ?_, ?_⟩
   ·subst hGD hLEN hA; rw [c39] at c16; refine upd_set hl17 (ix c16) ?_ ?_
    ·intro b hb hh
     match b, hb, hh with | 0, _, hh => exact rfl | 1, _, hh => exact (absurd hh (nd rfl)) | 2, _, hh => exact (absurd hh (nd rfl)) | 3, _, hh => exact (absurd hh (nd rfl)) | 4, _, hh => exact (absurd hh (nd rfl)) | 5, _, hh => exact (absurd hh (nd rfl)) | 6, _, hh => exact (absurd hh (nd rfl)) | 7, _, hh => exact (absurd hh (nd rfl)) | (b_ + 8), h_, _ => omega
    ·intro b hb hh; match b, hb, hh with | 0, _, hh => exact (hh (yd rfl)).elim | 1, _, hh => exact rfl | 2, _, hh => exact rfl | 3, _, hh => exact rfl | 4, _, hh => exact rfl | 5, _, hh => exact rfl | 6, _, hh => exact rfl | 7, _, hh => exact rfl | (b_ + 8), h_, _ => omega
   cbv; revert h; refine ra fun c18 h => ?_; revert h; refine rq fun c38 => rl fun l19 hl19 h => ?_; refine ai c18 ?_; refine ⟨_, rfl, _, row GD (eI) l19, rfl, wkOf ?_, ?_⟩
   ·subst hGD hLEN hA; rw [c38] at c18; refine upd_set hl19 (ix c18) ?_ ?_
    ·intro b hb hh
     match b, hb, hh with | 0, _, hh => exact (absurd hh (nd rfl)) | 1, _, hh => exact rfl | 2, _, hh => exact (absurd hh (nd rfl)) | 3, _, hh => exact (absurd hh (nd rfl)) | 4, _, hh => exact (absurd hh (nd rfl)) | 5, _, hh => exact (absurd hh (nd rfl)) | 6, _, hh => exact (absurd hh (nd rfl)) | 7, _, hh => exact (absurd hh (nd rfl)) | (b_ + 8), h_, _ => omega
    ·intro b hb hh; match b, hb, hh with | 0, _, hh => exact rfl | 1, _, hh => exact (hh (yd rfl)).elim | 2, _, hh => exact rfl | 3, _, hh => exact rfl | 4, _, hh => exact rfl | 5, _, hh => exact rfl | 6, _, hh => exact rfl | 7, _, hh => exact rfl | (b_ + 8), h_, _ => omega
   cbv; revert h; refine ra fun c20 h => ?_; revert h; refine rq fun c37 => rl fun l21 hl21 h => ?_; refine ai c20 ?_; refine ⟨_, rfl, _, row GD (eI) l21, rfl, wkOf ?_, ?_⟩
   ·subst hGD hLEN hA; rw [c37] at c20; refine upd_set hl21 (ix c20) ?_ ?_
    ·intro b hb hh
     match b, hb, hh with | 0, _, hh => exact (absurd hh (nd rfl)) | 1, _, hh => exact (absurd hh (nd rfl)) | 2, _, hh => exact rfl | 3, _, hh => exact (absurd hh (nd rfl)) | 4, _, hh => exact (absurd hh (nd rfl)) | 5, _, hh => exact (absurd hh (nd rfl)) | 6, _, hh => exact (absurd hh (nd rfl)) | 7, _, hh => exact (absurd hh (nd rfl)) | (b_ + 8), h_, _ => omega
    ·intro b hb hh; match b, hb, hh with | 0, _, hh => exact rfl | 1, _, hh => exact rfl | 2, _, hh => exact (hh (yd rfl)).elim | 3, _, hh => exact rfl | 4, _, hh => exact rfl | 5, _, hh => exact rfl | 6, _, hh => exact rfl | 7, _, hh => exact rfl | (b_ + 8), h_, _ => omega
   cbv; revert h; refine ra fun c22 h => ?_; revert h; refine rq fun c36 => rl fun l23 hl23 h => ?_; refine ai c22 ?_; refine ⟨_, rfl, _, row GD (eI) l23, rfl, wkOf ?_, ?_⟩
   ·subst hGD hLEN hA; rw [c36] at c22; refine upd_set hl23 (ix c22) ?_ ?_
    ·intro b hb hh
     match b, hb, hh with | 0, _, hh => exact (absurd hh (nd rfl)) | 1, _, hh => exact (absurd hh (nd rfl)) | 2, _, hh => exact (absurd hh (nd rfl)) | 3, _, hh => exact rfl | 4, _, hh => exact (absurd hh (nd rfl)) | 5, _, hh => exact (absurd hh (nd rfl)) | 6, _, hh => exact (absurd hh (nd rfl)) | 7, _, hh => exact (absurd hh (nd rfl)) | (b_ + 8), h_, _ => omega
    ·intro b hb hh; match b, hb, hh with | 0, _, hh => exact rfl | 1, _, hh => exact rfl | 2, _, hh => exact rfl | 3, _, hh => exact (hh (yd rfl)).elim | 4, _, hh => exact rfl | 5, _, hh => exact rfl | 6, _, hh => exact rfl | 7, _, hh => exact rfl | (b_ + 8), h_, _ => omega
   cbv; revert h; refine ra fun c24 h => ?_; revert h; refine rq fun c35 => rl fun l25 hl25 h => ?_; refine ai c24 ?_; refine ⟨_, rfl, _, row GD (eI) l25, rfl, wkOf ?_, ?_⟩
   ·subst hGD hLEN hA; rw [c35] at c24; refine upd_set hl25 (ix c24) ?_ ?_
    ·intro b hb hh
     match b, hb, hh with | 0, _, hh => exact (absurd hh (nd rfl)) | 1, _, hh => exact (absurd hh (nd rfl)) | 2, _, hh => exact (absurd hh (nd rfl)) | 3, _, hh => exact (absurd hh (nd rfl)) | 4, _, hh => exact rfl | 5, _, hh => exact (absurd hh (nd rfl)) | 6, _, hh => exact (absurd hh (nd rfl)) | 7, _, hh => exact (absurd hh (nd rfl)) | (b_ + 8), h_, _ => omega
    ·intro b hb hh; match b, hb, hh with | 0, _, hh => exact rfl | 1, _, hh => exact rfl | 2, _, hh => exact rfl | 3, _, hh => exact rfl | 4, _, hh => exact (hh (yd rfl)).elim | 5, _, hh => exact rfl | 6, _, hh => exact rfl | 7, _, hh => exact rfl | (b_ + 8), h_, _ => omega
   cbv; revert h; refine ra fun c26 h => ?_; revert h; refine rq fun c34 => rl fun l27 hl27 h => ?_; refine ai c26 ?_; refine ⟨_, rfl, _, row GD (eI) l27, rfl, wkOf ?_, ?_⟩
   ·subst hGD hLEN hA; rw [c34] at c26; refine upd_set hl27 (ix c26) ?_ ?_
    ·intro b hb hh
     match b, hb, hh with | 0, _, hh => exact (absurd hh (nd rfl)) | 1, _, hh => exact (absurd hh (nd rfl)) | 2, _, hh => exact (absurd hh (nd rfl)) | 3, _, hh => exact (absurd hh (nd rfl)) | 4, _, hh => exact (absurd hh (nd rfl)) | 5, _, hh => exact rfl | 6, _, hh => exact (absurd hh (nd rfl)) | 7, _, hh => exact (absurd hh (nd rfl)) | (b_ + 8), h_, _ => omega
    ·intro b hb hh; match b, hb, hh with | 0, _, hh => exact rfl | 1, _, hh => exact rfl | 2, _, hh => exact rfl | 3, _, hh => exact rfl | 4, _, hh => exact rfl | 5, _, hh => exact (hh (yd rfl)).elim | 6, _, hh => exact rfl | 7, _, hh => exact rfl | (b_ + 8), h_, _ => omega
   cbv; revert h; refine ra fun c28 h => ?_; revert h; refine rq fun c33 => rl fun l29 hl29 h => ?_; refine ai c28 ?_; refine ⟨_, rfl, _, row GD (eI) l29, rfl, wkOf ?_, ?_⟩
   ·subst hGD hLEN hA; rw [c33] at c28; refine upd_set hl29 (ix c28) ?_ ?_
    ·intro b hb hh
     match b, hb, hh with | 0, _, hh => exact (absurd hh (nd rfl)) | 1, _, hh => exact (absurd hh (nd rfl)) | 2, _, hh => exact (absurd hh (nd rfl)) | 3, _, hh => exact (absurd hh (nd rfl)) | 4, _, hh => exact (absurd hh (nd rfl)) | 5, _, hh => exact (absurd hh (nd rfl)) | 6, _, hh => exact rfl | 7, _, hh => exact (absurd hh (nd rfl)) | (b_ + 8), h_, _ => omega
    ·intro b hb hh; match b, hb, hh with | 0, _, hh => exact rfl | 1, _, hh => exact rfl | 2, _, hh => exact rfl | 3, _, hh => exact rfl | 4, _, hh => exact rfl | 5, _, hh => exact rfl | 6, _, hh => exact (hh (yd rfl)).elim | 7, _, hh => exact rfl | (b_ + 8), h_, _ => omega
   cbv; revert h; refine ra fun c30 h => ?_; revert h; refine rq fun c32 => rl fun l31 hl31 h => ?_; refine ai c30 ?_; refine ⟨_, rfl, _, row GD (eI) l31, rfl, wkOf ?_, ?_⟩
   ·subst hGD hLEN hA; rw [c32] at c30; refine upd_set hl31 (ix c30) ?_ ?_
    ·intro b hb hh
     match b, hb, hh with | 0, _, hh => exact (absurd hh (nd rfl)) | 1, _, hh => exact (absurd hh (nd rfl)) | 2, _, hh => exact (absurd hh (nd rfl)) | 3, _, hh => exact (absurd hh (nd rfl)) | 4, _, hh => exact (absurd hh (nd rfl)) | 5, _, hh => exact (absurd hh (nd rfl)) | 6, _, hh => exact (absurd hh (nd rfl)) | 7, _, hh => exact rfl | (b_ + 8), h_, _ => omega
    ·intro b hb hh; match b, hb, hh with | 0, _, hh => exact rfl | 1, _, hh => exact rfl | 2, _, hh => exact rfl | 3, _, hh => exact rfl | 4, _, hh => exact rfl | 5, _, hh => exact rfl | 6, _, hh => exact rfl | 7, _, hh => exact (hh (yd rfl)).elim | (b_ + 8), h_, _ => omega
   cbv; exact dm
  exact dx
 rintro ⟨w41, w42⟩ h s q13; replace h := oz (oz (oz h)); dsimp only at h; cbv; refine ⟨_, q13, ?_⟩; cbv; revert h; refine rq fun c43 h => ?_; injection h with h; subst h; refine ⟨(sp 72 [(4, .c (wi w41))] [(5, .arr .rw [] (LEN w42) 8 (row GD (eI) w42))]), ?_, ?_⟩
 ·rw [c43]; exact zb
 ·exact ⟨lR _, ⟨oS, tv⟩, rfl⟩

def Lq50_x4 (a0 : List TC) : (Int × Int × (List TC)) -> Option ((Int × Int × (List TC)) ⊕ ((Int × (List TC)))) := fun x4 =>
 letO x4.1 fun v1 =>
 letO x4.2.1 fun v2 =>
 letO x4.2.2 fun v3 =>
 br (std.lt v2 (std.ofN (len a0)))
 (((
 (Fq2 v1).bind fun y23 =>
 req (std.inR v2 (len a0)) <|
 req (len a0 = len v3) <|
 letO (List.set v3 (std.nadd 0 (std.toN v2)) (TC.mk y23 (gd v3 (std.nadd 0 (std.toN v2))).fS (gd v3 (std.nadd 0 (std.toN v2))).fL (gd v3 (std.nadd 0 (std.toN v2))).fI)) fun l26 =>
 some l26
 ) : Option ((List TC))).bind fun y16 =>
 letO y16 fun w22 =>
 ((
 req (std.inR v2 (len a0)) <|
 (Fq48 (gd w22 (std.nadd 0 (std.toN v2))).fS (std.add .i64 v1 1)).bind fun y37 =>
 req (len y37.2 = len (gd w22 (std.nadd 0 (std.toN v2))).fS) <|
 req (len (gd w22 (std.nadd 0 (std.toN v2))).fS = len y37.2) <|
 req (len a0 = len w22) <|
 letO (List.set w22 (std.nadd 0 (std.toN v2)) (TC.mk (gd w22 (std.nadd 0 (std.toN v2))).fN y37.2 (gd w22 (std.nadd 0 (std.toN v2))).fL (gd w22 (std.nadd 0 (std.toN v2))).fI)) fun l40 =>
 some (y37.1, l40)
 ) : Option (Int × (List TC))).bind fun y28 =>
 letO y28.1 fun w34 =>
 letO y28.2 fun w35 =>
 ((
 req (std.inR v2 (len a0)) <|
 (Fq52 (gd w35 (std.nadd 0 (std.toN v2))).fL w34).bind fun y52 =>
 req (len y52.2 = len (gd w35 (std.nadd 0 (std.toN v2))).fL) <|
 req (len (gd w35 (std.nadd 0 (std.toN v2))).fL = len y52.2) <|
 req (len a0 = len w35) <|
 letO (List.set w35 (std.nadd 0 (std.toN v2)) (TC.mk (gd w35 (std.nadd 0 (std.toN v2))).fN (gd w35 (std.nadd 0 (std.toN v2))).fS y52.2 (gd w35 (std.nadd 0 (std.toN v2))).fI)) fun l55 =>
 some (y52.1, l55)
 ) : Option (Int × (List TC))).bind fun y43 =>
 letO y43.1 fun w49 =>
 letO y43.2 fun w50 =>
 ((
 req (std.inR v2 (len a0)) <|
 (Fq56 (gd w50 (std.nadd 0 (std.toN v2))).fI w49).bind fun y67 =>
 req (len y67.2 = len (gd w50 (std.nadd 0 (std.toN v2))).fI) <|
 req (len (gd w50 (std.nadd 0 (std.toN v2))).fI = len y67.2) <|
 req (len a0 = len w50) <|
 letO (List.set w50 (std.nadd 0 (std.toN v2)) (TC.mk (gd w50 (std.nadd 0 (std.toN v2))).fN (gd w50 (std.nadd 0 (std.toN v2))).fS (gd w50 (std.nadd 0 (std.toN v2))).fL y67.2)) fun l70 =>
 some (y67.1, l70)
 ) : Option (Int × (List TC))).bind fun y58 =>
 letO y58.1 fun w64 =>
 letO y58.2 fun w65 =>
 some (.inl (w64, std.add .i64 v2 1, w65)))
 (some (.inr (v1, v3)))
/-- laws.markCellS -/
def Fq50 (a0 : List TC) (a1 : Int) : Option (Int × (List TC)) :=
 (whileP (σ := Int × Int × (List TC)) (ρ := (Int × (List TC))) (Lq50_x4 a0) (a1, 0, a0)).bind fun y5 =>
 letO y5 fun y5k0 =>
 letO y5k0.1 fun w74 =>
 letO y5k0.2 fun w75 =>
 req (len a0 = len w75) <|
 some (w74, w75)
theorem runq50 (a0 : List TC) (a1 : Int) (r : Int × (List TC)) (h : Fq50 a0 a1 = some r) : Fun Tryz.prog 67 [.c (.os 5 0 (len a0)), .c (wi a1)] [(5, .arr .rw [] (len a0) 4 (row gd (oC len gd) a0))] (.c (wi r.1)) [(5, .arr .rw [] (len r.2) 4 (row gd (oC len gd) r.2))] true := by
 refine Fun.of_wp (oneOf [4, 6, 7, 8]) tok mixed Tryz.func67 (by kernel_rfl) rfl Tryz.ntmps67 rfl ⟨fun i _ j _ k hk => (noref (rC _ _) hk).elim, tv⟩ (fun _ => ⟨trivial, ⟨fun i _ j _ => fl_oncCell _ _, tv⟩⟩) ?_; unfold Fq50 at h; unfold Lq50_x4 at h; have hfq56 := @runq56
 have hfq52 := @runq52; have hfq48 := @runq48; have hfq2 := @runq2; generalize hLEN : @len = LEN, hGD : @gd = GD, hA : std = A, hP : Tryz.prog = P at *; cbv
 revert h; refine ln (.exit 0) (fun x => (sp 42 [(0, .c (.os 5 0 (LEN a0))), (1, .c (wi x.1)), (5, .c (wi x.2.1))] [(5, .arr .rw [] (LEN a0) 4 (row GD (oC LEN GD) x.2.2))])) (fun w => (sp 42 [(1, .c (wi w.1))] [(5, .arr .rw [] (LEN a0) 4 (row GD (oC LEN GD) w.2))])) zb ?_ ?_
 ·rintro ⟨v1, v2, v3⟩ z h K hK hY; replace h := oz (oz (oz h)); dsimp only at h; cbv; revert h; refine fk ?_ ?_ <;> intro h <;> cbv
  ·revert h; refine cu (fun y16 => (sp 42 [(0, .c (.os 5 0 (LEN a0))), (1, .c (wi v1)), (5, .c (wi v2))] [(5, .arr .rw [] (LEN a0) 4 (row GD (oC LEN GD) y16))])) ?_ fun w22 => rz fun h => ?_
   ·intro y16 S hS h; cbv; revert h; refine rb fun y23 hy24 h => ?_; refine rc [] [] (hfq2 _ _ hy24) zf ?_; cbv; revert h; refine ra fun c25 h => ?_; refine ai c25 ?_
    refine ⟨_, rfl, _, (pC (row GD (oC LEN GD) v3) (A.nadd 0 (A.toN v2)) [ws y23, .ow (LEN (GD v3 (A.nadd 0 (A.toN v2))).fS) 5 (row GD (eS) (GD v3 (A.nadd 0 (A.toN v2))).fS), .ow (LEN (GD v3 (A.nadd 0 (A.toN v2))).fL) 4 (row GD (eL) (GD v3 (A.nadd 0 (A.toN v2))).fL), .ow (LEN (GD v3 (A.nadd 0 (A.toN v2))).fI) 8 (row GD (eI) (GD v3 (A.nadd 0 (A.toN v2))).fI)]), rfl, wkOf (patch_of zr), ?_⟩
    cbv; revert h; refine rq fun c27 => rl fun l26 hl26 h => ?_; injection h with h; subst h; subst hS; show St.le _ _
    exact lsp rfl zl ⟨⟨fun hw => hw, fun c hc => (by cases hc), .inr (fun i _ j _ z hz => (noref (rC _ _) hz).elim), rfl, rfl, (by subst hGD hLEN hA; exact patch_set hl26 (ix (by rw [<- c27]; exact c25)) (by intro j hj; match j, hj with | 0, _ => rfl | 1, _ => rfl | 2, _ => rfl | 3, _ => rfl | (j_ + 4), h_ => omega))⟩, tv⟩ rfl
   cbv; revert h; refine cu (fun y28 => (sp 42 [(0, .c (.os 5 0 (LEN a0))), (1, .c (wi y28.1)), (5, .c (wi v2))] [(5, .arr .rw [] (LEN a0) 4 (row GD (oC LEN GD) y28.2))])) ?_ ?_
   ·intro y28 S hS h; cbv; revert h; refine ra fun c36 h => ?_; refine ai c36 ?_
    refine ⟨_, rfl, _, (pC (row GD (oC LEN GD) w22) (A.nadd 0 (A.toN v2)) [ws (GD w22 (A.nadd 0 (A.toN v2))).fN, .os 1538 0 (LEN (GD w22 (A.nadd 0 (A.toN v2))).fS), .ow (LEN (GD w22 (A.nadd 0 (A.toN v2))).fL) 4 (row GD (eL) (GD w22 (A.nadd 0 (A.toN v2))).fL), .ow (LEN (GD w22 (A.nadd 0 (A.toN v2))).fI) 8 (row GD (eI) (GD w22 (A.nadd 0 (A.toN v2))).fI)]), rfl, wkOf (patch_of zr), ?_⟩
    refine ⟨_, row GD (eS) (GD w22 (A.nadd 0 (A.toN v2))).fS, rfl, wkOf (fun i _ j _ => plain_cp (pl_encShape _ _)), ?_⟩; cbv; revert h; refine rb fun y37 hy38 => rq fun c42 h => ?_; refine rc [(5, 1538)] [(5, 1538)] (hfq48 _ _ _ hy38) yf ⟨_, rfl, LEN (GD w22 (A.nadd 0 (A.toN v2))).fS, _, c42, fun _ _ _ _ => .refl _, ?_⟩; cbv
    revert h; refine rq fun c39 => rq fun c41 => rl fun l40 hl40 h => ?_; injection h with h; subst h; subst hS; show St.le _ _; refine St.le_trans (le_foldP 5 1 1538 rfl rfl rfl (by decide) (by subst hA; exact ix c36) (by decide) rfl (fun _ _ => rC _ _)) ?_
    exact lsp rfl zl ⟨⟨fun hw => hw, fun c hc => (by cases hc), .inr (fun i _ j _ z hz => (noref (rC _ _) hz).elim), rfl, rfl, (by subst hGD hLEN hA; exact patch_set hl40 (ix (by rw [<- c41]; exact c36)) (by intro j hj; match j, hj with | 0, _ => rfl | 1, _ => exact (by first | rfl | exact congrArg (fun n => AC.ow n _ _) (Eq.symm (by assumption)) | exact congrArg (fun n => AC.ow n _ _) (by assumption)) | 2, _ => rfl | 3, _ => rfl | (j_ + 4), h_ => omega))⟩, tv⟩ rfl
   rintro ⟨w34, w35⟩ h; replace h := oz (oz h); dsimp only at h; cbv; revert h; refine cu (fun y43 => (sp 42 [(0, .c (.os 5 0 (LEN a0))), (1, .c (wi y43.1)), (5, .c (wi v2))] [(5, .arr .rw [] (LEN a0) 4 (row GD (oC LEN GD) y43.2))])) ?_ ?_
   ·intro y43 S hS h; cbv; revert h; refine ra fun c51 h => ?_; refine ai c51 ?_
    refine ⟨_, rfl, _, (pC (row GD (oC LEN GD) w35) (A.nadd 0 (A.toN v2)) [ws (GD w35 (A.nadd 0 (A.toN v2))).fN, .ow (LEN (GD w35 (A.nadd 0 (A.toN v2))).fS) 5 (row GD (eS) (GD w35 (A.nadd 0 (A.toN v2))).fS), .os 1986 0 (LEN (GD w35 (A.nadd 0 (A.toN v2))).fL), .ow (LEN (GD w35 (A.nadd 0 (A.toN v2))).fI) 8 (row GD (eI) (GD w35 (A.nadd 0 (A.toN v2))).fI)]), rfl, wkOf (patch_of zr), ?_⟩
    refine ⟨_, row GD (eL) (GD w35 (A.nadd 0 (A.toN v2))).fL, rfl, wkOf (fun i _ j _ => plain_cp (pl_encLabel _ _)), ?_⟩; cbv; revert h; refine rb fun y52 hy53 => rq fun c57 h => ?_; refine rc [(5, 1986)] [(5, 1986)] (hfq52 _ _ _ hy53) yf ⟨_, rfl, LEN (GD w35 (A.nadd 0 (A.toN v2))).fL, _, c57, fun _ _ _ _ => .refl _, ?_⟩; cbv
    revert h; refine rq fun c54 => rq fun c56 => rl fun l55 hl55 h => ?_; injection h with h; subst h; subst hS; show St.le _ _; refine St.le_trans (le_foldP 5 2 1986 rfl rfl rfl (by decide) (by subst hA; exact ix c51) (by decide) rfl (fun _ _ => rC _ _)) ?_
    exact lsp rfl zl ⟨⟨fun hw => hw, fun c hc => (by cases hc), .inr (fun i _ j _ z hz => (noref (rC _ _) hz).elim), rfl, rfl, (by subst hGD hLEN hA; exact patch_set hl55 (ix (by rw [<- c56]; exact c51)) (by intro j hj; match j, hj with | 0, _ => rfl | 1, _ => rfl | 2, _ => exact (by first | rfl | exact congrArg (fun n => AC.ow n _ _) (Eq.symm (by assumption)) | exact congrArg (fun n => AC.ow n _ _) (by assumption)) | 3, _ => rfl | (j_ + 4), h_ => omega))⟩, tv⟩ rfl
   rintro ⟨w49, w50⟩ h; replace h := oz (oz h); dsimp only at h; cbv; revert h; refine cu (fun y58 => (sp 42 [(0, .c (.os 5 0 (LEN a0))), (1, .c (wi y58.1)), (5, .c (wi v2))] [(5, .arr .rw [] (LEN a0) 4 (row GD (oC LEN GD) y58.2))])) ?_ ?_
   ·intro y58 S hS h; cbv; revert h; refine ra fun c66 h => ?_; refine ai c66 ?_
    refine ⟨_, rfl, _, (pC (row GD (oC LEN GD) w50) (A.nadd 0 (A.toN v2)) [ws (GD w50 (A.nadd 0 (A.toN v2))).fN, .ow (LEN (GD w50 (A.nadd 0 (A.toN v2))).fS) 5 (row GD (eS) (GD w50 (A.nadd 0 (A.toN v2))).fS), .ow (LEN (GD w50 (A.nadd 0 (A.toN v2))).fL) 4 (row GD (eL) (GD w50 (A.nadd 0 (A.toN v2))).fL), .os 2434 0 (LEN (GD w50 (A.nadd 0 (A.toN v2))).fI)]), rfl, wkOf (patch_of zr), ?_⟩
    refine ⟨_, row GD (eI) (GD w50 (A.nadd 0 (A.toN v2))).fI, rfl, wkOf (fun i _ j _ => plain_cp (pl_encInstance _ _)), ?_⟩; cbv; revert h; refine rb fun y67 hy68 => rq fun c72 h => ?_; refine rc [(5, 2434)] [(5, 2434)] (hfq56 _ _ _ hy68) yf ⟨_, rfl, LEN (GD w50 (A.nadd 0 (A.toN v2))).fI, _, c72, fun _ _ _ _ => .refl _, ?_⟩; cbv
    revert h; refine rq fun c69 => rq fun c71 => rl fun l70 hl70 h => ?_; injection h with h; subst h; subst hS; show St.le _ _; refine St.le_trans (le_foldP 5 3 2434 rfl rfl rfl (by decide) (by subst hA; exact ix c66) (by decide) rfl (fun _ _ => rC _ _)) ?_
    exact lsp rfl zl ⟨⟨fun hw => hw, fun c hc => (by cases hc), .inr (fun i _ j _ z hz => (noref (rC _ _) hz).elim), rfl, rfl, (by subst hGD hLEN hA; exact patch_set hl70 (ix (by rw [<- c71]; exact c66)) (by intro j hj; match j, hj with | 0, _ => rfl | 1, _ => rfl | 2, _ => rfl | 3, _ => exact (by first | rfl | exact congrArg (fun n => AC.ow n _ _) (Eq.symm (by assumption)) | exact congrArg (fun n => AC.ow n _ _) (by assumption)) | (j_ + 4), h_ => omega))⟩, tv⟩ rfl
   rintro ⟨w64, w65⟩ h; replace h := oz (oz h); dsimp only at h; cbv; exact dm
  exact dx
 rintro ⟨w74, w75⟩ h s q13; replace h := oz (oz (oz h)); dsimp only at h; cbv; refine ⟨_, q13, ?_⟩; cbv; revert h; refine rq fun c76 h => ?_; injection h with h; subst h; refine ⟨(sp 42 [(4, .c (wi w74))] [(5, .arr .rw [] (LEN w75) 4 (row GD (oC LEN GD) w75))]), ?_, ?_⟩
 ·rw [c76]; exact zb
 ·exact ⟨lR _, ⟨oS, tv⟩, rfl⟩

/-- laws.markLibrary -/
def Fq81 (a0 : TL) (a1 : Int) : Option (Int × (List TC)) :=
 (Fq50 a0.fC a1).bind fun y1 =>
 req (len y1.2 = len a0.fC) <|
 req (len a0.fC = len y1.2) <|
 some (y1.1, y1.2)
theorem runq81 (a0 : TL) (a1 : Int) (r : Int × (List TC)) (h : Fq81 a0 a1 = some r) : Fun Tryz.prog 21 [.agg [.os 5 0 (len a0.fC)], .c (wi a1)] [(5, .arr .rw [] (len a0.fC) 4 (row gd (oC len gd) a0.fC))] (.c (wi r.1)) [(5, .arr .rw [] (len r.2) 4 (row gd (oC len gd) r.2))] true := by
 refine Fun.of_wp (oneOf []) tok mixed Tryz.func21 (by kernel_rfl) rfl Tryz.ntmps21 rfl ⟨fun i _ j _ k hk => (noref (rC _ _) hk).elim, tv⟩ (fun _ => ⟨trivial, ⟨fun i _ j _ => fl_oncCell _ _, tv⟩⟩) ?_; unfold Fq81 at h; have hfq50 := @runq50; generalize hLEN : @len = LEN, hGD : @gd = GD, hA : std = A, hP : Tryz.prog = P at *; cbv
 revert h; refine rb fun y1 hy2 => rq fun c4 h => ?_; refine rc [(5, 5)] [(5, 5)] (hfq50 _ _ _ hy2) yf ⟨_, rfl, LEN a0.fC, _, c4, fun _ _ _ _ => .refl _, ?_⟩; cbv; revert h; refine rq fun c3 h => ?_; injection h with h; subst h; refine ⟨(sp 10 [(4, .c (wi y1.1))] [(5, .arr .rw [] (LEN y1.2) 4 (row GD (oC LEN GD) y1.2))]), ?_, ?_⟩
 ·rw [c3]; exact zb
 ·exact ⟨lR _, ⟨oS, tv⟩, rfl⟩

def Lq60_x4 (a0 : List TE) : (Int × Int × (List TE)) -> Option ((Int × Int × (List TE)) ⊕ ((Int × (List TE)))) := fun x4 =>
 letO x4.1 fun v1 =>
 letO x4.2.1 fun v2 =>
 letO x4.2.2 fun v3 =>
 br (std.lt v2 (std.ofN (len a0)))
 (req (std.inR v2 (len a0)) <|
 req (len a0 = len v3) <|
 letO (List.set v3 (std.nadd 0 (std.toN v2)) (TE.mk v1 (gd v3 (std.nadd 0 (std.toN v2))).fc (gd v3 (std.nadd 0 (std.toN v2))).fx (gd v3 (std.nadd 0 (std.toN v2))).fN (gd v3 (std.nadd 0 (std.toN v2))).fs_ (gd v3 (std.nadd 0 (std.toN v2))).fl_ (gd v3 (std.nadd 0 (std.toN v2))).fi_)) fun l17 =>
 req (std.inR v2 (len a0)) <|
 req (len a0 = len l17) <|
 letO (List.set l17 (std.nadd 0 (std.toN v2)) (TE.mk (gd l17 (std.nadd 0 (std.toN v2))).fk_ (std.add .i64 v1 1) (gd l17 (std.nadd 0 (std.toN v2))).fx (gd l17 (std.nadd 0 (std.toN v2))).fN (gd l17 (std.nadd 0 (std.toN v2))).fs_ (gd l17 (std.nadd 0 (std.toN v2))).fl_ (gd l17 (std.nadd 0 (std.toN v2))).fi_)) fun l19 =>
 req (std.inR v2 (len a0)) <|
 req (len a0 = len l19) <|
 letO (List.set l19 (std.nadd 0 (std.toN v2)) (TE.mk (gd l19 (std.nadd 0 (std.toN v2))).fk_ (gd l19 (std.nadd 0 (std.toN v2))).fc (std.add .i64 (std.add .i64 v1 1) 1) (gd l19 (std.nadd 0 (std.toN v2))).fN (gd l19 (std.nadd 0 (std.toN v2))).fs_ (gd l19 (std.nadd 0 (std.toN v2))).fl_ (gd l19 (std.nadd 0 (std.toN v2))).fi_)) fun l21 =>
 (Fq2 (std.add .i64 (std.add .i64 (std.add .i64 v1 1) 1) 1)).bind fun y22 =>
 req (std.inR v2 (len a0)) <|
 req (len a0 = len l21) <|
 letO (List.set l21 (std.nadd 0 (std.toN v2)) (TE.mk (gd l21 (std.nadd 0 (std.toN v2))).fk_ (gd l21 (std.nadd 0 (std.toN v2))).fc (gd l21 (std.nadd 0 (std.toN v2))).fx y22 (gd l21 (std.nadd 0 (std.toN v2))).fs_ (gd l21 (std.nadd 0 (std.toN v2))).fl_ (gd l21 (std.nadd 0 (std.toN v2))).fi_)) fun l25 =>
 req (std.inR v2 (len a0)) <|
 req (len a0 = len l25) <|
 letO (List.set l25 (std.nadd 0 (std.toN v2)) (TE.mk (gd l25 (std.nadd 0 (std.toN v2))).fk_ (gd l25 (std.nadd 0 (std.toN v2))).fc (gd l25 (std.nadd 0 (std.toN v2))).fx (gd l25 (std.nadd 0 (std.toN v2))).fN (TS.mk (std.add .i64 (std.add .i64 (std.add .i64 (std.add .i64 v1 1) 1) 1) 1) (gd l25 (std.nadd 0 (std.toN v2))).fs_.fb) (gd l25 (std.nadd 0 (std.toN v2))).fl_ (gd l25 (std.nadd 0 (std.toN v2))).fi_)) fun l27 =>
 req (std.inR v2 (len a0)) <|
 req (len a0 = len l27) <|
 letO (List.set l27 (std.nadd 0 (std.toN v2)) (TE.mk (gd l27 (std.nadd 0 (std.toN v2))).fk_ (gd l27 (std.nadd 0 (std.toN v2))).fc (gd l27 (std.nadd 0 (std.toN v2))).fx (gd l27 (std.nadd 0 (std.toN v2))).fN (TS.mk (gd l27 (std.nadd 0 (std.toN v2))).fs_.fy (TRect.mk (std.add .i64 (std.add .i64 (std.add .i64 (std.add .i64 (std.add .i64 v1 1) 1) 1) 1) 1) (gd l27 (std.nadd 0 (std.toN v2))).fs_.fb.fY0 (gd l27 (std.nadd 0 (std.toN v2))).fs_.fb.fX1 (gd l27 (std.nadd 0 (std.toN v2))).fs_.fb.fY1)) (gd l27 (std.nadd 0 (std.toN v2))).fl_ (gd l27 (std.nadd 0 (std.toN v2))).fi_)) fun l29 =>
 req (std.inR v2 (len a0)) <|
 req (len a0 = len l29) <|
 letO (List.set l29 (std.nadd 0 (std.toN v2)) (TE.mk (gd l29 (std.nadd 0 (std.toN v2))).fk_ (gd l29 (std.nadd 0 (std.toN v2))).fc (gd l29 (std.nadd 0 (std.toN v2))).fx (gd l29 (std.nadd 0 (std.toN v2))).fN (TS.mk (gd l29 (std.nadd 0 (std.toN v2))).fs_.fy (TRect.mk (gd l29 (std.nadd 0 (std.toN v2))).fs_.fb.fX0 (std.add .i64 (std.add .i64 (std.add .i64 (std.add .i64 (std.add .i64 (std.add .i64 v1 1) 1) 1) 1) 1) 1) (gd l29 (std.nadd 0 (std.toN v2))).fs_.fb.fX1 (gd l29 (std.nadd 0 (std.toN v2))).fs_.fb.fY1)) (gd l29 (std.nadd 0 (std.toN v2))).fl_ (gd l29 (std.nadd 0 (std.toN v2))).fi_)) fun l31 =>
 req (std.inR v2 (len a0)) <|
 req (len a0 = len l31) <|
 letO (List.set l31 (std.nadd 0 (std.toN v2)) (TE.mk (gd l31 (std.nadd 0 (std.toN v2))).fk_ (gd l31 (std.nadd 0 (std.toN v2))).fc (gd l31 (std.nadd 0 (std.toN v2))).fx (gd l31 (std.nadd 0 (std.toN v2))).fN (TS.mk (gd l31 (std.nadd 0 (std.toN v2))).fs_.fy (TRect.mk (gd l31 (std.nadd 0 (std.toN v2))).fs_.fb.fX0 (gd l31 (std.nadd 0 (std.toN v2))).fs_.fb.fY0 (std.add .i64 (std.add .i64 (std.add .i64 (std.add .i64 (std.add .i64 (std.add .i64 (std.add .i64 v1 1) 1) 1) 1) 1) 1) 1) (gd l31 (std.nadd 0 (std.toN v2))).fs_.fb.fY1)) (gd l31 (std.nadd 0 (std.toN v2))).fl_ (gd l31 (std.nadd 0 (std.toN v2))).fi_)) fun l33 =>
 req (std.inR v2 (len a0)) <|
 req (len a0 = len l33) <|
 letO (List.set l33 (std.nadd 0 (std.toN v2)) (TE.mk (gd l33 (std.nadd 0 (std.toN v2))).fk_ (gd l33 (std.nadd 0 (std.toN v2))).fc (gd l33 (std.nadd 0 (std.toN v2))).fx (gd l33 (std.nadd 0 (std.toN v2))).fN (TS.mk (gd l33 (std.nadd 0 (std.toN v2))).fs_.fy (TRect.mk (gd l33 (std.nadd 0 (std.toN v2))).fs_.fb.fX0 (gd l33 (std.nadd 0 (std.toN v2))).fs_.fb.fY0 (gd l33 (std.nadd 0 (std.toN v2))).fs_.fb.fX1 (std.add .i64 (std.add .i64 (std.add .i64 (std.add .i64 (std.add .i64 (std.add .i64 (std.add .i64 (std.add .i64 v1 1) 1) 1) 1) 1) 1) 1) 1))) (gd l33 (std.nadd 0 (std.toN v2))).fl_ (gd l33 (std.nadd 0 (std.toN v2))).fi_)) fun l35 =>
 req (std.inR v2 (len a0)) <|
 req (len a0 = len l35) <|
 letO (List.set l35 (std.nadd 0 (std.toN v2)) (TE.mk (gd l35 (std.nadd 0 (std.toN v2))).fk_ (gd l35 (std.nadd 0 (std.toN v2))).fc (gd l35 (std.nadd 0 (std.toN v2))).fx (gd l35 (std.nadd 0 (std.toN v2))).fN (gd l35 (std.nadd 0 (std.toN v2))).fs_ (TB.mk (std.add .i64 (std.add .i64 (std.add .i64 (std.add .i64 (std.add .i64 (std.add .i64 (std.add .i64 (std.add .i64 (std.add .i64 v1 1) 1) 1) 1) 1) 1) 1) 1) 1) (gd l35 (std.nadd 0 (std.toN v2))).fl_.fa (gd l35 (std.nadd 0 (std.toN v2))).fl_.fN) (gd l35 (std.nadd 0 (std.toN v2))).fi_)) fun l37 =>
 req (std.inR v2 (len a0)) <|
 req (len a0 = len l37) <|
 letO (List.set l37 (std.nadd 0 (std.toN v2)) (TE.mk (gd l37 (std.nadd 0 (std.toN v2))).fk_ (gd l37 (std.nadd 0 (std.toN v2))).fc (gd l37 (std.nadd 0 (std.toN v2))).fx (gd l37 (std.nadd 0 (std.toN v2))).fN (gd l37 (std.nadd 0 (std.toN v2))).fs_ (TB.mk (gd l37 (std.nadd 0 (std.toN v2))).fl_.fy (TPoint.mk (std.add .i64 (std.add .i64 (std.add .i64 (std.add .i64 (std.add .i64 (std.add .i64 (std.add .i64 (std.add .i64 (std.add .i64 (std.add .i64 v1 1) 1) 1) 1) 1) 1) 1) 1) 1) 1) (gd l37 (std.nadd 0 (std.toN v2))).fl_.fa.fY) (gd l37 (std.nadd 0 (std.toN v2))).fl_.fN) (gd l37 (std.nadd 0 (std.toN v2))).fi_)) fun l39 =>
 req (std.inR v2 (len a0)) <|
 req (len a0 = len l39) <|
 letO (List.set l39 (std.nadd 0 (std.toN v2)) (TE.mk (gd l39 (std.nadd 0 (std.toN v2))).fk_ (gd l39 (std.nadd 0 (std.toN v2))).fc (gd l39 (std.nadd 0 (std.toN v2))).fx (gd l39 (std.nadd 0 (std.toN v2))).fN (gd l39 (std.nadd 0 (std.toN v2))).fs_ (TB.mk (gd l39 (std.nadd 0 (std.toN v2))).fl_.fy (TPoint.mk (gd l39 (std.nadd 0 (std.toN v2))).fl_.fa.fX (std.add .i64 (std.add .i64 (std.add .i64 (std.add .i64 (std.add .i64 (std.add .i64 (std.add .i64 (std.add .i64 (std.add .i64 (std.add .i64 (std.add .i64 v1 1) 1) 1) 1) 1) 1) 1) 1) 1) 1) 1)) (gd l39 (std.nadd 0 (std.toN v2))).fl_.fN) (gd l39 (std.nadd 0 (std.toN v2))).fi_)) fun l41 =>
 (Fq2 (std.add .i64 (std.add .i64 (std.add .i64 (std.add .i64 (std.add .i64 (std.add .i64 (std.add .i64 (std.add .i64 (std.add .i64 (std.add .i64 (std.add .i64 (std.add .i64 v1 1) 1) 1) 1) 1) 1) 1) 1) 1) 1) 1) 1)).bind fun y42 =>
 req (std.inR v2 (len a0)) <|
 req (len a0 = len l41) <|
 letO (List.set l41 (std.nadd 0 (std.toN v2)) (TE.mk (gd l41 (std.nadd 0 (std.toN v2))).fk_ (gd l41 (std.nadd 0 (std.toN v2))).fc (gd l41 (std.nadd 0 (std.toN v2))).fx (gd l41 (std.nadd 0 (std.toN v2))).fN (gd l41 (std.nadd 0 (std.toN v2))).fs_ (TB.mk (gd l41 (std.nadd 0 (std.toN v2))).fl_.fy (gd l41 (std.nadd 0 (std.toN v2))).fl_.fa y42) (gd l41 (std.nadd 0 (std.toN v2))).fi_)) fun l45 =>
 req (std.inR v2 (len a0)) <|
 req (len a0 = len l45) <|
 letO (List.set l45 (std.nadd 0 (std.toN v2)) (TE.mk (gd l45 (std.nadd 0 (std.toN v2))).fk_ (gd l45 (std.nadd 0 (std.toN v2))).fc (gd l45 (std.nadd 0 (std.toN v2))).fx (gd l45 (std.nadd 0 (std.toN v2))).fN (gd l45 (std.nadd 0 (std.toN v2))).fs_ (gd l45 (std.nadd 0 (std.toN v2))).fl_ (TI.mk (std.add .i64 (std.add .i64 (std.add .i64 (std.add .i64 (std.add .i64 (std.add .i64 (std.add .i64 (std.add .i64 (std.add .i64 (std.add .i64 (std.add .i64 (std.add .i64 (std.add .i64 v1 1) 1) 1) 1) 1) 1) 1) 1) 1) 1) 1) 1) 1) (gd l45 (std.nadd 0 (std.toN v2))).fi_.fp (gd l45 (std.nadd 0 (std.toN v2))).fi_.fK (gd l45 (std.nadd 0 (std.toN v2))).fi_.fR (gd l45 (std.nadd 0 (std.toN v2))).fi_.fu (gd l45 (std.nadd 0 (std.toN v2))).fi_.fv))) fun l47 =>
 req (std.inR v2 (len a0)) <|
 req (len a0 = len l47) <|
 letO (List.set l47 (std.nadd 0 (std.toN v2)) (TE.mk (gd l47 (std.nadd 0 (std.toN v2))).fk_ (gd l47 (std.nadd 0 (std.toN v2))).fc (gd l47 (std.nadd 0 (std.toN v2))).fx (gd l47 (std.nadd 0 (std.toN v2))).fN (gd l47 (std.nadd 0 (std.toN v2))).fs_ (gd l47 (std.nadd 0 (std.toN v2))).fl_ (TI.mk (gd l47 (std.nadd 0 (std.toN v2))).fi_.fc (TM.mk (std.add .i64 (std.add .i64 (std.add .i64 (std.add .i64 (std.add .i64 (std.add .i64 (std.add .i64 (std.add .i64 (std.add .i64 (std.add .i64 (std.add .i64 (std.add .i64 (std.add .i64 (std.add .i64 v1 1) 1) 1) 1) 1) 1) 1) 1) 1) 1) 1) 1) 1) 1) (gd l47 (std.nadd 0 (std.toN v2))).fi_.fp.fX (gd l47 (std.nadd 0 (std.toN v2))).fi_.fp.fY) (gd l47 (std.nadd 0 (std.toN v2))).fi_.fK (gd l47 (std.nadd 0 (std.toN v2))).fi_.fR (gd l47 (std.nadd 0 (std.toN v2))).fi_.fu (gd l47 (std.nadd 0 (std.toN v2))).fi_.fv))) fun l49 =>
 req (std.inR v2 (len a0)) <|
 req (len a0 = len l49) <|
 letO (List.set l49 (std.nadd 0 (std.toN v2)) (TE.mk (gd l49 (std.nadd 0 (std.toN v2))).fk_ (gd l49 (std.nadd 0 (std.toN v2))).fc (gd l49 (std.nadd 0 (std.toN v2))).fx (gd l49 (std.nadd 0 (std.toN v2))).fN (gd l49 (std.nadd 0 (std.toN v2))).fs_ (gd l49 (std.nadd 0 (std.toN v2))).fl_ (TI.mk (gd l49 (std.nadd 0 (std.toN v2))).fi_.fc (TM.mk (gd l49 (std.nadd 0 (std.toN v2))).fi_.fp.fo (std.add .i64 (std.add .i64 (std.add .i64 (std.add .i64 (std.add .i64 (std.add .i64 (std.add .i64 (std.add .i64 (std.add .i64 (std.add .i64 (std.add .i64 (std.add .i64 (std.add .i64 (std.add .i64 (std.add .i64 v1 1) 1) 1) 1) 1) 1) 1) 1) 1) 1) 1) 1) 1) 1) 1) (gd l49 (std.nadd 0 (std.toN v2))).fi_.fp.fY) (gd l49 (std.nadd 0 (std.toN v2))).fi_.fK (gd l49 (std.nadd 0 (std.toN v2))).fi_.fR (gd l49 (std.nadd 0 (std.toN v2))).fi_.fu (gd l49 (std.nadd 0 (std.toN v2))).fi_.fv))) fun l51 =>
 req (std.inR v2 (len a0)) <|
 req (len a0 = len l51) <|
 letO (List.set l51 (std.nadd 0 (std.toN v2)) (TE.mk (gd l51 (std.nadd 0 (std.toN v2))).fk_ (gd l51 (std.nadd 0 (std.toN v2))).fc (gd l51 (std.nadd 0 (std.toN v2))).fx (gd l51 (std.nadd 0 (std.toN v2))).fN (gd l51 (std.nadd 0 (std.toN v2))).fs_ (gd l51 (std.nadd 0 (std.toN v2))).fl_ (TI.mk (gd l51 (std.nadd 0 (std.toN v2))).fi_.fc (TM.mk (gd l51 (std.nadd 0 (std.toN v2))).fi_.fp.fo (gd l51 (std.nadd 0 (std.toN v2))).fi_.fp.fX (std.add .i64 (std.add .i64 (std.add .i64 (std.add .i64 (std.add .i64 (std.add .i64 (std.add .i64 (std.add .i64 (std.add .i64 (std.add .i64 (std.add .i64 (std.add .i64 (std.add .i64 (std.add .i64 (std.add .i64 (std.add .i64 v1 1) 1) 1) 1) 1) 1) 1) 1) 1) 1) 1) 1) 1) 1) 1) 1)) (gd l51 (std.nadd 0 (std.toN v2))).fi_.fK (gd l51 (std.nadd 0 (std.toN v2))).fi_.fR (gd l51 (std.nadd 0 (std.toN v2))).fi_.fu (gd l51 (std.nadd 0 (std.toN v2))).fi_.fv))) fun l53 =>
 req (std.inR v2 (len a0)) <|
 req (len a0 = len l53) <|
 letO (List.set l53 (std.nadd 0 (std.toN v2)) (TE.mk (gd l53 (std.nadd 0 (std.toN v2))).fk_ (gd l53 (std.nadd 0 (std.toN v2))).fc (gd l53 (std.nadd 0 (std.toN v2))).fx (gd l53 (std.nadd 0 (std.toN v2))).fN (gd l53 (std.nadd 0 (std.toN v2))).fs_ (gd l53 (std.nadd 0 (std.toN v2))).fl_ (TI.mk (gd l53 (std.nadd 0 (std.toN v2))).fi_.fc (gd l53 (std.nadd 0 (std.toN v2))).fi_.fp (std.add .i64 (std.add .i64 (std.add .i64 (std.add .i64 (std.add .i64 (std.add .i64 (std.add .i64 (std.add .i64 (std.add .i64 (std.add .i64 (std.add .i64 (std.add .i64 (std.add .i64 (std.add .i64 (std.add .i64 (std.add .i64 (std.add .i64 v1 1) 1) 1) 1) 1) 1) 1) 1) 1) 1) 1) 1) 1) 1) 1) 1) 1) (gd l53 (std.nadd 0 (std.toN v2))).fi_.fR (gd l53 (std.nadd 0 (std.toN v2))).fi_.fu (gd l53 (std.nadd 0 (std.toN v2))).fi_.fv))) fun l55 =>
 req (std.inR v2 (len a0)) <|
 req (len a0 = len l55) <|
 letO (List.set l55 (std.nadd 0 (std.toN v2)) (TE.mk (gd l55 (std.nadd 0 (std.toN v2))).fk_ (gd l55 (std.nadd 0 (std.toN v2))).fc (gd l55 (std.nadd 0 (std.toN v2))).fx (gd l55 (std.nadd 0 (std.toN v2))).fN (gd l55 (std.nadd 0 (std.toN v2))).fs_ (gd l55 (std.nadd 0 (std.toN v2))).fl_ (TI.mk (gd l55 (std.nadd 0 (std.toN v2))).fi_.fc (gd l55 (std.nadd 0 (std.toN v2))).fi_.fp (gd l55 (std.nadd 0 (std.toN v2))).fi_.fK (std.add .i64 (std.add .i64 (std.add .i64 (std.add .i64 (std.add .i64 (std.add .i64 (std.add .i64 (std.add .i64 (std.add .i64 (std.add .i64 (std.add .i64 (std.add .i64 (std.add .i64 (std.add .i64 (std.add .i64 (std.add .i64 (std.add .i64 (std.add .i64 v1 1) 1) 1) 1) 1) 1) 1) 1) 1) 1) 1) 1) 1) 1) 1) 1) 1) 1) (gd l55 (std.nadd 0 (std.toN v2))).fi_.fu (gd l55 (std.nadd 0 (std.toN v2))).fi_.fv))) fun l57 =>
 req (std.inR v2 (len a0)) <|
 req (len a0 = len l57) <|
 letO (List.set l57 (std.nadd 0 (std.toN v2)) (TE.mk (gd l57 (std.nadd 0 (std.toN v2))).fk_ (gd l57 (std.nadd 0 (std.toN v2))).fc (gd l57 (std.nadd 0 (std.toN v2))).fx (gd l57 (std.nadd 0 (std.toN v2))).fN (gd l57 (std.nadd 0 (std.toN v2))).fs_ (gd l57 (std.nadd 0 (std.toN v2))).fl_ (TI.mk (gd l57 (std.nadd 0 (std.toN v2))).fi_.fc (gd l57 (std.nadd 0 (std.toN v2))).fi_.fp (gd l57 (std.nadd 0 (std.toN v2))).fi_.fK (gd l57 (std.nadd 0 (std.toN v2))).fi_.fR (std.add .i64 (std.add .i64 (std.add .i64 (std.add .i64 (std.add .i64 (std.add .i64 (std.add .i64 (std.add .i64 (std.add .i64 (std.add .i64 (std.add .i64 (std.add .i64 (std.add .i64 (std.add .i64 (std.add .i64 (std.add .i64 (std.add .i64 (std.add .i64 (std.add .i64 v1 1) 1) 1) 1) 1) 1) 1) 1) 1) 1) 1) 1) 1) 1) 1) 1) 1) 1) 1) (gd l57 (std.nadd 0 (std.toN v2))).fi_.fv))) fun l59 =>
 req (std.inR v2 (len a0)) <|
 req (len a0 = len l59) <|
 letO (List.set l59 (std.nadd 0 (std.toN v2)) (TE.mk (gd l59 (std.nadd 0 (std.toN v2))).fk_ (gd l59 (std.nadd 0 (std.toN v2))).fc (gd l59 (std.nadd 0 (std.toN v2))).fx (gd l59 (std.nadd 0 (std.toN v2))).fN (gd l59 (std.nadd 0 (std.toN v2))).fs_ (gd l59 (std.nadd 0 (std.toN v2))).fl_ (TI.mk (gd l59 (std.nadd 0 (std.toN v2))).fi_.fc (gd l59 (std.nadd 0 (std.toN v2))).fi_.fp (gd l59 (std.nadd 0 (std.toN v2))).fi_.fK (gd l59 (std.nadd 0 (std.toN v2))).fi_.fR (gd l59 (std.nadd 0 (std.toN v2))).fi_.fu (std.add .i64 (std.add .i64 (std.add .i64 (std.add .i64 (std.add .i64 (std.add .i64 (std.add .i64 (std.add .i64 (std.add .i64 (std.add .i64 (std.add .i64 (std.add .i64 (std.add .i64 (std.add .i64 (std.add .i64 (std.add .i64 (std.add .i64 (std.add .i64 (std.add .i64 (std.add .i64 v1 1) 1) 1) 1) 1) 1) 1) 1) 1) 1) 1) 1) 1) 1) 1) 1) 1) 1) 1) 1)))) fun l61 =>
 some (.inl (std.add .i64 (std.add .i64 (std.add .i64 (std.add .i64 (std.add .i64 (std.add .i64 (std.add .i64 (std.add .i64 (std.add .i64 (std.add .i64 (std.add .i64 (std.add .i64 (std.add .i64 (std.add .i64 (std.add .i64 (std.add .i64 (std.add .i64 (std.add .i64 (std.add .i64 (std.add .i64 (std.add .i64 v1 1) 1) 1) 1) 1) 1) 1) 1) 1) 1) 1) 1) 1) 1) 1) 1) 1) 1) 1) 1) 1, std.add .i64 v2 1, l61)))
 (some (.inr (v1, v3)))
/-- laws.markEditS -/
def Fq60 (a0 : List TE) (a1 : Int) : Option (Int × (List TE)) :=
 (whileP (σ := Int × Int × (List TE)) (ρ := (Int × (List TE))) (Lq60_x4 a0) (a1, 0, a0)).bind fun y5 =>
 letO y5 fun y5k0 =>
 letO y5k0.1 fun w84 =>
 letO y5k0.2 fun w85 =>
 req (len a0 = len w85) <|
 some (w84, w85)
theorem runq60 (a0 : List TE) (a1 : Int) (r : Int × (List TE)) (h : Fq60 a0 a1 = some r) : Fun Tryz.prog 28 [.c (.os 5 0 (len a0)), .c (wi a1)] [(5, .arr .rw [] (len a0) 21 (row gd (eE) a0))] (.c (wi r.1)) [(5, .arr .rw [] (len r.2) 21 (row gd (eE) r.2))] true := by
 refine Fun.of_wp (oneOf []) tok mixed Tryz.func28 (by kernel_rfl) rfl Tryz.ntmps28 rfl ⟨fun i _ j _ k hk => (noref (plain_nil (pl_encEdit _ _)) hk).elim, tv⟩ (fun _ => ⟨trivial, ⟨fun i _ j _ => val_flat (vl_encEdit _ _), tv⟩⟩) ?_; unfold Fq60 at h; unfold Lq60_x4 at h; have hfq2 := @runq2
 generalize hLEN : @len = LEN, hGD : @gd = GD, hA : std = A, hP : Tryz.prog = P at *; cbv
 revert h; refine ln (.exit 0) (fun x => (sp 188 [(0, .c (.os 5 0 (LEN a0))), (1, .c (wi x.1)), (5, .c (wi x.2.1))] [(5, .arr .rw [] (LEN a0) 21 (row GD (eE) x.2.2))])) (fun w => (sp 188 [(1, .c (wi w.1))] [(5, .arr .rw [] (LEN a0) 21 (row GD (eE) w.2))])) zb ?_ ?_
 ·rintro ⟨v1, v2, v3⟩ z h K hK hY; replace h := oz (oz (oz h)); dsimp only at h; cbv; revert h; refine fk ?_ ?_ <;> intro h <;> cbv
  ·revert h; refine ra fun c16 h => ?_; revert h; refine rq fun c82 => rl fun l17 hl17 h => ?_; refine ai c16 ?_; refine ⟨_, rfl, _, row GD (eE) l17, rfl, wkOf ?_, ?_⟩
   ·subst hGD hLEN hA; rw [c82] at c16; refine upd_set hl17 (ix c16) ?_ ?_
    ·intro b hb hh
     match b, hb, hh with | 0, _, hh => exact rfl | 1, _, hh => exact (absurd hh (nd rfl)) | 2, _, hh => exact (absurd hh (nd rfl)) | 3, _, hh => exact (absurd hh (nd rfl)) | 4, _, hh => exact (absurd hh (nd rfl)) | 5, _, hh => exact (absurd hh (nd rfl)) | 6, _, hh => exact (absurd hh (nd rfl)) | 7, _, hh => exact (absurd hh (nd rfl)) | 8, _, hh => exact (absurd hh (nd rfl)) | 9, _, hh => exact (absurd hh (nd rfl)) | 10, _, hh => exact (absurd hh (nd rfl)) | 11, _, hh => exact (absurd hh (nd rfl)) | 12, _, hh => exact (absurd hh (nd rfl)) | 13, _, hh => exact (absurd hh (nd rfl)) | 14, _, hh => exact (absurd hh (nd rfl)) | 15, _, hh => exact (absurd hh (nd rfl)) | 16, _, hh => exact (absurd hh (nd rfl)) | 17, _, hh => exact (absurd hh (nd rfl)) | 18, _, hh => exact (absurd hh (nd rfl)) | 19, _, hh => exact (absurd hh (nd rfl)) | 20, _, hh => exact (absurd hh (nd rfl)) | (b_ + 21), h_, _ => omega
    ·intro b hb hh
     match b, hb, hh with | 0, _, hh => exact (hh (yd rfl)).elim | 1, _, hh => exact rfl | 2, _, hh => exact rfl | 3, _, hh => exact rfl | 4, _, hh => exact rfl | 5, _, hh => exact rfl | 6, _, hh => exact rfl | 7, _, hh => exact rfl | 8, _, hh => exact rfl | 9, _, hh => exact rfl | 10, _, hh => exact rfl | 11, _, hh => exact rfl | 12, _, hh => exact rfl | 13, _, hh => exact rfl | 14, _, hh => exact rfl | 15, _, hh => exact rfl | 16, _, hh => exact rfl | 17, _, hh => exact rfl | 18, _, hh => exact rfl | 19, _, hh => exact rfl | 20, _, hh => exact rfl | (b_ + 21), h_, _ => omega
   cbv; revert h; refine ra fun c18 h => ?_; revert h; refine rq fun c81 => rl fun l19 hl19 h => ?_; refine ai c18 ?_; refine ⟨_, rfl, _, row GD (eE) l19, rfl, wkOf ?_, ?_⟩
   ·subst hGD hLEN hA; rw [c81] at c18; refine upd_set hl19 (ix c18) ?_ ?_
    ·intro b hb hh
     match b, hb, hh with | 0, _, hh => exact (absurd hh (nd rfl)) | 1, _, hh => exact rfl | 2, _, hh => exact (absurd hh (nd rfl)) | 3, _, hh => exact (absurd hh (nd rfl)) | 4, _, hh => exact (absurd hh (nd rfl)) | 5, _, hh => exact (absurd hh (nd rfl)) | 6, _, hh => exact (absurd hh (nd rfl)) | 7, _, hh => exact (absurd hh (nd rfl)) | 8, _, hh => exact (absurd hh (nd rfl)) | 9, _, hh => exact (absurd hh (nd rfl)) | 10, _, hh => exact (absurd hh (nd rfl)) | 11, _, hh => exact (absurd hh (nd rfl)) | 12, _, hh => exact (absurd hh (nd rfl)) | 13, _, hh => exact (absurd hh (nd rfl)) | 14, _, hh => exact (absurd hh (nd rfl)) | 15, _, hh => exact (absurd hh (nd rfl)) | 16, _, hh => exact (absurd hh (nd rfl)) | 17, _, hh => exact (absurd hh (nd rfl)) | 18, _, hh => exact (absurd hh (nd rfl)) | 19, _, hh => exact (absurd hh (nd rfl)) | 20, _, hh => exact (absurd hh (nd rfl)) | (b_ + 21), h_, _ => omega
    ·intro b hb hh
     match b, hb, hh with | 0, _, hh => exact rfl | 1, _, hh => exact (hh (yd rfl)).elim | 2, _, hh => exact rfl | 3, _, hh => exact rfl | 4, _, hh => exact rfl | 5, _, hh => exact rfl | 6, _, hh => exact rfl | 7, _, hh => exact rfl | 8, _, hh => exact rfl | 9, _, hh => exact rfl | 10, _, hh => exact rfl | 11, _, hh => exact rfl | 12, _, hh => exact rfl | 13, _, hh => exact rfl | 14, _, hh => exact rfl | 15, _, hh => exact rfl | 16, _, hh => exact rfl | 17, _, hh => exact rfl | 18, _, hh => exact rfl | 19, _, hh => exact rfl | 20, _, hh => exact rfl | (b_ + 21), h_, _ => omega
   cbv; revert h; refine ra fun c20 h => ?_; revert h; refine rq fun c80 => rl fun l21 hl21 h => ?_; refine ai c20 ?_; refine ⟨_, rfl, _, row GD (eE) l21, rfl, wkOf ?_, ?_⟩
   ·subst hGD hLEN hA; rw [c80] at c20; refine upd_set hl21 (ix c20) ?_ ?_
    ·intro b hb hh
     match b, hb, hh with | 0, _, hh => exact (absurd hh (nd rfl)) | 1, _, hh => exact (absurd hh (nd rfl)) | 2, _, hh => exact rfl | 3, _, hh => exact (absurd hh (nd rfl)) | 4, _, hh => exact (absurd hh (nd rfl)) | 5, _, hh => exact (absurd hh (nd rfl)) | 6, _, hh => exact (absurd hh (nd rfl)) | 7, _, hh => exact (absurd hh (nd rfl)) | 8, _, hh => exact (absurd hh (nd rfl)) | 9, _, hh => exact (absurd hh (nd rfl)) | 10, _, hh => exact (absurd hh (nd rfl)) | 11, _, hh => exact (absurd hh (nd rfl)) | 12, _, hh => exact (absurd hh (nd rfl)) | 13, _, hh => exact (absurd hh (nd rfl)) | 14, _, hh => exact (absurd hh (nd rfl)) | 15, _, hh => exact (absurd hh (nd rfl)) | 16, _, hh => exact (absurd hh (nd rfl)) | 17, _, hh => exact (absurd hh (nd rfl)) | 18, _, hh => exact (absurd hh (nd rfl)) | 19, _, hh => exact (absurd hh (nd rfl)) | 20, _, hh => exact (absurd hh (nd rfl)) | (b_ + 21), h_, _ => omega
    ·intro b hb hh
     match b, hb, hh with | 0, _, hh => exact rfl | 1, _, hh => exact rfl | 2, _, hh => exact (hh (yd rfl)).elim | 3, _, hh => exact rfl | 4, _, hh => exact rfl | 5, _, hh => exact rfl | 6, _, hh => exact rfl | 7, _, hh => exact rfl | 8, _, hh => exact rfl | 9, _, hh => exact rfl | 10, _, hh => exact rfl | 11, _, hh => exact rfl | 12, _, hh => exact rfl | 13, _, hh => exact rfl | 14, _, hh => exact rfl | 15, _, hh => exact rfl | 16, _, hh => exact rfl | 17, _, hh => exact rfl | 18, _, hh => exact rfl | 19, _, hh => exact rfl | 20, _, hh => exact rfl | (b_ + 21), h_, _ => omega
   cbv; revert h; refine rb fun y22 hy23 h => ?_; refine rc [] [] (hfq2 _ _ hy23) zf ?_; cbv; revert h; refine ra fun c24 h => ?_; revert h; refine rq fun c79 => rl fun l25 hl25 h => ?_; refine ai c24 ?_; refine ⟨_, rfl, _, row GD (eE) l25, rfl, wkOf ?_, ?_⟩
   ·subst hGD hLEN hA; rw [c79] at c24; refine upd_set hl25 (ix c24) ?_ ?_
    ·intro b hb hh
     match b, hb, hh with | 0, _, hh => exact (absurd hh (nd rfl)) | 1, _, hh => exact (absurd hh (nd rfl)) | 2, _, hh => exact (absurd hh (nd rfl)) | 3, _, hh => exact rfl | 4, _, hh => exact (absurd hh (nd rfl)) | 5, _, hh => exact (absurd hh (nd rfl)) | 6, _, hh => exact (absurd hh (nd rfl)) | 7, _, hh => exact (absurd hh (nd rfl)) | 8, _, hh => exact (absurd hh (nd rfl)) | 9, _, hh => exact (absurd hh (nd rfl)) | 10, _, hh => exact (absurd hh (nd rfl)) | 11, _, hh => exact (absurd hh (nd rfl)) | 12, _, hh => exact (absurd hh (nd rfl)) | 13, _, hh => exact (absurd hh (nd rfl)) | 14, _, hh => exact (absurd hh (nd rfl)) | 15, _, hh => exact (absurd hh (nd rfl)) | 16, _, hh => exact (absurd hh (nd rfl)) | 17, _, hh => exact (absurd hh (nd rfl)) | 18, _, hh => exact (absurd hh (nd rfl)) | 19, _, hh => exact (absurd hh (nd rfl)) | 20, _, hh => exact (absurd hh (nd rfl)) | (b_ + 21), h_, _ => omega
    ·intro b hb hh
     match b, hb, hh with | 0, _, hh => exact rfl | 1, _, hh => exact rfl | 2, _, hh => exact rfl | 3, _, hh => exact (hh (yd rfl)).elim | 4, _, hh => exact rfl | 5, _, hh => exact rfl | 6, _, hh => exact rfl | 7, _, hh => exact rfl | 8, _, hh => exact rfl | 9, _, hh => exact rfl | 10, _, hh => exact rfl | 11, _, hh => exact rfl | 12, _, hh => exact rfl | 13, _, hh => exact rfl | 14, _, hh => exact rfl | 15, _, hh => exact rfl | 16, _, hh => exact rfl | 17, _, hh => exact rfl | 18, _, hh => exact rfl | 19, _, hh => exact rfl | 20, _, hh => exact rfl | (b_ + 21), h_, _ => omega
   cbv; revert h; refine ra fun c26 h => ?_; revert h; refine rq fun c78 => rl fun l27 hl27 h => ?_; refine ai c26 ?_; refine ⟨_, rfl, _, row GD (eE) l27, rfl, wkOf ?_, ?_⟩
   ·subst hGD hLEN hA; rw [c78] at c26; refine upd_set hl27 (ix c26) ?_ ?_
    ·intro b hb hh
     match b, hb, hh with | 0, _, hh => exact (absurd hh (nd rfl)) | 1, _, hh => exact (absurd hh (nd rfl)) | 2, _, hh => exact (absurd hh (nd rfl)) | 3, _, hh => exact (absurd hh (nd rfl)) | 4, _, hh => exact rfl | 5, _, hh => exact (absurd hh (nd rfl)) | 6, _, hh => exact (absurd hh (nd rfl)) | 7, _, hh => exact (absurd hh (nd rfl)) | 8, _, hh => exact (absurd hh (nd rfl)) | 9, _, hh => exact (absurd hh (nd rfl)) | 10, _, hh => exact (absurd hh (nd rfl)) | 11, _, hh => exact (absurd hh (nd rfl)) | 12, _, hh => exact (absurd hh (nd rfl)) | 13, _, hh => exact (absurd hh (nd rfl)) | 14, _, hh => exact (absurd hh (nd rfl)) | 15, _, hh => exact (absurd hh (nd rfl)) | 16, _, hh => exact (absurd hh (nd rfl)) | 17, _, hh => exact (absurd hh (nd rfl)) | 18, _, hh => exact (absurd hh (nd rfl)) | 19, _, hh => exact (absurd hh (nd rfl)) | 20, _, hh => exact (absurd hh (nd rfl)) | (b_ + 21), h_, _ => omega
    ·intro b hb hh
     match b, hb, hh with | 0, _, hh => exact rfl | 1, _, hh => exact rfl | 2, _, hh => exact rfl | 3, _, hh => exact rfl | 4, _, hh => exact (hh (yd rfl)).elim | 5, _, hh => exact rfl | 6, _, hh => exact rfl | 7, _, hh => exact rfl | 8, _, hh => exact rfl | 9, _, hh => exact rfl | 10, _, hh => exact rfl | 11, _, hh => exact rfl | 12, _, hh => exact rfl | 13, _, hh => exact rfl | 14, _, hh => exact rfl | 15, _, hh => exact rfl | 16, _, hh => exact rfl | 17, _, hh => exact rfl | 18, _, hh => exact rfl | 19, _, hh => exact rfl | 20, _, hh => exact rfl | (b_ + 21), h_, _ => omega
   cbv; revert h; refine ra fun c28 h => ?_; revert h; refine rq fun c77 => rl fun l29 hl29 h => ?_; refine ai c28 ?_; refine ⟨_, rfl, _, row GD (eE) l29, rfl, wkOf ?_, ?_⟩
   ·subst hGD hLEN hA; rw [c77] at c28; refine upd_set hl29 (ix c28) ?_ ?_
    ·intro b hb hh
     match b, hb, hh with | 0, _, hh => exact (absurd hh (nd rfl)) | 1, _, hh => exact (absurd hh (nd rfl)) | 2, _, hh => exact (absurd hh (nd rfl)) | 3, _, hh => exact (absurd hh (nd rfl)) | 4, _, hh => exact (absurd hh (nd rfl)) | 5, _, hh => exact rfl | 6, _, hh => exact (absurd hh (nd rfl)) | 7, _, hh => exact (absurd hh (nd rfl)) | 8, _, hh => exact (absurd hh (nd rfl)) | 9, _, hh => exact (absurd hh (nd rfl)) | 10, _, hh => exact (absurd hh (nd rfl)) | 11, _, hh => exact (absurd hh (nd rfl)) | 12, _, hh => exact (absurd hh (nd rfl)) | 13, _, hh => exact (absurd hh (nd rfl)) | 14, _, hh => exact (absurd hh (nd rfl)) | 15, _, hh => exact (absurd hh (nd rfl)) | 16, _, hh => exact (absurd hh (nd rfl)) | 17, _, hh => exact (absurd hh (nd rfl)) | 18, _, hh => exact (absurd hh (nd rfl)) | 19, _, hh => exact (absurd hh (nd rfl)) | 20, _, hh => exact (absurd hh (nd rfl)) | (b_ + 21), h_, _ => omega
    ·intro b hb hh
     match b, hb, hh with | 0, _, hh => exact rfl | 1, _, hh => exact rfl | 2, _, hh => exact rfl | 3, _, hh => exact rfl | 4, _, hh => exact rfl | 5, _, hh => exact (hh (yd rfl)).elim | 6, _, hh => exact rfl | 7, _, hh => exact rfl | 8, _, hh => exact rfl | 9, _, hh => exact rfl | 10, _, hh => exact rfl | 11, _, hh => exact rfl | 12, _, hh => exact rfl | 13, _, hh => exact rfl | 14, _, hh => exact rfl | 15, _, hh => exact rfl | 16, _, hh => exact rfl | 17, _, hh => exact rfl | 18, _, hh => exact rfl | 19, _, hh => exact rfl | 20, _, hh => exact rfl | (b_ + 21), h_, _ => omega
   cbv; revert h; refine ra fun c30 h => ?_; revert h; refine rq fun c76 => rl fun l31 hl31 h => ?_; refine ai c30 ?_; refine ⟨_, rfl, _, row GD (eE) l31, rfl, wkOf ?_, ?_⟩
   ·subst hGD hLEN hA; rw [c76] at c30; refine upd_set hl31 (ix c30) ?_ ?_
    ·intro b hb hh
     match b, hb, hh with | 0, _, hh => exact (absurd hh (nd rfl)) | 1, _, hh => exact (absurd hh (nd rfl)) | 2, _, hh => exact (absurd hh (nd rfl)) | 3, _, hh => exact (absurd hh (nd rfl)) | 4, _, hh => exact (absurd hh (nd rfl)) | 5, _, hh => exact (absurd hh (nd rfl)) | 6, _, hh => exact rfl | 7, _, hh => exact (absurd hh (nd rfl)) | 8, _, hh => exact (absurd hh (nd rfl)) | 9, _, hh => exact (absurd hh (nd rfl)) | 10, _, hh => exact (absurd hh (nd rfl)) | 11, _, hh => exact (absurd hh (nd rfl)) | 12, _, hh => exact (absurd hh (nd rfl)) | 13, _, hh => exact (absurd hh (nd rfl)) | 14, _, hh => exact (absurd hh (nd rfl)) | 15, _, hh => exact (absurd hh (nd rfl)) | 16, _, hh => exact (absurd hh (nd rfl)) | 17, _, hh => exact (absurd hh (nd rfl)) | 18, _, hh => exact (absurd hh (nd rfl)) | 19, _, hh => exact (absurd hh (nd rfl)) | 20, _, hh => exact (absurd hh (nd rfl)) | (b_ + 21), h_, _ => omega
    ·intro b hb hh
     match b, hb, hh with | 0, _, hh => exact rfl | 1, _, hh => exact rfl | 2, _, hh => exact rfl | 3, _, hh => exact rfl | 4, _, hh => exact rfl | 5, _, hh => exact rfl | 6, _, hh => exact (hh (yd rfl)).elim | 7, _, hh => exact rfl | 8, _, hh => exact rfl | 9, _, hh => exact rfl | 10, _, hh => exact rfl | 11, _, hh => exact rfl | 12, _, hh => exact rfl | 13, _, hh => exact rfl | 14, _, hh => exact rfl | 15, _, hh => exact rfl | 16, _, hh => exact rfl | 17, _, hh => exact rfl | 18, _, hh => exact rfl | 19, _, hh => exact rfl | 20, _, hh => exact rfl | (b_ + 21), h_, _ => omega
   cbv; revert h; refine ra fun c32 h => ?_; revert h; refine rq fun c75 => rl fun l33 hl33 h => ?_; refine ai c32 ?_; refine ⟨_, rfl, _, row GD (eE) l33, rfl, wkOf ?_, ?_⟩
   ·subst hGD hLEN hA; rw [c75] at c32; refine upd_set hl33 (ix c32) ?_ ?_
    ·intro b hb hh
     match b, hb, hh with | 0, _, hh => exact (absurd hh (nd rfl)) | 1, _, hh => exact (absurd hh (nd rfl)) | 2, _, hh => exact (absurd hh (nd rfl)) | 3, _, hh => exact (absurd hh (nd rfl)) | 4, _, hh => exact (absurd hh (nd rfl)) | 5, _, hh => exact (absurd hh (nd rfl)) | 6, _, hh => exact (absurd hh (nd rfl)) | 7, _, hh => exact rfl | 8, _, hh => exact (absurd hh (nd rfl)) | 9, _, hh => exact (absurd hh (nd rfl)) | 10, _, hh => exact (absurd hh (nd rfl)) | 11, _, hh => exact (absurd hh (nd rfl)) | 12, _, hh => exact (absurd hh (nd rfl)) | 13, _, hh => exact (absurd hh (nd rfl)) | 14, _, hh => exact (absurd hh (nd rfl)) | 15, _, hh => exact (absurd hh (nd rfl)) | 16, _, hh => exact (absurd hh (nd rfl)) | 17, _, hh => exact (absurd hh (nd rfl)) | 18, _, hh => exact (absurd hh (nd rfl)) | 19, _, hh => exact (absurd hh (nd rfl)) | 20, _, hh => exact (absurd hh (nd rfl)) | (b_ + 21), h_, _ => omega
    ·intro b hb hh
     match b, hb, hh with | 0, _, hh => exact rfl | 1, _, hh => exact rfl | 2, _, hh => exact rfl | 3, _, hh => exact rfl | 4, _, hh => exact rfl | 5, _, hh => exact rfl | 6, _, hh => exact rfl | 7, _, hh => exact (hh (yd rfl)).elim | 8, _, hh => exact rfl | 9, _, hh => exact rfl | 10, _, hh => exact rfl | 11, _, hh => exact rfl | 12, _, hh => exact rfl | 13, _, hh => exact rfl | 14, _, hh => exact rfl | 15, _, hh => exact rfl | 16, _, hh => exact rfl | 17, _, hh => exact rfl | 18, _, hh => exact rfl | 19, _, hh => exact rfl | 20, _, hh => exact rfl | (b_ + 21), h_, _ => omega
   cbv; revert h; refine ra fun c34 h => ?_; revert h; refine rq fun c74 => rl fun l35 hl35 h => ?_; refine ai c34 ?_; refine ⟨_, rfl, _, row GD (eE) l35, rfl, wkOf ?_, ?_⟩
   ·subst hGD hLEN hA; rw [c74] at c34; refine upd_set hl35 (ix c34) ?_ ?_
    ·intro b hb hh
     match b, hb, hh with | 0, _, hh => exact (absurd hh (nd rfl)) | 1, _, hh => exact (absurd hh (nd rfl)) | 2, _, hh => exact (absurd hh (nd rfl)) | 3, _, hh => exact (absurd hh (nd rfl)) | 4, _, hh => exact (absurd hh (nd rfl)) | 5, _, hh => exact (absurd hh (nd rfl)) | 6, _, hh => exact (absurd hh (nd rfl)) | 7, _, hh => exact (absurd hh (nd rfl)) | 8, _, hh => exact rfl | 9, _, hh => exact (absurd hh (nd rfl)) | 10, _, hh => exact (absurd hh (nd rfl)) | 11, _, hh => exact (absurd hh (nd rfl)) | 12, _, hh => exact (absurd hh (nd rfl)) | 13, _, hh => exact (absurd hh (nd rfl)) | 14, _, hh => exact (absurd hh (nd rfl)) | 15, _, hh => exact (absurd hh (nd rfl)) | 16, _, hh => exact (absurd hh (nd rfl)) | 17, _, hh => exact (absurd hh (nd rfl)) | 18, _, hh => exact (absurd hh (nd rfl)) | 19, _, hh => exact (absurd hh (nd rfl)) | 20, _, hh => exact (absurd hh (nd rfl)) | (b_ + 21), h_, _ => omega
    ·intro b hb hh
     match b, hb, hh with | 0, _, hh => exact rfl | 1, _, hh => exact rfl | 2, _, hh => exact rfl | 3, _, hh => exact rfl | 4, _, hh => exact rfl | 5, _, hh => exact rfl | 6, _, hh => exact rfl | 7, _, hh => exact rfl | 8, _, hh => exact (hh (yd rfl)).elim | 9, _, hh => exact rfl | 10, _, hh => exact rfl | 11, _, hh => exact rfl | 12, _, hh => exact rfl | 13, _, hh => exact rfl | 14, _, hh => exact rfl | 15, _, hh => exact rfl | 16, _, hh => exact rfl | 17, _, hh => exact rfl | 18, _, hh => exact rfl | 19, _, hh => exact rfl | 20, _, hh => exact rfl | (b_ + 21), h_, _ => omega
   cbv; revert h; refine ra fun c36 h => ?_; revert h; refine rq fun c73 => rl fun l37 hl37 h => ?_; refine ai c36 ?_; refine ⟨_, rfl, _, row GD (eE) l37, rfl, wkOf ?_, ?_⟩
   ·subst hGD hLEN hA; rw [c73] at c36; refine upd_set hl37 (ix c36) ?_ ?_
    ·intro b hb hh
     match b, hb, hh with | 0, _, hh => exact (absurd hh (nd rfl)) | 1, _, hh => exact (absurd hh (nd rfl)) | 2, _, hh => exact (absurd hh (nd rfl)) | 3, _, hh => exact (absurd hh (nd rfl)) | 4, _, hh => exact (absurd hh (nd rfl)) | 5, _, hh => exact (absurd hh (nd rfl)) | 6, _, hh => exact (absurd hh (nd rfl)) | 7, _, hh => exact (absurd hh (nd rfl)) | 8, _, hh => exact (absurd hh (nd rfl)) | 9, _, hh => exact rfl | 10, _, hh => exact (absurd hh (nd rfl)) | 11, _, hh => exact (absurd hh (nd rfl)) | 12, _, hh => exact (absurd hh (nd rfl)) | 13, _, hh => exact (absurd hh (nd rfl)) | 14, _, hh => exact (absurd hh (nd rfl)) | 15, _, hh => exact (absurd hh (nd rfl)) | 16, _, hh => exact (absurd hh (nd rfl)) | 17, _, hh => exact (absurd hh (nd rfl)) | 18, _, hh => exact (absurd hh (nd rfl)) | 19, _, hh => exact (absurd hh (nd rfl)) | 20, _, hh => exact (absurd hh (nd rfl)) | (b_ + 21), h_, _ => omega
    ·intro b hb hh
     match b, hb, hh with | 0, _, hh => exact rfl | 1, _, hh => exact rfl | 2, _, hh => exact rfl | 3, _, hh => exact rfl | 4, _, hh => exact rfl | 5, _, hh => exact rfl | 6, _, hh => exact rfl | 7, _, hh => exact rfl | 8, _, hh => exact rfl | 9, _, hh => exact (hh (yd rfl)).elim | 10, _, hh => exact rfl | 11, _, hh => exact rfl | 12, _, hh => exact rfl | 13, _, hh => exact rfl | 14, _, hh => exact rfl | 15, _, hh => exact rfl | 16, _, hh => exact rfl | 17, _, hh => exact rfl | 18, _, hh => exact rfl | 19, _, hh => exact rfl | 20, _, hh => exact rfl | (b_ + 21), h_, _ => omega
   cbv; revert h; refine ra fun c38 h => ?_; revert h; refine rq fun c72 => rl fun l39 hl39 h => ?_; refine ai c38 ?_; refine ⟨_, rfl, _, row GD (eE) l39, rfl, wkOf ?_, ?_⟩
   ·subst hGD hLEN hA; rw [c72] at c38; refine upd_set hl39 (ix c38) ?_ ?_
    ·intro b hb hh
     match b, hb, hh with | 0, _, hh => exact (absurd hh (nd rfl)) | 1, _, hh => exact (absurd hh (nd rfl)) | 2, _, hh => exact (absurd hh (nd rfl)) | 3, _, hh => exact (absurd hh (nd rfl)) | 4, _, hh => exact (absurd hh (nd rfl)) | 5, _, hh => exact (absurd hh (nd rfl)) | 6, _, hh => exact (absurd hh (nd rfl)) | 7, _, hh => exact (absurd hh (nd rfl)) | 8, _, hh => exact (absurd hh (nd rfl)) | 9, _, hh => exact (absurd hh (nd rfl)) | 10, _, hh => exact rfl | 11, _, hh => exact (absurd hh (nd rfl)) | 12, _, hh => exact (absurd hh (nd rfl)) | 13, _, hh => exact (absurd hh (nd rfl)) | 14, _, hh => exact (absurd hh (nd rfl)) | 15, _, hh => exact (absurd hh (nd rfl)) | 16, _, hh => exact (absurd hh (nd rfl)) | 17, _, hh => exact (absurd hh (nd rfl)) | 18, _, hh => exact (absurd hh (nd rfl)) | 19, _, hh => exact (absurd hh (nd rfl)) | 20, _, hh => exact (absurd hh (nd rfl)) | (b_ + 21), h_, _ => omega
    ·intro b hb hh
     match b, hb, hh with | 0, _, hh => exact rfl | 1, _, hh => exact rfl | 2, _, hh => exact rfl | 3, _, hh => exact rfl | 4, _, hh => exact rfl | 5, _, hh => exact rfl | 6, _, hh => exact rfl | 7, _, hh => exact rfl | 8, _, hh => exact rfl | 9, _, hh => exact rfl | 10, _, hh => exact (hh (yd rfl)).elim | 11, _, hh => exact rfl | 12, _, hh => exact rfl | 13, _, hh => exact rfl | 14, _, hh => exact rfl | 15, _, hh => exact rfl | 16, _, hh => exact rfl | 17, _, hh => exact rfl | 18, _, hh => exact rfl | 19, _, hh => exact rfl | 20, _, hh => exact rfl | (b_ + 21), h_, _ => omega
   cbv; revert h; refine ra fun c40 h => ?_; revert h; refine rq fun c71 => rl fun l41 hl41 h => ?_; refine ai c40 ?_; refine ⟨_, rfl, _, row GD (eE) l41, rfl, wkOf ?_, ?_⟩
   ·subst hGD hLEN hA; rw [c71] at c40; refine upd_set hl41 (ix c40) ?_ ?_
    ·intro b hb hh
     match b, hb, hh with | 0, _, hh => exact (absurd hh (nd rfl)) | 1, _, hh => exact (absurd hh (nd rfl)) | 2, _, hh => exact (absurd hh (nd rfl)) | 3, _, hh => exact (absurd hh (nd rfl)) | 4, _, hh => exact (absurd hh (nd rfl)) | 5, _, hh => exact (absurd hh (nd rfl)) | 6, _, hh => exact (absurd hh (nd rfl)) | 7, _, hh => exact (absurd hh (nd rfl)) | 8, _, hh => exact (absurd hh (nd rfl)) | 9, _, hh => exact (absurd hh (nd rfl)) | 10, _, hh => exact (absurd hh (nd rfl)) | 11, _, hh => exact rfl | 12, _, hh => exact (absurd hh (nd rfl)) | 13, _, hh => exact (absurd hh (nd rfl)) | 14, _, hh => exact (absurd hh (nd rfl)) | 15, _, hh => exact (absurd hh (nd rfl)) | 16, _, hh => exact (absurd hh (nd rfl)) | 17, _, hh => exact (absurd hh (nd rfl)) | 18, _, hh => exact (absurd hh (nd rfl)) | 19, _, hh => exact (absurd hh (nd rfl)) | 20, _, hh => exact (absurd hh (nd rfl)) | (b_ + 21), h_, _ => omega
    ·intro b hb hh
     match b, hb, hh with | 0, _, hh => exact rfl | 1, _, hh => exact rfl | 2, _, hh => exact rfl | 3, _, hh => exact rfl | 4, _, hh => exact rfl | 5, _, hh => exact rfl | 6, _, hh => exact rfl | 7, _, hh => exact rfl | 8, _, hh => exact rfl | 9, _, hh => exact rfl | 10, _, hh => exact rfl | 11, _, hh => exact (hh (yd rfl)).elim | 12, _, hh => exact rfl | 13, _, hh => exact rfl | 14, _, hh => exact rfl | 15, _, hh => exact rfl | 16, _, hh => exact rfl | 17, _, hh => exact rfl | 18, _, hh => exact rfl | 19, _, hh => exact rfl | 20, _, hh => exact rfl | (b_ + 21), h_, _ => omega
   cbv; revert h; refine rb fun y42 hy43 h => ?_; refine rc [] [] (hfq2 _ _ hy43) zf ?_; cbv; revert h; refine ra fun c44 h => ?_; revert h; refine rq fun c70 => rl fun l45 hl45 h => ?_; refine ai c44 ?_; refine ⟨_, rfl, _, row GD (eE) l45, rfl, wkOf ?_, ?_⟩
   ·subst hGD hLEN hA; rw [c70] at c44; refine upd_set hl45 (ix c44) ?_ ?_
    ·intro b hb hh
     match b, hb, hh with | 0, _, hh => exact (absurd hh (nd rfl)) | 1, _, hh => exact (absurd hh (nd rfl)) | 2, _, hh => exact (absurd hh (nd rfl)) | 3, _, hh => exact (absurd hh (nd rfl)) | 4, _, hh => exact (absurd hh (nd rfl)) | 5, _, hh => exact (absurd hh (nd rfl)) | 6, _, hh => exact (absurd hh (nd rfl)) | 7, _, hh => exact (absurd hh (nd rfl)) | 8, _, hh => exact (absurd hh (nd rfl)) | 9, _, hh => exact (absurd hh (nd rfl)) | 10, _, hh => exact (absurd hh (nd rfl)) | 11, _, hh => exact (absurd hh (nd rfl)) | 12, _, hh => exact rfl | 13, _, hh => exact (absurd hh (nd rfl)) | 14, _, hh => exact (absurd hh (nd rfl)) | 15, _, hh => exact (absurd hh (nd rfl)) | 16, _, hh => exact (absurd hh (nd rfl)) | 17, _, hh => exact (absurd hh (nd rfl)) | 18, _, hh => exact (absurd hh (nd rfl)) | 19, _, hh => exact (absurd hh (nd rfl)) | 20, _, hh => exact (absurd hh (nd rfl)) | (b_ + 21), h_, _ => omega
    ·intro b hb hh
     match b, hb, hh with | 0, _, hh => exact rfl | 1, _, hh => exact rfl | 2, _, hh => exact rfl | 3, _, hh => exact rfl | 4, _, hh => exact rfl | 5, _, hh => exact rfl | 6, _, hh => exact rfl | 7, _, hh => exact rfl | 8, _, hh => exact rfl | 9, _, hh => exact rfl | 10, _, hh => exact rfl | 11, _, hh => exact rfl | 12, _, hh => exact (hh (yd rfl)).elim | 13, _, hh => exact rfl | 14, _, hh => exact rfl | 15, _, hh => exact rfl | 16, _, hh => exact rfl | 17, _, hh => exact rfl | 18, _, hh => exact rfl | 19, _, hh => exact rfl | 20, _, hh => exact rfl | (b_ + 21), h_, _ => omega
   cbv; revert h; refine ra fun c46 h => ?_; revert h; refine rq fun c69 => rl fun l47 hl47 h => ?_; refine ai c46 ?_; refine ⟨_, rfl, _, row GD (eE) l47, rfl, wkOf ?_, ?_⟩
   ·subst hGD hLEN hA; rw [c69] at c46; refine upd_set hl47 (ix c46) ?_ ?_
    ·intro b hb hh
     match b, hb, hh with | 0, _, hh => exact (absurd hh (nd rfl)) | 1, _, hh => exact (absurd hh (nd rfl)) | 2, _, hh => exact (absurd hh (nd rfl)) | 3, _, hh => exact (absurd hh (nd rfl)) | 4, _, hh => exact (absurd hh (nd rfl)) | 5, _, hh => exact (absurd hh (nd rfl)) | 6, _, hh => exact (absurd hh (nd rfl)) | 7, _, hh => exact (absurd hh (nd rfl)) | 8, _, hh => exact (absurd hh (nd rfl)) | 9, _, hh => exact (absurd hh (nd rfl)) | 10, _, hh => exact (absurd hh (nd rfl)) | 11, _, hh => exact (absurd hh (nd rfl)) | 12, _, hh => exact (absurd hh (nd rfl)) | 13, _, hh => exact rfl | 14, _, hh => exact (absurd hh (nd rfl)) | 15, _, hh => exact (absurd hh (nd rfl)) | 16, _, hh => exact (absurd hh (nd rfl)) | 17, _, hh => exact (absurd hh (nd rfl)) | 18, _, hh => exact (absurd hh (nd rfl)) | 19, _, hh => exact (absurd hh (nd rfl)) | 20, _, hh => exact (absurd hh (nd rfl)) | (b_ + 21), h_, _ => omega
    ·intro b hb hh
     match b, hb, hh with | 0, _, hh => exact rfl | 1, _, hh => exact rfl | 2, _, hh => exact rfl | 3, _, hh => exact rfl | 4, _, hh => exact rfl | 5, _, hh => exact rfl | 6, _, hh => exact rfl | 7, _, hh => exact rfl | 8, _, hh => exact rfl | 9, _, hh => exact rfl | 10, _, hh => exact rfl | 11, _, hh => exact rfl | 12, _, hh => exact rfl | 13, _, hh => exact (hh (yd rfl)).elim | 14, _, hh => exact rfl | 15, _, hh => exact rfl | 16, _, hh => exact rfl | 17, _, hh => exact rfl | 18, _, hh => exact rfl | 19, _, hh => exact rfl | 20, _, hh => exact rfl | (b_ + 21), h_, _ => omega
   cbv; revert h; refine ra fun c48 h => ?_; revert h; refine rq fun c68 => rl fun l49 hl49 h => ?_; refine ai c48 ?_; refine ⟨_, rfl, _, row GD (eE) l49, rfl, wkOf ?_, ?_⟩
   ·subst hGD hLEN hA; rw [c68] at c48; refine upd_set hl49 (ix c48) ?_ ?_
    ·intro b hb hh
     match b, hb, hh with | 0, _, hh => exact (absurd hh (nd rfl)) | 1, _, hh => exact (absurd hh (nd rfl)) | 2, _, hh => exact (absurd hh (nd rfl)) | 3, _, hh => exact (absurd hh (nd rfl)) | 4, _, hh => exact (absurd hh (nd rfl)) | 5, _, hh => exact (absurd hh (nd rfl)) | 6, _, hh => exact (absurd hh (nd rfl)) | 7, _, hh => exact (absurd hh (nd rfl)) | 8, _, hh => exact (absurd hh (nd rfl)) | 9, _, hh => exact (absurd hh (nd rfl)) | 10, _, hh => exact (absurd hh (nd rfl)) | 11, _, hh => exact (absurd hh (nd rfl)) | 12, _, hh => exact (absurd hh (nd rfl)) | 13, _, hh => exact (absurd hh (nd rfl)) | 14, _, hh => exact rfl | 15, _, hh => exact (absurd hh (nd rfl)) | 16, _, hh => exact (absurd hh (nd rfl)) | 17, _, hh => exact (absurd hh (nd rfl)) | 18, _, hh => exact (absurd hh (nd rfl)) | 19, _, hh => exact (absurd hh (nd rfl)) | 20, _, hh => exact (absurd hh (nd rfl)) | (b_ + 21), h_, _ => omega
    ·intro b hb hh
     match b, hb, hh with | 0, _, hh => exact rfl | 1, _, hh => exact rfl | 2, _, hh => exact rfl | 3, _, hh => exact rfl | 4, _, hh => exact rfl | 5, _, hh => exact rfl | 6, _, hh => exact rfl | 7, _, hh => exact rfl | 8, _, hh => exact rfl | 9, _, hh => exact rfl | 10, _, hh => exact rfl | 11, _, hh => exact rfl | 12, _, hh => exact rfl | 13, _, hh => exact rfl | 14, _, hh => exact (hh (yd rfl)).elim | 15, _, hh => exact rfl | 16, _, hh => exact rfl | 17, _, hh => exact rfl | 18, _, hh => exact rfl | 19, _, hh => exact rfl | 20, _, hh => exact rfl | (b_ + 21), h_, _ => omega
   cbv; revert h; refine ra fun c50 h => ?_; revert h; refine rq fun c67 => rl fun l51 hl51 h => ?_; refine ai c50 ?_; refine ⟨_, rfl, _, row GD (eE) l51, rfl, wkOf ?_, ?_⟩
   ·subst hGD hLEN hA; rw [c67] at c50; refine upd_set hl51 (ix c50) ?_ ?_
    ·intro b hb hh
     match b, hb, hh with | 0, _, hh => exact (absurd hh (nd rfl)) | 1, _, hh => exact (absurd hh (nd rfl)) | 2, _, hh => exact (absurd hh (nd rfl)) | 3, _, hh => exact (absurd hh (nd rfl)) | 4, _, hh => exact (absurd hh (nd rfl)) | 5, _, hh => exact (absurd hh (nd rfl)) | 6, _, hh => exact (absurd hh (nd rfl)) | 7, _, hh => exact (absurd hh (nd rfl)) | 8, _, hh => exact (absurd hh (nd rfl)) | 9, _, hh => exact (absurd hh (nd rfl)) | 10, _, hh => exact (absurd hh (nd rfl)) | 11, _, hh => exact (absurd hh (nd rfl)) | 12, _, hh => exact (absurd hh (nd rfl)) | 13, _, hh => exact (absurd hh (nd rfl)) | 14, _, hh => exact (absurd hh (nd rfl)) | 15, _, hh => exact rfl | 16, _, hh => exact (absurd hh (nd rfl)) | 17, _, hh => exact (absurd hh (nd rfl)) | 18, _, hh => exact (absurd hh (nd rfl)) | 19, _, hh => exact (absurd hh (nd rfl)) | 20, _, hh => exact (absurd hh (nd rfl)) | (b_ + 21), h_, _ => omega
    ·intro b hb hh
     match b, hb, hh with | 0, _, hh => exact rfl | 1, _, hh => exact rfl | 2, _, hh => exact rfl | 3, _, hh => exact rfl | 4, _, hh => exact rfl | 5, _, hh => exact rfl | 6, _, hh => exact rfl | 7, _, hh => exact rfl | 8, _, hh => exact rfl | 9, _, hh => exact rfl | 10, _, hh => exact rfl | 11, _, hh => exact rfl | 12, _, hh => exact rfl | 13, _, hh => exact rfl | 14, _, hh => exact rfl | 15, _, hh => exact (hh (yd rfl)).elim | 16, _, hh => exact rfl | 17, _, hh => exact rfl | 18, _, hh => exact rfl | 19, _, hh => exact rfl | 20, _, hh => exact rfl | (b_ + 21), h_, _ => omega
   cbv; revert h; refine ra fun c52 h => ?_; revert h; refine rq fun c66 => rl fun l53 hl53 h => ?_; refine ai c52 ?_; refine ⟨_, rfl, _, row GD (eE) l53, rfl, wkOf ?_, ?_⟩
   ·subst hGD hLEN hA; rw [c66] at c52; refine upd_set hl53 (ix c52) ?_ ?_
    ·intro b hb hh
     match b, hb, hh with | 0, _, hh => exact (absurd hh (nd rfl)) | 1, _, hh => exact (absurd hh (nd rfl)) | 2, _, hh => exact (absurd hh (nd rfl)) | 3, _, hh => exact (absurd hh (nd rfl)) | 4, _, hh => exact (absurd hh (nd rfl)) | 5, _, hh => exact (absurd hh (nd rfl)) | 6, _, hh => exact (absurd hh (nd rfl)) | 7, _, hh => exact (absurd hh (nd rfl)) | 8, _, hh => exact (absurd hh (nd rfl)) | 9, _, hh => exact (absurd hh (nd rfl)) | 10, _, hh => exact (absurd hh (nd rfl)) | 11, _, hh => exact (absurd hh (nd rfl)) | 12, _, hh => exact (absurd hh (nd rfl)) | 13, _, hh => exact (absurd hh (nd rfl)) | 14, _, hh => exact (absurd hh (nd rfl)) | 15, _, hh => exact (absurd hh (nd rfl)) | 16, _, hh => exact rfl | 17, _, hh => exact (absurd hh (nd rfl)) | 18, _, hh => exact (absurd hh (nd rfl)) | 19, _, hh => exact (absurd hh (nd rfl)) | 20, _, hh => exact (absurd hh (nd rfl)) | (b_ + 21), h_, _ => omega
    ·intro b hb hh
     match b, hb, hh with | 0, _, hh => exact rfl | 1, _, hh => exact rfl | 2, _, hh => exact rfl | 3, _, hh => exact rfl | 4, _, hh => exact rfl | 5, _, hh => exact rfl | 6, _, hh => exact rfl | 7, _, hh => exact rfl | 8, _, hh => exact rfl | 9, _, hh => exact rfl | 10, _, hh => exact rfl | 11, _, hh => exact rfl | 12, _, hh => exact rfl | 13, _, hh => exact rfl | 14, _, hh => exact rfl | 15, _, hh => exact rfl | 16, _, hh => exact (hh (yd rfl)).elim | 17, _, hh => exact rfl | 18, _, hh => exact rfl | 19, _, hh => exact rfl | 20, _, hh => exact rfl | (b_ + 21), h_, _ => omega
   cbv; revert h; refine ra fun c54 h => ?_; revert h; refine rq fun c65 => rl fun l55 hl55 h => ?_; refine ai c54 ?_; refine ⟨_, rfl, _, row GD (eE) l55, rfl, wkOf ?_, ?_⟩
   ·subst hGD hLEN hA; rw [c65] at c54; refine upd_set hl55 (ix c54) ?_ ?_
    ·intro b hb hh
     match b, hb, hh with | 0, _, hh => exact (absurd hh (nd rfl)) | 1, _, hh => exact (absurd hh (nd rfl)) | 2, _, hh => exact (absurd hh (nd rfl)) | 3, _, hh => exact (absurd hh (nd rfl)) | 4, _, hh => exact (absurd hh (nd rfl)) | 5, _, hh => exact (absurd hh (nd rfl)) | 6, _, hh => exact (absurd hh (nd rfl)) | 7, _, hh => exact (absurd hh (nd rfl)) | 8, _, hh => exact (absurd hh (nd rfl)) | 9, _, hh => exact (absurd hh (nd rfl)) | 10, _, hh => exact (absurd hh (nd rfl)) | 11, _, hh => exact (absurd hh (nd rfl)) | 12, _, hh => exact (absurd hh (nd rfl)) | 13, _, hh => exact (absurd hh (nd rfl)) | 14, _, hh => exact (absurd hh (nd rfl)) | 15, _, hh => exact (absurd hh (nd rfl)) | 16, _, hh => exact (absurd hh (nd rfl)) | 17, _, hh => exact rfl | 18, _, hh => exact (absurd hh (nd rfl)) | 19, _, hh => exact (absurd hh (nd rfl)) | 20, _, hh => exact (absurd hh (nd rfl)) | (b_ + 21), h_, _ => omega
    ·intro b hb hh
     match b, hb, hh with | 0, _, hh => exact rfl | 1, _, hh => exact rfl | 2, _, hh => exact rfl | 3, _, hh => exact rfl | 4, _, hh => exact rfl | 5, _, hh => exact rfl | 6, _, hh => exact rfl | 7, _, hh => exact rfl | 8, _, hh => exact rfl | 9, _, hh => exact rfl | 10, _, hh => exact rfl | 11, _, hh => exact rfl | 12, _, hh => exact rfl | 13, _, hh => exact rfl | 14, _, hh => exact rfl | 15, _, hh => exact rfl | 16, _, hh => exact rfl | 17, _, hh => exact (hh (yd rfl)).elim | 18, _, hh => exact rfl | 19, _, hh => exact rfl | 20, _, hh => exact rfl | (b_ + 21), h_, _ => omega
   cbv; revert h; refine ra fun c56 h => ?_; revert h; refine rq fun c64 => rl fun l57 hl57 h => ?_; refine ai c56 ?_; refine ⟨_, rfl, _, row GD (eE) l57, rfl, wkOf ?_, ?_⟩
   ·subst hGD hLEN hA; rw [c64] at c56; refine upd_set hl57 (ix c56) ?_ ?_
    ·intro b hb hh
     match b, hb, hh with | 0, _, hh => exact (absurd hh (nd rfl)) | 1, _, hh => exact (absurd hh (nd rfl)) | 2, _, hh => exact (absurd hh (nd rfl)) | 3, _, hh => exact (absurd hh (nd rfl)) | 4, _, hh => exact (absurd hh (nd rfl)) | 5, _, hh => exact (absurd hh (nd rfl)) | 6, _, hh => exact (absurd hh (nd rfl)) | 7, _, hh => exact (absurd hh (nd rfl)) | 8, _, hh => exact (absurd hh (nd rfl)) | 9, _, hh => exact (absurd hh (nd rfl)) | 10, _, hh => exact (absurd hh (nd rfl)) | 11, _, hh => exact (absurd hh (nd rfl)) | 12, _, hh => exact (absurd hh (nd rfl)) | 13, _, hh => exact (absurd hh (nd rfl)) | 14, _, hh => exact (absurd hh (nd rfl)) | 15, _, hh => exact (absurd hh (nd rfl)) | 16, _, hh => exact (absurd hh (nd rfl)) | 17, _, hh => exact (absurd hh (nd rfl)) | 18, _, hh => exact rfl | 19, _, hh => exact (absurd hh (nd rfl)) | 20, _, hh => exact (absurd hh (nd rfl)) | (b_ + 21), h_, _ => omega
    ·intro b hb hh
     match b, hb, hh with | 0, _, hh => exact rfl | 1, _, hh => exact rfl | 2, _, hh => exact rfl | 3, _, hh => exact rfl | 4, _, hh => exact rfl | 5, _, hh => exact rfl | 6, _, hh => exact rfl | 7, _, hh => exact rfl | 8, _, hh => exact rfl | 9, _, hh => exact rfl | 10, _, hh => exact rfl | 11, _, hh => exact rfl | 12, _, hh => exact rfl | 13, _, hh => exact rfl | 14, _, hh => exact rfl | 15, _, hh => exact rfl | 16, _, hh => exact rfl | 17, _, hh => exact rfl | 18, _, hh => exact (hh (yd rfl)).elim | 19, _, hh => exact rfl | 20, _, hh => exact rfl | (b_ + 21), h_, _ => omega
   cbv; revert h; refine ra fun c58 h => ?_; revert h; refine rq fun c63 => rl fun l59 hl59 h => ?_; refine ai c58 ?_; refine ⟨_, rfl, _, row GD (eE) l59, rfl, wkOf ?_, ?_⟩
   ·subst hGD hLEN hA; rw [c63] at c58; refine upd_set hl59 (ix c58) ?_ ?_
    ·intro b hb hh
     match b, hb, hh with | 0, _, hh => exact (absurd hh (nd rfl)) | 1, _, hh => exact (absurd hh (nd rfl)) | 2, _, hh => exact (absurd hh (nd rfl)) | 3, _, hh => exact (absurd hh (nd rfl)) | 4, _, hh => exact (absurd hh (nd rfl)) | 5, _, hh => exact (absurd hh (nd rfl)) | 6, _, hh => exact (absurd hh (nd rfl)) | 7, _, hh => exact (absurd hh (nd rfl)) | 8, _, hh => exact (absurd hh (nd rfl)) | 9, _, hh => exact (absurd hh (nd rfl)) | 10, _, hh => exact (absurd hh (nd rfl)) | 11, _, hh => exact (absurd hh (nd rfl)) | 12, _, hh => exact (absurd hh (nd rfl)) | 13, _, hh => exact (absurd hh (nd rfl)) | 14, _, hh => exact (absurd hh (nd rfl)) | 15, _, hh => exact (absurd hh (nd rfl)) | 16, _, hh => exact (absurd hh (nd rfl)) | 17, _, hh => exact (absurd hh (nd rfl)) | 18, _, hh => exact (absurd hh (nd rfl)) | 19, _, hh => exact rfl | 20, _, hh => exact (absurd hh (nd rfl)) | (b_ + 21), h_, _ => omega
    ·intro b hb hh
     match b, hb, hh with | 0, _, hh => exact rfl | 1, _, hh => exact rfl | 2, _, hh => exact rfl | 3, _, hh => exact rfl | 4, _, hh => exact rfl | 5, _, hh => exact rfl | 6, _, hh => exact rfl | 7, _, hh => exact rfl | 8, _, hh => exact rfl | 9, _, hh => exact rfl | 10, _, hh => exact rfl | 11, _, hh => exact rfl | 12, _, hh => exact rfl | 13, _, hh => exact rfl | 14, _, hh => exact rfl | 15, _, hh => exact rfl | 16, _, hh => exact rfl | 17, _, hh => exact rfl | 18, _, hh => exact rfl | 19, _, hh => exact (hh (yd rfl)).elim | 20, _, hh => exact rfl | (b_ + 21), h_, _ => omega
   cbv; revert h; refine ra fun c60 h => ?_; revert h; refine rq fun c62 => rl fun l61 hl61 h => ?_; refine ai c60 ?_; refine ⟨_, rfl, _, row GD (eE) l61, rfl, wkOf ?_, ?_⟩
   ·subst hGD hLEN hA; rw [c62] at c60; refine upd_set hl61 (ix c60) ?_ ?_
    ·intro b hb hh
     match b, hb, hh with | 0, _, hh => exact (absurd hh (nd rfl)) | 1, _, hh => exact (absurd hh (nd rfl)) | 2, _, hh => exact (absurd hh (nd rfl)) | 3, _, hh => exact (absurd hh (nd rfl)) | 4, _, hh => exact (absurd hh (nd rfl)) | 5, _, hh => exact (absurd hh (nd rfl)) | 6, _, hh => exact (absurd hh (nd rfl)) | 7, _, hh => exact (absurd hh (nd rfl)) | 8, _, hh => exact (absurd hh (nd rfl)) | 9, _, hh => exact (absurd hh (nd rfl)) | 10, _, hh => exact (absurd hh (nd rfl)) | 11, _, hh => exact (absurd hh (nd rfl)) | 12, _, hh => exact (absurd hh (nd rfl)) | 13, _, hh => exact (absurd hh (nd rfl)) | 14, _, hh => exact (absurd hh (nd rfl)) | 15, _, hh => exact (absurd hh (nd rfl)) | 16, _, hh => exact (absurd hh (nd rfl)) | 17, _, hh => exact (absurd hh (nd rfl)) | 18, _, hh => exact (absurd hh (nd rfl)) | 19, _, hh => exact (absurd hh (nd rfl)) | 20, _, hh => exact rfl | (b_ + 21), h_, _ => omega
    ·intro b hb hh
     match b, hb, hh with | 0, _, hh => exact rfl | 1, _, hh => exact rfl | 2, _, hh => exact rfl | 3, _, hh => exact rfl | 4, _, hh => exact rfl | 5, _, hh => exact rfl | 6, _, hh => exact rfl | 7, _, hh => exact rfl | 8, _, hh => exact rfl | 9, _, hh => exact rfl | 10, _, hh => exact rfl | 11, _, hh => exact rfl | 12, _, hh => exact rfl | 13, _, hh => exact rfl | 14, _, hh => exact rfl | 15, _, hh => exact rfl | 16, _, hh => exact rfl | 17, _, hh => exact rfl | 18, _, hh => exact rfl | 19, _, hh => exact rfl | 20, _, hh => exact (hh (yd rfl)).elim | (b_ + 21), h_, _ => omega
   cbv; exact dm
  exact dx
 rintro ⟨w84, w85⟩ h s q13; replace h := oz (oz (oz h)); dsimp only at h; cbv; refine ⟨_, q13, ?_⟩; cbv; revert h; refine rq fun c86 h => ?_; injection h with h; subst h; refine ⟨(sp 188 [(4, .c (wi w84))] [(5, .arr .rw [] (LEN w85) 21 (row GD (eE) w85))]), ?_, ?_⟩
 ·rw [c86]; exact zb
 ·exact ⟨lR _, ⟨oS, tv⟩, rfl⟩
set_option maxHeartbeats 4000000
def Lq62_x3 (a0 : List TS) : (Int × Int) -> Option ((Int × Int) ⊕ ((Int) ⊕ (Int))) := fun x3 =>
 letO x3.1 fun v1 =>
 letO x3.2 fun v2 =>
 br (std.lt v2 (std.ofN (len a0)))
 (req (std.inR v2 (len a0)) <|
 br (std.not (std.eq (gd a0 (std.toN v2)).fy v1))
 (some (.inr (.inl (-1))))
 (req (std.inR v2 (len a0)) <|
 br (std.not (std.eq (gd a0 (std.toN v2)).fb.fX0 (std.add .i64 v1 1)))
 (some (.inr (.inl (-1))))
 (req (std.inR v2 (len a0)) <|
 br (std.not (std.eq (gd a0 (std.toN v2)).fb.fY0 (std.add .i64 (std.add .i64 v1 1) 1)))
 (some (.inr (.inl (-1))))
 (req (std.inR v2 (len a0)) <|
 br (std.not (std.eq (gd a0 (std.toN v2)).fb.fX1 (std.add .i64 (std.add .i64 (std.add .i64 v1 1) 1) 1)))
 (some (.inr (.inl (-1))))
 (req (std.inR v2 (len a0)) <|
 br (std.not (std.eq (gd a0 (std.toN v2)).fb.fY1 (std.add .i64 (std.add .i64 (std.add .i64 (std.add .i64 v1 1) 1) 1) 1)))
 (some (.inr (.inl (-1))))
 (some (.inl (std.add .i64 (std.add .i64 (std.add .i64 (std.add .i64 (std.add .i64 v1 1) 1) 1) 1) 1, std.add .i64 v2 1))))))))
 (some (.inr (.inr v1)))
/-- laws.heldShapeS -/
def Fq62 (a0 : List TS) (a1 : Int) : Option (Int) :=
 (whileP (σ := Int × Int) (ρ := (Int) ⊕ (Int)) (Lq62_x3 a0) (a1, 0)).bind fun y4 =>
 (match y4 with
 | .inl y4k0 => (
 letO y4k0 fun w26 =>
 some w26)
 | .inr y4m0 =>
 letO y4m0 fun y4k1 =>
 letO y4k1 fun w27 =>
 some w27)
theorem runq62 (a0 : List TS) (a1 : Int) (r : Int) (h : Fq62 a0 a1 = some r) : Fun Tryz.prog 131 [.c (.bs (len a0) 5 (row gd (eS) a0)), .c (wi a1)] [] (.c (wi r)) [] true := by
 refine Fun.of_wp (oneOf []) tok mixed Tryz.func131 (by kernel_rfl) rfl Tryz.ntmps131 rfl trivial (fun _ => ⟨trivial, tv⟩) ?_; unfold Fq62 at h; unfold Lq62_x3 at h; generalize hLEN : @len = LEN, hGD : @gd = GD, hA : std = A, hP : Tryz.prog = P at *; cbv
 revert h; refine lc (fun x => (sp 62 [(0, .c (.bs (LEN a0) 5 (row GD (eS) a0))), (1, .c (wi x.1)), (5, .c (wi x.2))] [])) (fun y e s => (match y with | .inl w => e = .ret /\ s.le (sp 62 [(4, .c (wi w))] []) | .inr w0 => (fun (w : Int) => e = .exit 0 /\ s.le (sp 62 [(1, .c (wi w))] [])) w0)) zb ?_ ?_
 ·rintro ⟨v1, v2⟩ z h K hK hY; replace h := oz (oz h); dsimp only at h; cbv; revert h; refine fk ?_ ?_ <;> intro h <;> cbv
  ·revert h; refine ra fun c15 h => ?_; revert h; refine fk ?_ ?_ <;> intro h <;> cbv
   ·exact dy
   revert h; refine ra fun c16 h => ?_; revert h; refine fk ?_ ?_ <;> intro h <;> cbv
   ·exact dy
   revert h; refine ra fun c17 h => ?_; revert h; refine fk ?_ ?_ <;> intro h <;> cbv
   ·exact dy
   revert h; refine ra fun c18 h => ?_; revert h; refine fk ?_ ?_ <;> intro h <;> cbv
   ·exact dy
   revert h; refine ra fun c19 h => ?_; revert h; refine fk ?_ ?_ <;> intro h <;> cbv
   ·exact dy
   exact dm
  exact dy
 intro y4 h e13 s14 q12 hne; rcases y4 with y4k0 | y4m0
 ·replace h := h; obtain ⟨rfl, q12⟩ := q12; revert h; refine rz fun h => ?_; cbv; injection h with h; subst h; exact ⟨_, q12, lR _, zo, rfl⟩
 ·revert h; refine rz fun h => ?_; obtain ⟨rfl, q12⟩ := q12; revert h; refine rz fun h => ?_; cbv; refine ⟨_, q12, ?_⟩; cbv; exact df

def Lq61_x3 (a0 : List TB) : (Int × Int) -> Option ((Int × Int) ⊕ ((Int) ⊕ (Int))) := fun x3 =>
 letO x3.1 fun v1 =>
 letO x3.2 fun v2 =>
 br (std.lt v2 (std.ofN (len a0)))
 (req (std.inR v2 (len a0)) <|
 br (std.not (std.eq (gd a0 (std.toN v2)).fy v1))
 (some (.inr (.inl (-1))))
 (req (std.inR v2 (len a0)) <|
 br (std.not (std.eq (gd a0 (std.toN v2)).fa.fX (std.add .i64 v1 1)))
 (some (.inr (.inl (-1))))
 (req (std.inR v2 (len a0)) <|
 br (std.not (std.eq (gd a0 (std.toN v2)).fa.fY (std.add .i64 (std.add .i64 v1 1) 1)))
 (some (.inr (.inl (-1))))
 (req (std.inR v2 (len a0)) <|
 (Fq2 (std.add .i64 (std.add .i64 (std.add .i64 v1 1) 1) 1)).bind fun y19 =>
 br (std.not (std.seq (gd a0 (std.toN v2)).fN y19))
 (some (.inr (.inl (-1))))
 (some (.inl (std.add .i64 (std.add .i64 (std.add .i64 (std.add .i64 v1 1) 1) 1) 1, std.add .i64 v2 1)))))))
 (some (.inr (.inr v1)))
/-- laws.heldLabelS -/
def Fq61 (a0 : List TB) (a1 : Int) : Option (Int) :=
 (whileP (σ := Int × Int) (ρ := (Int) ⊕ (Int)) (Lq61_x3 a0) (a1, 0)).bind fun y4 =>
 (match y4 with
 | .inl y4k0 => (
 letO y4k0 fun w26 =>
 some w26)
 | .inr y4m0 =>
 letO y4m0 fun y4k1 =>
 letO y4k1 fun w27 =>
 some w27)
theorem runq61 (a0 : List TB) (a1 : Int) (r : Int) (h : Fq61 a0 a1 = some r) : Fun Tryz.prog 132 [.c (.bs (len a0) 4 (row gd (eL) a0)), .c (wi a1)] [] (.c (wi r)) [] true := by
 refine Fun.of_wp (oneOf []) tok mixed Tryz.func132 (by kernel_rfl) rfl Tryz.ntmps132 rfl trivial (fun _ => ⟨trivial, tv⟩) ?_; unfold Fq61 at h; unfold Lq61_x3 at h; have hfq2 := @runq2; generalize hLEN : @len = LEN, hGD : @gd = GD, hA : std = A, hP : Tryz.prog = P at *; cbv
 revert h; refine lc (fun x => (sp 52 [(0, .c (.bs (LEN a0) 4 (row GD (eL) a0))), (1, .c (wi x.1)), (5, .c (wi x.2))] [])) (fun y e s => (match y with | .inl w => e = .ret /\ s.le (sp 52 [(4, .c (wi w))] []) | .inr w0 => (fun (w : Int) => e = .exit 0 /\ s.le (sp 52 [(1, .c (wi w))] [])) w0)) zb ?_ ?_
 ·rintro ⟨v1, v2⟩ z h K hK hY; replace h := oz (oz h); dsimp only at h; cbv; revert h; refine fk ?_ ?_ <;> intro h <;> cbv
  ·revert h; refine ra fun c15 h => ?_; revert h; refine fk ?_ ?_ <;> intro h <;> cbv
   ·exact dy
   revert h; refine ra fun c16 h => ?_; revert h; refine fk ?_ ?_ <;> intro h <;> cbv
   ·exact dy
   revert h; refine ra fun c17 h => ?_; revert h; refine fk ?_ ?_ <;> intro h <;> cbv
   ·exact dy
   revert h; refine ra fun c18 h => ?_; revert h; refine rb fun y19 hy20 h => ?_; refine rc [] [] (hfq2 _ _ hy20) zf ?_; cbv; revert h; refine fk ?_ ?_ <;> intro h <;> cbv
   ·exact dy
   exact dm
  exact dy
 intro y4 h e13 s14 q12 hne; rcases y4 with y4k0 | y4m0
 ·replace h := h; obtain ⟨rfl, q12⟩ := q12; revert h; refine rz fun h => ?_; cbv; injection h with h; subst h; exact ⟨_, q12, lR _, zo, rfl⟩
 ·revert h; refine rz fun h => ?_; obtain ⟨rfl, q12⟩ := q12; revert h; refine rz fun h => ?_; cbv; refine ⟨_, q12, ?_⟩; cbv; exact df

def Lq51_x3 (a0 : List TI) : (Int × Int) -> Option ((Int × Int) ⊕ ((Int) ⊕ (Int))) := fun x3 =>
 letO x3.1 fun v1 =>
 letO x3.2 fun v2 =>
 br (std.lt v2 (std.ofN (len a0)))
 (req (std.inR v2 (len a0)) <|
 br (std.not (std.eq (gd a0 (std.toN v2)).fc v1))
 (some (.inr (.inl (-1))))
 (req (std.inR v2 (len a0)) <|
 br (std.not (std.eq (gd a0 (std.toN v2)).fp.fo (std.add .i64 v1 1)))
 (some (.inr (.inl (-1))))
 (req (std.inR v2 (len a0)) <|
 br (std.not (std.eq (gd a0 (std.toN v2)).fp.fX (std.add .i64 (std.add .i64 v1 1) 1)))
 (some (.inr (.inl (-1))))
 (req (std.inR v2 (len a0)) <|
 br (std.not (std.eq (gd a0 (std.toN v2)).fp.fY (std.add .i64 (std.add .i64 (std.add .i64 v1 1) 1) 1)))
 (some (.inr (.inl (-1))))
 (req (std.inR v2 (len a0)) <|
 br (std.not (std.eq (gd a0 (std.toN v2)).fK (std.add .i64 (std.add .i64 (std.add .i64 (std.add .i64 v1 1) 1) 1) 1)))
 (some (.inr (.inl (-1))))
 (req (std.inR v2 (len a0)) <|
 br (std.not (std.eq (gd a0 (std.toN v2)).fR (std.add .i64 (std.add .i64 (std.add .i64 (std.add .i64 (std.add .i64 v1 1) 1) 1) 1) 1)))
 (some (.inr (.inl (-1))))
 (req (std.inR v2 (len a0)) <|
 br (std.not (std.eq (gd a0 (std.toN v2)).fu (std.add .i64 (std.add .i64 (std.add .i64 (std.add .i64 (std.add .i64 (std.add .i64 v1 1) 1) 1) 1) 1) 1)))
 (some (.inr (.inl (-1))))
 (req (std.inR v2 (len a0)) <|
 br (std.not (std.eq (gd a0 (std.toN v2)).fv (std.add .i64 (std.add .i64 (std.add .i64 (std.add .i64 (std.add .i64 (std.add .i64 (std.add .i64 v1 1) 1) 1) 1) 1) 1) 1)))
 (some (.inr (.inl (-1))))
 (some (.inl (std.add .i64 (std.add .i64 (std.add .i64 (std.add .i64 (std.add .i64 (std.add .i64 (std.add .i64 (std.add .i64 v1 1) 1) 1) 1) 1) 1) 1) 1, std.add .i64 v2 1)))))))))))
 (some (.inr (.inr v1)))
/-- laws.heldInstanceS -/
def Fq51 (a0 : List TI) (a1 : Int) : Option (Int) :=
 (whileP (σ := Int × Int) (ρ := (Int) ⊕ (Int)) (Lq51_x3 a0) (a1, 0)).bind fun y4 =>
 (match y4 with
 | .inl y4k0 => (
 letO y4k0 fun w32 =>
 some w32)
 | .inr y4m0 =>
 letO y4m0 fun y4k1 =>
 letO y4k1 fun w33 =>
 some w33)
theorem runq51 (a0 : List TI) (a1 : Int) (r : Int) (h : Fq51 a0 a1 = some r) : Fun Tryz.prog 133 [.c (.bs (len a0) 8 (row gd (eI) a0)), .c (wi a1)] [] (.c (wi r)) [] true := by
 refine Fun.of_wp (oneOf []) tok mixed Tryz.func133 (by kernel_rfl) rfl Tryz.ntmps133 rfl trivial (fun _ => ⟨trivial, tv⟩) ?_; unfold Fq51 at h; unfold Lq51_x3 at h; generalize hLEN : @len = LEN, hGD : @gd = GD, hA : std = A, hP : Tryz.prog = P at *; cbv
 revert h; refine lc (fun x => (sp 88 [(0, .c (.bs (LEN a0) 8 (row GD (eI) a0))), (1, .c (wi x.1)), (5, .c (wi x.2))] [])) (fun y e s => (match y with | .inl w => e = .ret /\ s.le (sp 88 [(4, .c (wi w))] []) | .inr w0 => (fun (w : Int) => e = .exit 0 /\ s.le (sp 88 [(1, .c (wi w))] [])) w0)) zb ?_ ?_
 ·rintro ⟨v1, v2⟩ z h K hK hY; replace h := oz (oz h); dsimp only at h; cbv; revert h; refine fk ?_ ?_ <;> intro h <;> cbv
  ·revert h; refine ra fun c15 h => ?_; revert h; refine fk ?_ ?_ <;> intro h <;> cbv
   ·exact dy
   revert h; refine ra fun c16 h => ?_; revert h; refine fk ?_ ?_ <;> intro h <;> cbv
   ·exact dy
   revert h; refine ra fun c17 h => ?_; revert h; refine fk ?_ ?_ <;> intro h <;> cbv
   ·exact dy
   revert h; refine ra fun c18 h => ?_; revert h; refine fk ?_ ?_ <;> intro h <;> cbv
   ·exact dy
   revert h; refine ra fun c19 h => ?_; revert h; refine fk ?_ ?_ <;> intro h <;> cbv
   ·exact dy
   revert h; refine ra fun c20 h => ?_; revert h; refine fk ?_ ?_ <;> intro h <;> cbv
   ·exact dy
   revert h; refine ra fun c21 h => ?_; revert h; refine fk ?_ ?_ <;> intro h <;> cbv
   ·exact dy
   revert h; refine ra fun c22 h => ?_; revert h; refine fk ?_ ?_ <;> intro h <;> cbv
   ·exact dy
   exact dm
  exact dy
 intro y4 h e13 s14 q12 hne; rcases y4 with y4k0 | y4m0
 ·replace h := h; obtain ⟨rfl, q12⟩ := q12; revert h; refine rz fun h => ?_; cbv; injection h with h; subst h; exact ⟨_, q12, lR _, zo, rfl⟩
 ·revert h; refine rz fun h => ?_; obtain ⟨rfl, q12⟩ := q12; revert h; refine rz fun h => ?_; cbv; refine ⟨_, q12, ?_⟩; cbv; exact df

def Lq58_x3 (a0 : List TC) : (Int × Int) -> Option ((Int × Int) ⊕ ((Int) ⊕ (Int))) := fun x3 =>
 letO x3.1 fun v1 =>
 letO x3.2 fun v2 =>
 br (std.lt v2 (std.ofN (len a0)))
 (req (std.inR v2 (len a0)) <|
 (Fq2 v1).bind fun y16 =>
 br (std.not (std.seq (gd a0 (std.toN v2)).fN y16))
 (some (.inr (.inl (-1))))
 (req (std.inR v2 (len a0)) <|
 (Fq62 (gd a0 (std.toN v2)).fS (std.add .i64 v1 1)).bind fun y19 =>
 br (std.lt y19 0)
 (some (.inr (.inl (-1))))
 (req (std.inR v2 (len a0)) <|
 (Fq61 (gd a0 (std.toN v2)).fL y19).bind fun y22 =>
 br (std.lt y22 0)
 (some (.inr (.inl (-1))))
 (req (std.inR v2 (len a0)) <|
 (Fq51 (gd a0 (std.toN v2)).fI y22).bind fun y25 =>
 br (std.lt y25 0)
 (some (.inr (.inl (-1))))
 (some (.inl (y25, std.add .i64 v2 1)))))))
 (some (.inr (.inr v1)))
/-- laws.heldCellS -/
def Fq58 (a0 : List TC) (a1 : Int) : Option (Int) :=
 (whileP (σ := Int × Int) (ρ := (Int) ⊕ (Int)) (Lq58_x3 a0) (a1, 0)).bind fun y4 =>
 (match y4 with
 | .inl y4k0 => (
 letO y4k0 fun w32 =>
 some w32)
 | .inr y4m0 =>
 letO y4m0 fun y4k1 =>
 letO y4k1 fun w33 =>
 some w33)
theorem runq58 (a0 : List TC) (a1 : Int) (r : Int) (h : Fq58 a0 a1 = some r) : Fun Tryz.prog 68 [.c (.bs (len a0) 4 (row gd (eC len gd) a0)), .c (wi a1)] [] (.c (wi r)) [] true := by
 refine Fun.of_wp (oneOf []) tok mixed Tryz.func68 (by kernel_rfl) rfl Tryz.ntmps68 rfl trivial (fun _ => ⟨trivial, tv⟩) ?_; unfold Fq58 at h; unfold Lq58_x3 at h; have hfq51 := @runq51; have hfq61 := @runq61; have hfq62 := @runq62; have hfq2 := @runq2
 generalize hLEN : @len = LEN, hGD : @gd = GD, hA : std = A, hP : Tryz.prog = P at *; cbv
 revert h; refine lc (fun x => (sp 50 [(0, .c (.bs (LEN a0) 4 (row GD (eC LEN GD) a0))), (1, .c (wi x.1)), (5, .c (wi x.2))] [])) (fun y e s => (match y with | .inl w => e = .ret /\ s.le (sp 50 [(4, .c (wi w))] []) | .inr w0 => (fun (w : Int) => e = .exit 0 /\ s.le (sp 50 [(1, .c (wi w))] [])) w0)) zb ?_ ?_
 ·rintro ⟨v1, v2⟩ z h K hK hY; replace h := oz (oz h); dsimp only at h; cbv; revert h; refine fk ?_ ?_ <;> intro h <;> cbv
  ·revert h; refine ra fun c15 h => ?_; revert h; refine rb fun y16 hy17 h => ?_; refine rc [] [] (hfq2 _ _ hy17) zf ?_; cbv; revert h; refine fk ?_ ?_ <;> intro h <;> cbv
   ·exact dy
   revert h; refine ra fun c18 h => ?_; revert h; refine rb fun y19 hy20 h => ?_; refine rc [] [] (hfq62 _ _ _ hy20) zf ?_; cbv; revert h; refine fk ?_ ?_ <;> intro h <;> cbv
   ·exact dy
   revert h; refine ra fun c21 h => ?_; revert h; refine rb fun y22 hy23 h => ?_; refine rc [] [] (hfq61 _ _ _ hy23) zf ?_; cbv; revert h; refine fk ?_ ?_ <;> intro h <;> cbv
   ·exact dy
   revert h; refine ra fun c24 h => ?_; revert h; refine rb fun y25 hy26 h => ?_; refine rc [] [] (hfq51 _ _ _ hy26) zf ?_; cbv; revert h; refine fk ?_ ?_ <;> intro h <;> cbv
   ·exact dy
   exact dm
  exact dy
 intro y4 h e13 s14 q12 hne; rcases y4 with y4k0 | y4m0
 ·replace h := h; obtain ⟨rfl, q12⟩ := q12; revert h; refine rz fun h => ?_; cbv; injection h with h; subst h; exact ⟨_, q12, lR _, zo, rfl⟩
 ·revert h; refine rz fun h => ?_; obtain ⟨rfl, q12⟩ := q12; revert h; refine rz fun h => ?_; cbv; refine ⟨_, q12, ?_⟩; cbv; exact df

/-- laws.heldLibrary -/
def Fq78 (a0 : TL) (a1 : Int) : Option (Int) :=
 (Fq58 a0.fC a1).bind fun y1 =>
 br (std.lt y1 0)
 (some (-1))
 (some y1)
theorem runq78 (a0 : TL) (a1 : Int) (r : Int) (h : Fq78 a0 a1 = some r) : Fun Tryz.prog 22 [.agg [.bs (len a0.fC) 4 (row gd (eC len gd) a0.fC)], .c (wi a1)] [] (.c (wi r)) [] true := by
 refine Fun.of_wp (oneOf []) tok mixed Tryz.func22 (by kernel_rfl) rfl Tryz.ntmps22 rfl trivial (fun _ => ⟨trivial, tv⟩) ?_; unfold Fq78 at h; have hfq58 := @runq58; generalize hLEN : @len = LEN, hGD : @gd = GD, hA : std = A, hP : Tryz.prog = P at *; cbv; revert h; refine rb fun y1 hy2 h => ?_; refine rc [] [] (hfq58 _ _ _ hy2) zf ?_; cbv
 revert h; refine fk ?_ ?_ <;> intro h <;> cbv
 ·exact df
 exact df

/-- laws.FnExactApplyEdits -/
def Fq131 (a0 : TL) (a1 : List TE) : Option (Bool) :=
 (Fq85 a0 1048576).bind fun y1 =>
 br (std.lt y1 0)
 (some true)
 ((Fq44 a1 y1).bind fun y3 =>
 br (std.lt y3 0)
 (some true)
 ((Fq42 a0).bind fun y5 =>
 (Fq27 a1).bind fun y7 =>
 (Fq114 y5 y7).bind fun y9 =>
 (Fq42 a0).bind fun y11 =>
 (Fq27 a1).bind fun y13 =>
 (Fq79 y11 y13).bind fun y15 =>
 ((
 (Fq43 y15.1 y9.1).bind fun y24 =>
 br (!(y24))
 (some true)
 (br (std.not (std.eq y15.2.1 y9.2.1))
 (some true)
 (some (std.not (std.eq y15.2.2 y9.2.2))))
 ) : Option (Bool)).bind fun y17 =>
 letO y17 fun w23 =>
 br w23
 (some false)
 ((Fq42 a0).bind fun y28 =>
 (Fq43 y11 y28).bind fun y30 =>
 br (!(y30))
 (some false)
 ((Fq27 a1).bind fun y32 =>
 (Fq37 y13 y32).bind fun y34 =>
 br (!(y34))
 (some false)
 ((Fq81 y11 1).bind fun y36 =>
 req (len y36.2 = len y11.fC) <|
 (Fq60 y13 y36.1).bind fun y38 =>
 req (len y38.2 = len y13) <|
 ((
 br (std.lt y38.1 0)
 (some true)
 ((Fq43 y15.1 y9.1).bind fun y47 =>
 br (!(y47))
 (some true)
 (br (std.not (std.eq y15.2.1 y9.2.1))
 (some true)
 (some (std.not (std.eq y15.2.2 y9.2.2)))))
 ) : Option (Bool)).bind fun y40 =>
 letO y40 fun w46 =>
 br w46
 (some false)
 ((Fq81 y15.1 1).bind fun y52 =>
 req (len y52.2 = len y15.1.fC) <|
 (Fq78 (TL.mk y52.2) 1).bind fun y54 =>
 req (len y15.1.fC = len y52.2) <|
 br (std.lt y54 0)
 (some false)
 (br (std.not (std.eq y54 y52.1))
 (some false)
 ((Fq42 a0).bind fun y56 =>
 (Fq27 a1).bind fun y58 =>
 (Fq79 y56 y58).bind fun y60 =>
 ((
 (Fq43 y60.1 y9.1).bind fun y69 =>
 br (!(y69))
 (some true)
 (br (std.not (std.eq y60.2.1 y9.2.1))
 (some true)
 (some (std.not (std.eq y60.2.2 y9.2.2))))
 ) : Option (Bool)).bind fun y62 =>
 letO y62 fun w68 =>
 br w68
 (some false)
 ((Fq78 (TL.mk y52.2) 1).bind fun y73 =>
 req (len y15.1.fC = len y52.2) <|
 br (std.lt y73 0)
 (some false)
 (br (std.not (std.eq y73 y52.1))
 (some false)
 (some true)))))))))))
theorem runq131 (a0 : TL) (a1 : List TE) (r : Bool) (h : Fq131 a0 a1 = some r) : Fun Tryz.prog 4 [.agg [.bs (len a0.fC) 4 (row gd (eC len gd) a0.fC)], .c (.bs (len a1) 21 (row gd (eE) a1))] [] (.c (.v (.bool r))) [] true := by
 refine Fun.of_wp (oneOf [12, 21, 32]) tok mixed Tryz.func4 (by kernel_rfl) rfl Tryz.ntmps4 rfl trivial (fun _ => ⟨trivial, tv⟩) ?_; unfold Fq131 at h; have hfq79 := @runq79; have hfq37 := @runq37; have hfq43 := @runq43; have hfq78 := @runq78
 have hfq60 := @runq60; have hfq81 := @runq81; have hfq44 := @runq44; have hfq85 := @runq85; have hfq27 := @runq27; have hfq42 := @runq42; have hfq114 := @runq114
 generalize hLEN : @len = LEN, hGD : @gd = GD, hA : std = A, hP : Tryz.prog = P at *; cbv; revert h; refine rb fun y1 hy2 h => ?_; refine rc [] [] (hfq85 _ _ _ hy2) zf ?_; cbv; revert h; refine fk ?_ ?_ <;> intro h <;> cbv
 ·exact df
 revert h; refine rb fun y3 hy4 h => ?_; refine rc [] [] (hfq44 _ _ _ hy4) zf ?_; cbv; revert h; refine fk ?_ ?_ <;> intro h <;> cbv
 ·exact df
 revert h; refine rb fun y5 hy6 h => ?_; refine rc [] [(64000, 2048)] (hfq42 _ _ hy6) zf ⟨_, rfl, _, _, rfl, fun _ _ _ _ => .refl _, ?_⟩; cbv; revert h; refine rb fun y7 hy8 h => ?_; refine rc [] [(64000, 2176)] (hfq27 _ _ hy8) zf ⟨_, rfl, _, _, rfl, fun _ _ _ _ => .refl _, ?_⟩; cbv; revert h; refine rb fun y9 hy10 h => ?_
 refine rc [] [(64000, 2240)] (hfq114 _ _ _ hy10) (zg (lc_ (le_agg ⟨give_osD (rC) (ln_oncCell) rfl rfl rfl, tv⟩) (lc_ (give_os (pl_encEdit) rfl rfl rfl) (ln_)))) ⟨_, rfl, _, _, rfl, fun _ _ _ _ => .refl _, ?_⟩; cbv; revert h; refine rb fun y11 hy12 h => ?_
 refine rc [] [(64000, 2560)] (hfq42 _ _ hy12) zf ⟨_, rfl, _, _, rfl, fun _ _ _ _ => .refl _, ?_⟩; cbv; revert h; refine rb fun y13 hy14 h => ?_; refine rc [] [(64000, 2688)] (hfq27 _ _ hy14) zf ⟨_, rfl, _, _, rfl, fun _ _ _ _ => .refl _, ?_⟩; cbv; revert h; refine rb fun y15 hy16 h => ?_
 refine rc [] [(64000, 2944)] (hfq79 _ _ _ hy16) (zg (lc_ (le_agg ⟨give_osD (rC) (ln_oncCell) rfl rfl rfl, tv⟩) (lc_ (give_os (pl_encEdit) rfl rfl rfl) (ln_)))) ⟨_, rfl, _, _, rfl, fun _ _ _ _ => .refl _, ?_⟩; cbv
 revert h; refine cu (fun y17 => (sp 140 [(1, .c (.bs (LEN a1) 21 (row GD (eE) a1))), (2, .c (.ptr 128 0)), (6, .c (.ptr 384 0)), (7, .c (wi y9.2.1)), (8, .c (wi y9.2.2)), (9, .c (.ptr 576 0)), (10, .c (.os 2688 0 (LEN y13))), (11, .c (.ptr 704 0)), (12, .c (wi y15.2.1)), (13, .c (wi y15.2.2)), (63, .c (.v (.bool y17)))] [(128, .var [.bs (LEN a0.fC) 4 (row GD (eC LEN GD) a0.fC)]), (384, .var [.os 2240 0 (LEN y9.1.fC)]), (576, .var [.os 2560 0 (LEN y11.fC)]), (2688, .arr .rw [] (LEN y13) 21 (row GD (eE) y13)), (704, .var [.os 2944 0 (LEN y15.1.fC)]), (2240, .arr .rw [] (LEN y9.1.fC) 4 (row GD (oC LEN GD) y9.1.fC)), (2560, .arr .rw [] (LEN y11.fC) 4 (row GD (oC LEN GD) y11.fC)), (2944, .arr .rw [] (LEN y15.1.fC) 4 (row GD (oC LEN GD) y15.1.fC))])) ?_ fun w23 => rz fun h => ?_
 ·intro y17 S hS h; cbv; revert h; refine rb fun y24 hy25 h => ?_; refine rc [] [] (hfq43 _ _ _ hy25) (zg (lc_ (le_agg ⟨give_osD (rC) (ln_oncCell) rfl rfl rfl, tv⟩) (lc_ (le_agg ⟨give_osD (rC) (ln_oncCell) rfl rfl rfl, tv⟩) (ln_)))) ?_; cbv; revert h; refine fk ?_ ?_ <;> intro h <;> cbv
  ·exact dn
  revert h; refine fk ?_ ?_ <;> intro h <;> cbv
  ·exact dn
  exact dn
 cbv; revert h; refine fk ?_ ?_ <;> intro h <;> cbv
 ·exact df
 revert h; refine rb fun y28 hy29 h => ?_; refine rc [] [(64000, 4224)] (hfq42 _ _ hy29) zf ⟨_, rfl, _, _, rfl, fun _ _ _ _ => .refl _, ?_⟩; cbv; revert h; refine rb fun y30 hy31 h => ?_
 refine rc [] [] (hfq43 _ _ _ hy31) (zg (lc_ (le_agg ⟨give_osD (rC) (ln_oncCell) rfl rfl rfl, tv⟩) (lc_ (le_agg ⟨give_osD (rC) (ln_oncCell) rfl rfl rfl, tv⟩) (ln_)))) ?_; cbv; revert h; refine fk ?_ ?_ <;> intro h <;> cbv
 ·exact df
 revert h; refine rb fun y32 hy33 h => ?_; refine rc [] [(64000, 4544)] (hfq27 _ _ hy33) zf ⟨_, rfl, _, _, rfl, fun _ _ _ _ => .refl _, ?_⟩; cbv; revert h; refine rb fun y34 hy35 h => ?_; refine rc [] [] (hfq37 _ _ _ hy35) (zg (lc_ (give_os (pl_encEdit) rfl rfl rfl) (lc_ (give_os (pl_encEdit) rfl rfl rfl) (ln_)))) ?_; cbv
 revert h; refine fk ?_ ?_ <;> intro h <;> cbv
 ·exact df
 revert h; refine rb fun y36 hy37 => rq fun c85 h => ?_; refine rc [(5, 2560)] [(5, 2560)] (hfq81 _ _ _ hy37) yf ⟨_, rfl, LEN y11.fC, _, c85, fun _ _ _ _ => .refl _, ?_⟩; cbv; revert h; refine rb fun y38 hy39 => rq fun c84 h => ?_; refine rc [(5, 2688)] [(5, 2688)] (hfq60 _ _ _ hy39) yf ⟨_, rfl, LEN y13, _, c84, fun _ _ _ _ => .refl _, ?_⟩; cbv
 revert h; refine cu (fun y40 => (sp 140 [(1, .c (.bs (LEN a1) 21 (row GD (eE) a1))), (2, .c (.ptr 128 0)), (6, .c (.ptr 384 0)), (7, .c (wi y9.2.1)), (8, .c (wi y9.2.2)), (11, .c (.ptr 704 0)), (97, .c (.v (.bool y40)))] [(128, .var [.bs (LEN a0.fC) 4 (row GD (eC LEN GD) a0.fC)]), (384, .var [.os 2240 0 (LEN y9.1.fC)]), (704, .var [.os 2944 0 (LEN y15.1.fC)]), (2240, .arr .rw [] (LEN y9.1.fC) 4 (row GD (oC LEN GD) y9.1.fC)), (2944, .arr .rw [] (LEN y15.1.fC) 4 (row GD (oC LEN GD) y15.1.fC))])) ?_ fun w46 => rz fun h => ?_
 ·intro y40 S hS h; cbv; revert h; refine fk ?_ ?_ <;> intro h <;> cbv
  ·exact dn
  revert h; refine rb fun y47 hy48 h => ?_; refine rc [] [] (hfq43 _ _ _ hy48) (zg (lc_ (le_agg ⟨give_osD (rC) (ln_oncCell) rfl rfl rfl, tv⟩) (lc_ (le_agg ⟨give_osD (rC) (ln_oncCell) rfl rfl rfl, tv⟩) (ln_)))) ?_; cbv; revert h; refine fk ?_ ?_ <;> intro h <;> cbv
  ·exact dn
  revert h; refine fk ?_ ?_ <;> intro h <;> cbv
  ·exact dn
  exact dn
 cbv; revert h; refine fk ?_ ?_ <;> intro h <;> cbv
 ·exact df
 revert h; refine rb fun y52 hy53 => rq fun c82 h => ?_; refine rc [(5, 2944)] [(5, 2944)] (hfq81 _ _ _ hy53) yf ⟨_, rfl, LEN y15.1.fC, _, c82, fun _ _ _ _ => .refl _, ?_⟩; cbv; revert h; refine rb fun y54 hy55 => rq fun c81 h => ?_
 refine rc [] [] (hfq78 _ _ _ hy55) (zg (lc_ (le_agg ⟨give_osD (rC) (ln_oncCell) rfl rfl c81, tv⟩) (zs1))) ?_; cbv; revert h; refine fk ?_ ?_ <;> intro h <;> cbv
 ·exact df
 revert h; refine fk ?_ ?_ <;> intro h <;> cbv
 ·exact df
 revert h; refine rb fun y56 hy57 h => ?_; refine rc [] [(64000, 7104)] (hfq42 _ _ hy57) zf ⟨_, rfl, _, _, rfl, fun _ _ _ _ => .refl _, ?_⟩; cbv; revert h; refine rb fun y58 hy59 h => ?_; refine rc [] [(64000, 7232)] (hfq27 _ _ hy59) zf ⟨_, rfl, _, _, rfl, fun _ _ _ _ => .refl _, ?_⟩; cbv; revert h; refine rb fun y60 hy61 h => ?_
 refine rc [] [(64000, 7296)] (hfq79 _ _ _ hy61) (zg (lc_ (le_agg ⟨give_osD (rC) (ln_oncCell) rfl rfl rfl, tv⟩) (lc_ (give_os (pl_encEdit) rfl rfl rfl) (ln_)))) ⟨_, rfl, _, _, rfl, fun _ _ _ _ => .refl _, ?_⟩; cbv
 revert h; refine cu (fun y62 => (sp 140 [(11, .c (.ptr 704 0)), (15, .c (wi y52.1)), (131, .c (.v (.bool y62)))] [(704, .var [.os 2944 0 (LEN y15.1.fC)]), (2944, .arr .rw [] (LEN y15.1.fC) 4 (row GD (oC LEN GD) y52.2))])) ?_ fun w68 => rz fun h => ?_
 ·intro y62 S hS h; cbv; revert h; refine rb fun y69 hy70 h => ?_; refine rc [] [] (hfq43 _ _ _ hy70) (zg (lc_ (le_agg ⟨give_osD (rC) (ln_oncCell) rfl rfl rfl, tv⟩) (lc_ (le_agg ⟨give_osD (rC) (ln_oncCell) rfl rfl rfl, tv⟩) (ln_)))) ?_; cbv; revert h; refine fk ?_ ?_ <;> intro h <;> cbv
  ·exact dn
  revert h; refine fk ?_ ?_ <;> intro h <;> cbv
  ·exact dn
  exact dn
 cbv; revert h; refine fk ?_ ?_ <;> intro h <;> cbv
 ·exact df
 revert h; refine rb fun y73 hy74 => rq fun c77 h => ?_; refine rc [] [] (hfq78 _ _ _ hy74) (zg (lc_ (le_agg ⟨give_osD (rC) (ln_oncCell) rfl rfl c77, tv⟩) (zs1))) ?_; cbv; revert h; refine fk ?_ ?_ <;> intro h <;> cbv
 ·exact df
 revert h; refine fk ?_ ?_ <;> intro h <;> cbv
 ·exact df
 exact df
set_option maxHeartbeats 4000000
theorem op_9 (d : Nat) : Opens T (d + 1) 9 (clS) (wfS) := op_str (show T 9 = some d9 from rfl) rfl
theorem op_2 (d : Nat) : Opens T (d + 1) 2 (clI .i64) (wfI .i64) := op_int .i64 (show T 2 = some d2 from rfl) rfl
def clRect (e : TRect) : List AC := clI .i64 e.fX0 ++ (clI .i64 e.fY0 ++ (clI .i64 e.fX1 ++ (clI .i64 e.fY1 ++ ([]))))
def wfRect (e : TRect) : Prop := wfI .i64 e.fX0 /\ wfI .i64 e.fY0 /\ wfI .i64 e.fX1 /\ wfI .i64 e.fY1
theorem op_26 (d : Nat) : Opens T (d + 2) 26 (clRect) (wfRect) := by
  intro cs hs
  obtain ⟨a0, b0, rfl, h0, a1, b1, rfl, h1, a2, b2, rfl, h2, a3, b3, rfl, h3, rfl⟩ := hs
  obtain ⟨e0, w0, r0⟩ := op_2 (d + 0) a0 h0
  obtain ⟨e1, w1, r1⟩ := op_2 (d + 0) a1 h1
  obtain ⟨e2, w2, r2⟩ := op_2 (d + 0) a2 h2
  obtain ⟨e3, w3, r3⟩ := op_2 (d + 0) a3 h3
  exact ⟨TRect.mk e0 e1 e2 e3, ⟨w0, w1, w2, w3⟩, rlist_app r0 (rlist_app r1 (rlist_app r2 (rlist_app r3 (trivial))))⟩
def clShape (e : TS) : List AC := clI .i64 e.fy ++ (clRect e.fb ++ ([]))
def wfShape (e : TS) : Prop := wfI .i64 e.fy /\ wfRect e.fb
theorem op_28 (d : Nat) : Opens T (d + 3) 28 (clShape) (wfShape) := by
  intro cs hs
  obtain ⟨a0, b0, rfl, h0, a1, b1, rfl, h1, rfl⟩ := hs
  obtain ⟨e0, w0, r0⟩ := op_2 (d + 1) a0 h0
  obtain ⟨e1, w1, r1⟩ := op_26 (d + 0) a1 h1
  exact ⟨TS.mk e0 e1, ⟨w0, w1⟩, rlist_app r0 (rlist_app r1 (trivial))⟩
theorem op_163 (d : Nat) : Opens T (d + 4) 163 (clL 5 (eS)) (wfL wfShape) := op_slice (e := 28) (sz := 5) (show T 163 = some d163 from rfl) rfl (show T 28 = some d28 from rfl) rfl (fun x j hj => by match j, hj with | 0, _ => rfl | 1, _ => rfl | 2, _ => rfl | 3, _ => rfl | 4, _ => rfl | (j_ + 5), h_ => omega) (op_28 d)
def clPoint (e : TPoint) : List AC := clI .i64 e.fX ++ (clI .i64 e.fY ++ ([]))
def wfPoint (e : TPoint) : Prop := wfI .i64 e.fX /\ wfI .i64 e.fY
theorem op_30 (d : Nat) : Opens T (d + 2) 30 (clPoint) (wfPoint) := by
  intro cs hs
  obtain ⟨a0, b0, rfl, h0, a1, b1, rfl, h1, rfl⟩ := hs
  obtain ⟨e0, w0, r0⟩ := op_2 (d + 0) a0 h0
  obtain ⟨e1, w1, r1⟩ := op_2 (d + 0) a1 h1
  exact ⟨TPoint.mk e0 e1, ⟨w0, w1⟩, rlist_app r0 (rlist_app r1 (trivial))⟩
def clLabel (e : TB) : List AC := clI .i64 e.fy ++ (clPoint e.fa ++ (clS e.fN ++ ([])))
def wfLabel (e : TB) : Prop := wfI .i64 e.fy /\ wfPoint e.fa /\ wfS e.fN
theorem op_32 (d : Nat) : Opens T (d + 3) 32 (clLabel) (wfLabel) := by
  intro cs hs
  obtain ⟨a0, b0, rfl, h0, a1, b1, rfl, h1, a2, b2, rfl, h2, rfl⟩ := hs
  obtain ⟨e0, w0, r0⟩ := op_2 (d + 1) a0 h0
  obtain ⟨e1, w1, r1⟩ := op_30 (d + 0) a1 h1
  obtain ⟨e2, w2, r2⟩ := op_9 (d + 1) a2 h2
  exact ⟨TB.mk e0 e1 e2, ⟨w0, w1, w2⟩, rlist_app r0 (rlist_app r1 (rlist_app r2 (trivial)))⟩
theorem op_164 (d : Nat) : Opens T (d + 4) 164 (clL 4 (eL)) (wfL wfLabel) := op_slice (e := 32) (sz := 4) (show T 164 = some d164 from rfl) rfl (show T 32 = some d32 from rfl) rfl (fun x j hj => by match j, hj with | 0, _ => rfl | 1, _ => rfl | 2, _ => rfl | 3, _ => rfl | (j_ + 4), h_ => omega) (op_32 d)
def clTransform (e : TM) : List AC := clI .i64 e.fo ++ (clI .i64 e.fX ++ (clI .i64 e.fY ++ ([])))
def wfTransform (e : TM) : Prop := wfI .i64 e.fo /\ wfI .i64 e.fX /\ wfI .i64 e.fY
theorem op_34 (d : Nat) : Opens T (d + 2) 34 (clTransform) (wfTransform) := by
  intro cs hs
  obtain ⟨a0, b0, rfl, h0, a1, b1, rfl, h1, a2, b2, rfl, h2, rfl⟩ := hs
  obtain ⟨e0, w0, r0⟩ := op_2 (d + 0) a0 h0
  obtain ⟨e1, w1, r1⟩ := op_2 (d + 0) a1 h1
  obtain ⟨e2, w2, r2⟩ := op_2 (d + 0) a2 h2
  exact ⟨TM.mk e0 e1 e2, ⟨w0, w1, w2⟩, rlist_app r0 (rlist_app r1 (rlist_app r2 (trivial)))⟩
def clInstance (e : TI) : List AC := clI .i64 e.fc ++ (clTransform e.fp ++ (clI .i64 e.fK ++ (clI .i64 e.fR ++ (clI .i64 e.fu ++ (clI .i64 e.fv ++ ([]))))))
def wfInstance (e : TI) : Prop := wfI .i64 e.fc /\ wfTransform e.fp /\ wfI .i64 e.fK /\ wfI .i64 e.fR /\ wfI .i64 e.fu /\ wfI .i64 e.fv
theorem op_36 (d : Nat) : Opens T (d + 3) 36 (clInstance) (wfInstance) := by
  intro cs hs
  obtain ⟨a0, b0, rfl, h0, a1, b1, rfl, h1, a2, b2, rfl, h2, a3, b3, rfl, h3, a4, b4, rfl, h4, a5, b5, rfl, h5, rfl⟩ := hs
  obtain ⟨e0, w0, r0⟩ := op_2 (d + 1) a0 h0
  obtain ⟨e1, w1, r1⟩ := op_34 (d + 0) a1 h1
  obtain ⟨e2, w2, r2⟩ := op_2 (d + 1) a2 h2
  obtain ⟨e3, w3, r3⟩ := op_2 (d + 1) a3 h3
  obtain ⟨e4, w4, r4⟩ := op_2 (d + 1) a4 h4
  obtain ⟨e5, w5, r5⟩ := op_2 (d + 1) a5 h5
  exact ⟨TI.mk e0 e1 e2 e3 e4 e5, ⟨w0, w1, w2, w3, w4, w5⟩, rlist_app r0 (rlist_app r1 (rlist_app r2 (rlist_app r3 (rlist_app r4 (rlist_app r5 (trivial))))))⟩
theorem op_165 (d : Nat) : Opens T (d + 4) 165 (clL 8 (eI)) (wfL wfInstance) := op_slice (e := 36) (sz := 8) (show T 165 = some d165 from rfl) rfl (show T 36 = some d36 from rfl) rfl (fun x j hj => by match j, hj with | 0, _ => rfl | 1, _ => rfl | 2, _ => rfl | 3, _ => rfl | 4, _ => rfl | 5, _ => rfl | 6, _ => rfl | 7, _ => rfl | (j_ + 8), h_ => omega) (op_36 d)
def clCell (e : TC) : List AC := clS e.fN ++ (clL 5 (eS) e.fS ++ (clL 4 (eL) e.fL ++ (clL 8 (eI) e.fI ++ ([]))))
def wfCell (e : TC) : Prop := wfS e.fN /\ wfL wfShape e.fS /\ wfL wfLabel e.fL /\ wfL wfInstance e.fI
theorem op_167 (d : Nat) : Opens T (d + 5) 167 (clCell) (wfCell) := by
  intro cs hs
  obtain ⟨a0, b0, rfl, h0, a1, b1, rfl, h1, a2, b2, rfl, h2, a3, b3, rfl, h3, rfl⟩ := hs
  obtain ⟨e0, w0, r0⟩ := op_9 (d + 3) a0 h0
  obtain ⟨e1, w1, r1⟩ := op_163 (d + 0) a1 h1
  obtain ⟨e2, w2, r2⟩ := op_164 (d + 0) a2 h2
  obtain ⟨e3, w3, r3⟩ := op_165 (d + 0) a3 h3
  exact ⟨TC.mk e0 e1 e2 e3, ⟨w0, w1, w2, w3⟩, rlist_app r0 (rlist_app r1 (rlist_app r2 (rlist_app r3 (trivial))))⟩
theorem op_22 (d : Nat) : Opens T (d + 6) 22 (clL 4 (eC len gd)) (wfL wfCell) := op_slice (e := 167) (sz := 4) (show T 22 = some d22 from rfl) rfl (show T 167 = some d167 from rfl) rfl (fun x j hj => by match j, hj with | 0, _ => rfl | 1, _ => rfl | 2, _ => rfl | 3, _ => rfl | (j_ + 4), h_ => omega) (op_167 d)
def clLibrary (e : TL) : List AC := clL 4 (eC len gd) e.fC ++ ([])
def wfLibrary (e : TL) : Prop := wfL wfCell e.fC
theorem op_24 (d : Nat) : Opens T (d + 7) 24 (clLibrary) (wfLibrary) := by
  intro cs hs
  obtain ⟨a0, b0, rfl, h0, rfl⟩ := hs
  obtain ⟨e0, w0, r0⟩ := op_22 (d + 0) a0 h0
  exact ⟨TL.mk e0, w0, rlist_app r0 (trivial)⟩
def clEdit (e : TE) : List AC := clI .i64 e.fk_ ++ (clI .i64 e.fc ++ (clI .i64 e.fx ++ (clS e.fN ++ (clShape e.fs_ ++ (clLabel e.fl_ ++ (clInstance e.fi_ ++ ([])))))))
def wfEdit (e : TE) : Prop := wfI .i64 e.fk_ /\ wfI .i64 e.fc /\ wfI .i64 e.fx /\ wfS e.fN /\ wfShape e.fs_ /\ wfLabel e.fl_ /\ wfInstance e.fi_
theorem op_38 (d : Nat) : Opens T (d + 4) 38 (clEdit) (wfEdit) := by
  intro cs hs
  obtain ⟨a0, b0, rfl, h0, a1, b1, rfl, h1, a2, b2, rfl, h2, a3, b3, rfl, h3, a4, b4, rfl, h4, a5, b5, rfl, h5, a6, b6, rfl, h6, rfl⟩ := hs
  obtain ⟨e0, w0, r0⟩ := op_2 (d + 2) a0 h0
  obtain ⟨e1, w1, r1⟩ := op_2 (d + 2) a1 h1
  obtain ⟨e2, w2, r2⟩ := op_2 (d + 2) a2 h2
  obtain ⟨e3, w3, r3⟩ := op_9 (d + 2) a3 h3
  obtain ⟨e4, w4, r4⟩ := op_28 (d + 0) a4 h4
  obtain ⟨e5, w5, r5⟩ := op_32 (d + 0) a5 h5
  obtain ⟨e6, w6, r6⟩ := op_36 (d + 0) a6 h6
  exact ⟨TE.mk e0 e1 e2 e3 e4 e5 e6, ⟨w0, w1, w2, w3, w4, w5, w6⟩, rlist_app r0 (rlist_app r1 (rlist_app r2 (rlist_app r3 (rlist_app r4 (rlist_app r5 (rlist_app r6 (trivial)))))))⟩
theorem op_62 (d : Nat) : Opens T (d + 5) 62 (clL 21 (eE)) (wfL wfEdit) := op_slice (e := 38) (sz := 21) (show T 62 = some d62 from rfl) rfl (show T 38 = some d38 from rfl) rfl (fun x j hj => by match j, hj with | 0, _ => rfl | 1, _ => rfl | 2, _ => rfl | 3, _ => rfl | 4, _ => rfl | 5, _ => rfl | 6, _ => rfl | 7, _ => rfl | 8, _ => rfl | 9, _ => rfl | 10, _ => rfl | 11, _ => rfl | 12, _ => rfl | 13, _ => rfl | 14, _ => rfl | 15, _ => rfl | 16, _ => rfl | 17, _ => rfl | 18, _ => rfl | 19, _ => rfl | 20, _ => rfl | (j_ + 21), h_ => omega) (op_38 d)
theorem open_24 {H : Type} {enc : TypeId × Value -> H} {W : World} {spare : Nat -> Bool} {held : Bool} {r : Reach} {base : Nat} {v : Value} {x : DataW H} {ps : List MemPlace}
    (hv : Value.okWide Tryz.prog W r base 24 v) (h : DataW.Trod enc Tryz.prog W 0 spare held 24 v x ps) : ∃ e : TL, wfLibrary e /\ RelV (RelI (fun b => b < W.heap.size) W) (.agg [.bs (len e.fC) 4 (row gd (eC len gd) e.fC)]) v :=
  opened_agg tok (op_24 0) (by kernel_rfl) (tok 24 d24 rfl).1 hv h
theorem open_62 {H : Type} {enc : TypeId × Value -> H} {W : World} {spare : Nat -> Bool} {held : Bool} {r : Reach} {base : Nat} {v : Value} {x : DataW H} {ps : List MemPlace}
    (hv : Value.okWide Tryz.prog W r base 62 v) (h : DataW.Trod enc Tryz.prog W 0 spare held 62 v x ps) : ∃ e : List TE, (wfL wfEdit) e /\ RelV (RelI (fun b => b < W.heap.size) W) (.c (.bs (len e) 21 (row gd (eE) e))) v := by
  refine opened_one tok (op_62 0) (fun _ => rfl) (by kernel_rfl) ?_ h
  have ht : Tryz.prog.underlying 62 = some (.slice 38) := (tok 62 d62 rfl).1
  unfold Value.okWide at hv
  rw [ht] at hv
  cases v <;> first | rfl | exact False.elim hv
end
end Go.Proofs.YtohgghncmkiicaaGreat.AM
