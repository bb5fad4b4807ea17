/-
  What the functions that the law reaches compute, and that they do. No condition.
-/
import Derived.Test.YtohgghncmkiicaaGreatAmSU
import Derived.Test.YtohgghncmkiicaaGreatAmE
namespace Go.Proofs.YtohgghncmkiicaaGreat.AM
noncomputable section
open Go Go.Proofs Go.RowKit Go.Proofs.Tryz
set_option linter.unusedVariables false
set_option linter.unusedSimpArgs false
set_option maxRecDepth 100000

set_option maxHeartbeats 4000000
def Lq80_x4 (a0 : List TC) : (Int × Int × (List TC)) -> Option ((Int × Int × (List TC)) ⊕ ((Int × (List TC)))) := fun x4 =>
 letO x4.1 fun v1 =>
 letO x4.2.1 fun v2 =>
 letO x4.2.2 fun v3 =>
 br (std.lt v2 (std.ofN (len a0)))
 (((
 (Fq5 v1).bind fun y23 =>
 req (std.inR v2 (len a0)) <|
 req (len a0 = len v3) <|
 letO (List.set v3 (std.nadd 0 (std.toN v2)) (TC.mk y23 (gd v3 (std.nadd 0 (std.toN v2))).fS (gd v3 (std.nadd 0 (std.toN v2))).fL (gd v3 (std.nadd 0 (std.toN v2))).fI)) fun l26 =>
 some l26
 ) : Option ((List TC))).bind fun y16 =>
 letO y16 fun w22 =>
 ((
 req (std.inR v2 (len a0)) <|
 (Fq78 (gd w22 (std.nadd 0 (std.toN v2))).fS (std.add .i64 v1 1)).bind fun y37 =>
 req (len y37.2 = len (gd w22 (std.nadd 0 (std.toN v2))).fS) <|
 req (len (gd w22 (std.nadd 0 (std.toN v2))).fS = len y37.2) <|
 req (len a0 = len w22) <|
 letO (List.set w22 (std.nadd 0 (std.toN v2)) (TC.mk (gd w22 (std.nadd 0 (std.toN v2))).fN y37.2 (gd w22 (std.nadd 0 (std.toN v2))).fL (gd w22 (std.nadd 0 (std.toN v2))).fI)) fun l40 =>
 some (y37.1, l40)
 ) : Option (Int × (List TC))).bind fun y28 =>
 letO y28.1 fun w34 =>
 letO y28.2 fun w35 =>
 ((
 req (std.inR v2 (len a0)) <|
 (Fq67 (gd w35 (std.nadd 0 (std.toN v2))).fL w34).bind fun y52 =>
 req (len y52.2 = len (gd w35 (std.nadd 0 (std.toN v2))).fL) <|
 req (len (gd w35 (std.nadd 0 (std.toN v2))).fL = len y52.2) <|
 req (len a0 = len w35) <|
 letO (List.set w35 (std.nadd 0 (std.toN v2)) (TC.mk (gd w35 (std.nadd 0 (std.toN v2))).fN (gd w35 (std.nadd 0 (std.toN v2))).fS y52.2 (gd w35 (std.nadd 0 (std.toN v2))).fI)) fun l55 =>
 some (y52.1, l55)
 ) : Option (Int × (List TC))).bind fun y43 =>
 letO y43.1 fun w49 =>
 letO y43.2 fun w50 =>
 ((
 req (std.inR v2 (len a0)) <|
 (Fq70 (gd w50 (std.nadd 0 (std.toN v2))).fI w49).bind fun y67 =>
 req (len y67.2 = len (gd w50 (std.nadd 0 (std.toN v2))).fI) <|
 req (len (gd w50 (std.nadd 0 (std.toN v2))).fI = len y67.2) <|
 req (len a0 = len w50) <|
 letO (List.set w50 (std.nadd 0 (std.toN v2)) (TC.mk (gd w50 (std.nadd 0 (std.toN v2))).fN (gd w50 (std.nadd 0 (std.toN v2))).fS (gd w50 (std.nadd 0 (std.toN v2))).fL y67.2)) fun l70 =>
 some (y67.1, l70)
 ) : Option (Int × (List TC))).bind fun y58 =>
 letO y58.1 fun w64 =>
 letO y58.2 fun w65 =>
 some (.inl (w64, std.add .i64 v2 1, w65)))
 (some (.inr (v1, v3)))
/-- laws.markCellS -/
def Fq80 (a0 : List TC) (a1 : Int) : Option (Int × (List TC)) :=
 (whileP (σ := Int × Int × (List TC)) (ρ := (Int × (List TC))) (Lq80_x4 a0) (a1, 0, a0)).bind fun y5 =>
 letO y5 fun y5k0 =>
 letO y5k0.1 fun w74 =>
 letO y5k0.2 fun w75 =>
 req (len a0 = len w75) <|
 some (w74, w75)
theorem runq80 (a0 : List TC) (a1 : Int) (r : Int × (List TC)) (h : Fq80 a0 a1 = some r) : Fun prog 67 [.c (.os 5 0 (len a0)), .c (wi a1)] [(5, .arr .rw [] (len a0) 4 (row gd (oC len gd) a0))] (.c (wi r.1)) [(5, .arr .rw [] (len r.2) 4 (row gd (oC len gd) r.2))] true := by
 refine ow [4, 6, 7, 8] func67 ntmps67 ?_ (hw := ⟨fun i _ j _ k hk => (noref (rC _ _) hk).elim, tv⟩) (hv := (fun _ => ⟨trivial, ⟨fun i _ j _ => fl_oncCell _ _, tv⟩⟩)); unfold Fq80 at h; unfold Lq80_x4 at h; have hfq70 := @runq70; have hfq67 := @runq67
 have hfq78 := @runq78; have hfq5 := @runq5; generalize hU_ : @len = U_, hG_ : @gd = G_, hA : std = A, hP : prog = P at *; cbv
 revert h; refine ln (.exit 0) (fun x => (sp 42 [(0, .c (.os 5 0 (U_ a0))), (1, .c (wi x.1)), (5, .c (wi x.2.1))] [(5, .arr .rw [] (U_ a0) 4 (row G_ (oC U_ G_) x.2.2))])) (fun w => (sp 42 [(1, .c (wi w.1))] [(5, .arr .rw [] (U_ a0) 4 (row G_ (oC U_ G_) w.2))])) zb ?_ ?_
 ·rintro ⟨v1, v2, v3⟩ z h K hK hY; replace h := oz (oz (oz h)); dsimp only at h; cbv; revert h; refine fk ?_ ?_ <;> intro h <;> cbv
  ·revert h; refine cu (fun y16 => (sp 42 [(0, .c (.os 5 0 (U_ a0))), (1, .c (wi v1)), (5, .c (wi v2))] [(5, .arr .rw [] (U_ a0) 4 (row G_ (oC U_ G_) y16))])) ?_ fun w22 => rz fun h => ?_
   ·intro y16 S hS h; cbv; revert h; refine rk0 (hfq5 _) fun y23 h => ?_; cbv; revert h; refine ra fun c25 h => ?_; refine ai c25 ?_
    refine ⟨_, rfl, _, (pC (row G_ (oC U_ G_) v3) (A.nadd 0 (A.toN v2)) [ws y23, .ow (U_ (G_ v3 (A.nadd 0 (A.toN v2))).fS) 5 (row G_ (eS) (G_ v3 (A.nadd 0 (A.toN v2))).fS), .ow (U_ (G_ v3 (A.nadd 0 (A.toN v2))).fL) 4 (row G_ (eL) (G_ v3 (A.nadd 0 (A.toN v2))).fL), .ow (U_ (G_ v3 (A.nadd 0 (A.toN v2))).fI) 8 (row G_ (eI) (G_ v3 (A.nadd 0 (A.toN v2))).fI)]), rfl, wO (patch_of zr), ?_⟩
    cbv; revert h; refine rq fun c27 => rl fun l26 hl26 h => ?_; injection h with h; subst h; subst hS; show St.le _ _; exact lsp rfl zl ⟨oP (fun _ _ => rC _ _) (by subst hG_ hU_ hA; exact patch_set hl26 (ix (by rw [<- c27]; exact c25)) zr), tv⟩ rfl
   cbv; revert h; refine cu (fun y28 => (sp 42 [(0, .c (.os 5 0 (U_ a0))), (1, .c (wi y28.1)), (5, .c (wi v2))] [(5, .arr .rw [] (U_ a0) 4 (row G_ (oC U_ G_) y28.2))])) ?_ ?_
   ·intro y28 S hS h; cbv; revert h; refine ra fun c36 h => ?_; refine ai c36 ?_
    refine ⟨_, rfl, _, (pC (row G_ (oC U_ G_) w22) (A.nadd 0 (A.toN v2)) [ws (G_ w22 (A.nadd 0 (A.toN v2))).fN, .os 1538 0 (U_ (G_ w22 (A.nadd 0 (A.toN v2))).fS), .ow (U_ (G_ w22 (A.nadd 0 (A.toN v2))).fL) 4 (row G_ (eL) (G_ w22 (A.nadd 0 (A.toN v2))).fL), .ow (U_ (G_ w22 (A.nadd 0 (A.toN v2))).fI) 8 (row G_ (eI) (G_ w22 (A.nadd 0 (A.toN v2))).fI)]), rfl, wO (patch_of zr), ?_⟩
    refine ⟨_, row G_ (eS) (G_ w22 (A.nadd 0 (A.toN v2))).fS, rfl, wO (fun i _ j _ => plain_cp (pl_encShape _ _)), ?_⟩; cbv; revert h; refine rb fun y37 hy38 => rq fun c42 h => ?_; refine rc [(5, 1538)] [(5, 1538)] (hfq78 _ _ _ hy38) yf ⟨_, rfl, U_ (G_ w22 (A.nadd 0 (A.toN v2))).fS, _, c42, fun _ _ _ _ => .refl _, ?_⟩; cbv
    revert h; refine rq fun c39 => rq fun c41 => rl fun l40 hl40 h => ?_; injection h with h; subst h; subst hS; show St.le _ _; refine St.le_trans (le_foldP 5 1 1538 rfl rfl rfl (by decide) (by subst hA; exact ix c36) (by decide) rfl (fun _ _ => rC _ _)) ?_
    exact lsp rfl zl ⟨oP (fun _ _ => rC _ _) (by subst hG_ hU_ hA; exact patch_set hl40 (ix (by rw [<- c41]; exact c36)) zr), tv⟩ rfl
   rintro ⟨w34, w35⟩ h; replace h := oz (oz h); dsimp only at h; cbv; revert h; refine cu (fun y43 => (sp 42 [(0, .c (.os 5 0 (U_ a0))), (1, .c (wi y43.1)), (5, .c (wi v2))] [(5, .arr .rw [] (U_ a0) 4 (row G_ (oC U_ G_) y43.2))])) ?_ ?_
   ·intro y43 S hS h; cbv; revert h; refine ra fun c51 h => ?_; refine ai c51 ?_
    refine ⟨_, rfl, _, (pC (row G_ (oC U_ G_) w35) (A.nadd 0 (A.toN v2)) [ws (G_ w35 (A.nadd 0 (A.toN v2))).fN, .ow (U_ (G_ w35 (A.nadd 0 (A.toN v2))).fS) 5 (row G_ (eS) (G_ w35 (A.nadd 0 (A.toN v2))).fS), .os 1986 0 (U_ (G_ w35 (A.nadd 0 (A.toN v2))).fL), .ow (U_ (G_ w35 (A.nadd 0 (A.toN v2))).fI) 8 (row G_ (eI) (G_ w35 (A.nadd 0 (A.toN v2))).fI)]), rfl, wO (patch_of zr), ?_⟩
    refine ⟨_, row G_ (eL) (G_ w35 (A.nadd 0 (A.toN v2))).fL, rfl, wO (fun i _ j _ => plain_cp (pl_encLabel _ _)), ?_⟩; cbv; revert h; refine rb fun y52 hy53 => rq fun c57 h => ?_; refine rc [(5, 1986)] [(5, 1986)] (hfq67 _ _ _ hy53) yf ⟨_, rfl, U_ (G_ w35 (A.nadd 0 (A.toN v2))).fL, _, c57, fun _ _ _ _ => .refl _, ?_⟩; cbv
    revert h; refine rq fun c54 => rq fun c56 => rl fun l55 hl55 h => ?_; injection h with h; subst h; subst hS; show St.le _ _; refine St.le_trans (le_foldP 5 2 1986 rfl rfl rfl (by decide) (by subst hA; exact ix c51) (by decide) rfl (fun _ _ => rC _ _)) ?_
    exact lsp rfl zl ⟨oP (fun _ _ => rC _ _) (by subst hG_ hU_ hA; exact patch_set hl55 (ix (by rw [<- c56]; exact c51)) zr), tv⟩ rfl
   rintro ⟨w49, w50⟩ h; replace h := oz (oz h); dsimp only at h; cbv; revert h; refine cu (fun y58 => (sp 42 [(0, .c (.os 5 0 (U_ a0))), (1, .c (wi y58.1)), (5, .c (wi v2))] [(5, .arr .rw [] (U_ a0) 4 (row G_ (oC U_ G_) y58.2))])) ?_ ?_
   ·intro y58 S hS h; cbv; revert h; refine ra fun c66 h => ?_; refine ai c66 ?_
    refine ⟨_, rfl, _, (pC (row G_ (oC U_ G_) w50) (A.nadd 0 (A.toN v2)) [ws (G_ w50 (A.nadd 0 (A.toN v2))).fN, .ow (U_ (G_ w50 (A.nadd 0 (A.toN v2))).fS) 5 (row G_ (eS) (G_ w50 (A.nadd 0 (A.toN v2))).fS), .ow (U_ (G_ w50 (A.nadd 0 (A.toN v2))).fL) 4 (row G_ (eL) (G_ w50 (A.nadd 0 (A.toN v2))).fL), .os 2434 0 (U_ (G_ w50 (A.nadd 0 (A.toN v2))).fI)]), rfl, wO (patch_of zr), ?_⟩
    refine ⟨_, row G_ (eI) (G_ w50 (A.nadd 0 (A.toN v2))).fI, rfl, wO (fun i _ j _ => plain_cp (pl_encInstance _ _)), ?_⟩; cbv; revert h; refine rb fun y67 hy68 => rq fun c72 h => ?_; refine rc [(5, 2434)] [(5, 2434)] (hfq70 _ _ _ hy68) yf ⟨_, rfl, U_ (G_ w50 (A.nadd 0 (A.toN v2))).fI, _, c72, fun _ _ _ _ => .refl _, ?_⟩; cbv
    revert h; refine rq fun c69 => rq fun c71 => rl fun l70 hl70 h => ?_; injection h with h; subst h; subst hS; show St.le _ _; refine St.le_trans (le_foldP 5 3 2434 rfl rfl rfl (by decide) (by subst hA; exact ix c66) (by decide) rfl (fun _ _ => rC _ _)) ?_
    exact lsp rfl zl ⟨oP (fun _ _ => rC _ _) (by subst hG_ hU_ hA; exact patch_set hl70 (ix (by rw [<- c71]; exact c66)) zr), tv⟩ rfl
   rintro ⟨w64, w65⟩ h; replace h := oz (oz h); dsimp only at h; cbv; exact dm
  exact dx
 rintro ⟨w74, w75⟩ h s q13; replace h := oz (oz (oz h)); dsimp only at h; cbv; refine ⟨_, q13, ?_⟩; cbv; revert h; refine rq fun c76 h => ?_; injection h with h; subst h; refine ⟨(sp 42 [(4, .c (wi w74))] [(5, .arr .rw [] (U_ w75) 4 (row G_ (oC U_ G_) w75))]), ?_, ?_⟩
 ·rw [c76]; exact zb
 ·exact ⟨lR _, zo, rfl⟩

/-- laws.markLibrary -/
def Fq95 (a0 : TL) (a1 : Int) : Option (Int × (List TC)) :=
 (Fq80 a0.fC a1).bind fun y1 =>
 req (len y1.2 = len a0.fC) <|
 req (len a0.fC = len y1.2) <|
 some (y1.1, y1.2)
theorem runq95 (a0 : TL) (a1 : Int) (r : Int × (List TC)) (h : Fq95 a0 a1 = some r) : Fun prog 21 [.agg [.os 5 0 (len a0.fC)], .c (wi a1)] [(5, .arr .rw [] (len a0.fC) 4 (row gd (oC len gd) a0.fC))] (.c (wi r.1)) [(5, .arr .rw [] (len r.2) 4 (row gd (oC len gd) r.2))] true := by
 refine ow [] func21 ntmps21 ?_ (hw := ⟨fun i _ j _ k hk => (noref (rC _ _) hk).elim, tv⟩) (hv := (fun _ => ⟨trivial, ⟨fun i _ j _ => fl_oncCell _ _, tv⟩⟩)); unfold Fq95 at h; have hfq80 := @runq80; generalize hU_ : @len = U_, hG_ : @gd = G_, hA : std = A, hP : prog = P at *; cbv
 revert h; refine rb fun y1 hy2 => rq fun c4 h => ?_; refine rc [(5, 5)] [(5, 5)] (hfq80 _ _ _ hy2) yf ⟨_, rfl, U_ a0.fC, _, c4, fun _ _ _ _ => .refl _, ?_⟩; cbv; revert h; refine rq fun c3 h => ?_; injection h with h; subst h; refine ⟨(sp 10 [(4, .c (wi y1.1))] [(5, .arr .rw [] (U_ y1.2) 4 (row G_ (oC U_ G_) y1.2))]), ?_, ?_⟩
 ·rw [c3]; exact zb
 ·exact ⟨lR _, zo, rfl⟩

def Lq49_x4 (a0 : List TE) : (Int × Int × (List TE)) -> Option ((Int × Int × (List TE)) ⊕ ((Int × (List TE)))) := fun x4 =>
 letO x4.1 fun v1 =>
 letO x4.2.1 fun v2 =>
 letO x4.2.2 fun v3 =>
 br (std.lt v2 (std.ofN (len a0)))
 (req (std.inR v2 (len a0)) <|
 req (len a0 = len v3) <|
 letO (List.set v3 (std.nadd 0 (std.toN v2)) (TE.mk v1 (gd v3 (std.nadd 0 (std.toN v2))).fc (gd v3 (std.nadd 0 (std.toN v2))).fx (gd v3 (std.nadd 0 (std.toN v2))).fN (gd v3 (std.nadd 0 (std.toN v2))).fs_ (gd v3 (std.nadd 0 (std.toN v2))).fl_ (gd v3 (std.nadd 0 (std.toN v2))).fi_)) fun l17 =>
 req (std.inR v2 (len a0)) <|
 req (len a0 = len l17) <|
 letO (List.set l17 (std.nadd 0 (std.toN v2)) (TE.mk (gd l17 (std.nadd 0 (std.toN v2))).fk_ (std.add .i64 v1 1) (gd l17 (std.nadd 0 (std.toN v2))).fx (gd l17 (std.nadd 0 (std.toN v2))).fN (gd l17 (std.nadd 0 (std.toN v2))).fs_ (gd l17 (std.nadd 0 (std.toN v2))).fl_ (gd l17 (std.nadd 0 (std.toN v2))).fi_)) fun l19 =>
 req (std.inR v2 (len a0)) <|
 req (len a0 = len l19) <|
 letO (List.set l19 (std.nadd 0 (std.toN v2)) (TE.mk (gd l19 (std.nadd 0 (std.toN v2))).fk_ (gd l19 (std.nadd 0 (std.toN v2))).fc (std.add .i64 (std.add .i64 v1 1) 1) (gd l19 (std.nadd 0 (std.toN v2))).fN (gd l19 (std.nadd 0 (std.toN v2))).fs_ (gd l19 (std.nadd 0 (std.toN v2))).fl_ (gd l19 (std.nadd 0 (std.toN v2))).fi_)) fun l21 =>
 (Fq5 (std.add .i64 (std.add .i64 (std.add .i64 v1 1) 1) 1)).bind fun y22 =>
 req (std.inR v2 (len a0)) <|
 req (len a0 = len l21) <|
 letO (List.set l21 (std.nadd 0 (std.toN v2)) (TE.mk (gd l21 (std.nadd 0 (std.toN v2))).fk_ (gd l21 (std.nadd 0 (std.toN v2))).fc (gd l21 (std.nadd 0 (std.toN v2))).fx y22 (gd l21 (std.nadd 0 (std.toN v2))).fs_ (gd l21 (std.nadd 0 (std.toN v2))).fl_ (gd l21 (std.nadd 0 (std.toN v2))).fi_)) fun l25 =>
 req (std.inR v2 (len a0)) <|
 req (len a0 = len l25) <|
 letO (List.set l25 (std.nadd 0 (std.toN v2)) (TE.mk (gd l25 (std.nadd 0 (std.toN v2))).fk_ (gd l25 (std.nadd 0 (std.toN v2))).fc (gd l25 (std.nadd 0 (std.toN v2))).fx (gd l25 (std.nadd 0 (std.toN v2))).fN (TS.mk (std.add .i64 (std.add .i64 (std.add .i64 (std.add .i64 v1 1) 1) 1) 1) (gd l25 (std.nadd 0 (std.toN v2))).fs_.fb) (gd l25 (std.nadd 0 (std.toN v2))).fl_ (gd l25 (std.nadd 0 (std.toN v2))).fi_)) fun l27 =>
 req (std.inR v2 (len a0)) <|
 req (len a0 = len l27) <|
 letO (List.set l27 (std.nadd 0 (std.toN v2)) (TE.mk (gd l27 (std.nadd 0 (std.toN v2))).fk_ (gd l27 (std.nadd 0 (std.toN v2))).fc (gd l27 (std.nadd 0 (std.toN v2))).fx (gd l27 (std.nadd 0 (std.toN v2))).fN (TS.mk (gd l27 (std.nadd 0 (std.toN v2))).fs_.fy (TRect.mk (std.add .i64 (std.add .i64 (std.add .i64 (std.add .i64 (std.add .i64 v1 1) 1) 1) 1) 1) (gd l27 (std.nadd 0 (std.toN v2))).fs_.fb.fY0 (gd l27 (std.nadd 0 (std.toN v2))).fs_.fb.fX1 (gd l27 (std.nadd 0 (std.toN v2))).fs_.fb.fY1)) (gd l27 (std.nadd 0 (std.toN v2))).fl_ (gd l27 (std.nadd 0 (std.toN v2))).fi_)) fun l29 =>
 req (std.inR v2 (len a0)) <|
 req (len a0 = len l29) <|
 letO (List.set l29 (std.nadd 0 (std.toN v2)) (TE.mk (gd l29 (std.nadd 0 (std.toN v2))).fk_ (gd l29 (std.nadd 0 (std.toN v2))).fc (gd l29 (std.nadd 0 (std.toN v2))).fx (gd l29 (std.nadd 0 (std.toN v2))).fN (TS.mk (gd l29 (std.nadd 0 (std.toN v2))).fs_.fy (TRect.mk (gd l29 (std.nadd 0 (std.toN v2))).fs_.fb.fX0 (std.add .i64 (std.add .i64 (std.add .i64 (std.add .i64 (std.add .i64 (std.add .i64 v1 1) 1) 1) 1) 1) 1) (gd l29 (std.nadd 0 (std.toN v2))).fs_.fb.fX1 (gd l29 (std.nadd 0 (std.toN v2))).fs_.fb.fY1)) (gd l29 (std.nadd 0 (std.toN v2))).fl_ (gd l29 (std.nadd 0 (std.toN v2))).fi_)) fun l31 =>
 req (std.inR v2 (len a0)) <|
 req (len a0 = len l31) <|
 letO (List.set l31 (std.nadd 0 (std.toN v2)) (TE.mk (gd l31 (std.nadd 0 (std.toN v2))).fk_ (gd l31 (std.nadd 0 (std.toN v2))).fc (gd l31 (std.nadd 0 (std.toN v2))).fx (gd l31 (std.nadd 0 (std.toN v2))).fN (TS.mk (gd l31 (std.nadd 0 (std.toN v2))).fs_.fy (TRect.mk (gd l31 (std.nadd 0 (std.toN v2))).fs_.fb.fX0 (gd l31 (std.nadd 0 (std.toN v2))).fs_.fb.fY0 (std.add .i64 (std.add .i64 (std.add .i64 (std.add .i64 (std.add .i64 (std.add .i64 (std.add .i64 v1 1) 1) 1) 1) 1) 1) 1) (gd l31 (std.nadd 0 (std.toN v2))).fs_.fb.fY1)) (gd l31 (std.nadd 0 (std.toN v2))).fl_ (gd l31 (std.nadd 0 (std.toN v2))).fi_)) fun l33 =>
 req (std.inR v2 (len a0)) <|
 req (len a0 = len l33) <|
 letO (List.set l33 (std.nadd 0 (std.toN v2)) (TE.mk (gd l33 (std.nadd 0 (std.toN v2))).fk_ (gd l33 (std.nadd 0 (std.toN v2))).fc (gd l33 (std.nadd 0 (std.toN v2))).fx (gd l33 (std.nadd 0 (std.toN v2))).fN (TS.mk (gd l33 (std.nadd 0 (std.toN v2))).fs_.fy (TRect.mk (gd l33 (std.nadd 0 (std.toN v2))).fs_.fb.fX0 (gd l33 (std.nadd 0 (std.toN v2))).fs_.fb.fY0 (gd l33 (std.nadd 0 (std.toN v2))).fs_.fb.fX1 (std.add .i64 (std.add .i64 (std.add .i64 (std.add .i64 (std.add .i64 (std.add .i64 (std.add .i64 (std.add .i64 v1 1) 1) 1) 1) 1) 1) 1) 1))) (gd l33 (std.nadd 0 (std.toN v2))).fl_ (gd l33 (std.nadd 0 (std.toN v2))).fi_)) fun l35 =>
 req (std.inR v2 (len a0)) <|
 req (len a0 = len l35) <|
 letO (List.set l35 (std.nadd 0 (std.toN v2)) (TE.mk (gd l35 (std.nadd 0 (std.toN v2))).fk_ (gd l35 (std.nadd 0 (std.toN v2))).fc (gd l35 (std.nadd 0 (std.toN v2))).fx (gd l35 (std.nadd 0 (std.toN v2))).fN (gd l35 (std.nadd 0 (std.toN v2))).fs_ (TB.mk (std.add .i64 (std.add .i64 (std.add .i64 (std.add .i64 (std.add .i64 (std.add .i64 (std.add .i64 (std.add .i64 (std.add .i64 v1 1) 1) 1) 1) 1) 1) 1) 1) 1) (gd l35 (std.nadd 0 (std.toN v2))).fl_.fa (gd l35 (std.nadd 0 (std.toN v2))).fl_.fN) (gd l35 (std.nadd 0 (std.toN v2))).fi_)) fun l37 =>
 req (std.inR v2 (len a0)) <|
 req (len a0 = len l37) <|
 letO (List.set l37 (std.nadd 0 (std.toN v2)) (TE.mk (gd l37 (std.nadd 0 (std.toN v2))).fk_ (gd l37 (std.nadd 0 (std.toN v2))).fc (gd l37 (std.nadd 0 (std.toN v2))).fx (gd l37 (std.nadd 0 (std.toN v2))).fN (gd l37 (std.nadd 0 (std.toN v2))).fs_ (TB.mk (gd l37 (std.nadd 0 (std.toN v2))).fl_.fy (TPoint.mk (std.add .i64 (std.add .i64 (std.add .i64 (std.add .i64 (std.add .i64 (std.add .i64 (std.add .i64 (std.add .i64 (std.add .i64 (std.add .i64 v1 1) 1) 1) 1) 1) 1) 1) 1) 1) 1) (gd l37 (std.nadd 0 (std.toN v2))).fl_.fa.fY) (gd l37 (std.nadd 0 (std.toN v2))).fl_.fN) (gd l37 (std.nadd 0 (std.toN v2))).fi_)) fun l39 =>
 req (std.inR v2 (len a0)) <|
 req (len a0 = len l39) <|
 letO (List.set l39 (std.nadd 0 (std.toN v2)) (TE.mk (gd l39 (std.nadd 0 (std.toN v2))).fk_ (gd l39 (std.nadd 0 (std.toN v2))).fc (gd l39 (std.nadd 0 (std.toN v2))).fx (gd l39 (std.nadd 0 (std.toN v2))).fN (gd l39 (std.nadd 0 (std.toN v2))).fs_ (TB.mk (gd l39 (std.nadd 0 (std.toN v2))).fl_.fy (TPoint.mk (gd l39 (std.nadd 0 (std.toN v2))).fl_.fa.fX (std.add .i64 (std.add .i64 (std.add .i64 (std.add .i64 (std.add .i64 (std.add .i64 (std.add .i64 (std.add .i64 (std.add .i64 (std.add .i64 (std.add .i64 v1 1) 1) 1) 1) 1) 1) 1) 1) 1) 1) 1)) (gd l39 (std.nadd 0 (std.toN v2))).fl_.fN) (gd l39 (std.nadd 0 (std.toN v2))).fi_)) fun l41 =>
 (Fq5 (std.add .i64 (std.add .i64 (std.add .i64 (std.add .i64 (std.add .i64 (std.add .i64 (std.add .i64 (std.add .i64 (std.add .i64 (std.add .i64 (std.add .i64 (std.add .i64 v1 1) 1) 1) 1) 1) 1) 1) 1) 1) 1) 1) 1)).bind fun y42 =>
 req (std.inR v2 (len a0)) <|
 req (len a0 = len l41) <|
 letO (List.set l41 (std.nadd 0 (std.toN v2)) (TE.mk (gd l41 (std.nadd 0 (std.toN v2))).fk_ (gd l41 (std.nadd 0 (std.toN v2))).fc (gd l41 (std.nadd 0 (std.toN v2))).fx (gd l41 (std.nadd 0 (std.toN v2))).fN (gd l41 (std.nadd 0 (std.toN v2))).fs_ (TB.mk (gd l41 (std.nadd 0 (std.toN v2))).fl_.fy (gd l41 (std.nadd 0 (std.toN v2))).fl_.fa y42) (gd l41 (std.nadd 0 (std.toN v2))).fi_)) fun l45 =>
 req (std.inR v2 (len a0)) <|
 req (len a0 = len l45) <|
 letO (List.set l45 (std.nadd 0 (std.toN v2)) (TE.mk (gd l45 (std.nadd 0 (std.toN v2))).fk_ (gd l45 (std.nadd 0 (std.toN v2))).fc (gd l45 (std.nadd 0 (std.toN v2))).fx (gd l45 (std.nadd 0 (std.toN v2))).fN (gd l45 (std.nadd 0 (std.toN v2))).fs_ (gd l45 (std.nadd 0 (std.toN v2))).fl_ (TI.mk (std.add .i64 (std.add .i64 (std.add .i64 (std.add .i64 (std.add .i64 (std.add .i64 (std.add .i64 (std.add .i64 (std.add .i64 (std.add .i64 (std.add .i64 (std.add .i64 (std.add .i64 v1 1) 1) 1) 1) 1) 1) 1) 1) 1) 1) 1) 1) 1) (gd l45 (std.nadd 0 (std.toN v2))).fi_.fp (gd l45 (std.nadd 0 (std.toN v2))).fi_.fK (gd l45 (std.nadd 0 (std.toN v2))).fi_.fR (gd l45 (std.nadd 0 (std.toN v2))).fi_.fu (gd l45 (std.nadd 0 (std.toN v2))).fi_.fv))) fun l47 =>
 req (std.inR v2 (len a0)) <|
 req (len a0 = len l47) <|
 letO (List.set l47 (std.nadd 0 (std.toN v2)) (TE.mk (gd l47 (std.nadd 0 (std.toN v2))).fk_ (gd l47 (std.nadd 0 (std.toN v2))).fc (gd l47 (std.nadd 0 (std.toN v2))).fx (gd l47 (std.nadd 0 (std.toN v2))).fN (gd l47 (std.nadd 0 (std.toN v2))).fs_ (gd l47 (std.nadd 0 (std.toN v2))).fl_ (TI.mk (gd l47 (std.nadd 0 (std.toN v2))).fi_.fc (TM.mk (std.add .i64 (std.add .i64 (std.add .i64 (std.add .i64 (std.add .i64 (std.add .i64 (std.add .i64 (std.add .i64 (std.add .i64 (std.add .i64 (std.add .i64 (std.add .i64 (std.add .i64 (std.add .i64 v1 1) 1) 1) 1) 1) 1) 1) 1) 1) 1) 1) 1) 1) 1) (gd l47 (std.nadd 0 (std.toN v2))).fi_.fp.fX (gd l47 (std.nadd 0 (std.toN v2))).fi_.fp.fY) (gd l47 (std.nadd 0 (std.toN v2))).fi_.fK (gd l47 (std.nadd 0 (std.toN v2))).fi_.fR (gd l47 (std.nadd 0 (std.toN v2))).fi_.fu (gd l47 (std.nadd 0 (std.toN v2))).fi_.fv))) fun l49 =>
 req (std.inR v2 (len a0)) <|
 req (len a0 = len l49) <|
 letO (List.set l49 (std.nadd 0 (std.toN v2)) (TE.mk (gd l49 (std.nadd 0 (std.toN v2))).fk_ (gd l49 (std.nadd 0 (std.toN v2))).fc (gd l49 (std.nadd 0 (std.toN v2))).fx (gd l49 (std.nadd 0 (std.toN v2))).fN (gd l49 (std.nadd 0 (std.toN v2))).fs_ (gd l49 (std.nadd 0 (std.toN v2))).fl_ (TI.mk (gd l49 (std.nadd 0 (std.toN v2))).fi_.fc (TM.mk (gd l49 (std.nadd 0 (std.toN v2))).fi_.fp.fo (std.add .i64 (std.add .i64 (std.add .i64 (std.add .i64 (std.add .i64 (std.add .i64 (std.add .i64 (std.add .i64 (std.add .i64 (std.add .i64 (std.add .i64 (std.add .i64 (std.add .i64 (std.add .i64 (std.add .i64 v1 1) 1) 1) 1) 1) 1) 1) 1) 1) 1) 1) 1) 1) 1) 1) (gd l49 (std.nadd 0 (std.toN v2))).fi_.fp.fY) (gd l49 (std.nadd 0 (std.toN v2))).fi_.fK (gd l49 (std.nadd 0 (std.toN v2))).fi_.fR (gd l49 (std.nadd 0 (std.toN v2))).fi_.fu (gd l49 (std.nadd 0 (std.toN v2))).fi_.fv))) fun l51 =>
 req (std.inR v2 (len a0)) <|
 req (len a0 = len l51) <|
 letO (List.set l51 (std.nadd 0 (std.toN v2)) (TE.mk (gd l51 (std.nadd 0 (std.toN v2))).fk_ (gd l51 (std.nadd 0 (std.toN v2))).fc (gd l51 (std.nadd 0 (std.toN v2))).fx (gd l51 (std.nadd 0 (std.toN v2))).fN (gd l51 (std.nadd 0 (std.toN v2))).fs_ (gd l51 (std.nadd 0 (std.toN v2))).fl_ (TI.mk (gd l51 (std.nadd 0 (std.toN v2))).fi_.fc (TM.mk (gd l51 (std.nadd 0 (std.toN v2))).fi_.fp.fo (gd l51 (std.nadd 0 (std.toN v2))).fi_.fp.fX (std.add .i64 (std.add .i64 (std.add .i64 (std.add .i64 (std.add .i64 (std.add .i64 (std.add .i64 (std.add .i64 (std.add .i64 (std.add .i64 (std.add .i64 (std.add .i64 (std.add .i64 (std.add .i64 (std.add .i64 (std.add .i64 v1 1) 1) 1) 1) 1) 1) 1) 1) 1) 1) 1) 1) 1) 1) 1) 1)) (gd l51 (std.nadd 0 (std.toN v2))).fi_.fK (gd l51 (std.nadd 0 (std.toN v2))).fi_.fR (gd l51 (std.nadd 0 (std.toN v2))).fi_.fu (gd l51 (std.nadd 0 (std.toN v2))).fi_.fv))) fun l53 =>
 req (std.inR v2 (len a0)) <|
 req (len a0 = len l53) <|
 letO (List.set l53 (std.nadd 0 (std.toN v2)) (TE.mk (gd l53 (std.nadd 0 (std.toN v2))).fk_ (gd l53 (std.nadd 0 (std.toN v2))).fc (gd l53 (std.nadd 0 (std.toN v2))).fx (gd l53 (std.nadd 0 (std.toN v2))).fN (gd l53 (std.nadd 0 (std.toN v2))).fs_ (gd l53 (std.nadd 0 (std.toN v2))).fl_ (TI.mk (gd l53 (std.nadd 0 (std.toN v2))).fi_.fc (gd l53 (std.nadd 0 (std.toN v2))).fi_.fp (std.add .i64 (std.add .i64 (std.add .i64 (std.add .i64 (std.add .i64 (std.add .i64 (std.add .i64 (std.add .i64 (std.add .i64 (std.add .i64 (std.add .i64 (std.add .i64 (std.add .i64 (std.add .i64 (std.add .i64 (std.add .i64 (std.add .i64 v1 1) 1) 1) 1) 1) 1) 1) 1) 1) 1) 1) 1) 1) 1) 1) 1) 1) (gd l53 (std.nadd 0 (std.toN v2))).fi_.fR (gd l53 (std.nadd 0 (std.toN v2))).fi_.fu (gd l53 (std.nadd 0 (std.toN v2))).fi_.fv))) fun l55 =>
 req (std.inR v2 (len a0)) <|
 req (len a0 = len l55) <|
 letO (List.set l55 (std.nadd 0 (std.toN v2)) (TE.mk (gd l55 (std.nadd 0 (std.toN v2))).fk_ (gd l55 (std.nadd 0 (std.toN v2))).fc (gd l55 (std.nadd 0 (std.toN v2))).fx (gd l55 (std.nadd 0 (std.toN v2))).fN (gd l55 (std.nadd 0 (std.toN v2))).fs_ (gd l55 (std.nadd 0 (std.toN v2))).fl_ (TI.mk (gd l55 (std.nadd 0 (std.toN v2))).fi_.fc (gd l55 (std.nadd 0 (std.toN v2))).fi_.fp (gd l55 (std.nadd 0 (std.toN v2))).fi_.fK (std.add .i64 (std.add .i64 (std.add .i64 (std.add .i64 (std.add .i64 (std.add .i64 (std.add .i64 (std.add .i64 (std.add .i64 (std.add .i64 (std.add .i64 (std.add .i64 (std.add .i64 (std.add .i64 (std.add .i64 (std.add .i64 (std.add .i64 (std.add .i64 v1 1) 1) 1) 1) 1) 1) 1) 1) 1) 1) 1) 1) 1) 1) 1) 1) 1) 1) (gd l55 (std.nadd 0 (std.toN v2))).fi_.fu (gd l55 (std.nadd 0 (std.toN v2))).fi_.fv))) fun l57 =>
 req (std.inR v2 (len a0)) <|
 req (len a0 = len l57) <|
 letO (List.set l57 (std.nadd 0 (std.toN v2)) (TE.mk (gd l57 (std.nadd 0 (std.toN v2))).fk_ (gd l57 (std.nadd 0 (std.toN v2))).fc (gd l57 (std.nadd 0 (std.toN v2))).fx (gd l57 (std.nadd 0 (std.toN v2))).fN (gd l57 (std.nadd 0 (std.toN v2))).fs_ (gd l57 (std.nadd 0 (std.toN v2))).fl_ (TI.mk (gd l57 (std.nadd 0 (std.toN v2))).fi_.fc (gd l57 (std.nadd 0 (std.toN v2))).fi_.fp (gd l57 (std.nadd 0 (std.toN v2))).fi_.fK (gd l57 (std.nadd 0 (std.toN v2))).fi_.fR (std.add .i64 (std.add .i64 (std.add .i64 (std.add .i64 (std.add .i64 (std.add .i64 (std.add .i64 (std.add .i64 (std.add .i64 (std.add .i64 (std.add .i64 (std.add .i64 (std.add .i64 (std.add .i64 (std.add .i64 (std.add .i64 (std.add .i64 (std.add .i64 (std.add .i64 v1 1) 1) 1) 1) 1) 1) 1) 1) 1) 1) 1) 1) 1) 1) 1) 1) 1) 1) 1) (gd l57 (std.nadd 0 (std.toN v2))).fi_.fv))) fun l59 =>
 req (std.inR v2 (len a0)) <|
 req (len a0 = len l59) <|
 letO (List.set l59 (std.nadd 0 (std.toN v2)) (TE.mk (gd l59 (std.nadd 0 (std.toN v2))).fk_ (gd l59 (std.nadd 0 (std.toN v2))).fc (gd l59 (std.nadd 0 (std.toN v2))).fx (gd l59 (std.nadd 0 (std.toN v2))).fN (gd l59 (std.nadd 0 (std.toN v2))).fs_ (gd l59 (std.nadd 0 (std.toN v2))).fl_ (TI.mk (gd l59 (std.nadd 0 (std.toN v2))).fi_.fc (gd l59 (std.nadd 0 (std.toN v2))).fi_.fp (gd l59 (std.nadd 0 (std.toN v2))).fi_.fK (gd l59 (std.nadd 0 (std.toN v2))).fi_.fR (gd l59 (std.nadd 0 (std.toN v2))).fi_.fu (std.add .i64 (std.add .i64 (std.add .i64 (std.add .i64 (std.add .i64 (std.add .i64 (std.add .i64 (std.add .i64 (std.add .i64 (std.add .i64 (std.add .i64 (std.add .i64 (std.add .i64 (std.add .i64 (std.add .i64 (std.add .i64 (std.add .i64 (std.add .i64 (std.add .i64 (std.add .i64 v1 1) 1) 1) 1) 1) 1) 1) 1) 1) 1) 1) 1) 1) 1) 1) 1) 1) 1) 1) 1)))) fun l61 =>
 some (.inl (std.add .i64 (std.add .i64 (std.add .i64 (std.add .i64 (std.add .i64 (std.add .i64 (std.add .i64 (std.add .i64 (std.add .i64 (std.add .i64 (std.add .i64 (std.add .i64 (std.add .i64 (std.add .i64 (std.add .i64 (std.add .i64 (std.add .i64 (std.add .i64 (std.add .i64 (std.add .i64 (std.add .i64 v1 1) 1) 1) 1) 1) 1) 1) 1) 1) 1) 1) 1) 1) 1) 1) 1) 1) 1) 1) 1) 1, std.add .i64 v2 1, l61)))
 (some (.inr (v1, v3)))
/-- laws.markEditS -/
def Fq49 (a0 : List TE) (a1 : Int) : Option (Int × (List TE)) :=
 (whileP (σ := Int × Int × (List TE)) (ρ := (Int × (List TE))) (Lq49_x4 a0) (a1, 0, a0)).bind fun y5 =>
 letO y5 fun y5k0 =>
 letO y5k0.1 fun w84 =>
 letO y5k0.2 fun w85 =>
 req (len a0 = len w85) <|
 some (w84, w85)
theorem runq49 (a0 : List TE) (a1 : Int) (r : Int × (List TE)) (h : Fq49 a0 a1 = some r) : Fun prog 28 [.c (.os 5 0 (len a0)), .c (wi a1)] [(5, .arr .rw [] (len a0) 21 (row gd (eE) a0))] (.c (wi r.1)) [(5, .arr .rw [] (len r.2) 21 (row gd (eE) r.2))] true := by
 refine ow [] func28 ntmps28 ?_ (hw := ⟨fun i _ j _ k hk => (noref (plain_nil (pl_encEdit _ _)) hk).elim, tv⟩) (hv := (fun _ => ⟨trivial, ⟨fun i _ j _ => val_flat (vl_encEdit _ _), tv⟩⟩)); unfold Fq49 at h; unfold Lq49_x4 at h; have hfq5 := @runq5
 generalize hU_ : @len = U_, hG_ : @gd = G_, hA : std = A, hP : prog = P at *; cbv
 revert h; refine ln (.exit 0) (fun x => (sp 188 [(0, .c (.os 5 0 (U_ a0))), (1, .c (wi x.1)), (5, .c (wi x.2.1))] [(5, .arr .rw [] (U_ a0) 21 (row G_ (eE) x.2.2))])) (fun w => (sp 188 [(1, .c (wi w.1))] [(5, .arr .rw [] (U_ a0) 21 (row G_ (eE) w.2))])) zb ?_ ?_
 ·rintro ⟨v1, v2, v3⟩ z h K hK hY; replace h := oz (oz (oz h)); dsimp only at h; cbv; revert h; refine fk ?_ ?_ <;> intro h <;> cbv
  ·revert h; refine ra fun c16 h => ?_; revert h; refine rq fun c82 => rl fun l17 hl17 h => ?_; refine ai c16 ?_; refine ⟨_, rfl, _, row G_ (eE) l17, rfl, wO (us hA hU_ hG_ hl17 c16 c82), ?_⟩; cbv; revert h; refine ra fun c18 h => ?_; revert h; refine rq fun c81 => rl fun l19 hl19 h => ?_; refine ai c18 ?_; refine ⟨_, rfl, _, row G_ (eE) l19, rfl, wO (us hA hU_ hG_ hl19 c18 c81), ?_⟩
   cbv; revert h; refine ra fun c20 h => ?_; revert h; refine rq fun c80 => rl fun l21 hl21 h => ?_; refine ai c20 ?_; refine ⟨_, rfl, _, row G_ (eE) l21, rfl, wO (us hA hU_ hG_ hl21 c20 c80), ?_⟩; cbv; revert h; refine rk0 (hfq5 _) fun y22 h => ?_; cbv; revert h; refine ra fun c24 h => ?_; revert h; refine rq fun c79 => rl fun l25 hl25 h => ?_; refine ai c24 ?_
   refine ⟨_, rfl, _, row G_ (eE) l25, rfl, wO (us hA hU_ hG_ hl25 c24 c79), ?_⟩; cbv; revert h; refine ra fun c26 h => ?_; revert h; refine rq fun c78 => rl fun l27 hl27 h => ?_; refine ai c26 ?_; refine ⟨_, rfl, _, row G_ (eE) l27, rfl, wO (us hA hU_ hG_ hl27 c26 c78), ?_⟩; cbv; revert h; refine ra fun c28 h => ?_; revert h; refine rq fun c77 => rl fun l29 hl29 h => ?_
   refine ai c28 ?_; refine ⟨_, rfl, _, row G_ (eE) l29, rfl, wO (us hA hU_ hG_ hl29 c28 c77), ?_⟩; cbv; revert h; refine ra fun c30 h => ?_; revert h; refine rq fun c76 => rl fun l31 hl31 h => ?_; refine ai c30 ?_; refine ⟨_, rfl, _, row G_ (eE) l31, rfl, wO (us hA hU_ hG_ hl31 c30 c76), ?_⟩; cbv; revert h; refine ra fun c32 h => ?_
   revert h; refine rq fun c75 => rl fun l33 hl33 h => ?_; refine ai c32 ?_; refine ⟨_, rfl, _, row G_ (eE) l33, rfl, wO (us hA hU_ hG_ hl33 c32 c75), ?_⟩; cbv; revert h; refine ra fun c34 h => ?_; revert h; refine rq fun c74 => rl fun l35 hl35 h => ?_; refine ai c34 ?_; refine ⟨_, rfl, _, row G_ (eE) l35, rfl, wO (us hA hU_ hG_ hl35 c34 c74), ?_⟩; cbv
   revert h; refine ra fun c36 h => ?_; revert h; refine rq fun c73 => rl fun l37 hl37 h => ?_; refine ai c36 ?_; refine ⟨_, rfl, _, row G_ (eE) l37, rfl, wO (us hA hU_ hG_ hl37 c36 c73), ?_⟩; cbv; revert h; refine ra fun c38 h => ?_; revert h; refine rq fun c72 => rl fun l39 hl39 h => ?_; refine ai c38 ?_; refine ⟨_, rfl, _, row G_ (eE) l39, rfl, wO (us hA hU_ hG_ hl39 c38 c72), ?_⟩
   cbv; revert h; refine ra fun c40 h => ?_; revert h; refine rq fun c71 => rl fun l41 hl41 h => ?_; refine ai c40 ?_; refine ⟨_, rfl, _, row G_ (eE) l41, rfl, wO (us hA hU_ hG_ hl41 c40 c71), ?_⟩; cbv; revert h; refine rk0 (hfq5 _) fun y42 h => ?_; cbv; revert h; refine ra fun c44 h => ?_; revert h; refine rq fun c70 => rl fun l45 hl45 h => ?_; refine ai c44 ?_
   refine ⟨_, rfl, _, row G_ (eE) l45, rfl, wO (us hA hU_ hG_ hl45 c44 c70), ?_⟩; cbv; revert h; refine ra fun c46 h => ?_; revert h; refine rq fun c69 => rl fun l47 hl47 h => ?_; refine ai c46 ?_; refine ⟨_, rfl, _, row G_ (eE) l47, rfl, wO (us hA hU_ hG_ hl47 c46 c69), ?_⟩; cbv; revert h; refine ra fun c48 h => ?_; revert h; refine rq fun c68 => rl fun l49 hl49 h => ?_
   refine ai c48 ?_; refine ⟨_, rfl, _, row G_ (eE) l49, rfl, wO (us hA hU_ hG_ hl49 c48 c68), ?_⟩; cbv; revert h; refine ra fun c50 h => ?_; revert h; refine rq fun c67 => rl fun l51 hl51 h => ?_; refine ai c50 ?_; refine ⟨_, rfl, _, row G_ (eE) l51, rfl, wO (us hA hU_ hG_ hl51 c50 c67), ?_⟩; cbv; revert h; refine ra fun c52 h => ?_
   revert h; refine rq fun c66 => rl fun l53 hl53 h => ?_; refine ai c52 ?_; refine ⟨_, rfl, _, row G_ (eE) l53, rfl, wO (us hA hU_ hG_ hl53 c52 c66), ?_⟩; cbv; revert h; refine ra fun c54 h => ?_; revert h; refine rq fun c65 => rl fun l55 hl55 h => ?_; refine ai c54 ?_; refine ⟨_, rfl, _, row G_ (eE) l55, rfl, wO (us hA hU_ hG_ hl55 c54 c65), ?_⟩; cbv
   revert h; refine ra fun c56 h => ?_; revert h; refine rq fun c64 => rl fun l57 hl57 h => ?_; refine ai c56 ?_; refine ⟨_, rfl, _, row G_ (eE) l57, rfl, wO (us hA hU_ hG_ hl57 c56 c64), ?_⟩; cbv; revert h; refine ra fun c58 h => ?_; revert h; refine rq fun c63 => rl fun l59 hl59 h => ?_; refine ai c58 ?_; refine ⟨_, rfl, _, row G_ (eE) l59, rfl, wO (us hA hU_ hG_ hl59 c58 c63), ?_⟩
   cbv; revert h; refine ra fun c60 h => ?_; revert h; refine rq fun c62 => rl fun l61 hl61 h => ?_; refine ai c60 ?_; refine ⟨_, rfl, _, row G_ (eE) l61, rfl, wO (us hA hU_ hG_ hl61 c60 c62), ?_⟩; cbv; exact dm
  exact dx
 rintro ⟨w84, w85⟩ h s q13; replace h := oz (oz (oz h)); dsimp only at h; cbv; refine ⟨_, q13, ?_⟩; cbv; revert h; refine rq fun c86 h => ?_; injection h with h; subst h; refine ⟨(sp 188 [(4, .c (wi w84))] [(5, .arr .rw [] (U_ w85) 21 (row G_ (eE) w85))]), ?_, ?_⟩
 ·rw [c86]; exact zb
 ·exact ⟨lR _, zo, rfl⟩

def Lq39_x4 (a0 : List (List TE)) : (Int × Int × (List (List TE))) -> Option ((Int × Int × (List (List TE))) ⊕ ((Int × (List (List TE))))) := fun x4 =>
 letO x4.1 fun v1 =>
 letO x4.2.1 fun v2 =>
 letO x4.2.2 fun v3 =>
 br (std.lt v2 (std.ofN (len a0)))
 (((
 req (std.inR v2 (len a0)) <|
 (Fq49 (gd v3 (std.nadd 0 (std.toN v2))) v1).bind fun y25 =>
 req (len y25.2 = len (gd v3 (std.nadd 0 (std.toN v2)))) <|
 req (len (gd v3 (std.nadd 0 (std.toN v2))) = len y25.2) <|
 req (len a0 = len v3) <|
 letO (List.set v3 (std.nadd 0 (std.toN v2)) y25.2) fun l28 =>
 some (y25.1, l28)
 ) : Option (Int × (List (List TE)))).bind fun y16 =>
 letO y16.1 fun w22 =>
 letO y16.2 fun w23 =>
 some (.inl (w22, std.add .i64 v2 1, w23)))
 (some (.inr (v1, v3)))
/-- laws.markEditSS -/
def Fq39 (a0 : List (List TE)) (a1 : Int) : Option (Int × (List (List TE))) :=
 (whileP (σ := Int × Int × (List (List TE))) (ρ := (Int × (List (List TE)))) (Lq39_x4 a0) (a1, 0, a0)).bind fun y5 =>
 letO y5 fun y5k0 =>
 letO y5k0.1 fun w32 =>
 letO y5k0.2 fun w33 =>
 req (len a0 = len w33) <|
 some (w32, w33)
theorem runq39 (a0 : List (List TE)) (a1 : Int) (r : Int × (List (List TE))) (h : Fq39 a0 a1 = some r) : Fun prog 80 [.c (.os 5 0 (len a0)), .c (wi a1)] [(5, .arr .rw [] (len a0) 1 (row gd (oN len gd 21 (eE)) a0))] (.c (wi r.1)) [(5, .arr .rw [] (len r.2) 1 (row gd (oN len gd 21 (eE)) r.2))] true := by
 refine ow [4] func80 ntmps80 ?_ (hw := ⟨fun i _ j _ k hk => (noref (rfl) hk).elim, tv⟩) (hv := (fun _ => ⟨trivial, ⟨fun i _ j _ => fl_oncL (vl_encEdit) _ _, tv⟩⟩)); unfold Fq39 at h; unfold Lq39_x4 at h; have hfq49 := @runq49; generalize hU_ : @len = U_, hG_ : @gd = G_, hA : std = A, hP : prog = P at *; cbv
 revert h; refine ln (.exit 0) (fun x => (sp 19 [(0, .c (.os 5 0 (U_ a0))), (1, .c (wi x.1)), (5, .c (wi x.2.1))] [(5, .arr .rw [] (U_ a0) 1 (row G_ (oN U_ G_ 21 (eE)) x.2.2))])) (fun w => (sp 19 [(1, .c (wi w.1))] [(5, .arr .rw [] (U_ a0) 1 (row G_ (oN U_ G_ 21 (eE)) w.2))])) zb ?_ ?_
 ·rintro ⟨v1, v2, v3⟩ z h K hK hY; replace h := oz (oz (oz h)); dsimp only at h; cbv; revert h; refine fk ?_ ?_ <;> intro h <;> cbv
  ·revert h; refine cu (fun y16 => (sp 19 [(0, .c (.os 5 0 (U_ a0))), (1, .c (wi y16.1)), (5, .c (wi v2))] [(5, .arr .rw [] (U_ a0) 1 (row G_ (oN U_ G_ 21 (eE)) y16.2))])) ?_ ?_
   ·intro y16 S hS h; cbv; revert h; refine ra fun c24 h => ?_; refine ai c24 ?_; refine ⟨_, rfl, _, (pC (row G_ (oN U_ G_ 21 (eE)) v3) (A.nadd 0 (A.toN v2)) [.os 962 0 (U_ (G_ v3 (A.nadd 0 (A.toN v2))))]), rfl, wO (patch_of zr), ?_⟩; refine ⟨_, row G_ (eE) (G_ v3 (A.nadd 0 (A.toN v2))), rfl, wO (fun i _ j _ => plain_cp (pl_encEdit _ _)), ?_⟩; cbv
    revert h; refine rb fun y25 hy26 => rq fun c30 h => ?_; refine rc [(5, 962)] [(5, 962)] (hfq49 _ _ _ hy26) yf ⟨_, rfl, U_ (G_ v3 (A.nadd 0 (A.toN v2))), _, c30, fun _ _ _ _ => .refl _, ?_⟩; cbv; revert h; refine rq fun c27 => rq fun c29 => rl fun l28 hl28 h => ?_; injection h with h; subst h; subst hS; show St.le _ _
    refine St.le_trans (le_foldP 5 0 962 rfl rfl rfl (by decide) (by subst hA; exact ix c24) (by decide) rfl (fun _ _ => rfl)) ?_; exact lsp rfl zl ⟨oP (fun _ _ => rfl) (by subst hG_ hU_ hA; exact patch_set hl28 (ix (by rw [<- c29]; exact c24)) zr), tv⟩ rfl
   rintro ⟨w22, w23⟩ h; replace h := oz (oz h); dsimp only at h; cbv; exact dm
  exact dx
 rintro ⟨w32, w33⟩ h s q13; replace h := oz (oz (oz h)); dsimp only at h; cbv; refine ⟨_, q13, ?_⟩; cbv; revert h; refine rq fun c34 h => ?_; injection h with h; subst h; refine ⟨(sp 19 [(4, .c (wi w32))] [(5, .arr .rw [] (U_ w33) 1 (row G_ (oN U_ G_ 21 (eE)) w33))]), ?_, ?_⟩
 ·rw [c34]; exact zb
 ·exact ⟨lR _, zo, rfl⟩

/-- laws.markEditor -/
def Fq34 (a0 : TD_) (a1 : Int) : Option (Int × (List TC) × (List (List TE)) × (List (List TE))) :=
 (Fq95 a0.fr_ a1).bind fun y1 =>
 req (len y1.2 = len a0.fr_.fC) <|
 (Fq39 a0.fU y1.1).bind fun y3 =>
 req (len y3.2 = len a0.fU) <|
 (Fq39 a0.fD y3.1).bind fun y5 =>
 req (len y5.2 = len a0.fD) <|
 req (len a0.fr_.fC = len y1.2) <|
 req (len a0.fU = len y3.2) <|
 req (len a0.fD = len y5.2) <|
 some (y5.1, y1.2, y3.2, y5.2)
theorem runq34 (a0 : TD_) (a1 : Int) (r : Int × (List TC) × (List (List TE)) × (List (List TE))) (h : Fq34 a0 a1 = some r) : Fun prog 34 [.agg [.os 5 0 (len a0.fr_.fC), .os 7 0 (len a0.fU), .os 9 0 (len a0.fD)], .c (wi a1)] [(5, .arr .rw [] (len a0.fr_.fC) 4 (row gd (oC len gd) a0.fr_.fC)), (7, .arr .rw [] (len a0.fU) 1 (row gd (oN len gd 21 (eE)) a0.fU)), (9, .arr .rw [] (len a0.fD) 1 (row gd (oN len gd 21 (eE)) a0.fD))] (.c (wi r.1)) [(5, .arr .rw [] (len r.2.1) 4 (row gd (oC len gd) r.2.1)), (7, .arr .rw [] (len r.2.2.1) 1 (row gd (oN len gd 21 (eE)) r.2.2.1)), (9, .arr .rw [] (len r.2.2.2) 1 (row gd (oN len gd 21 (eE)) r.2.2.2))] true := by
 refine ow [] func34 ntmps34 ?_ (hw := ⟨fun i _ j _ k hk => (noref (rC _ _) hk).elim, fun i _ j _ k hk => (noref (rfl) hk).elim, fun i _ j _ k hk => (noref (rfl) hk).elim, tv⟩) (hv := (fun _ => ⟨trivial, ⟨fun i _ j _ => fl_oncCell _ _, fun i _ j _ => fl_oncL (vl_encEdit) _ _, fun i _ j _ => fl_oncL (vl_encEdit) _ _, tv⟩⟩)); unfold Fq34 at h
 have hfq39 := @runq39; have hfq95 := @runq95; generalize hU_ : @len = U_, hG_ : @gd = G_, hA : std = A, hP : prog = P at *; cbv; revert h; refine rb fun y1 hy2 => rq fun c12 h => ?_; refine rc [(5, 5)] [(5, 5)] (hfq95 _ _ _ hy2) yf ⟨_, rfl, U_ a0.fr_.fC, _, c12, fun _ _ _ _ => .refl _, ?_⟩; cbv
 revert h; refine rb fun y3 hy4 => rq fun c11 h => ?_; refine rc [(5, 7)] [(5, 7)] (hfq39 _ _ _ hy4) yf ⟨_, rfl, U_ a0.fU, _, c11, fun _ _ _ _ => .refl _, ?_⟩; cbv; revert h; refine rb fun y5 hy6 => rq fun c10 h => ?_; refine rc [(5, 9)] [(5, 9)] (hfq39 _ _ _ hy6) yf ⟨_, rfl, U_ a0.fD, _, c10, fun _ _ _ _ => .refl _, ?_⟩; cbv
 revert h; refine rq fun c7 => rq fun c8 => rq fun c9 h => ?_; injection h with h; subst h; refine ⟨(sp 18 [(4, .c (wi y5.1))] [(5, .arr .rw [] (U_ y1.2) 4 (row G_ (oC U_ G_) y1.2)), (7, .arr .rw [] (U_ y3.2) 1 (row G_ (oN U_ G_ 21 (eE)) y3.2)), (9, .arr .rw [] (U_ y5.2) 1 (row G_ (oN U_ G_ 21 (eE)) y5.2))]), ?_, ?_⟩
 ·rw [c7]; rw [c8]; rw [c9]; exact zb
 ·exact ⟨lR _, zo, rfl⟩

def Lq75_x3 (a0 : List TS) : (Int × Int) -> Option ((Int × Int) ⊕ ((Int) ⊕ (Int))) := fun x3 =>
 letO x3.1 fun v1 =>
 letO x3.2 fun v2 =>
 br (std.lt v2 (std.ofN (len a0)))
 (req (std.inR v2 (len a0)) <|
 br (std.not (std.eq (gd a0 (std.toN v2)).fy v1))
 (some (.inr (.inl (-1))))
 (req (std.inR v2 (len a0)) <|
 br (std.not (std.eq (gd a0 (std.toN v2)).fb.fX0 (std.add .i64 v1 1)))
 (some (.inr (.inl (-1))))
 (req (std.inR v2 (len a0)) <|
 br (std.not (std.eq (gd a0 (std.toN v2)).fb.fY0 (std.add .i64 (std.add .i64 v1 1) 1)))
 (some (.inr (.inl (-1))))
 (req (std.inR v2 (len a0)) <|
 br (std.not (std.eq (gd a0 (std.toN v2)).fb.fX1 (std.add .i64 (std.add .i64 (std.add .i64 v1 1) 1) 1)))
 (some (.inr (.inl (-1))))
 (req (std.inR v2 (len a0)) <|
 br (std.not (std.eq (gd a0 (std.toN v2)).fb.fY1 (std.add .i64 (std.add .i64 (std.add .i64 (std.add .i64 v1 1) 1) 1) 1)))
 (some (.inr (.inl (-1))))
 (some (.inl (std.add .i64 (std.add .i64 (std.add .i64 (std.add .i64 (std.add .i64 v1 1) 1) 1) 1) 1, std.add .i64 v2 1))))))))
 (some (.inr (.inr v1)))
/-- laws.heldShapeS -/
def Fq75 (a0 : List TS) (a1 : Int) : Option (Int) :=
 (whileP (σ := Int × Int) (ρ := (Int) ⊕ (Int)) (Lq75_x3 a0) (a1, 0)).bind fun y4 =>
 (match y4 with
 | .inl y4k0 => (
 letO y4k0 fun w26 =>
 some w26)
 | .inr y4m0 =>
 letO y4m0 fun y4k1 =>
 letO y4k1 fun w27 =>
 some w27)
theorem runq75 (a0 : List TS) (a1 : Int) (r : Int) (h : Fq75 a0 a1 = some r) : Fun prog 131 [.c (.bs (len a0) 5 (row gd (eS) a0)), .c (wi a1)] [] (.c (wi r)) [] true := by
 refine ow [] func131 ntmps131 ?_; unfold Fq75 at h; unfold Lq75_x3 at h; generalize hU_ : @len = U_, hG_ : @gd = G_, hA : std = A, hP : prog = P at *; cbv
 revert h; refine lc (fun x => (sp 62 [(0, .c (.bs (U_ a0) 5 (row G_ (eS) a0))), (1, .c (wi x.1)), (5, .c (wi x.2))] [])) (fun y e s => (match y with | .inl w => e = .ret /\ s.le (sp 62 [(4, .c (wi w))] []) | .inr w0 => (fun (w : Int) => e = .exit 0 /\ s.le (sp 62 [(1, .c (wi w))] [])) w0)) zb ?_ ?_
 ·rintro ⟨v1, v2⟩ z h K hK hY; replace h := oz (oz h); dsimp only at h; cbv; revert h; refine fk ?_ ?_ <;> intro h <;> cbv
  ·revert h; refine ra fun c15 h => ?_; revert h; refine fk ?_ ?_ <;> intro h <;> cbv
   ·exact dy
   revert h; refine ra fun c16 h => ?_; revert h; refine fk ?_ ?_ <;> intro h <;> cbv
   ·exact dy
   revert h; refine ra fun c17 h => ?_; revert h; refine fk ?_ ?_ <;> intro h <;> cbv
   ·exact dy
   revert h; refine ra fun c18 h => ?_; revert h; refine fk ?_ ?_ <;> intro h <;> cbv
   ·exact dy
   revert h; refine ra fun c19 h => ?_; revert h; refine fk ?_ ?_ <;> intro h <;> cbv
   ·exact dy
   exact dm
  exact dy
 intro y4 h e13 s14 q12 hne; rcases y4 with y4k0 | y4m0
 ·replace h := h; obtain ⟨rfl, q12⟩ := q12; revert h; refine rz fun h => ?_; cbv; injection h with h; subst h; exact ⟨_, q12, lR _, zo, rfl⟩
 ·revert h; refine rz fun h => ?_; obtain ⟨rfl, q12⟩ := q12; revert h; refine rz fun h => ?_; cbv; refine ⟨_, q12, ?_⟩; cbv; exact df
set_option maxHeartbeats 4000000
def Lq66_x3 (a0 : List TB) : (Int × Int) -> Option ((Int × Int) ⊕ ((Int) ⊕ (Int))) := fun x3 =>
 letO x3.1 fun v1 =>
 letO x3.2 fun v2 =>
 br (std.lt v2 (std.ofN (len a0)))
 (req (std.inR v2 (len a0)) <|
 br (std.not (std.eq (gd a0 (std.toN v2)).fy v1))
 (some (.inr (.inl (-1))))
 (req (std.inR v2 (len a0)) <|
 br (std.not (std.eq (gd a0 (std.toN v2)).fa.fX (std.add .i64 v1 1)))
 (some (.inr (.inl (-1))))
 (req (std.inR v2 (len a0)) <|
 br (std.not (std.eq (gd a0 (std.toN v2)).fa.fY (std.add .i64 (std.add .i64 v1 1) 1)))
 (some (.inr (.inl (-1))))
 (req (std.inR v2 (len a0)) <|
 (Fq5 (std.add .i64 (std.add .i64 (std.add .i64 v1 1) 1) 1)).bind fun y19 =>
 br (std.not (std.seq (gd a0 (std.toN v2)).fN y19))
 (some (.inr (.inl (-1))))
 (some (.inl (std.add .i64 (std.add .i64 (std.add .i64 (std.add .i64 v1 1) 1) 1) 1, std.add .i64 v2 1)))))))
 (some (.inr (.inr v1)))
/-- laws.heldLabelS -/
def Fq66 (a0 : List TB) (a1 : Int) : Option (Int) :=
 (whileP (σ := Int × Int) (ρ := (Int) ⊕ (Int)) (Lq66_x3 a0) (a1, 0)).bind fun y4 =>
 (match y4 with
 | .inl y4k0 => (
 letO y4k0 fun w26 =>
 some w26)
 | .inr y4m0 =>
 letO y4m0 fun y4k1 =>
 letO y4k1 fun w27 =>
 some w27)
theorem runq66 (a0 : List TB) (a1 : Int) (r : Int) (h : Fq66 a0 a1 = some r) : Fun prog 132 [.c (.bs (len a0) 4 (row gd (eL) a0)), .c (wi a1)] [] (.c (wi r)) [] true := by
 refine ow [] func132 ntmps132 ?_; unfold Fq66 at h; unfold Lq66_x3 at h; have hfq5 := @runq5; generalize hU_ : @len = U_, hG_ : @gd = G_, hA : std = A, hP : prog = P at *; cbv
 revert h; refine lc (fun x => (sp 52 [(0, .c (.bs (U_ a0) 4 (row G_ (eL) a0))), (1, .c (wi x.1)), (5, .c (wi x.2))] [])) (fun y e s => (match y with | .inl w => e = .ret /\ s.le (sp 52 [(4, .c (wi w))] []) | .inr w0 => (fun (w : Int) => e = .exit 0 /\ s.le (sp 52 [(1, .c (wi w))] [])) w0)) zb ?_ ?_
 ·rintro ⟨v1, v2⟩ z h K hK hY; replace h := oz (oz h); dsimp only at h; cbv; revert h; refine fk ?_ ?_ <;> intro h <;> cbv
  ·revert h; refine ra fun c15 h => ?_; revert h; refine fk ?_ ?_ <;> intro h <;> cbv
   ·exact dy
   revert h; refine ra fun c16 h => ?_; revert h; refine fk ?_ ?_ <;> intro h <;> cbv
   ·exact dy
   revert h; refine ra fun c17 h => ?_; revert h; refine fk ?_ ?_ <;> intro h <;> cbv
   ·exact dy
   revert h; refine ra fun c18 h => ?_; revert h; refine rk0 (hfq5 _) fun y19 h => ?_; cbv; revert h; refine fk ?_ ?_ <;> intro h <;> cbv
   ·exact dy
   exact dm
  exact dy
 intro y4 h e13 s14 q12 hne; rcases y4 with y4k0 | y4m0
 ·replace h := h; obtain ⟨rfl, q12⟩ := q12; revert h; refine rz fun h => ?_; cbv; injection h with h; subst h; exact ⟨_, q12, lR _, zo, rfl⟩
 ·revert h; refine rz fun h => ?_; obtain ⟨rfl, q12⟩ := q12; revert h; refine rz fun h => ?_; cbv; refine ⟨_, q12, ?_⟩; cbv; exact df

def Lq69_x3 (a0 : List TI) : (Int × Int) -> Option ((Int × Int) ⊕ ((Int) ⊕ (Int))) := fun x3 =>
 letO x3.1 fun v1 =>
 letO x3.2 fun v2 =>
 br (std.lt v2 (std.ofN (len a0)))
 (req (std.inR v2 (len a0)) <|
 br (std.not (std.eq (gd a0 (std.toN v2)).fc v1))
 (some (.inr (.inl (-1))))
 (req (std.inR v2 (len a0)) <|
 br (std.not (std.eq (gd a0 (std.toN v2)).fp.fo (std.add .i64 v1 1)))
 (some (.inr (.inl (-1))))
 (req (std.inR v2 (len a0)) <|
 br (std.not (std.eq (gd a0 (std.toN v2)).fp.fX (std.add .i64 (std.add .i64 v1 1) 1)))
 (some (.inr (.inl (-1))))
 (req (std.inR v2 (len a0)) <|
 br (std.not (std.eq (gd a0 (std.toN v2)).fp.fY (std.add .i64 (std.add .i64 (std.add .i64 v1 1) 1) 1)))
 (some (.inr (.inl (-1))))
 (req (std.inR v2 (len a0)) <|
 br (std.not (std.eq (gd a0 (std.toN v2)).fK (std.add .i64 (std.add .i64 (std.add .i64 (std.add .i64 v1 1) 1) 1) 1)))
 (some (.inr (.inl (-1))))
 (req (std.inR v2 (len a0)) <|
 br (std.not (std.eq (gd a0 (std.toN v2)).fR (std.add .i64 (std.add .i64 (std.add .i64 (std.add .i64 (std.add .i64 v1 1) 1) 1) 1) 1)))
 (some (.inr (.inl (-1))))
 (req (std.inR v2 (len a0)) <|
 br (std.not (std.eq (gd a0 (std.toN v2)).fu (std.add .i64 (std.add .i64 (std.add .i64 (std.add .i64 (std.add .i64 (std.add .i64 v1 1) 1) 1) 1) 1) 1)))
 (some (.inr (.inl (-1))))
 (req (std.inR v2 (len a0)) <|
 br (std.not (std.eq (gd a0 (std.toN v2)).fv (std.add .i64 (std.add .i64 (std.add .i64 (std.add .i64 (std.add .i64 (std.add .i64 (std.add .i64 v1 1) 1) 1) 1) 1) 1) 1)))
 (some (.inr (.inl (-1))))
 (some (.inl (std.add .i64 (std.add .i64 (std.add .i64 (std.add .i64 (std.add .i64 (std.add .i64 (std.add .i64 (std.add .i64 v1 1) 1) 1) 1) 1) 1) 1) 1, std.add .i64 v2 1)))))))))))
 (some (.inr (.inr v1)))
/-- laws.heldInstanceS -/
def Fq69 (a0 : List TI) (a1 : Int) : Option (Int) :=
 (whileP (σ := Int × Int) (ρ := (Int) ⊕ (Int)) (Lq69_x3 a0) (a1, 0)).bind fun y4 =>
 (match y4 with
 | .inl y4k0 => (
 letO y4k0 fun w32 =>
 some w32)
 | .inr y4m0 =>
 letO y4m0 fun y4k1 =>
 letO y4k1 fun w33 =>
 some w33)
theorem runq69 (a0 : List TI) (a1 : Int) (r : Int) (h : Fq69 a0 a1 = some r) : Fun prog 133 [.c (.bs (len a0) 8 (row gd (eI) a0)), .c (wi a1)] [] (.c (wi r)) [] true := by
 refine ow [] func133 ntmps133 ?_; unfold Fq69 at h; unfold Lq69_x3 at h; generalize hU_ : @len = U_, hG_ : @gd = G_, hA : std = A, hP : prog = P at *; cbv
 revert h; refine lc (fun x => (sp 88 [(0, .c (.bs (U_ a0) 8 (row G_ (eI) a0))), (1, .c (wi x.1)), (5, .c (wi x.2))] [])) (fun y e s => (match y with | .inl w => e = .ret /\ s.le (sp 88 [(4, .c (wi w))] []) | .inr w0 => (fun (w : Int) => e = .exit 0 /\ s.le (sp 88 [(1, .c (wi w))] [])) w0)) zb ?_ ?_
 ·rintro ⟨v1, v2⟩ z h K hK hY; replace h := oz (oz h); dsimp only at h; cbv; revert h; refine fk ?_ ?_ <;> intro h <;> cbv
  ·revert h; refine ra fun c15 h => ?_; revert h; refine fk ?_ ?_ <;> intro h <;> cbv
   ·exact dy
   revert h; refine ra fun c16 h => ?_; revert h; refine fk ?_ ?_ <;> intro h <;> cbv
   ·exact dy
   revert h; refine ra fun c17 h => ?_; revert h; refine fk ?_ ?_ <;> intro h <;> cbv
   ·exact dy
   revert h; refine ra fun c18 h => ?_; revert h; refine fk ?_ ?_ <;> intro h <;> cbv
   ·exact dy
   revert h; refine ra fun c19 h => ?_; revert h; refine fk ?_ ?_ <;> intro h <;> cbv
   ·exact dy
   revert h; refine ra fun c20 h => ?_; revert h; refine fk ?_ ?_ <;> intro h <;> cbv
   ·exact dy
   revert h; refine ra fun c21 h => ?_; revert h; refine fk ?_ ?_ <;> intro h <;> cbv
   ·exact dy
   revert h; refine ra fun c22 h => ?_; revert h; refine fk ?_ ?_ <;> intro h <;> cbv
   ·exact dy
   exact dm
  exact dy
 intro y4 h e13 s14 q12 hne; rcases y4 with y4k0 | y4m0
 ·replace h := h; obtain ⟨rfl, q12⟩ := q12; revert h; refine rz fun h => ?_; cbv; injection h with h; subst h; exact ⟨_, q12, lR _, zo, rfl⟩
 ·revert h; refine rz fun h => ?_; obtain ⟨rfl, q12⟩ := q12; revert h; refine rz fun h => ?_; cbv; refine ⟨_, q12, ?_⟩; cbv; exact df

def Lq65_x3 (a0 : List TC) : (Int × Int) -> Option ((Int × Int) ⊕ ((Int) ⊕ (Int))) := fun x3 =>
 letO x3.1 fun v1 =>
 letO x3.2 fun v2 =>
 br (std.lt v2 (std.ofN (len a0)))
 (req (std.inR v2 (len a0)) <|
 (Fq5 v1).bind fun y16 =>
 br (std.not (std.seq (gd a0 (std.toN v2)).fN y16))
 (some (.inr (.inl (-1))))
 (req (std.inR v2 (len a0)) <|
 (Fq75 (gd a0 (std.toN v2)).fS (std.add .i64 v1 1)).bind fun y19 =>
 br (std.lt y19 0)
 (some (.inr (.inl (-1))))
 (req (std.inR v2 (len a0)) <|
 (Fq66 (gd a0 (std.toN v2)).fL y19).bind fun y22 =>
 br (std.lt y22 0)
 (some (.inr (.inl (-1))))
 (req (std.inR v2 (len a0)) <|
 (Fq69 (gd a0 (std.toN v2)).fI y22).bind fun y25 =>
 br (std.lt y25 0)
 (some (.inr (.inl (-1))))
 (some (.inl (y25, std.add .i64 v2 1)))))))
 (some (.inr (.inr v1)))
/-- laws.heldCellS -/
def Fq65 (a0 : List TC) (a1 : Int) : Option (Int) :=
 (whileP (σ := Int × Int) (ρ := (Int) ⊕ (Int)) (Lq65_x3 a0) (a1, 0)).bind fun y4 =>
 (match y4 with
 | .inl y4k0 => (
 letO y4k0 fun w32 =>
 some w32)
 | .inr y4m0 =>
 letO y4m0 fun y4k1 =>
 letO y4k1 fun w33 =>
 some w33)
theorem runq65 (a0 : List TC) (a1 : Int) (r : Int) (h : Fq65 a0 a1 = some r) : Fun prog 68 [.c (.bs (len a0) 4 (row gd (eC len gd) a0)), .c (wi a1)] [] (.c (wi r)) [] true := by
 refine ow [] func68 ntmps68 ?_; unfold Fq65 at h; unfold Lq65_x3 at h; have hfq69 := @runq69; have hfq66 := @runq66; have hfq75 := @runq75; have hfq5 := @runq5; generalize hU_ : @len = U_, hG_ : @gd = G_, hA : std = A, hP : prog = P at *; cbv
 revert h; refine lc (fun x => (sp 50 [(0, .c (.bs (U_ a0) 4 (row G_ (eC U_ G_) a0))), (1, .c (wi x.1)), (5, .c (wi x.2))] [])) (fun y e s => (match y with | .inl w => e = .ret /\ s.le (sp 50 [(4, .c (wi w))] []) | .inr w0 => (fun (w : Int) => e = .exit 0 /\ s.le (sp 50 [(1, .c (wi w))] [])) w0)) zb ?_ ?_
 ·rintro ⟨v1, v2⟩ z h K hK hY; replace h := oz (oz h); dsimp only at h; cbv; revert h; refine fk ?_ ?_ <;> intro h <;> cbv
  ·revert h; refine ra fun c15 h => ?_; revert h; refine rk0 (hfq5 _) fun y16 h => ?_; cbv; revert h; refine fk ?_ ?_ <;> intro h <;> cbv
   ·exact dy
   revert h; refine ra fun c18 h => ?_; revert h; refine rk0 (hfq75 _ _) fun y19 h => ?_; cbv; revert h; refine fk ?_ ?_ <;> intro h <;> cbv
   ·exact dy
   revert h; refine ra fun c21 h => ?_; revert h; refine rk0 (hfq66 _ _) fun y22 h => ?_; cbv; revert h; refine fk ?_ ?_ <;> intro h <;> cbv
   ·exact dy
   revert h; refine ra fun c24 h => ?_; revert h; refine rk0 (hfq69 _ _) fun y25 h => ?_; cbv; revert h; refine fk ?_ ?_ <;> intro h <;> cbv
   ·exact dy
   exact dm
  exact dy
 intro y4 h e13 s14 q12 hne; rcases y4 with y4k0 | y4m0
 ·replace h := h; obtain ⟨rfl, q12⟩ := q12; revert h; refine rz fun h => ?_; cbv; injection h with h; subst h; exact ⟨_, q12, lR _, zo, rfl⟩
 ·revert h; refine rz fun h => ?_; obtain ⟨rfl, q12⟩ := q12; revert h; refine rz fun h => ?_; cbv; refine ⟨_, q12, ?_⟩; cbv; exact df

/-- laws.heldLibrary -/
def Fq151 (a0 : TL) (a1 : Int) : Option (Int) :=
 (Fq65 a0.fC a1).bind fun y1 =>
 br (std.lt y1 0)
 (some (-1))
 (some y1)
theorem runq151 (a0 : TL) (a1 : Int) (r : Int) (h : Fq151 a0 a1 = some r) : Fun prog 22 [.agg [.bs (len a0.fC) 4 (row gd (eC len gd) a0.fC)], .c (wi a1)] [] (.c (wi r)) [] true := by
 refine ow [] func22 ntmps22 ?_; unfold Fq151 at h; have hfq65 := @runq65; generalize hU_ : @len = U_, hG_ : @gd = G_, hA : std = A, hP : prog = P at *; cbv; revert h; refine rk0 (hfq65 _ _) fun y1 h => ?_; cbv; revert h; refine fk ?_ ?_ <;> intro h <;> cbv
 ·exact df
 exact df

def Lq12_x3 (a0 : List TE) : (Int × Int) -> Option ((Int × Int) ⊕ ((Int) ⊕ (Int))) := fun x3 =>
 letO x3.1 fun v1 =>
 letO x3.2 fun v2 =>
 br (std.lt v2 (std.ofN (len a0)))
 (req (std.inR v2 (len a0)) <|
 br (std.not (std.eq (gd a0 (std.toN v2)).fk_ v1))
 (some (.inr (.inl (-1))))
 (req (std.inR v2 (len a0)) <|
 br (std.not (std.eq (gd a0 (std.toN v2)).fc (std.add .i64 v1 1)))
 (some (.inr (.inl (-1))))
 (req (std.inR v2 (len a0)) <|
 br (std.not (std.eq (gd a0 (std.toN v2)).fx (std.add .i64 (std.add .i64 v1 1) 1)))
 (some (.inr (.inl (-1))))
 (req (std.inR v2 (len a0)) <|
 (Fq5 (std.add .i64 (std.add .i64 (std.add .i64 v1 1) 1) 1)).bind fun y19 =>
 br (std.not (std.seq (gd a0 (std.toN v2)).fN y19))
 (some (.inr (.inl (-1))))
 (req (std.inR v2 (len a0)) <|
 br (std.not (std.eq (gd a0 (std.toN v2)).fs_.fy (std.add .i64 (std.add .i64 (std.add .i64 (std.add .i64 v1 1) 1) 1) 1)))
 (some (.inr (.inl (-1))))
 (req (std.inR v2 (len a0)) <|
 br (std.not (std.eq (gd a0 (std.toN v2)).fs_.fb.fX0 (std.add .i64 (std.add .i64 (std.add .i64 (std.add .i64 (std.add .i64 v1 1) 1) 1) 1) 1)))
 (some (.inr (.inl (-1))))
 (req (std.inR v2 (len a0)) <|
 br (std.not (std.eq (gd a0 (std.toN v2)).fs_.fb.fY0 (std.add .i64 (std.add .i64 (std.add .i64 (std.add .i64 (std.add .i64 (std.add .i64 v1 1) 1) 1) 1) 1) 1)))
 (some (.inr (.inl (-1))))
 (req (std.inR v2 (len a0)) <|
 br (std.not (std.eq (gd a0 (std.toN v2)).fs_.fb.fX1 (std.add .i64 (std.add .i64 (std.add .i64 (std.add .i64 (std.add .i64 (std.add .i64 (std.add .i64 v1 1) 1) 1) 1) 1) 1) 1)))
 (some (.inr (.inl (-1))))
 (req (std.inR v2 (len a0)) <|
 br (std.not (std.eq (gd a0 (std.toN v2)).fs_.fb.fY1 (std.add .i64 (std.add .i64 (std.add .i64 (std.add .i64 (std.add .i64 (std.add .i64 (std.add .i64 (std.add .i64 v1 1) 1) 1) 1) 1) 1) 1) 1)))
 (some (.inr (.inl (-1))))
 (req (std.inR v2 (len a0)) <|
 br (std.not (std.eq (gd a0 (std.toN v2)).fl_.fy (std.add .i64 (std.add .i64 (std.add .i64 (std.add .i64 (std.add .i64 (std.add .i64 (std.add .i64 (std.add .i64 (std.add .i64 v1 1) 1) 1) 1) 1) 1) 1) 1) 1)))
 (some (.inr (.inl (-1))))
 (req (std.inR v2 (len a0)) <|
 br (std.not (std.eq (gd a0 (std.toN v2)).fl_.fa.fX (std.add .i64 (std.add .i64 (std.add .i64 (std.add .i64 (std.add .i64 (std.add .i64 (std.add .i64 (std.add .i64 (std.add .i64 (std.add .i64 v1 1) 1) 1) 1) 1) 1) 1) 1) 1) 1)))
 (some (.inr (.inl (-1))))
 (req (std.inR v2 (len a0)) <|
 br (std.not (std.eq (gd a0 (std.toN v2)).fl_.fa.fY (std.add .i64 (std.add .i64 (std.add .i64 (std.add .i64 (std.add .i64 (std.add .i64 (std.add .i64 (std.add .i64 (std.add .i64 (std.add .i64 (std.add .i64 v1 1) 1) 1) 1) 1) 1) 1) 1) 1) 1) 1)))
 (some (.inr (.inl (-1))))
 (req (std.inR v2 (len a0)) <|
 (Fq5 (std.add .i64 (std.add .i64 (std.add .i64 (std.add .i64 (std.add .i64 (std.add .i64 (std.add .i64 (std.add .i64 (std.add .i64 (std.add .i64 (std.add .i64 (std.add .i64 v1 1) 1) 1) 1) 1) 1) 1) 1) 1) 1) 1) 1)).bind fun y30 =>
 br (std.not (std.seq (gd a0 (std.toN v2)).fl_.fN y30))
 (some (.inr (.inl (-1))))
 (req (std.inR v2 (len a0)) <|
 br (std.not (std.eq (gd a0 (std.toN v2)).fi_.fc (std.add .i64 (std.add .i64 (std.add .i64 (std.add .i64 (std.add .i64 (std.add .i64 (std.add .i64 (std.add .i64 (std.add .i64 (std.add .i64 (std.add .i64 (std.add .i64 (std.add .i64 v1 1) 1) 1) 1) 1) 1) 1) 1) 1) 1) 1) 1) 1)))
 (some (.inr (.inl (-1))))
 (req (std.inR v2 (len a0)) <|
 br (std.not (std.eq (gd a0 (std.toN v2)).fi_.fp.fo (std.add .i64 (std.add .i64 (std.add .i64 (std.add .i64 (std.add .i64 (std.add .i64 (std.add .i64 (std.add .i64 (std.add .i64 (std.add .i64 (std.add .i64 (std.add .i64 (std.add .i64 (std.add .i64 v1 1) 1) 1) 1) 1) 1) 1) 1) 1) 1) 1) 1) 1) 1)))
 (some (.inr (.inl (-1))))
 (req (std.inR v2 (len a0)) <|
 br (std.not (std.eq (gd a0 (std.toN v2)).fi_.fp.fX (std.add .i64 (std.add .i64 (std.add .i64 (std.add .i64 (std.add .i64 (std.add .i64 (std.add .i64 (std.add .i64 (std.add .i64 (std.add .i64 (std.add .i64 (std.add .i64 (std.add .i64 (std.add .i64 (std.add .i64 v1 1) 1) 1) 1) 1) 1) 1) 1) 1) 1) 1) 1) 1) 1) 1)))
 (some (.inr (.inl (-1))))
 (req (std.inR v2 (len a0)) <|
 br (std.not (std.eq (gd a0 (std.toN v2)).fi_.fp.fY (std.add .i64 (std.add .i64 (std.add .i64 (std.add .i64 (std.add .i64 (std.add .i64 (std.add .i64 (std.add .i64 (std.add .i64 (std.add .i64 (std.add .i64 (std.add .i64 (std.add .i64 (std.add .i64 (std.add .i64 (std.add .i64 v1 1) 1) 1) 1) 1) 1) 1) 1) 1) 1) 1) 1) 1) 1) 1) 1)))
 (some (.inr (.inl (-1))))
 (req (std.inR v2 (len a0)) <|
 br (std.not (std.eq (gd a0 (std.toN v2)).fi_.fK (std.add .i64 (std.add .i64 (std.add .i64 (std.add .i64 (std.add .i64 (std.add .i64 (std.add .i64 (std.add .i64 (std.add .i64 (std.add .i64 (std.add .i64 (std.add .i64 (std.add .i64 (std.add .i64 (std.add .i64 (std.add .i64 (std.add .i64 v1 1) 1) 1) 1) 1) 1) 1) 1) 1) 1) 1) 1) 1) 1) 1) 1) 1)))
 (some (.inr (.inl (-1))))
 (req (std.inR v2 (len a0)) <|
 br (std.not (std.eq (gd a0 (std.toN v2)).fi_.fR (std.add .i64 (std.add .i64 (std.add .i64 (std.add .i64 (std.add .i64 (std.add .i64 (std.add .i64 (std.add .i64 (std.add .i64 (std.add .i64 (std.add .i64 (std.add .i64 (std.add .i64 (std.add .i64 (std.add .i64 (std.add .i64 (std.add .i64 (std.add .i64 v1 1) 1) 1) 1) 1) 1) 1) 1) 1) 1) 1) 1) 1) 1) 1) 1) 1) 1)))
 (some (.inr (.inl (-1))))
 (req (std.inR v2 (len a0)) <|
 br (std.not (std.eq (gd a0 (std.toN v2)).fi_.fu (std.add .i64 (std.add .i64 (std.add .i64 (std.add .i64 (std.add .i64 (std.add .i64 (std.add .i64 (std.add .i64 (std.add .i64 (std.add .i64 (std.add .i64 (std.add .i64 (std.add .i64 (std.add .i64 (std.add .i64 (std.add .i64 (std.add .i64 (std.add .i64 (std.add .i64 v1 1) 1) 1) 1) 1) 1) 1) 1) 1) 1) 1) 1) 1) 1) 1) 1) 1) 1) 1)))
 (some (.inr (.inl (-1))))
 (req (std.inR v2 (len a0)) <|
 br (std.not (std.eq (gd a0 (std.toN v2)).fi_.fv (std.add .i64 (std.add .i64 (std.add .i64 (std.add .i64 (std.add .i64 (std.add .i64 (std.add .i64 (std.add .i64 (std.add .i64 (std.add .i64 (std.add .i64 (std.add .i64 (std.add .i64 (std.add .i64 (std.add .i64 (std.add .i64 (std.add .i64 (std.add .i64 (std.add .i64 (std.add .i64 v1 1) 1) 1) 1) 1) 1) 1) 1) 1) 1) 1) 1) 1) 1) 1) 1) 1) 1) 1) 1)))
 (some (.inr (.inl (-1))))
 (some (.inl (std.add .i64 (std.add .i64 (std.add .i64 (std.add .i64 (std.add .i64 (std.add .i64 (std.add .i64 (std.add .i64 (std.add .i64 (std.add .i64 (std.add .i64 (std.add .i64 (std.add .i64 (std.add .i64 (std.add .i64 (std.add .i64 (std.add .i64 (std.add .i64 (std.add .i64 (std.add .i64 (std.add .i64 v1 1) 1) 1) 1) 1) 1) 1) 1) 1) 1) 1) 1) 1) 1) 1) 1) 1) 1) 1) 1) 1, std.add .i64 v2 1))))))))))))))))))))))))
 (some (.inr (.inr v1)))
/-- laws.heldEditS -/
def Fq12 (a0 : List TE) (a1 : Int) : Option (Int) :=
 (whileP (σ := Int × Int) (ρ := (Int) ⊕ (Int)) (Lq12_x3 a0) (a1, 0)).bind fun y4 =>
 (match y4 with
 | .inl y4k0 => (
 letO y4k0 fun w62 =>
 some w62)
 | .inr y4m0 =>
 letO y4m0 fun y4k1 =>
 letO y4k1 fun w63 =>
 some w63)
theorem runq12 (a0 : List TE) (a1 : Int) (r : Int) (h : Fq12 a0 a1 = some r) : Fun prog 144 [.c (.bs (len a0) 21 (row gd (eE) a0)), .c (wi a1)] [] (.c (wi r)) [] true := by
 refine ow [] func144 ntmps144 ?_; unfold Fq12 at h; unfold Lq12_x3 at h; have hfq5 := @runq5; generalize hU_ : @len = U_, hG_ : @gd = G_, hA : std = A, hP : prog = P at *; cbv
 revert h; refine lc (fun x => (sp 230 [(0, .c (.bs (U_ a0) 21 (row G_ (eE) a0))), (1, .c (wi x.1)), (5, .c (wi x.2))] [])) (fun y e s => (match y with | .inl w => e = .ret /\ s.le (sp 230 [(4, .c (wi w))] []) | .inr w0 => (fun (w : Int) => e = .exit 0 /\ s.le (sp 230 [(1, .c (wi w))] [])) w0)) zb ?_ ?_
 ·rintro ⟨v1, v2⟩ z h K hK hY; replace h := oz (oz h); dsimp only at h; cbv; revert h; refine fk ?_ ?_ <;> intro h <;> cbv
  ·revert h; refine ra fun c15 h => ?_; revert h; refine fk ?_ ?_ <;> intro h <;> cbv
   ·exact dy
   revert h; refine ra fun c16 h => ?_; revert h; refine fk ?_ ?_ <;> intro h <;> cbv
   ·exact dy
   revert h; refine ra fun c17 h => ?_; revert h; refine fk ?_ ?_ <;> intro h <;> cbv
   ·exact dy
   revert h; refine ra fun c18 h => ?_; revert h; refine rk0 (hfq5 _) fun y19 h => ?_; cbv; revert h; refine fk ?_ ?_ <;> intro h <;> cbv
   ·exact dy
   revert h; refine ra fun c21 h => ?_; revert h; refine fk ?_ ?_ <;> intro h <;> cbv
   ·exact dy
   revert h; refine ra fun c22 h => ?_; revert h; refine fk ?_ ?_ <;> intro h <;> cbv
   ·exact dy
   revert h; refine ra fun c23 h => ?_; revert h; refine fk ?_ ?_ <;> intro h <;> cbv
   ·exact dy
   revert h; refine ra fun c24 h => ?_; revert h; refine fk ?_ ?_ <;> intro h <;> cbv
   ·exact dy
   revert h; refine ra fun c25 h => ?_; revert h; refine fk ?_ ?_ <;> intro h <;> cbv
   ·exact dy
   revert h; refine ra fun c26 h => ?_; revert h; refine fk ?_ ?_ <;> intro h <;> cbv
   ·exact dy
   revert h; refine ra fun c27 h => ?_; revert h; refine fk ?_ ?_ <;> intro h <;> cbv
   ·exact dy
   revert h; refine ra fun c28 h => ?_; revert h; refine fk ?_ ?_ <;> intro h <;> cbv
   ·exact dy
   revert h; refine ra fun c29 h => ?_; revert h; refine rk0 (hfq5 _) fun y30 h => ?_; cbv; revert h; refine fk ?_ ?_ <;> intro h <;> cbv
   ·exact dy
   revert h; refine ra fun c32 h => ?_; revert h; refine fk ?_ ?_ <;> intro h <;> cbv
   ·exact dy
   revert h; refine ra fun c33 h => ?_; revert h; refine fk ?_ ?_ <;> intro h <;> cbv
   ·exact dy
   revert h; refine ra fun c34 h => ?_; revert h; refine fk ?_ ?_ <;> intro h <;> cbv
   ·exact dy
   revert h; refine ra fun c35 h => ?_; revert h; refine fk ?_ ?_ <;> intro h <;> cbv
   ·exact dy
   revert h; refine ra fun c36 h => ?_; revert h; refine fk ?_ ?_ <;> intro h <;> cbv
   ·exact dy
   revert h; refine ra fun c37 h => ?_; revert h; refine fk ?_ ?_ <;> intro h <;> cbv
   ·exact dy
   revert h; refine ra fun c38 h => ?_; revert h; refine fk ?_ ?_ <;> intro h <;> cbv
   ·exact dy
   revert h; refine ra fun c39 h => ?_; revert h; refine fk ?_ ?_ <;> intro h <;> cbv
   ·exact dy
   exact dm
  exact dy
 intro y4 h e13 s14 q12 hne; rcases y4 with y4k0 | y4m0
 ·replace h := h; obtain ⟨rfl, q12⟩ := q12; revert h; refine rz fun h => ?_; cbv; injection h with h; subst h; exact ⟨_, q12, lR _, zo, rfl⟩
 ·revert h; refine rz fun h => ?_; obtain ⟨rfl, q12⟩ := q12; revert h; refine rz fun h => ?_; cbv; refine ⟨_, q12, ?_⟩; cbv; exact df

def Lq58_x3 (a0 : List (List TE)) : (Int × Int) -> Option ((Int × Int) ⊕ ((Int) ⊕ (Int))) := fun x3 =>
 letO x3.1 fun v1 =>
 letO x3.2 fun v2 =>
 br (std.lt v2 (std.ofN (len a0)))
 (req (std.inR v2 (len a0)) <|
 (Fq12 (gd a0 (std.toN v2)) v1).bind fun y16 =>
 br (std.lt y16 0)
 (some (.inr (.inl (-1))))
 (some (.inl (y16, std.add .i64 v2 1))))
 (some (.inr (.inr v1)))
/-- laws.heldEditSS -/
def Fq58 (a0 : List (List TE)) (a1 : Int) : Option (Int) :=
 (whileP (σ := Int × Int) (ρ := (Int) ⊕ (Int)) (Lq58_x3 a0) (a1, 0)).bind fun y4 =>
 (match y4 with
 | .inl y4k0 => (
 letO y4k0 fun w20 =>
 some w20)
 | .inr y4m0 =>
 letO y4m0 fun y4k1 =>
 letO y4k1 fun w21 =>
 some w21)
theorem runq58 (a0 : List (List TE)) (a1 : Int) (r : Int) (h : Fq58 a0 a1 = some r) : Fun prog 81 [.c (.bs (len a0) 1 (row gd (eN len gd 21 (eE)) a0)), .c (wi a1)] [] (.c (wi r)) [] true := by
 refine ow [] func81 ntmps81 ?_; unfold Fq58 at h; unfold Lq58_x3 at h; have hfq12 := @runq12; generalize hU_ : @len = U_, hG_ : @gd = G_, hA : std = A, hP : prog = P at *; cbv
 revert h; refine lc (fun x => (sp 21 [(0, .c (.bs (U_ a0) 1 (row G_ (eN U_ G_ 21 (eE)) a0))), (1, .c (wi x.1)), (5, .c (wi x.2))] [])) (fun y e s => (match y with | .inl w => e = .ret /\ s.le (sp 21 [(4, .c (wi w))] []) | .inr w0 => (fun (w : Int) => e = .exit 0 /\ s.le (sp 21 [(1, .c (wi w))] [])) w0)) zb ?_ ?_
 ·rintro ⟨v1, v2⟩ z h K hK hY; replace h := oz (oz h); dsimp only at h; cbv; revert h; refine fk ?_ ?_ <;> intro h <;> cbv
  ·revert h; refine ra fun c15 h => ?_; revert h; refine rk0 (hfq12 _ _) fun y16 h => ?_; cbv; revert h; refine fk ?_ ?_ <;> intro h <;> cbv
   ·exact dy
   exact dm
  exact dy
 intro y4 h e13 s14 q12 hne; rcases y4 with y4k0 | y4m0
 ·replace h := h; obtain ⟨rfl, q12⟩ := q12; revert h; refine rz fun h => ?_; cbv; injection h with h; subst h; exact ⟨_, q12, lR _, zo, rfl⟩
 ·revert h; refine rz fun h => ?_; obtain ⟨rfl, q12⟩ := q12; revert h; refine rz fun h => ?_; cbv; refine ⟨_, q12, ?_⟩; cbv; exact df
set_option maxHeartbeats 4000000
/-- laws.heldEditor -/
def Fq28 (a0 : TD_) (a1 : Int) : Option (Int) :=
 (Fq151 a0.fr_ a1).bind fun y1 =>
 br (std.lt y1 0)
 (some (-1))
 ((Fq58 a0.fU y1).bind fun y3 =>
 br (std.lt y3 0)
 (some (-1))
 ((Fq58 a0.fD y3).bind fun y5 =>
 br (std.lt y5 0)
 (some (-1))
 (some y5)))
theorem runq28 (a0 : TD_) (a1 : Int) (r : Int) (h : Fq28 a0 a1 = some r) : Fun prog 35 [.agg [.bs (len a0.fr_.fC) 4 (row gd (eC len gd) a0.fr_.fC), .bs (len a0.fU) 1 (row gd (eN len gd 21 (eE)) a0.fU), .bs (len a0.fD) 1 (row gd (eN len gd 21 (eE)) a0.fD)], .c (wi a1)] [] (.c (wi r)) [] true := by
 refine ow [] func35 ntmps35 ?_; unfold Fq28 at h; have hfq58 := @runq58; have hfq151 := @runq151; generalize hU_ : @len = U_, hG_ : @gd = G_, hA : std = A, hP : prog = P at *; cbv; revert h; refine rk0 (hfq151 _ _) fun y1 h => ?_; cbv; revert h; refine fk ?_ ?_ <;> intro h <;> cbv
 ·exact df
 revert h; refine rk0 (hfq58 _ _) fun y3 h => ?_; cbv; revert h; refine fk ?_ ?_ <;> intro h <;> cbv
 ·exact df
 revert h; refine rk0 (hfq58 _ _) fun y5 h => ?_; cbv; revert h; refine fk ?_ ?_ <;> intro h <;> cbv
 ·exact df
 exact df

/-- spec.l13Back -/
def Fq96 (a0 : TL) (a1 : List (List TE)) (a2 : List (List TE)) : Option (TL × (List (List TE)) × (List (List TE)) × Int) :=
 br (std.eq (std.ofN (len a1)) 0)
 (some ((TL.mk ([] : List TC)), ([] : List (List TE)), ([] : List (List TE)), (5 : Int)))
 (req (std.inR (std.sub .i64 (std.ofN (len a1)) 1) (len a1)) <|
 (Fq45 a0 (gd a1 (std.toN (std.sub .i64 (std.ofN (len a1)) 1)))).bind fun y2 =>
 br (std.not (std.eq y2.2.2.1 0))
 (some ((TL.mk ([] : List TC)), ([] : List (List TE)), ([] : List (List TE)), y2.2.2.1))
 (req (std.upTo (std.sub .i64 (std.ofN (len a1)) 1) (len a1)) <|
 req (std.upTo 0 (std.toN (std.sub .i64 (std.ofN (len a1)) 1))) <|
 letO (subL a1 (std.toN 0) (std.toN (std.sub .i64 (std.ofN (len a1)) 1))) fun l4 =>
 (Fq46 l4).bind fun y7 =>
 (Fq71 a2 y2.2.1).bind fun y9 =>
 some (y2.1, y7, y9, (0 : Int))))
theorem runq96 (a0 : TL) (a1 : List (List TE)) (a2 : List (List TE)) (r : TL × (List (List TE)) × (List (List TE)) × Int) (h : Fq96 a0 a1 a2 = some r) : Fun prog 82 [.agg [.bs (len a0.fC) 4 (row gd (eC len gd) a0.fC)], .c (.bs (len a1) 1 (row gd (eN len gd 21 (eE)) a1)), .c (.bs (len a2) 1 (row gd (eN len gd 21 (eE)) a2))] [] (.tup [.agg [.os 64000 0 (len r.1.fC)], .c (.os 64002 0 (len r.2.1)), .c (.os 64004 0 (len r.2.2.1)), .c (wi r.2.2.2)]) [(64000, .arr .rw [] (len r.1.fC) 4 (row gd (oC len gd) r.1.fC)), (64002, .arr .rw [] (len r.2.1) 1 (row gd (oN len gd 21 (eE)) r.2.1)), (64004, .arr .rw [] (len r.2.2.1) 1 (row gd (oN len gd 21 (eE)) r.2.2.1))] true := by
 refine ow [] func82 ntmps82 ?_ (hv := (fun _ => ⟨(by simp [AV.flat, AV.flat1, AC.flat]), ⟨fun i _ j _ => fl_oncCell _ _, fun i _ j _ => fl_oncL (vl_encEdit) _ _, fun i _ j _ => fl_oncL (vl_encEdit) _ _, tv⟩⟩)); unfold Fq96 at h; have hfq45 := @runq45; have hfq46 := @runq46; have hfq71 := @runq71
 generalize hU_ : @len = U_, hG_ : @gd = G_, hA : std = A, hP : prog = P at *; cbv; revert h; refine fk ?_ ?_ <;> intro h <;> cbv
 ·injection h with h; subst h
  refine ⟨(sp 45 [(6, .c (.ptr 384 0)), (7, .c (.os 64002 0 (U_ ([] : List (List TE))))), (8, .c (.os 64004 0 (U_ ([] : List (List TE))))), (9, .c (wi 5))] [(384, .var [.os 64000 0 (U_ ([] : List TC))]), (64002, .arr .rw [] (U_ ([] : List (List TE))) 1 (row G_ (oN U_ G_ 21 (eE)) ([] : List (List TE)))), (64004, .arr .rw [] (U_ ([] : List (List TE))) 1 (row G_ (oN U_ G_ 21 (eE)) ([] : List (List TE)))), (64000, .arr .rw [] (U_ ([] : List TC)) 4 (row G_ (oC U_ G_) ([] : List TC)))]), ?_, ?_⟩
  ·refine St.le_trans (le_nilV 384 0 64000 4 (row G_ (oC U_ G_) ([] : List TC)) (by decide) (by decide) rfl rfl) ?_; refine St.le_trans (le_nilT 7 64002 1 (row G_ (oN U_ G_ 21 (eE)) ([] : List (List TE))) (by decide) rfl) ?_; refine St.le_trans (le_nilT 8 64004 1 (row G_ (oN U_ G_ 21 (eE)) ([] : List (List TE))) (by decide) rfl) ?_; subst hU_; exact zb
  ·subst hU_; exact ⟨lR _, zo, rfl⟩
 revert h; refine ra fun c1 h => ?_; revert h; refine rk [] [(64000, 1728), (64002, 1730)] (hfq45 _ _) (fun _ => zf) fun y2 h => ⟨_, rfl, _, _, rfl, fun _ _ _ _ => .refl _, _, _, rfl, fun _ _ _ _ => .refl _, ?_⟩
 cbv; revert h; refine fk ?_ ?_ <;> intro h <;> cbv
 ·injection h with h; subst h
  refine ⟨(sp 45 [(6, .c (.ptr 384 0)), (7, .c (.os 64002 0 (U_ ([] : List (List TE))))), (8, .c (.os 64004 0 (U_ ([] : List (List TE))))), (9, .c (wi y2.2.2.1))] [(384, .var [.os 64000 0 (U_ ([] : List TC))]), (64002, .arr .rw [] (U_ ([] : List (List TE))) 1 (row G_ (oN U_ G_ 21 (eE)) ([] : List (List TE)))), (64004, .arr .rw [] (U_ ([] : List (List TE))) 1 (row G_ (oN U_ G_ 21 (eE)) ([] : List (List TE)))), (64000, .arr .rw [] (U_ ([] : List TC)) 4 (row G_ (oC U_ G_) ([] : List TC)))]), ?_, ?_⟩
  ·refine St.le_trans (le_nilV 384 0 64000 4 (row G_ (oC U_ G_) ([] : List TC)) (by decide) (by decide) rfl rfl) ?_; refine St.le_trans (le_nilT 7 64002 1 (row G_ (oN U_ G_ 21 (eE)) ([] : List (List TE))) (by decide) rfl) ?_; refine St.le_trans (le_nilT 8 64004 1 (row G_ (oN U_ G_ 21 (eE)) ([] : List (List TE))) (by decide) rfl) ?_; subst hU_; exact zb
  ·subst hU_; exact ⟨lR _, zo, rfl⟩
 revert h; refine rq fun c5 => rq fun c6 => rl fun l4 hl4 h => ?_; refine And.intro (by first | exact ⟨c5, c6, tv⟩ | exact ⟨c5, c6⟩) ?_; refine ⟨.c (.bs (U_ l4) 1 (row G_ (eN U_ G_ 21 (eE)) l4)), ?_, ?_⟩
 ·subst hG_ hU_ hA; exact le_sub c5 c6 hl4
 cbv; revert h; refine rk [] [(64000, 2624)] (hfq46 _) (fun _ => zf) fun y7 h => ⟨_, rfl, _, _, rfl, fun _ _ _ _ => .refl _, ?_⟩
 cbv; revert h; refine rk [(5, 1730)] [(64000, 2816)] (hfq71 _ _) (fun _ => zf) fun y9 h => ⟨_, rfl, _, _, rfl, fun _ _ _ _ => .refl _, ?_⟩
 cbv; injection h with h; subst h; exact ⟨_, St.le_trans (le_ren 1728 64000 (by decide) rfl) (St.le_trans (le_ren 2624 64002 (by decide) rfl) ((le_ren 2816 64004 (by decide) rfl))), lR _, zo, rfl⟩

/-- impl.back -/
def Fq93 (a0 : TL) (a1 : List (List TE)) (a2 : List (List TE)) : Option (TL × (List (List TE)) × (List (List TE)) × Int) :=
 br (std.eq (std.ofN (len a1)) 0)
 (some ((TL.mk ([] : List TC)), ([] : List (List TE)), ([] : List (List TE)), (5 : Int)))
 (req (std.inR (std.sub .i64 (std.ofN (len a1)) 1) (len a1)) <|
 (Fq44 a0 (gd a1 (std.toN (std.sub .i64 (std.ofN (len a1)) 1)))).bind fun y2 =>
 br (std.not (std.eq y2.2.2.1 0))
 (some ((TL.mk ([] : List TC)), ([] : List (List TE)), ([] : List (List TE)), y2.2.2.1))
 (req (std.upTo (std.sub .i64 (std.ofN (len a1)) 1) (len a1)) <|
 req (std.upTo 0 (std.toN (std.sub .i64 (std.ofN (len a1)) 1))) <|
 letO (subL a1 (std.toN 0) (std.toN (std.sub .i64 (std.ofN (len a1)) 1))) fun l4 =>
 (Fq47 l4).bind fun y7 =>
 (Fq102 a2 y2.2.1).bind fun y9 =>
 some (y2.1, y7, y9, (0 : Int))))
theorem runq93 (a0 : TL) (a1 : List (List TE)) (a2 : List (List TE)) (r : TL × (List (List TE)) × (List (List TE)) × Int) (h : Fq93 a0 a1 a2 = some r) : Fun prog 83 [.agg [.bs (len a0.fC) 4 (row gd (eC len gd) a0.fC)], .c (.bs (len a1) 1 (row gd (eN len gd 21 (eE)) a1)), .c (.bs (len a2) 1 (row gd (eN len gd 21 (eE)) a2))] [] (.tup [.agg [.os 64000 0 (len r.1.fC)], .c (.os 64002 0 (len r.2.1)), .c (.os 64004 0 (len r.2.2.1)), .c (wi r.2.2.2)]) [(64000, .arr .rw [] (len r.1.fC) 4 (row gd (oC len gd) r.1.fC)), (64002, .arr .rw [] (len r.2.1) 1 (row gd (oN len gd 21 (eE)) r.2.1)), (64004, .arr .rw [] (len r.2.2.1) 1 (row gd (oN len gd 21 (eE)) r.2.2.1))] true := by
 refine ow [] func83 ntmps83 ?_ (hv := (fun _ => ⟨(by simp [AV.flat, AV.flat1, AC.flat]), ⟨fun i _ j _ => fl_oncCell _ _, fun i _ j _ => fl_oncL (vl_encEdit) _ _, fun i _ j _ => fl_oncL (vl_encEdit) _ _, tv⟩⟩)); unfold Fq93 at h; have hfq44 := @runq44; have hfq47 := @runq47; have hfq102 := @runq102
 generalize hU_ : @len = U_, hG_ : @gd = G_, hA : std = A, hP : prog = P at *; cbv; revert h; refine fk ?_ ?_ <;> intro h <;> cbv
 ·injection h with h; subst h
  refine ⟨(sp 44 [(6, .c (.ptr 384 0)), (7, .c (.os 64002 0 (U_ ([] : List (List TE))))), (8, .c (.os 64004 0 (U_ ([] : List (List TE))))), (9, .c (wi 5))] [(384, .var [.os 64000 0 (U_ ([] : List TC))]), (64002, .arr .rw [] (U_ ([] : List (List TE))) 1 (row G_ (oN U_ G_ 21 (eE)) ([] : List (List TE)))), (64004, .arr .rw [] (U_ ([] : List (List TE))) 1 (row G_ (oN U_ G_ 21 (eE)) ([] : List (List TE)))), (64000, .arr .rw [] (U_ ([] : List TC)) 4 (row G_ (oC U_ G_) ([] : List TC)))]), ?_, ?_⟩
  ·refine St.le_trans (le_nilV 384 0 64000 4 (row G_ (oC U_ G_) ([] : List TC)) (by decide) (by decide) rfl rfl) ?_; refine St.le_trans (le_nilT 7 64002 1 (row G_ (oN U_ G_ 21 (eE)) ([] : List (List TE))) (by decide) rfl) ?_; refine St.le_trans (le_nilT 8 64004 1 (row G_ (oN U_ G_ 21 (eE)) ([] : List (List TE))) (by decide) rfl) ?_; subst hU_; exact zb
  ·subst hU_; exact ⟨lR _, zo, rfl⟩
 revert h; refine ra fun c1 h => ?_; revert h; refine rk [] [(64000, 1728), (64002, 1730)] (hfq44 _ _) (fun _ => zf) fun y2 h => ⟨_, rfl, _, _, rfl, fun _ _ _ _ => .refl _, _, _, rfl, fun _ _ _ _ => .refl _, ?_⟩
 cbv; revert h; refine fk ?_ ?_ <;> intro h <;> cbv
 ·injection h with h; subst h
  refine ⟨(sp 44 [(6, .c (.ptr 384 0)), (7, .c (.os 64002 0 (U_ ([] : List (List TE))))), (8, .c (.os 64004 0 (U_ ([] : List (List TE))))), (9, .c (wi y2.2.2.1))] [(384, .var [.os 64000 0 (U_ ([] : List TC))]), (64002, .arr .rw [] (U_ ([] : List (List TE))) 1 (row G_ (oN U_ G_ 21 (eE)) ([] : List (List TE)))), (64004, .arr .rw [] (U_ ([] : List (List TE))) 1 (row G_ (oN U_ G_ 21 (eE)) ([] : List (List TE)))), (64000, .arr .rw [] (U_ ([] : List TC)) 4 (row G_ (oC U_ G_) ([] : List TC)))]), ?_, ?_⟩
  ·refine St.le_trans (le_nilV 384 0 64000 4 (row G_ (oC U_ G_) ([] : List TC)) (by decide) (by decide) rfl rfl) ?_; refine St.le_trans (le_nilT 7 64002 1 (row G_ (oN U_ G_ 21 (eE)) ([] : List (List TE))) (by decide) rfl) ?_; refine St.le_trans (le_nilT 8 64004 1 (row G_ (oN U_ G_ 21 (eE)) ([] : List (List TE))) (by decide) rfl) ?_; subst hU_; exact zb
  ·subst hU_; exact ⟨lR _, zo, rfl⟩
 revert h; refine rq fun c5 => rq fun c6 => rl fun l4 hl4 h => ?_; refine And.intro (by first | exact ⟨c5, c6, tv⟩ | exact ⟨c5, c6⟩) ?_; refine ⟨.c (.bs (U_ l4) 1 (row G_ (eN U_ G_ 21 (eE)) l4)), ?_, ?_⟩
 ·subst hG_ hU_ hA; exact le_sub c5 c6 hl4
 cbv; revert h; refine rk [] [(64000, 2560)] (hfq47 _) (fun _ => zf) fun y7 h => ⟨_, rfl, _, _, rfl, fun _ _ _ _ => .refl _, ?_⟩
 cbv; revert h; refine rk [(5, 1730)] [(64000, 2752)] (hfq102 _ _) (fun _ => zf) fun y9 h => ⟨_, rfl, _, _, rfl, fun _ _ _ _ => .refl _, ?_⟩
 cbv; injection h with h; subst h; exact ⟨_, St.le_trans (le_ren 1728 64000 (by decide) rfl) (St.le_trans (le_ren 2560 64002 (by decide) rfl) ((le_ren 2752 64004 (by decide) rfl))), lR _, zo, rfl⟩
set_option maxHeartbeats 4000000
theorem op_9 (d : Nat) : Opens T (d + 1) 9 (clS) (wfS) := op_str (show T 9 = some d9 from rfl) rfl
theorem op_2 (d : Nat) : Opens T (d + 1) 2 (clI .i64) (wfI .i64) := op_int .i64 (show T 2 = some d2 from rfl) rfl
def clRect (e : TRect) : List AC := clI .i64 e.fX0 ++ (clI .i64 e.fY0 ++ (clI .i64 e.fX1 ++ (clI .i64 e.fY1 ++ ([]))))
def wfRect (e : TRect) : Prop := wfI .i64 e.fX0 /\ wfI .i64 e.fY0 /\ wfI .i64 e.fX1 /\ wfI .i64 e.fY1
theorem op_26 (d : Nat) : Opens T (d + 2) 26 (clRect) (wfRect) := by
  intro cs hs
  obtain ⟨a0, b0, rfl, h0, a1, b1, rfl, h1, a2, b2, rfl, h2, a3, b3, rfl, h3, rfl⟩ := hs
  obtain ⟨e0, w0, r0⟩ := op_2 (d + 0) a0 h0
  obtain ⟨e1, w1, r1⟩ := op_2 (d + 0) a1 h1
  obtain ⟨e2, w2, r2⟩ := op_2 (d + 0) a2 h2
  obtain ⟨e3, w3, r3⟩ := op_2 (d + 0) a3 h3
  exact ⟨TRect.mk e0 e1 e2 e3, ⟨w0, w1, w2, w3⟩, rlist_app r0 (rlist_app r1 (rlist_app r2 (rlist_app r3 (trivial))))⟩
def clShape (e : TS) : List AC := clI .i64 e.fy ++ (clRect e.fb ++ ([]))
def wfShape (e : TS) : Prop := wfI .i64 e.fy /\ wfRect e.fb
theorem op_28 (d : Nat) : Opens T (d + 3) 28 (clShape) (wfShape) := by
  intro cs hs
  obtain ⟨a0, b0, rfl, h0, a1, b1, rfl, h1, rfl⟩ := hs
  obtain ⟨e0, w0, r0⟩ := op_2 (d + 1) a0 h0
  obtain ⟨e1, w1, r1⟩ := op_26 (d + 0) a1 h1
  exact ⟨TS.mk e0 e1, ⟨w0, w1⟩, rlist_app r0 (rlist_app r1 (trivial))⟩
theorem op_163 (d : Nat) : Opens T (d + 4) 163 (clL 5 (eS)) (wfL wfShape) := op_slice (e := 28) (sz := 5) (show T 163 = some d163 from rfl) rfl (show T 28 = some d28 from rfl) rfl (fun x j hj => by match j, hj with | 0, _ => rfl | 1, _ => rfl | 2, _ => rfl | 3, _ => rfl | 4, _ => rfl | (j_ + 5), h_ => omega) (op_28 d)
def clPoint (e : TPoint) : List AC := clI .i64 e.fX ++ (clI .i64 e.fY ++ ([]))
def wfPoint (e : TPoint) : Prop := wfI .i64 e.fX /\ wfI .i64 e.fY
theorem op_30 (d : Nat) : Opens T (d + 2) 30 (clPoint) (wfPoint) := by
  intro cs hs
  obtain ⟨a0, b0, rfl, h0, a1, b1, rfl, h1, rfl⟩ := hs
  obtain ⟨e0, w0, r0⟩ := op_2 (d + 0) a0 h0
  obtain ⟨e1, w1, r1⟩ := op_2 (d + 0) a1 h1
  exact ⟨TPoint.mk e0 e1, ⟨w0, w1⟩, rlist_app r0 (rlist_app r1 (trivial))⟩
def clLabel (e : TB) : List AC := clI .i64 e.fy ++ (clPoint e.fa ++ (clS e.fN ++ ([])))
def wfLabel (e : TB) : Prop := wfI .i64 e.fy /\ wfPoint e.fa /\ wfS e.fN
theorem op_32 (d : Nat) : Opens T (d + 3) 32 (clLabel) (wfLabel) := by
  intro cs hs
  obtain ⟨a0, b0, rfl, h0, a1, b1, rfl, h1, a2, b2, rfl, h2, rfl⟩ := hs
  obtain ⟨e0, w0, r0⟩ := op_2 (d + 1) a0 h0
  obtain ⟨e1, w1, r1⟩ := op_30 (d + 0) a1 h1
  obtain ⟨e2, w2, r2⟩ := op_9 (d + 1) a2 h2
  exact ⟨TB.mk e0 e1 e2, ⟨w0, w1, w2⟩, rlist_app r0 (rlist_app r1 (rlist_app r2 (trivial)))⟩
theorem op_164 (d : Nat) : Opens T (d + 4) 164 (clL 4 (eL)) (wfL wfLabel) := op_slice (e := 32) (sz := 4) (show T 164 = some d164 from rfl) rfl (show T 32 = some d32 from rfl) rfl (fun x j hj => by match j, hj with | 0, _ => rfl | 1, _ => rfl | 2, _ => rfl | 3, _ => rfl | (j_ + 4), h_ => omega) (op_32 d)
def clTransform (e : TM) : List AC := clI .i64 e.fo ++ (clI .i64 e.fX ++ (clI .i64 e.fY ++ ([])))
def wfTransform (e : TM) : Prop := wfI .i64 e.fo /\ wfI .i64 e.fX /\ wfI .i64 e.fY
theorem op_34 (d : Nat) : Opens T (d + 2) 34 (clTransform) (wfTransform) := by
  intro cs hs
  obtain ⟨a0, b0, rfl, h0, a1, b1, rfl, h1, a2, b2, rfl, h2, rfl⟩ := hs
  obtain ⟨e0, w0, r0⟩ := op_2 (d + 0) a0 h0
  obtain ⟨e1, w1, r1⟩ := op_2 (d + 0) a1 h1
  obtain ⟨e2, w2, r2⟩ := op_2 (d + 0) a2 h2
  exact ⟨TM.mk e0 e1 e2, ⟨w0, w1, w2⟩, rlist_app r0 (rlist_app r1 (rlist_app r2 (trivial)))⟩
def clInstance (e : TI) : List AC := clI .i64 e.fc ++ (clTransform e.fp ++ (clI .i64 e.fK ++ (clI .i64 e.fR ++ (clI .i64 e.fu ++ (clI .i64 e.fv ++ ([]))))))
def wfInstance (e : TI) : Prop := wfI .i64 e.fc /\ wfTransform e.fp /\ wfI .i64 e.fK /\ wfI .i64 e.fR /\ wfI .i64 e.fu /\ wfI .i64 e.fv
theorem op_36 (d : Nat) : Opens T (d + 3) 36 (clInstance) (wfInstance) := by
  intro cs hs
  obtain ⟨a0, b0, rfl, h0, a1, b1, rfl, h1, a2, b2, rfl, h2, a3, b3, rfl, h3, a4, b4, rfl, h4, a5, b5, rfl, h5, rfl⟩ := hs
  obtain ⟨e0, w0, r0⟩ := op_2 (d + 1) a0 h0
  obtain ⟨e1, w1, r1⟩ := op_34 (d + 0) a1 h1
  obtain ⟨e2, w2, r2⟩ := op_2 (d + 1) a2 h2
  obtain ⟨e3, w3, r3⟩ := op_2 (d + 1) a3 h3
  obtain ⟨e4, w4, r4⟩ := op_2 (d + 1) a4 h4
  obtain ⟨e5, w5, r5⟩ := op_2 (d + 1) a5 h5
  exact ⟨TI.mk e0 e1 e2 e3 e4 e5, ⟨w0, w1, w2, w3, w4, w5⟩, rlist_app r0 (rlist_app r1 (rlist_app r2 (rlist_app r3 (rlist_app r4 (rlist_app r5 (trivial))))))⟩
theorem op_165 (d : Nat) : Opens T (d + 4) 165 (clL 8 (eI)) (wfL wfInstance) := op_slice (e := 36) (sz := 8) (show T 165 = some d165 from rfl) rfl (show T 36 = some d36 from rfl) rfl (fun x j hj => by match j, hj with | 0, _ => rfl | 1, _ => rfl | 2, _ => rfl | 3, _ => rfl | 4, _ => rfl | 5, _ => rfl | 6, _ => rfl | 7, _ => rfl | (j_ + 8), h_ => omega) (op_36 d)
def clCell (e : TC) : List AC := clS e.fN ++ (clL 5 (eS) e.fS ++ (clL 4 (eL) e.fL ++ (clL 8 (eI) e.fI ++ ([]))))
def wfCell (e : TC) : Prop := wfS e.fN /\ wfL wfShape e.fS /\ wfL wfLabel e.fL /\ wfL wfInstance e.fI
theorem op_167 (d : Nat) : Opens T (d + 5) 167 (clCell) (wfCell) := by
  intro cs hs
  obtain ⟨a0, b0, rfl, h0, a1, b1, rfl, h1, a2, b2, rfl, h2, a3, b3, rfl, h3, rfl⟩ := hs
  obtain ⟨e0, w0, r0⟩ := op_9 (d + 3) a0 h0
  obtain ⟨e1, w1, r1⟩ := op_163 (d + 0) a1 h1
  obtain ⟨e2, w2, r2⟩ := op_164 (d + 0) a2 h2
  obtain ⟨e3, w3, r3⟩ := op_165 (d + 0) a3 h3
  exact ⟨TC.mk e0 e1 e2 e3, ⟨w0, w1, w2, w3⟩, rlist_app r0 (rlist_app r1 (rlist_app r2 (rlist_app r3 (trivial))))⟩
theorem op_22 (d : Nat) : Opens T (d + 6) 22 (clL 4 (eC len gd)) (wfL wfCell) := op_slice (e := 167) (sz := 4) (show T 22 = some d22 from rfl) rfl (show T 167 = some d167 from rfl) rfl (fun x j hj => by match j, hj with | 0, _ => rfl | 1, _ => rfl | 2, _ => rfl | 3, _ => rfl | (j_ + 4), h_ => omega) (op_167 d)
def clLibrary (e : TL) : List AC := clL 4 (eC len gd) e.fC ++ ([])
def wfLibrary (e : TL) : Prop := wfL wfCell e.fC
theorem op_24 (d : Nat) : Opens T (d + 7) 24 (clLibrary) (wfLibrary) := by
  intro cs hs
  obtain ⟨a0, b0, rfl, h0, rfl⟩ := hs
  obtain ⟨e0, w0, r0⟩ := op_22 (d + 0) a0 h0
  exact ⟨TL.mk e0, w0, rlist_app r0 (trivial)⟩
def clEdit (e : TE) : List AC := clI .i64 e.fk_ ++ (clI .i64 e.fc ++ (clI .i64 e.fx ++ (clS e.fN ++ (clShape e.fs_ ++ (clLabel e.fl_ ++ (clInstance e.fi_ ++ ([])))))))
def wfEdit (e : TE) : Prop := wfI .i64 e.fk_ /\ wfI .i64 e.fc /\ wfI .i64 e.fx /\ wfS e.fN /\ wfShape e.fs_ /\ wfLabel e.fl_ /\ wfInstance e.fi_
theorem op_38 (d : Nat) : Opens T (d + 4) 38 (clEdit) (wfEdit) := by
  intro cs hs
  obtain ⟨a0, b0, rfl, h0, a1, b1, rfl, h1, a2, b2, rfl, h2, a3, b3, rfl, h3, a4, b4, rfl, h4, a5, b5, rfl, h5, a6, b6, rfl, h6, rfl⟩ := hs
  obtain ⟨e0, w0, r0⟩ := op_2 (d + 2) a0 h0
  obtain ⟨e1, w1, r1⟩ := op_2 (d + 2) a1 h1
  obtain ⟨e2, w2, r2⟩ := op_2 (d + 2) a2 h2
  obtain ⟨e3, w3, r3⟩ := op_9 (d + 2) a3 h3
  obtain ⟨e4, w4, r4⟩ := op_28 (d + 0) a4 h4
  obtain ⟨e5, w5, r5⟩ := op_32 (d + 0) a5 h5
  obtain ⟨e6, w6, r6⟩ := op_36 (d + 0) a6 h6
  exact ⟨TE.mk e0 e1 e2 e3 e4 e5 e6, ⟨w0, w1, w2, w3, w4, w5, w6⟩, rlist_app r0 (rlist_app r1 (rlist_app r2 (rlist_app r3 (rlist_app r4 (rlist_app r5 (rlist_app r6 (trivial)))))))⟩
theorem op_62 (d : Nat) : Opens T (d + 5) 62 (clL 21 (eE)) (wfL wfEdit) := op_slice (e := 38) (sz := 21) (show T 62 = some d62 from rfl) rfl (show T 38 = some d38 from rfl) rfl (fun x j hj => by match j, hj with | 0, _ => rfl | 1, _ => rfl | 2, _ => rfl | 3, _ => rfl | 4, _ => rfl | 5, _ => rfl | 6, _ => rfl | 7, _ => rfl | 8, _ => rfl | 9, _ => rfl | 10, _ => rfl | 11, _ => rfl | 12, _ => rfl | 13, _ => rfl | 14, _ => rfl | 15, _ => rfl | 16, _ => rfl | 17, _ => rfl | 18, _ => rfl | 19, _ => rfl | 20, _ => rfl | (j_ + 21), h_ => omega) (op_38 d)
theorem op_71 (d : Nat) : Opens T (d + 6) 71 (clL 1 (eN len gd 21 (eE))) (wfL (wfL wfEdit)) := op_slice (e := 62) (sz := 1) (show T 71 = some d71 from rfl) rfl (show T 62 = some d62 from rfl) rfl (fun x j hj => by match j, hj with | 0, _ => rfl | (j_ + 1), h_ => omega) (op_62 d)
def clEditor (e : TD_) : List AC := clLibrary e.fr_ ++ (clL 1 (eN len gd 21 (eE)) e.fU ++ (clL 1 (eN len gd 21 (eE)) e.fD ++ ([])))
def wfEditor (e : TD_) : Prop := wfLibrary e.fr_ /\ wfL (wfL wfEdit) e.fU /\ wfL (wfL wfEdit) e.fD
theorem op_73 (d : Nat) : Opens T (d + 8) 73 (clEditor) (wfEditor) := by
  intro cs hs
  obtain ⟨a0, b0, rfl, h0, a1, b1, rfl, h1, a2, b2, rfl, h2, rfl⟩ := hs
  obtain ⟨e0, w0, r0⟩ := op_24 (d + 0) a0 h0
  obtain ⟨e1, w1, r1⟩ := op_71 (d + 1) a1 h1
  obtain ⟨e2, w2, r2⟩ := op_71 (d + 1) a2 h2
  exact ⟨TD_.mk e0 e1 e2, ⟨w0, w1, w2⟩, rlist_app r0 (rlist_app r1 (rlist_app r2 (trivial)))⟩
theorem open_73 {H : Type} {enc : TypeId × Value -> H} {W : World} {spare : Nat -> Bool} {held : Bool} {r : Reach} {base : Nat} {v : Value} {x : DataW H} {ps : List MemPlace}
    (hv : Value.okWide prog W r base 73 v) (h : DataW.Trod enc prog W 0 spare held 73 v x ps) : ∃ e : TD_, wfEditor e /\ RelV (RelI (fun b => b < W.heap.size) W) (.agg [.bs (len e.fr_.fC) 4 (row gd (eC len gd) e.fr_.fC), .bs (len e.fU) 1 (row gd (eN len gd 21 (eE)) e.fU), .bs (len e.fD) 1 (row gd (eN len gd 21 (eE)) e.fD)]) v :=
  opened_agg tok (op_73 0) (by kernel_rfl) (tok 73 d73 rfl).1 hv h
theorem open_62 {H : Type} {enc : TypeId × Value -> H} {W : World} {spare : Nat -> Bool} {held : Bool} {r : Reach} {base : Nat} {v : Value} {x : DataW H} {ps : List MemPlace}
    (hv : Value.okWide prog W r base 62 v) (h : DataW.Trod enc prog W 0 spare held 62 v x ps) : ∃ e : List TE, (wfL wfEdit) e /\ RelV (RelI (fun b => b < W.heap.size) W) (.c (.bs (len e) 21 (row gd (eE) e))) v := by
  refine opened_one tok (op_62 0) (fun _ => rfl) (by kernel_rfl) ?_ h
  have ht : prog.underlying 62 = some (.slice 38) := (tok 62 d62 rfl).1
  unfold Value.okWide at hv
  rw [ht] at hv
  cases v <;> first | rfl | exact False.elim hv
end
end Go.Proofs.YtohgghncmkiicaaGreat.AM
