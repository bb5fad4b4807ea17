/-
  What the functions that the law reaches compute, and that they do. No condition.
-/
import Derived.Test.YtfoefnkbiofejaaGreatAqSU
import Derived.Test.YtfoefnkbiofejaaGreatAqE
namespace Go.Proofs.YtfoefnkbiofejaaGreat.AM
noncomputable section
open Go Go.Proofs Go.RowKit Go.Proofs.Tryz
set_option linter.unusedVariables false
set_option linter.unusedSimpArgs false
set_option maxRecDepth 100000

set_option maxHeartbeats 40000000
def Lq25_x4 (a0 : List (List TE)) : (Int × (List (List TE))) -> Option ((Int × (List (List TE))) ⊕ (((List (List TE))))) := fun x4 =>
 letO x4.1 fun v2 =>
 letO x4.2 fun v3 =>
 br (std.lt v2 (std.ofN (len a0)))
 (req (std.inR v2 (len a0)) <|
 ((
 (Fq80 (gd a0 (std.toN v2))).bind fun y24 =>
 letO ([y24] : List (List TE)) fun l26 =>
 req (std.room (std.nadd (len v3) (len l26)) 24) <|
 letO (v3 ++ l26) fun l28 =>
 some l28
 ) : Option ((List (List TE)))).bind fun y17 =>
 letO y17 fun w23 =>
 some (.inl (std.add .i64 v2 1, w23)))
 (some (.inr v3))
/-- impl.copyHistory -/
def Fq25 (a0 : List (List TE)) : Option (List (List TE)) :=
 (whileP (σ := Int × (List (List TE))) (ρ := ((List (List TE)))) (Lq25_x4 a0) (0, ([] : List (List TE)))).bind fun y5 =>
 letO y5 fun y5k0 =>
 letO y5k0 fun w32 =>
 some w32
theorem runq25 (a0 : List (List TE)) (r : List (List TE)) (h : Fq25 a0 = some r) : Fun prog 80 [.c (.bs (len a0) 1 (row gd (eN len gd 21 (eE)) a0))] [] (.c (.os 64000 0 (len r))) [(64000, .arr .rw [] (len r) 1 (row gd (oN len gd 21 (eE)) r))] true := by
 refine ow [5] func80 ntmps80 ?_ (hv := (fun _ => ⟨trivial, ⟨fun i _ j _ => fl_oncL (vl_encEdit) _ _, tv⟩⟩)); unfold Fq25 at h; unfold Lq25_x4 at h; have hfq80 := @runq80; generalize hU : @len = U_, hG_ : @gd = G_, hA : std = A, hP : prog = P at *; cbv
 have e1 : 0 = U_ ([] : List (List TE)) := by subst hU; rfl
 refine ⟨_, (co e1), _, row G_ (oN U_ G_ 21 (eE)) ([] : List (List TE)), e1, wO ?_, ?_⟩
 ·intro i hi j hj; rw [<- e1] at hi; subst hG_; omega
 cbv
 revert h; refine ln (.exit 0) (fun x => (sp 20 [(3, .c (.os 384 0 (U_ x.2))), (7, .c (.bs (U_ a0) 1 (row G_ (eN U_ G_ 21 (eE)) a0))), (8, .c (wi (A.ofN (U_ a0)))), (9, .c (wi x.1))] [(384, .arr .rw [] (U_ x.2) 1 (row G_ (oN U_ G_ 21 (eE)) x.2))])) (fun w => (sp 20 [(3, .c (.os 384 0 (U_ w)))] [(384, .arr .rw [] (U_ w) 1 (row G_ (oN U_ G_ 21 (eE)) w))])) zb ?_ ?_
 ·rintro ⟨v2, v3⟩ z h K hK hY; replace h := oz (oz h); dsimp only at h; cbv; revert h; refine fk ?_ ?_ <;> intro h <;> cbv
  ·revert h; refine ra fun c16 h => ?_; revert h; refine cu (fun y17 => (sp 20 [(3, .c (.os 384 0 (U_ y17))), (7, .c (.bs (U_ a0) 1 (row G_ (eN U_ G_ 21 (eE)) a0))), (8, .c (wi (A.ofN (U_ a0)))), (9, .c (wi v2))] [(384, .arr .rw [] (U_ y17) 1 (row G_ (oN U_ G_ 21 (eE)) y17))])) ?_ fun w23 => rz fun h => ?_
   ·intro y17 S hS h; cbv; revert h; refine rk [] [(64000, 960)] (hfq80 _) (fun _ => zf) fun y24 h => ⟨_, rfl, _, _, rfl, fun _ _ _ _ => .refl _, ?_⟩
    cbv; revert h; refine rl fun l26 hl26 h => ?_; have e27 : 1 = U_ l26 := by subst hl26 hU; rfl
    refine ⟨_, (co e27), _, (pC (fun _ _ => AC.junk) 0 [.os 960 0 (U_ y24)]), e27, wO ?_, ?_⟩
    ·refine patch_one (by subst hl26 hU; rfl) ?_; exact zr
    cbv; revert h; refine rq fun c30 => rl fun l28 hl28 h => ?_; have e29 := nl hA hU hl28; refine ⟨c30, _, (co e29), _, (pC (row G_ (oN U_ G_ 21 (eE)) v3) (U_ v3) [.os 960 0 (U_ y24)]), e29, wO ?_, ?_⟩
    ·subst hU hA; refine patch_joinG (by first | (rw [hl28]; simp [len]; done) | (rw [hl28]; simp [len]; omega) | (subst_vars; simp [len])) ?_; exact zr
    cbv; rw [hl26] at hl28; injection h with h; subst h; subst hS; show St.le _ _; refine St.le_trans (le_foldP 384 0 960 rfl rfl rfl (by decide) (by subst hU; exact app_lt hl28) (by decide) rfl (fun _ _ => rfl)) ?_; exact lsp rfl zl ⟨oP (fun _ _ => rfl) (by subst hG_ hU hA; exact patch_app hl28 (Nat.le_refl _) zr), tv⟩ rfl
   cbv; exact dm
  exact dx
 intro w32 h s q13; replace h := oz (oz h); cbv; refine ⟨_, q13, ?_⟩; cbv; injection h with h; subst h; exact ⟨_, le_ren 384 64000 (by decide) rfl, lR _, zo, rfl⟩

/-- impl.push -/
def Fq37 (a0 : List (List TE)) (a1 : List TE) : Option (List (List TE)) :=
 ((
 (Fq25 a0).bind fun y8 =>
 letO ([a1] : List (List TE)) fun l10 =>
 req (std.room (std.nadd (len y8) (len l10)) 24) <|
 letO (y8 ++ l10) fun l12 =>
 some l12
 ) : Option ((List (List TE)))).bind fun y1 =>
 letO y1 fun w7 =>
 ((
 br (std.lt 6 (std.ofN (len w7)))
 (req (std.upTo (std.ofN (len w7)) (len w7)) <|
 req (std.upTo 1 (std.toN (std.ofN (len w7)))) <|
 req (std.upTo 1 (len w7)) <|
 letO (List.take (std.nsub (std.toN (std.ofN (len w7))) (std.toN 1)) (List.drop (std.nadd 0 (std.toN 1)) w7)) fun l25 =>
 req (std.nsub (std.toN (std.ofN (len w7))) (std.toN 1) = len l25) <|
 req (0 < std.nsub (std.toN (std.ofN (len w7))) (std.toN 1)) <|
 some l25)
 (some w7)
 ) : Option ((List (List TE)))).bind fun y15 =>
 letO y15 fun w21 =>
 some w21
theorem runq37 (a0 : List (List TE)) (a1 : List TE) (r : List (List TE)) (h : Fq37 a0 a1 = some r) : Fun prog 37 [.c (.bs (len a0) 1 (row gd (eN len gd 21 (eE)) a0)), .c (.os 5 0 (len a1))] [(5, .arr .rw [] (len a1) 21 (row gd (eE) a1))] (.c (.os 64000 0 (len r))) [(64000, .arr .rw [] (len r) 1 (row gd (oN len gd 21 (eE)) r))] true := by
 refine ow [1, 100013] func37 ntmps37 ?_ (hw := ⟨fun i _ j _ k hk => (noref (plain_nil (pl_encEdit _ _)) hk).elim, tv⟩) (hv := (fun _ => ⟨trivial, ⟨fun i _ j _ => fl_oncL (vl_encEdit) _ _, tv⟩⟩)); unfold Fq37 at h; have hfq25 := @runq25; generalize hU : @len = U_, hG_ : @gd = G_, hA : std = A, hP : prog = P at *; cbv
 revert h; refine cu (fun y1 => (sp 17 [(5, .c (.os 448 0 (U_ y1)))] [(448, .arr .rw [] (U_ y1) 1 (row G_ (oN U_ G_ 21 (eE)) y1))])) ?_ fun w7 => rz fun h => ?_
 ·intro y1 S hS h; cbv; revert h; refine rk [] [(64000, 448)] (hfq25 _) (fun _ => zf) fun y8 h => ⟨_, rfl, _, _, rfl, fun _ _ _ _ => .refl _, ?_⟩
  cbv; revert h; refine rl fun l10 hl10 h => ?_; have e11 : 1 = U_ l10 := by subst hl10 hU; rfl
  refine ⟨_, (co e11), _, (pC (fun _ _ => AC.junk) 0 [.os 5 0 (U_ a1)]), e11, wO ?_, ?_⟩
  ·refine patch_one (by subst hl10 hU; rfl) ?_; exact zr
  cbv; revert h; refine rq fun c14 => rl fun l12 hl12 h => ?_; have e13 := nl hA hU hl12; refine ⟨c14, _, (co e13), _, (pC (row G_ (oN U_ G_ 21 (eE)) y8) (U_ y8) [.os 5 0 (U_ a1)]), e13, wO ?_, ?_⟩
  ·subst hU hA; refine patch_joinG (by first | (rw [hl12]; simp [len]; done) | (rw [hl12]; simp [len]; omega) | (subst_vars; simp [len])) ?_; exact zr
  cbv; rw [hl10] at hl12; injection h with h; subst h; subst hS; show St.le _ _; refine St.le_trans (le_foldP 448 0 5 rfl rfl rfl (by decide) (by subst hU; exact app_lt hl12) (by decide) rfl (fun _ _ => rfl)) ?_; exact lsp rfl zl ⟨oP (fun _ _ => rfl) (by subst hG_ hU hA; exact patch_app hl12 (Nat.le_refl _) zr), tv⟩ rfl
 cbv; revert h; refine cu (fun y15 => some (sp 17 [(5, .c (.os 448 0 (U_ y15)))] [(448, .arr .rw [] (U_ y15) 1 (row G_ (oN U_ G_ 21 (eE)) y15))])) ?_ fun w21 => rz fun h => ?_
 ·intro y15 S hS h; cbv; revert h; refine fk ?_ ?_ <;> intro h <;> cbv
  ·revert h; refine rq fun c22 => rq fun c23 => rq fun c24 h => ?_; refine And.intro (by first | exact ⟨c22, c23, (fun _ => c24), tv⟩ | exact ⟨c22, c23, (fun _ => c24)⟩ | exact ⟨c22, c23, tv⟩ | exact ⟨c22, c23⟩) ?_; revert h; refine rl fun l25 hl25 => rq fun c26 => rq fun c27 h => ?_; injection h with h; subst h; subst hS; show St.le _ _
   refine St.le_trans (le_tail 5 448 (A.nadd 0 (A.toN 1)) (A.nsub (A.toN (A.ofN (U_ w7))) (A.toN 1)) c27 (by decide) rfl rfl) ?_; rw [c26]; exact lsp rfl zl ⟨oW (by subst hG_; exact fun i hi j hj => congrArg (fun x => (oN U_ gd 21 (eE)) x j) (part_gd hl25 (by rw [c26]; exact hi))), tv⟩ rfl
  exact dn
 cbv; injection h with h; subst h; exact ⟨_, le_ren 448 64000 (by decide) rfl, lR _, zo, rfl⟩

/-- impl.Commit -/
def Fq104 (a0 : TD_) (a1 : List TE) : Option (TD_ × Int) :=
 (Fq20 (TD_.mk a0.fr_ a0.fU a0.fD)).bind fun y1 =>
 br (!(y1))
 (some ((TD_.mk (TL.mk ([] : List TC)) ([] : List (List TE)) ([] : List (List TE))), (1 : Int)))
 ((Fq24 a0.fr_ a1).bind fun y3 =>
 br (std.not (std.eq y3.2.2.1 0))
 (some ((TD_.mk (TL.mk ([] : List TC)) ([] : List (List TE)) ([] : List (List TE))), y3.2.2.1))
 ((Fq37 a0.fU y3.2.1).bind fun y5 =>
 some ((TD_.mk y3.1 y5 ([] : List (List TE))), (0 : Int))))
theorem runq104 (a0 : TD_) (a1 : List TE) (r : TD_ × Int) (h : Fq104 a0 a1 = some r) : Fun prog 15 [.agg [.bs (len a0.fr_.fC) 4 (row gd (eC len gd) a0.fr_.fC), .bs (len a0.fU) 1 (row gd (eN len gd 21 (eE)) a0.fU), .bs (len a0.fD) 1 (row gd (eN len gd 21 (eE)) a0.fD)], .c (.bs (len a1) 21 (row gd (eE) a1))] [] (.tup [.agg [.os 64000 0 (len r.1.fr_.fC), .os 64002 0 (len r.1.fU), .v (.slice none 0 0)], .c (wi r.2)]) [(64000, .arr .rw [] (len r.1.fr_.fC) 4 (row gd (oC len gd) r.1.fr_.fC)), (64002, .arr .rw [] (len r.1.fU) 1 (row gd (oN len gd 21 (eE)) r.1.fU))] true := by
 refine ow [] func15 ntmps15 ?_ (hv := (fun _ => ⟨(by simp [AV.flat, AV.flat1, AC.flat]), ⟨fun i _ j _ => fl_oncCell _ _, fun i _ j _ => fl_oncL (vl_encEdit) _ _, tv⟩⟩)); unfold Fq104 at h; have hfq24 := @runq24; have hfq37 := @runq37; have hfq20 := @runq20
 generalize hU : @len = U_, hG_ : @gd = G_, hA : std = A, hP : prog = P at *; cbv; revert h; refine rk0 (hfq20 _) fun y1 h => ?_; cbv; revert h; refine fk ?_ ?_ <;> intro h <;> cbv
 ·injection h with h; subst h
  refine ⟨(sp 33 [(4, .c (.ptr 256 0)), (5, .c (wi 1))] [(256, .var [.os 64000 0 (U_ ([] : List TC)), .os 64002 0 (U_ ([] : List (List TE))), .v (.slice none 0 0)]), (64000, .arr .rw [] (U_ ([] : List TC)) 4 (row G_ (oC U_ G_) ([] : List TC))), (64002, .arr .rw [] (U_ ([] : List (List TE))) 1 (row G_ (oN U_ G_ 21 (eE)) ([] : List (List TE))))]), ?_, ?_⟩
  ·refine St.le_trans (le_nilV 256 0 64000 4 (row G_ (oC U_ G_) ([] : List TC)) (by decide) (by decide) rfl rfl) ?_; refine St.le_trans (le_nilV 256 1 64002 1 (row G_ (oN U_ G_ 21 (eE)) ([] : List (List TE))) (by decide) (by decide) rfl rfl) ?_; subst hU; exact zb
  ·subst hU; exact ⟨lR _, zo, rfl⟩
 revert h; refine rk [] [(64000, 1152), (64002, 1154)] (hfq24 _ _) (fun _ => zf) fun y3 h => ⟨_, rfl, _, _, rfl, fun _ _ _ _ => .refl _, _, _, rfl, fun _ _ _ _ => .refl _, ?_⟩
 cbv; revert h; refine fk ?_ ?_ <;> intro h <;> cbv
 ·injection h with h; subst h
  refine ⟨(sp 33 [(4, .c (.ptr 256 0)), (5, .c (wi y3.2.2.1))] [(256, .var [.os 64000 0 (U_ ([] : List TC)), .os 64002 0 (U_ ([] : List (List TE))), .v (.slice none 0 0)]), (64000, .arr .rw [] (U_ ([] : List TC)) 4 (row G_ (oC U_ G_) ([] : List TC))), (64002, .arr .rw [] (U_ ([] : List (List TE))) 1 (row G_ (oN U_ G_ 21 (eE)) ([] : List (List TE))))]), ?_, ?_⟩
  ·refine St.le_trans (le_nilV 256 0 64000 4 (row G_ (oC U_ G_) ([] : List TC)) (by decide) (by decide) rfl rfl) ?_; refine St.le_trans (le_nilV 256 1 64002 1 (row G_ (oN U_ G_ 21 (eE)) ([] : List (List TE))) (by decide) (by decide) rfl rfl) ?_; subst hU; exact zb
  ·subst hU; exact ⟨lR _, zo, rfl⟩
 revert h; refine rk [(5, 1154)] [(64000, 1984)] (hfq37 _ _) (fun _ => zf) fun y5 h => ⟨_, rfl, _, _, rfl, fun _ _ _ _ => .refl _, ?_⟩
 cbv; injection h with h; subst h; exact ⟨_, St.le_trans (le_ren 1152 64000 (by decide) rfl) ((le_ren 1984 64002 (by decide) rfl)), lR _, zo, rfl⟩

/-- impl.back -/
def Fq50 (a0 : TL) (a1 : List (List TE)) (a2 : List (List TE)) : Option (TL × (List (List TE)) × (List (List TE)) × Int) :=
 br (std.eq (std.ofN (len a1)) 0)
 (some ((TL.mk ([] : List TC)), ([] : List (List TE)), ([] : List (List TE)), (5 : Int)))
 (req (std.inR (std.sub .i64 (std.ofN (len a1)) 1) (len a1)) <|
 (Fq24 a0 (gd a1 (std.toN (std.sub .i64 (std.ofN (len a1)) 1)))).bind fun y2 =>
 br (std.not (std.eq y2.2.2.1 0))
 (some ((TL.mk ([] : List TC)), ([] : List (List TE)), ([] : List (List TE)), y2.2.2.1))
 (req (std.upTo (std.sub .i64 (std.ofN (len a1)) 1) (len a1)) <|
 req (std.upTo 0 (std.toN (std.sub .i64 (std.ofN (len a1)) 1))) <|
 letO (subL a1 (std.toN 0) (std.toN (std.sub .i64 (std.ofN (len a1)) 1))) fun l4 =>
 (Fq25 l4).bind fun y7 =>
 (Fq37 a2 y2.2.1).bind fun y9 =>
 some (y2.1, y7, y9, (0 : Int))))
theorem runq50 (a0 : TL) (a1 : List (List TE)) (a2 : List (List TE)) (r : TL × (List (List TE)) × (List (List TE)) × Int) (h : Fq50 a0 a1 a2 = some r) : Fun prog 38 [.agg [.bs (len a0.fC) 4 (row gd (eC len gd) a0.fC)], .c (.bs (len a1) 1 (row gd (eN len gd 21 (eE)) a1)), .c (.bs (len a2) 1 (row gd (eN len gd 21 (eE)) a2))] [] (.tup [.agg [.os 64000 0 (len r.1.fC)], .c (.os 64002 0 (len r.2.1)), .c (.os 64004 0 (len r.2.2.1)), .c (wi r.2.2.2)]) [(64000, .arr .rw [] (len r.1.fC) 4 (row gd (oC len gd) r.1.fC)), (64002, .arr .rw [] (len r.2.1) 1 (row gd (oN len gd 21 (eE)) r.2.1)), (64004, .arr .rw [] (len r.2.2.1) 1 (row gd (oN len gd 21 (eE)) r.2.2.1))] true := by
 refine ow [] func38 ntmps38 ?_ (hv := (fun _ => ⟨(by simp [AV.flat, AV.flat1, AC.flat]), ⟨fun i _ j _ => fl_oncCell _ _, fun i _ j _ => fl_oncL (vl_encEdit) _ _, fun i _ j _ => fl_oncL (vl_encEdit) _ _, tv⟩⟩)); unfold Fq50 at h; have hfq24 := @runq24; have hfq25 := @runq25; have hfq37 := @runq37
 generalize hU : @len = U_, hG_ : @gd = G_, hA : std = A, hP : prog = P at *; cbv; revert h; refine fk ?_ ?_ <;> intro h <;> cbv
 ·injection h with h; subst h
  refine ⟨(sp 44 [(6, .c (.ptr 384 0)), (7, .c (.os 64002 0 (U_ ([] : List (List TE))))), (8, .c (.os 64004 0 (U_ ([] : List (List TE))))), (9, .c (wi 5))] [(384, .var [.os 64000 0 (U_ ([] : List TC))]), (64002, .arr .rw [] (U_ ([] : List (List TE))) 1 (row G_ (oN U_ G_ 21 (eE)) ([] : List (List TE)))), (64004, .arr .rw [] (U_ ([] : List (List TE))) 1 (row G_ (oN U_ G_ 21 (eE)) ([] : List (List TE)))), (64000, .arr .rw [] (U_ ([] : List TC)) 4 (row G_ (oC U_ G_) ([] : List TC)))]), ?_, ?_⟩
  ·refine St.le_trans (le_nilV 384 0 64000 4 (row G_ (oC U_ G_) ([] : List TC)) (by decide) (by decide) rfl rfl) ?_; refine St.le_trans (le_nilT 7 64002 1 (row G_ (oN U_ G_ 21 (eE)) ([] : List (List TE))) (by decide) rfl) ?_; refine St.le_trans (le_nilT 8 64004 1 (row G_ (oN U_ G_ 21 (eE)) ([] : List (List TE))) (by decide) rfl) ?_; subst hU; exact zb
  ·subst hU; exact ⟨lR _, zo, rfl⟩
 revert h; refine ra fun c1 h => ?_; revert h; refine rk [] [(64000, 1728), (64002, 1730)] (hfq24 _ _) (fun _ => zf) fun y2 h => ⟨_, rfl, _, _, rfl, fun _ _ _ _ => .refl _, _, _, rfl, fun _ _ _ _ => .refl _, ?_⟩
 cbv; revert h; refine fk ?_ ?_ <;> intro h <;> cbv
 ·injection h with h; subst h
  refine ⟨(sp 44 [(6, .c (.ptr 384 0)), (7, .c (.os 64002 0 (U_ ([] : List (List TE))))), (8, .c (.os 64004 0 (U_ ([] : List (List TE))))), (9, .c (wi y2.2.2.1))] [(384, .var [.os 64000 0 (U_ ([] : List TC))]), (64002, .arr .rw [] (U_ ([] : List (List TE))) 1 (row G_ (oN U_ G_ 21 (eE)) ([] : List (List TE)))), (64004, .arr .rw [] (U_ ([] : List (List TE))) 1 (row G_ (oN U_ G_ 21 (eE)) ([] : List (List TE)))), (64000, .arr .rw [] (U_ ([] : List TC)) 4 (row G_ (oC U_ G_) ([] : List TC)))]), ?_, ?_⟩
  ·refine St.le_trans (le_nilV 384 0 64000 4 (row G_ (oC U_ G_) ([] : List TC)) (by decide) (by decide) rfl rfl) ?_; refine St.le_trans (le_nilT 7 64002 1 (row G_ (oN U_ G_ 21 (eE)) ([] : List (List TE))) (by decide) rfl) ?_; refine St.le_trans (le_nilT 8 64004 1 (row G_ (oN U_ G_ 21 (eE)) ([] : List (List TE))) (by decide) rfl) ?_; subst hU; exact zb
  ·subst hU; exact ⟨lR _, zo, rfl⟩
 revert h; refine rq fun c5 => rq fun c6 => rl fun l4 hl4 h => ?_; refine And.intro (by first | exact ⟨c5, c6, tv⟩ | exact ⟨c5, c6⟩) ?_; refine ⟨.c (.bs (U_ l4) 1 (row G_ (eN U_ G_ 21 (eE)) l4)), ?_, ?_⟩
 ·subst hG_ hU hA; exact le_sub c5 c6 hl4
 cbv; revert h; refine rk [] [(64000, 2560)] (hfq25 _) (fun _ => zf) fun y7 h => ⟨_, rfl, _, _, rfl, fun _ _ _ _ => .refl _, ?_⟩
 cbv; revert h; refine rk [(5, 1730)] [(64000, 2752)] (hfq37 _ _) (fun _ => zf) fun y9 h => ⟨_, rfl, _, _, rfl, fun _ _ _ _ => .refl _, ?_⟩
 cbv; injection h with h; subst h; exact ⟨_, St.le_trans (le_ren 1728 64000 (by decide) rfl) (St.le_trans (le_ren 2560 64002 (by decide) rfl) ((le_ren 2752 64004 (by decide) rfl))), lR _, zo, rfl⟩

/-- impl.Undo -/
def Fq62 (a0 : TD_) : Option (TD_ × Int) :=
 (Fq20 (TD_.mk a0.fr_ a0.fU a0.fD)).bind fun y1 =>
 br (!(y1))
 (some ((TD_.mk (TL.mk ([] : List TC)) ([] : List (List TE)) ([] : List (List TE))), (1 : Int)))
 ((Fq50 a0.fr_ a0.fU a0.fD).bind fun y3 =>
 some ((TD_.mk y3.1 y3.2.1 y3.2.2.1), y3.2.2.2))
theorem runq62 (a0 : TD_) (r : TD_ × Int) (h : Fq62 a0 = some r) : Fun prog 16 [.agg [.bs (len a0.fr_.fC) 4 (row gd (eC len gd) a0.fr_.fC), .bs (len a0.fU) 1 (row gd (eN len gd 21 (eE)) a0.fU), .bs (len a0.fD) 1 (row gd (eN len gd 21 (eE)) a0.fD)]] [] (.tup [.agg [.os 64000 0 (len r.1.fr_.fC), .os 64002 0 (len r.1.fU), .os 64004 0 (len r.1.fD)], .c (wi r.2)]) [(64000, .arr .rw [] (len r.1.fr_.fC) 4 (row gd (oC len gd) r.1.fr_.fC)), (64002, .arr .rw [] (len r.1.fU) 1 (row gd (oN len gd 21 (eE)) r.1.fU)), (64004, .arr .rw [] (len r.1.fD) 1 (row gd (oN len gd 21 (eE)) r.1.fD))] true := by
 refine ow [] func16 ntmps16 ?_ (hv := (fun _ => ⟨(by simp [AV.flat, AV.flat1, AC.flat]), ⟨fun i _ j _ => fl_oncCell _ _, fun i _ j _ => fl_oncL (vl_encEdit) _ _, fun i _ j _ => fl_oncL (vl_encEdit) _ _, tv⟩⟩)); unfold Fq62 at h; have hfq50 := @runq50; have hfq20 := @runq20
 generalize hU : @len = U_, hG_ : @gd = G_, hA : std = A, hP : prog = P at *; cbv; revert h; refine rk0 (hfq20 _) fun y1 h => ?_; cbv; revert h; refine fk ?_ ?_ <;> intro h <;> cbv
 ·injection h with h; subst h
  refine ⟨(sp 29 [(2, .c (.ptr 128 0)), (3, .c (wi 1))] [(128, .var [.os 64000 0 (U_ ([] : List TC)), .os 64002 0 (U_ ([] : List (List TE))), .os 64004 0 (U_ ([] : List (List TE)))]), (64000, .arr .rw [] (U_ ([] : List TC)) 4 (row G_ (oC U_ G_) ([] : List TC))), (64002, .arr .rw [] (U_ ([] : List (List TE))) 1 (row G_ (oN U_ G_ 21 (eE)) ([] : List (List TE)))), (64004, .arr .rw [] (U_ ([] : List (List TE))) 1 (row G_ (oN U_ G_ 21 (eE)) ([] : List (List TE))))]), ?_, ?_⟩
  ·refine St.le_trans (le_nilV 128 0 64000 4 (row G_ (oC U_ G_) ([] : List TC)) (by decide) (by decide) rfl rfl) ?_; refine St.le_trans (le_nilV 128 1 64002 1 (row G_ (oN U_ G_ 21 (eE)) ([] : List (List TE))) (by decide) (by decide) rfl rfl) ?_; refine St.le_trans (le_nilV 128 2 64004 1 (row G_ (oN U_ G_ 21 (eE)) ([] : List (List TE))) (by decide) (by decide) rfl rfl) ?_
   subst hU; exact zb
  ·subst hU; exact ⟨lR _, zo, rfl⟩
 revert h; refine rk [] [(64000, 1216), (64002, 1218), (64004, 1220)] (hfq50 _ _ _) (fun _ => zf) fun y3 h => ⟨_, rfl, _, _, rfl, fun _ _ _ _ => .refl _, _, _, rfl, fun _ _ _ _ => .refl _, _, _, rfl, fun _ _ _ _ => .refl _, ?_⟩
 cbv; injection h with h; subst h; exact ⟨_, St.le_trans (le_ren 1216 64000 (by decide) rfl) (St.le_trans (le_ren 1218 64002 (by decide) rfl) ((le_ren 1220 64004 (by decide) rfl))), lR _, zo, rfl⟩

def Lq34_x2 (a0 : List TS) (a1 : List TS) : (Int) -> Option ((Int) ⊕ ((Unit) ⊕ (Unit))) := fun x2 =>
 letO x2 fun v1 =>
 br (std.lt v1 (std.ofN (len a0)))
 (req (std.inR v1 (len a0)) <|
 req (std.inR v1 (len a1)) <|
 br (std.not (std.band (std.eq (gd a0 (std.toN v1)).fy (gd a1 (std.toN v1)).fy) (std.band (std.band (std.eq (gd a0 (std.toN v1)).fb.fX0 (gd a1 (std.toN v1)).fb.fX0) (std.band (std.eq (gd a0 (std.toN v1)).fb.fY0 (gd a1 (std.toN v1)).fb.fY0) (std.band (std.eq (gd a0 (std.toN v1)).fb.fX1 (gd a1 (std.toN v1)).fb.fX1) (std.band (std.eq (gd a0 (std.toN v1)).fb.fY1 (gd a1 (std.toN v1)).fb.fY1) (true))))) (true))))
 (some (.inr (.inl ())))
 (some (.inl (std.add .i64 v1 1))))
 (some (.inr (.inr ())))
/-- impl.Shape] -/
def Fq34 (a0 : List TS) (a1 : List TS) : Option (Bool) :=
  br (std.not (std.eq (std.ofN (len a0)) (std.ofN (len a1))))
  (some false)
  ((whileP (σ := Int) (ρ := (Unit) ⊕ (Unit)) (Lq34_x2 a0 a1) 0).bind fun y3 =>
  (match y3 with
 | .inl y3k0 => (
  some false)
 | .inr y3m0 =>
  some true))
theorem runq34 (a0 : List TS) (a1 : List TS) (r : Bool) (h : Fq34 a0 a1 = some r) : Fun prog 75 [.c (.bs (len a0) 5 (row gd (eS) a0)), .c (.bs (len a1) 5 (row gd (eS) a1))] [] (.c (.v (.bool r))) [] true := by
 refine ow [] func75 ntmps75 ?_; unfold Fq34 at h; unfold Lq34_x2 at h; generalize hU : @len = U_, hG_ : @gd = G_, hA : std = A, hP : prog = P at *; cbv; revert h; refine fk ?_ ?_ <;> intro h <;> cbv
 ·exact df
 revert h; refine lc (fun x => (sp 26 [(0, .c (.bs (U_ a0) 5 (row G_ (eS) a0))), (1, .c (.bs (U_ a1) 5 (row G_ (eS) a1))), (12, .c (wi (A.ofN (U_ a0)))), (13, .c (wi x))] [])) (fun y e s => (match y with | .inl w => e = .ret /\ s.le (sp 26 [(4, .c (.v (.bool false)))] []) | .inr w0 => (fun (w : Unit) => e = .exit 0 /\ s.le (sp 26 [] [])) w0)) zb ?_ ?_
 ·intro v1 z h K hK hY; replace h := oz h; cbv; revert h; refine fk ?_ ?_ <;> intro h <;> cbv
  ·revert h; refine ra fun c14 h => ?_; revert h; refine ra fun c15 h => ?_; revert h; refine fk ?_ ?_ <;> intro h <;> cbv
   ·exact dy
   exact dm
  exact dy
 intro y3 h e12 s13 q11 hne; rcases y3 with y3k0 | y3m0
 ·replace h := h; obtain ⟨rfl, q11⟩ := q11; cbv; injection h with h; subst h; exact ⟨_, q11, lR _, zo, rfl⟩
 ·obtain ⟨rfl, q11⟩ := q11; cbv; refine ⟨_, q11, ?_⟩; cbv; exact df
set_option maxHeartbeats 40000000
def Lq33_x2 (a0 : List TB) (a1 : List TB) : (Int) -> Option ((Int) ⊕ ((Unit) ⊕ (Unit))) := fun x2 =>
 letO x2 fun v1 =>
 br (std.lt v1 (std.ofN (len a0)))
 (req (std.inR v1 (len a0)) <|
 req (std.inR v1 (len a1)) <|
 br (std.not (std.band (std.eq (gd a0 (std.toN v1)).fy (gd a1 (std.toN v1)).fy) (std.band (std.band (std.eq (gd a0 (std.toN v1)).fa.fX (gd a1 (std.toN v1)).fa.fX) (std.band (std.eq (gd a0 (std.toN v1)).fa.fY (gd a1 (std.toN v1)).fa.fY) (true))) (std.band (std.seq (gd a0 (std.toN v1)).fN (gd a1 (std.toN v1)).fN) (true)))))
 (some (.inr (.inl ())))
 (some (.inl (std.add .i64 v1 1))))
 (some (.inr (.inr ())))
/-- impl.Label] -/
def Fq33 (a0 : List TB) (a1 : List TB) : Option (Bool) :=
  br (std.not (std.eq (std.ofN (len a0)) (std.ofN (len a1))))
  (some false)
  ((whileP (σ := Int) (ρ := (Unit) ⊕ (Unit)) (Lq33_x2 a0 a1) 0).bind fun y3 =>
  (match y3 with
 | .inl y3k0 => (
  some false)
 | .inr y3m0 =>
  some true))
theorem runq33 (a0 : List TB) (a1 : List TB) (r : Bool) (h : Fq33 a0 a1 = some r) : Fun prog 76 [.c (.bs (len a0) 4 (row gd (eL) a0)), .c (.bs (len a1) 4 (row gd (eL) a1))] [] (.c (.v (.bool r))) [] true := by
 refine ow [] func76 ntmps76 ?_; unfold Fq33 at h; unfold Lq33_x2 at h; generalize hU : @len = U_, hG_ : @gd = G_, hA : std = A, hP : prog = P at *; cbv; revert h; refine fk ?_ ?_ <;> intro h <;> cbv
 ·exact df
 revert h; refine lc (fun x => (sp 26 [(0, .c (.bs (U_ a0) 4 (row G_ (eL) a0))), (1, .c (.bs (U_ a1) 4 (row G_ (eL) a1))), (12, .c (wi (A.ofN (U_ a0)))), (13, .c (wi x))] [])) (fun y e s => (match y with | .inl w => e = .ret /\ s.le (sp 26 [(4, .c (.v (.bool false)))] []) | .inr w0 => (fun (w : Unit) => e = .exit 0 /\ s.le (sp 26 [] [])) w0)) zb ?_ ?_
 ·intro v1 z h K hK hY; replace h := oz h; cbv; revert h; refine fk ?_ ?_ <;> intro h <;> cbv
  ·revert h; refine ra fun c14 h => ?_; revert h; refine ra fun c15 h => ?_; revert h; refine fk ?_ ?_ <;> intro h <;> cbv
   ·exact dy
   exact dm
  exact dy
 intro y3 h e12 s13 q11 hne; rcases y3 with y3k0 | y3m0
 ·replace h := h; obtain ⟨rfl, q11⟩ := q11; cbv; injection h with h; subst h; exact ⟨_, q11, lR _, zo, rfl⟩
 ·obtain ⟨rfl, q11⟩ := q11; cbv; refine ⟨_, q11, ?_⟩; cbv; exact df

def Lq32_x2 (a0 : List TI) (a1 : List TI) : (Int) -> Option ((Int) ⊕ ((Unit) ⊕ (Unit))) := fun x2 =>
 letO x2 fun v1 =>
 br (std.lt v1 (std.ofN (len a0)))
 (req (std.inR v1 (len a0)) <|
 req (std.inR v1 (len a1)) <|
 br (std.not (std.band (std.eq (gd a0 (std.toN v1)).fc (gd a1 (std.toN v1)).fc) (std.band (std.band (std.eq (gd a0 (std.toN v1)).fp.fo (gd a1 (std.toN v1)).fp.fo) (std.band (std.eq (gd a0 (std.toN v1)).fp.fX (gd a1 (std.toN v1)).fp.fX) (std.band (std.eq (gd a0 (std.toN v1)).fp.fY (gd a1 (std.toN v1)).fp.fY) (true)))) (std.band (std.eq (gd a0 (std.toN v1)).fK (gd a1 (std.toN v1)).fK) (std.band (std.eq (gd a0 (std.toN v1)).fR (gd a1 (std.toN v1)).fR) (std.band (std.eq (gd a0 (std.toN v1)).fu (gd a1 (std.toN v1)).fu) (std.band (std.eq (gd a0 (std.toN v1)).fv (gd a1 (std.toN v1)).fv) (true))))))))
 (some (.inr (.inl ())))
 (some (.inl (std.add .i64 v1 1))))
 (some (.inr (.inr ())))
/-- impl.Instance] -/
def Fq32 (a0 : List TI) (a1 : List TI) : Option (Bool) :=
  br (std.not (std.eq (std.ofN (len a0)) (std.ofN (len a1))))
  (some false)
  ((whileP (σ := Int) (ρ := (Unit) ⊕ (Unit)) (Lq32_x2 a0 a1) 0).bind fun y3 =>
  (match y3 with
 | .inl y3k0 => (
  some false)
 | .inr y3m0 =>
  some true))
theorem runq32 (a0 : List TI) (a1 : List TI) (r : Bool) (h : Fq32 a0 a1 = some r) : Fun prog 77 [.c (.bs (len a0) 8 (row gd (eI) a0)), .c (.bs (len a1) 8 (row gd (eI) a1))] [] (.c (.v (.bool r))) [] true := by
 refine ow [] func77 ntmps77 ?_; unfold Fq32 at h; unfold Lq32_x2 at h; generalize hU : @len = U_, hG_ : @gd = G_, hA : std = A, hP : prog = P at *; cbv; revert h; refine fk ?_ ?_ <;> intro h <;> cbv
 ·exact df
 revert h; refine lc (fun x => (sp 26 [(0, .c (.bs (U_ a0) 8 (row G_ (eI) a0))), (1, .c (.bs (U_ a1) 8 (row G_ (eI) a1))), (12, .c (wi (A.ofN (U_ a0)))), (13, .c (wi x))] [])) (fun y e s => (match y with | .inl w => e = .ret /\ s.le (sp 26 [(4, .c (.v (.bool false)))] []) | .inr w0 => (fun (w : Unit) => e = .exit 0 /\ s.le (sp 26 [] [])) w0)) zb ?_ ?_
 ·intro v1 z h K hK hY; replace h := oz h; cbv; revert h; refine fk ?_ ?_ <;> intro h <;> cbv
  ·revert h; refine ra fun c14 h => ?_; revert h; refine ra fun c15 h => ?_; revert h; refine fk ?_ ?_ <;> intro h <;> cbv
   ·exact dy
   exact dm
  exact dy
 intro y3 h e12 s13 q11 hne; rcases y3 with y3k0 | y3m0
 ·replace h := h; obtain ⟨rfl, q11⟩ := q11; cbv; injection h with h; subst h; exact ⟨_, q11, lR _, zo, rfl⟩
 ·obtain ⟨rfl, q11⟩ := q11; cbv; refine ⟨_, q11, ?_⟩; cbv; exact df

/-- impl.sameCell -/
def Fq78 (a0 : TC) (a1 : TC) : Option (Bool) :=
 ((
 br (std.seq a0.fN a1.fN)
 ((Fq34 a0.fS a1.fS).bind fun y8 =>
 br y8
 ((Fq33 a0.fL a1.fL).bind fun y10 =>
 br y10
 ((Fq32 a0.fI a1.fI).bind fun y12 =>
 some y12)
 (some false))
 (some false))
 (some false)
 ) : Option (Bool)).bind fun y1 =>
 letO y1 fun w7 =>
 some w7
theorem runq78 (a0 : TC) (a1 : TC) (r : Bool) (h : Fq78 a0 a1 = some r) : Fun prog 34 [.agg [ws a0.fN, .bs (len a0.fS) 5 (row gd (eS) a0.fS), .bs (len a0.fL) 4 (row gd (eL) a0.fL), .bs (len a0.fI) 8 (row gd (eI) a0.fI)], .agg [ws a1.fN, .bs (len a1.fS) 5 (row gd (eS) a1.fS), .bs (len a1.fL) 4 (row gd (eL) a1.fL), .bs (len a1.fI) 8 (row gd (eI) a1.fI)]] [] (.c (.v (.bool r))) [] true := by
 refine ow [1] func34 ntmps34 ?_; unfold Fq78 at h; have hfq32 := @runq32; have hfq33 := @runq33; have hfq34 := @runq34
 generalize hU : @len = U_, hG_ : @gd = G_, hA : std = A, hP : prog = P at *; cbv; revert h; refine cu (fun y1 => (sp 31 [(4, .c (.v (.bool y1)))] [])) ?_ fun w7 => rz fun h => ?_
 ·intro y1 S hS h; cbv; revert h; refine fk ?_ ?_ <;> intro h <;> cbv
  ·revert h; refine rk0 (hfq34 _ _) fun y8 h => ?_; cbv; revert h; refine fk ?_ ?_ <;> intro h <;> cbv
   ·revert h; refine rk0 (hfq33 _ _) fun y10 h => ?_; cbv; revert h; refine fk ?_ ?_ <;> intro h <;> cbv
    ·revert h; refine rk0 (hfq32 _ _) fun y12 h => ?_; cbv; exact dn
    exact dn
   exact dn
  exact dn
 cbv; exact df

def Lq53_x2 (a0 : List TC) (a1 : List TC) : (Int) -> Option ((Int) ⊕ ((Unit) ⊕ (Unit))) := fun x2 =>
 letO x2 fun v1 =>
 br (std.lt v1 (std.ofN (len a0)))
 (req (std.inR v1 (len a0)) <|
 req (std.inR v1 (len a1)) <|
 (Fq78 (gd a0 (std.toN v1)) (gd a1 (std.toN v1))).bind fun y16 =>
 br (!(y16))
 (some (.inr (.inl ())))
 (some (.inl (std.add .i64 v1 1))))
 (some (.inr (.inr ())))
/-- impl.Cell] -/
def Fq53 (a0 : List TC) (a1 : List TC) : Option (Bool) :=
  br (std.not (std.eq (std.ofN (len a0)) (std.ofN (len a1))))
  (some false)
  ((whileP (σ := Int) (ρ := (Unit) ⊕ (Unit)) (Lq53_x2 a0 a1) 0).bind fun y3 =>
  (match y3 with
 | .inl y3k0 => (
  some false)
 | .inr y3m0 =>
  some true))
theorem runq53 (a0 : List TC) (a1 : List TC) (r : Bool) (h : Fq53 a0 a1 = some r) : Fun prog 33 [.c (.bs (len a0) 4 (row gd (eC len gd) a0)), .c (.bs (len a1) 4 (row gd (eC len gd) a1)), .c (.fn 34 0 fun _ => .junk)] [] (.c (.v (.bool r))) [] true := by
 refine ow [] func33 ntmps33 ?_; unfold Fq53 at h; unfold Lq53_x2 at h; have hfq78 := @runq78; generalize hU : @len = U_, hG_ : @gd = G_, hA : std = A, hP : prog = P at *; cbv
 revert h; refine fk ?_ ?_ <;> intro h <;> cbv
 ·exact df
 revert h; refine lc (fun x => (sp 32 [(1, .c (.bs (U_ a1) 4 (row G_ (eC U_ G_) a1))), (2, .c (.fn 34 0 fun _ => .junk)), (15, .c (.bs (U_ a0) 4 (row G_ (eC U_ G_) a0))), (16, .c (wi (A.ofN (U_ a0)))), (17, .c (wi x))] [])) (fun y e s => (match y with | .inl w => e = .ret /\ s.le (sp 32 [(6, .c (.v (.bool false)))] []) | .inr w0 => (fun (w : Unit) => e = .exit 0 /\ s.le (sp 32 [] [])) w0)) zb ?_ ?_
 ·intro v1 z h K hK hY; replace h := oz h; cbv; revert h; refine fk ?_ ?_ <;> intro h <;> cbv
  ·revert h; refine ra fun c14 h => ?_; revert h; refine ra fun c15 h => ?_; revert h; refine rk0 (hfq78 _ _) fun y16 h => ?_; cbv; revert h; refine fk ?_ ?_ <;> intro h <;> cbv
   ·exact dy
   exact dm
  exact dy
 intro y3 h e12 s13 q11 hne; rcases y3 with y3k0 | y3m0
 ·replace h := h; obtain ⟨rfl, q11⟩ := q11; cbv; injection h with h; subst h; exact ⟨_, q11, lR _, zo, rfl⟩
 ·obtain ⟨rfl, q11⟩ := q11; cbv; refine ⟨_, q11, ?_⟩; cbv; exact df

/-- impl.SameLibrary -/
def Fq59 (a0 : TL) (a1 : TL) : Option (Bool) :=
 ((
 (Fq3 (TL.mk a0.fC)).bind fun y8 =>
 br y8
 ((Fq3 (TL.mk a1.fC)).bind fun y10 =>
 br y10
 ((Fq53 a0.fC a1.fC).bind fun y12 =>
 some y12)
 (some false))
 (some false)
 ) : Option (Bool)).bind fun y1 =>
 letO y1 fun w7 =>
 some w7
theorem runq59 (a0 : TL) (a1 : TL) (r : Bool) (h : Fq59 a0 a1 = some r) : Fun prog 12 [.agg [.bs (len a0.fC) 4 (row gd (eC len gd) a0.fC)], .agg [.bs (len a1.fC) 4 (row gd (eC len gd) a1.fC)]] [] (.c (.v (.bool r))) [] true := by
 refine ow [1] func12 ntmps12 ?_; unfold Fq59 at h; have hfq3 := @runq3; have hfq53 := @runq53; generalize hU : @len = U_, hG_ : @gd = G_, hA : std = A, hP : prog = P at *; cbv
 revert h; refine cu (fun y1 => (sp 18 [(4, .c (.v (.bool y1)))] [])) ?_ fun w7 => rz fun h => ?_
 ·intro y1 S hS h; cbv; revert h; refine rk0 (hfq3 _) fun y8 h => ?_; cbv; revert h; refine fk ?_ ?_ <;> intro h <;> cbv
  ·revert h; refine rk0 (hfq3 _) fun y10 h => ?_; cbv; revert h; refine fk ?_ ?_ <;> intro h <;> cbv
   ·revert h; refine rk0 (hfq53 _ _) fun y12 h => ?_; cbv; exact dn
   exact dn
  exact dn
 cbv; exact df

/-- impl.Redo -/
def Fq83 (a0 : TD_) : Option (TD_ × Int) :=
 (Fq20 a0).bind fun y1 =>
 br (!(y1))
 (some ((TD_.mk (TL.mk ([] : List TC)) ([] : List (List TE)) ([] : List (List TE))), (1 : Int)))
 ((Fq50 a0.fr_ a0.fD a0.fU).bind fun y3 =>
 some ((TD_.mk y3.1 y3.2.2.1 y3.2.1), y3.2.2.2))
theorem runq83 (a0 : TD_) (r : TD_ × Int) (h : Fq83 a0 = some r) : Fun prog 17 [.agg [.bs (len a0.fr_.fC) 4 (row gd (eC len gd) a0.fr_.fC), .bs (len a0.fU) 1 (row gd (eN len gd 21 (eE)) a0.fU), .bs (len a0.fD) 1 (row gd (eN len gd 21 (eE)) a0.fD)]] [] (.tup [.agg [.os 64000 0 (len r.1.fr_.fC), .os 64002 0 (len r.1.fU), .os 64004 0 (len r.1.fD)], .c (wi r.2)]) [(64000, .arr .rw [] (len r.1.fr_.fC) 4 (row gd (oC len gd) r.1.fr_.fC)), (64002, .arr .rw [] (len r.1.fU) 1 (row gd (oN len gd 21 (eE)) r.1.fU)), (64004, .arr .rw [] (len r.1.fD) 1 (row gd (oN len gd 21 (eE)) r.1.fD))] true := by
 refine ow [] func17 ntmps17 ?_ (hv := (fun _ => ⟨(by simp [AV.flat, AV.flat1, AC.flat]), ⟨fun i _ j _ => fl_oncCell _ _, fun i _ j _ => fl_oncL (vl_encEdit) _ _, fun i _ j _ => fl_oncL (vl_encEdit) _ _, tv⟩⟩)); unfold Fq83 at h; have hfq50 := @runq50; have hfq20 := @runq20
 generalize hU : @len = U_, hG_ : @gd = G_, hA : std = A, hP : prog = P at *; cbv; revert h; refine rk0 (hfq20 _) fun y1 h => ?_; cbv; revert h; refine fk ?_ ?_ <;> intro h <;> cbv
 ·injection h with h; subst h
  refine ⟨(sp 29 [(2, .c (.ptr 128 0)), (3, .c (wi 1))] [(128, .var [.os 64000 0 (U_ ([] : List TC)), .os 64002 0 (U_ ([] : List (List TE))), .os 64004 0 (U_ ([] : List (List TE)))]), (64000, .arr .rw [] (U_ ([] : List TC)) 4 (row G_ (oC U_ G_) ([] : List TC))), (64002, .arr .rw [] (U_ ([] : List (List TE))) 1 (row G_ (oN U_ G_ 21 (eE)) ([] : List (List TE)))), (64004, .arr .rw [] (U_ ([] : List (List TE))) 1 (row G_ (oN U_ G_ 21 (eE)) ([] : List (List TE))))]), ?_, ?_⟩
  ·refine St.le_trans (le_nilV 128 0 64000 4 (row G_ (oC U_ G_) ([] : List TC)) (by decide) (by decide) rfl rfl) ?_; refine St.le_trans (le_nilV 128 1 64002 1 (row G_ (oN U_ G_ 21 (eE)) ([] : List (List TE))) (by decide) (by decide) rfl rfl) ?_; refine St.le_trans (le_nilV 128 2 64004 1 (row G_ (oN U_ G_ 21 (eE)) ([] : List (List TE))) (by decide) (by decide) rfl rfl) ?_
   subst hU; exact zb
  ·subst hU; exact ⟨lR _, zo, rfl⟩
 revert h; refine rk [] [(64000, 1216), (64002, 1218), (64004, 1220)] (hfq50 _ _ _) (fun _ => zf) fun y3 h => ⟨_, rfl, _, _, rfl, fun _ _ _ _ => .refl _, _, _, rfl, fun _ _ _ _ => .refl _, _, _, rfl, fun _ _ _ _ => .refl _, ?_⟩
 cbv; injection h with h; subst h; exact ⟨_, St.le_trans (le_ren 1216 64000 (by decide) rfl) (St.le_trans (le_ren 1220 64002 (by decide) rfl) ((le_ren 1218 64004 (by decide) rfl))), lR _, zo, rfl⟩
set_option maxHeartbeats 40000000
def Lq9_x134 (w82 : List TL) : (Int × (List TC) × (List (List TE)) × (List (List TE))) -> Option ((Int × (List TC) × (List (List TE)) × (List (List TE))) ⊕ ((Bool) ⊕ (Unit))) := fun x134 =>
 letO x134.1 fun v130 =>
 letO x134.2.1 fun v131 =>
 letO x134.2.2.1 fun v132 =>
 letO x134.2.2.2 fun v133 =>
 br (std.lt v130 (std.ofN (len w82)))
 ((Fq83 (TD_.mk (TL.mk v131) v132 v133)).bind fun y146 =>
 ((
 br (std.not (std.eq y146.2 0))
 (some true)
 (req (std.inR v130 (len w82)) <|
 (Fq59 y146.1.fr_ (gd w82 (std.nadd 0 (std.toN v130)))).bind fun y156 =>
 some (!(y156)))
 ) : Option (Bool)).bind fun y148 =>
 letO y148 fun w154 =>
 br w154
 (some (.inr (.inl false)))
 (some (.inl (std.add .i64 v130 1, y146.1.fr_.fC, y146.1.fU, y146.1.fD))))
 (some (.inr (.inr ())))
def Lq9_x87 (w82 : List TL) : (Int × (List TC) × (List (List TE)) × (List (List TE))) -> Option ((Int × (List TC) × (List (List TE)) × (List (List TE))) ⊕ ((Bool) ⊕ ((List TC) × (List (List TE)) × (List (List TE))))) := fun x87 =>
 letO x87.1 fun v83 =>
 letO x87.2.1 fun v84 =>
 letO x87.2.2.1 fun v85 =>
 letO x87.2.2.2 fun v86 =>
 br (std.le 0 v83)
 (((
 (Fq62 (TD_.mk (TL.mk v84) v85 v86)).bind fun y109 =>
 some (y109.2, y109.1.fr_.fC, y109.1.fU, y109.1.fD)
 ) : Option (Int × (List TC) × (List (List TE)) × (List (List TE)))).bind fun y99 =>
 letO y99.1 fun w105 =>
 letO y99.2.1 fun w106 =>
 letO y99.2.2.1 fun w107 =>
 letO y99.2.2.2 fun w108 =>
 ((
 br (std.not (std.eq w105 0))
 (some true)
 (req (std.inR v83 (len w82)) <|
 (Fq59 (TL.mk w106) (gd w82 (std.nadd 0 (std.toN v83)))).bind fun y119 =>
 some (!(y119)))
 ) : Option (Bool)).bind fun y111 =>
 letO y111 fun w117 =>
 br w117
 (some (.inr (.inl false)))
 (some (.inl (std.sub .i64 v83 1, w106, w107, w108))))
 (some (.inr (.inr (v84, v85, v86))))
def Lq9_x37 (l30 : List (List TE)) : (Int × (List TC) × (List (List TE)) × (List (List TE)) × (List TL)) -> Option ((Int × (List TC) × (List (List TE)) × (List (List TE)) × (List TL)) ⊕ (((List TC) × (List (List TE)) × (List (List TE)) × (List TL)))) := fun x37 =>
 letO x37.1 fun v32 =>
 letO x37.2.1 fun v33 =>
 letO x37.2.2.1 fun v34 =>
 letO x37.2.2.2.1 fun v35 =>
 letO x37.2.2.2.2 fun v36 =>
 br (std.lt v32 (std.ofN (len l30)))
 (((
 req (std.inR v32 (len l30)) <|
 (Fq104 (TD_.mk (TL.mk v33) v34 v35) (gd l30 (std.nadd 0 (std.toN v32)))).bind fun y60 =>
 some (y60.2, y60.1.fr_.fC, y60.1.fU, ([] : List (List TE)))
 ) : Option (Int × (List TC) × (List (List TE)) × (List (List TE)))).bind fun y49 =>
 letO y49.1 fun w55 =>
 letO y49.2.1 fun w56 =>
 letO y49.2.2.1 fun w57 =>
 letO y49.2.2.2 fun w58 =>
 ((
 br (std.eq w55 0)
 (letO ([(TL.mk w56)] : List TL) fun l72 =>
 req (std.room (std.nadd (len v36) (len l72)) 24) <|
 letO (v36 ++ l72) fun l74 =>
 some (w56, w57, w58, l74))
 (some (v33, v34, v35, v36))
 ) : Option ((List TC) × (List (List TE)) × (List (List TE)) × (List TL))).bind fun y62 =>
 letO y62.1 fun w68 =>
 letO y62.2.1 fun w69 =>
 letO y62.2.2.1 fun w70 =>
 letO y62.2.2.2 fun w71 =>
 some (.inl (std.add .i64 v32 1, w68, w69, w70, w71)))
 (some (.inr (v33, v34, v35, v36)))
/-- laws.FnUndo -/
def Fq9 (a0 : List Int) : Option (Bool) :=
  (Fq105 a0).bind fun y1 =>
  br y1
  (some true)
  (((
  (Fq67 a0).bind fun y11 =>
  some (y11.2, y11.1.fC)
  ) : Option ((List TE) × (List TC))).bind fun y3 =>
  letO y3.1 fun w9 =>
  letO y3.2 fun w10 =>
  ((
  (Fq77 a0 3).bind fun y20 =>
  (Fq67 y20).bind fun y22 =>
  some y22.2
  ) : Option ((List TE))).bind fun y13 =>
  letO y13 fun w19 =>
  (Fq76 (TL.mk w10)).bind fun y24 =>
  br (!(y24.2))
  ((Fq11 (TL.mk w10)).bind fun y26 =>
  some (!(y26)))
  (letO ([(TL.mk w10)] : List TL) fun l28 =>
  letO ([w9, w19, w9, w19] : List (List TE)) fun l30 =>
  (whileP (σ := Int × (List TC) × (List (List TE)) × (List (List TE)) × (List TL)) (ρ := ((List TC) × (List (List TE)) × (List (List TE)) × (List TL))) (Lq9_x37 l30) (0, y24.1.fr_.fC, ([] : List (List TE)), ([] : List (List TE)), l28)).bind fun y38 =>
  letO y38 fun y38k0 =>
  letO y38k0.1 fun w79 =>
  letO y38k0.2.1 fun w80 =>
  letO y38k0.2.2.1 fun w81 =>
  letO y38k0.2.2.2 fun w82 =>
  (whileP (σ := Int × (List TC) × (List (List TE)) × (List (List TE))) (ρ := (Bool) ⊕ ((List TC) × (List (List TE)) × (List (List TE)))) (Lq9_x87 w82) (std.sub .i64 (std.ofN (len w82)) 2, w79, w80, w81)).bind fun y88 =>
  (match y88 with
 | .inl y88k0 => (
  letO y88k0 fun w124 =>
  some w124)
 | .inr y88m0 =>
  letO y88m0 fun y88k1 =>
  letO y88k1.1 fun w125 =>
  letO y88k1.2.1 fun w126 =>
  letO y88k1.2.2 fun w127 =>
  (Fq62 (TD_.mk (TL.mk w125) w126 w127)).bind fun y128 =>
  (whileP (σ := Int × (List TC) × (List (List TE)) × (List (List TE))) (ρ := (Bool) ⊕ (Unit)) (Lq9_x134 w82) (1, w125, w126, w127)).bind fun y135 =>
  (match y135 with
 | .inl y135k0 => (
  letO y135k0 fun w161 =>
  some w161)
 | .inr y135m0 =>
  some (std.eq y128.2 5)))))
theorem runq9 (a0 : List Int) (r : Bool) (h : Fq9 a0 = some r) : Fun prog 4 [.c (.bs (len a0) 1 (row gd (encI .u8) a0))] [] (.c (.v (.bool r))) [] true := by
 refine ow [3, 4, 13, 20, 21, 29, 100068] func4 ntmps4 ?_; unfold Fq9 at h; unfold Lq9_x37 at h; unfold Lq9_x87 at h; unfold Lq9_x134 at h; have hfq104 := @runq104; have hfq76 := @runq76; have hfq83 := @runq83; have hfq59 := @runq59; have hfq62 := @runq62
 have hfq105 := @runq105; have hfq77 := @runq77; have hfq67 := @runq67; have hfq11 := @runq11; generalize hU : @len = U_, hG_ : @gd = G_, hA : std = A, hP : prog = P at *; cbv; revert h; refine rk0 (hfq105 _) fun y1 h => ?_; cbv; revert h; refine fk ?_ ?_ <;> intro h <;> cbv
 ·exact df
 revert h; refine cu (fun y3 => (sp 131 [(0, .c (.bs (U_ a0) 1 (row G_ (encI .u8) a0))), (3, .c (.ptr 192 0)), (4, .c (.bs (U_ y3.1) 21 (row G_ (eE) y3.1)))] [(192, .var [.bs (U_ y3.2) 4 (row G_ (eC U_ G_) y3.2)])])) ?_ ?_
 ·intro y3 S hS h; cbv; revert h; refine rk [] [(64000, 1664)] (hfq67 _) (fun _ => zf) fun y11 h => ⟨_, rfl, _, _, rfl, fun _ _ _ _ => .refl _, ?_⟩
  cbv; injection h with h; subst h; subst hS; show St.le _ _; refine St.le_trans (le_fz 1664 (row G_ (eE) y11.2) rfl (fun _ _ => lent_plain (pl_encEdit _ _))) ?_; exact zb
 rintro ⟨w9, w10⟩ h; replace h := oz (oz h); dsimp only at h; cbv; revert h; refine cu (fun y13 => (sp 131 [(3, .c (.ptr 192 0)), (4, .c (.bs (U_ w9) 21 (row G_ (eE) w9))), (6, .c (.bs (U_ y13) 21 (row G_ (eE) y13)))] [(192, .var [.bs (U_ w10) 4 (row G_ (eC U_ G_) w10)])])) ?_ fun w19 => rz fun h => ?_
 ·intro y13 S hS h; cbv; revert h; refine rk [] [(64000, 1984)] (hfq77 _ _) (fun _ => zf) fun y20 h => ⟨_, rfl, _, _, rfl, fun _ _ _ _ => .refl _, ?_⟩
  cbv; revert h; refine rk [] [(64000, 2048)] (hfq67 _) (fun _ => zg (lc_ (give_os (fun _ _ => rfl) rfl rfl rfl) (ln_))) fun y22 h => ⟨_, rfl, _, _, rfl, fun _ _ _ _ => .refl _, _, _, rfl, fun _ _ _ _ => .refl _, ?_⟩
  cbv; injection h with h; subst h; subst hS; show St.le _ _; refine St.le_trans (le_fz 2048 (row G_ (eE) y22.2) rfl (fun _ _ => lent_plain (pl_encEdit _ _))) ?_; exact zb
 cbv; revert h; refine rk [] [(64000, 2368)] (hfq76 _) (fun _ => zf) fun y24 h => ⟨_, rfl, _, _, rfl, fun _ _ _ _ => .refl _, ?_⟩
 cbv; revert h; refine fk ?_ ?_ <;> intro h <;> cbv
 ·revert h; refine rk0 (hfq11 _) fun y26 h => ?_; cbv; exact df
 revert h; refine rl fun l28 hl28 h => ?_; have e29 : 1 = U_ l28 := by subst hl28 hU; rfl
 refine ⟨_, (co e29), _, row G_ (encLibrary U_ G_) l28, e29, wO ?_, ?_⟩
 ·intro i hi j hj; rw [<- e29] at hi; subst hl28; subst hG_; obtain rfl : i = 0 := (by omega); all_goals obtain rfl : j = 0 := by omega
  all_goals rfl
 cbv; revert h; refine rl fun l30 hl30 h => ?_; have e31 : 4 = U_ l30 := by subst hl30 hU; rfl
 refine ⟨_, (co e31), _, row G_ (eN U_ G_ 21 (eE)) l30, e31, wO ?_, ?_⟩
 ·intro i hi j hj; rw [<- e31] at hi; subst hl30; subst hG_; obtain rfl | rfl | rfl | rfl : i = 0 \/ i = 1 \/ i = 2 \/ i = 3 := (by omega); all_goals obtain rfl : j = 0 := by omega
  all_goals rfl
 cbv
 revert h; refine ln (.exit 0) (fun x => (sp 131 [(7, .c (.ptr 448 0)), (9, .c (.os 2944 0 (U_ x.2.2.2.2))), (10, .c (.os 3264 0 (U_ l30))), (11, .c (wi x.1))] [(448, .var [.bs (U_ x.2.1) 4 (row G_ (eC U_ G_) x.2.1), .bs (U_ x.2.2.1) 1 (row G_ (eN U_ G_ 21 (eE)) x.2.2.1), .bs (U_ x.2.2.2.1) 1 (row G_ (eN U_ G_ 21 (eE)) x.2.2.2.1)]), (2944, .arr .rw [] (U_ x.2.2.2.2) 1 (row G_ (encLibrary U_ G_) x.2.2.2.2)), (3264, .arr .rw [] (U_ l30) 1 (row G_ (eN U_ G_ 21 (eE)) l30))])) (fun w => (sp 131 [(7, .c (.ptr 448 0)), (9, .c (.os 2944 0 (U_ w.2.2.2)))] [(448, .var [.bs (U_ w.1) 4 (row G_ (eC U_ G_) w.1), .bs (U_ w.2.1) 1 (row G_ (eN U_ G_ 21 (eE)) w.2.1), .bs (U_ w.2.2.1) 1 (row G_ (eN U_ G_ 21 (eE)) w.2.2.1)]), (2944, .arr .rw [] (U_ w.2.2.2) 1 (row G_ (encLibrary U_ G_) w.2.2.2))])) ?_ ?_ ?_
 ·show St.le _ _; refine St.le_trans (le_fz 2368 (row G_ (eC U_ G_) y24.1.fr_.fC) rfl (fun _ _ => ln_oncCell _ _)) ?_; refine St.le_trans (le_nilVb 448 1 1 (row G_ (eN U_ G_ 21 (eE)) ([] : List (List TE))) rfl rfl) ?_; refine St.le_trans (le_nilVb 448 2 1 (row G_ (eN U_ G_ 21 (eE)) ([] : List (List TE))) rfl rfl) ?_; subst hU; exact zb
 ·rintro ⟨v32, v33, v34, v35, v36⟩ z h K hK hY; replace h := oz (oz (oz (oz (oz h)))); dsimp only at h; cbv; revert h; refine fk ?_ ?_ <;> intro h <;> cbv
  ·revert h; refine cu (fun y49 => (sp 131 [(7, .c (.ptr 448 0)), (9, .c (.os 2944 0 (U_ v36))), (10, .c (.os 3264 0 (U_ l30))), (11, .c (wi v32)), (12, .c (.ptr 768 0)), (13, .c (wi y49.1))] [(448, .var [.bs (U_ v33) 4 (row G_ (eC U_ G_) v33), .bs (U_ v34) 1 (row G_ (eN U_ G_ 21 (eE)) v34), .bs (U_ v35) 1 (row G_ (eN U_ G_ 21 (eE)) v35)]), (2944, .arr .rw [] (U_ v36) 1 (row G_ (encLibrary U_ G_) v36)), (3264, .arr .rw [] (U_ l30) 1 (row G_ (eN U_ G_ 21 (eE)) l30)), (768, .var [.bs (U_ y49.2.1) 4 (row G_ (eC U_ G_) y49.2.1), .bs (U_ y49.2.2.1) 1 (row G_ (eN U_ G_ 21 (eE)) y49.2.2.1), .bs (U_ y49.2.2.2) 1 (row G_ (eN U_ G_ 21 (eE)) y49.2.2.2)])])) ?_ ?_
   ·intro y49 S hS h; cbv; revert h; refine ra fun c59 h => ?_; refine ai c59 ?_; revert h; refine rk [] [(64000, 4096), (64002, 4098)] (hfq104 _ _) (fun _ => zf) fun y60 h => ⟨_, rfl, _, _, rfl, fun _ _ _ _ => .refl _, _, _, rfl, fun _ _ _ _ => .refl _, ?_⟩
    cbv; injection h with h; subst h; subst hS; show St.le _ _; refine St.le_trans (le_fz 4096 (row G_ (eC U_ G_) y60.1.fr_.fC) rfl (fun _ _ => ln_oncCell _ _)) ?_; refine St.le_trans (le_fz 4098 (row G_ (eN U_ G_ 21 (eE)) y60.1.fU) rfl (fun _ _ => rfl)) ?_; refine St.le_trans (le_nilVb 768 2 1 (row G_ (eN U_ G_ 21 (eE)) ([] : List (List TE))) rfl rfl) ?_
    subst hU; exact zb
   rintro ⟨w55, w56, w57, w58⟩ h; replace h := oz (oz (oz (oz h))); dsimp only at h; cbv
   revert h; refine cu (fun y62 => some (sp 131 [(7, .c (.ptr 448 0)), (9, .c (.os 2944 0 (U_ y62.2.2.2))), (10, .c (.os 3264 0 (U_ l30))), (11, .c (wi v32))] [(448, .var [.bs (U_ y62.1) 4 (row G_ (eC U_ G_) y62.1), .bs (U_ y62.2.1) 1 (row G_ (eN U_ G_ 21 (eE)) y62.2.1), .bs (U_ y62.2.2.1) 1 (row G_ (eN U_ G_ 21 (eE)) y62.2.2.1)]), (2944, .arr .rw [] (U_ y62.2.2.2) 1 (row G_ (encLibrary U_ G_) y62.2.2.2)), (3264, .arr .rw [] (U_ l30) 1 (row G_ (eN U_ G_ 21 (eE)) l30))])) ?_ ?_
   ·intro y62 S hS h; cbv; revert h; refine fk ?_ ?_ <;> intro h <;> cbv
    ·revert h; refine rl fun l72 hl72 h => ?_; have e73 : 1 = U_ l72 := by subst hl72 hU; rfl
     refine ⟨_, (co e73), _, row G_ (encLibrary U_ G_) l72, e73, wO ?_, ?_⟩
     ·intro i hi j hj; rw [<- e73] at hi; subst hl72; subst hG_; obtain rfl : i = 0 := (by omega); all_goals obtain rfl : j = 0 := by omega
      all_goals rfl
     cbv; revert h; refine rq fun c76 => rl fun l74 hl74 h => ?_; have e75 := nl hA hU hl74; refine ⟨c76, _, (co e75), _, row G_ (encLibrary U_ G_) l74, e75, wO ?_, ?_⟩
     ·subst hG_ hU hA; exact app_os (off := 0) (pl_encLibrary) hl74 (Nat.le_refl _)
     cbv; exact dn
    exact dn
   rintro ⟨w68, w69, w70, w71⟩ h; replace h := oz (oz (oz (oz h))); dsimp only at h; cbv; exact dm
  exact dx
 rintro ⟨w79, w80, w81, w82⟩ h s q46; replace h := oz (oz (oz (oz (oz h)))); dsimp only at h; cbv; refine ⟨_, q46, ?_⟩; cbv
 revert h; refine lc (fun x => (sp 131 [(7, .c (.ptr 448 0)), (9, .c (.os 2944 0 (U_ w82))), (14, .c (wi x.1))] [(448, .var [.bs (U_ x.2.1) 4 (row G_ (eC U_ G_) x.2.1), .bs (U_ x.2.2.1) 1 (row G_ (eN U_ G_ 21 (eE)) x.2.2.1), .bs (U_ x.2.2.2) 1 (row G_ (eN U_ G_ 21 (eE)) x.2.2.2)]), (2944, .arr .rw [] (U_ w82) 1 (row G_ (encLibrary U_ G_) w82))])) (fun y e s => (match y with | .inl w => e = .ret /\ s.le (sp 131 [(2, .c (.v (.bool w)))] []) | .inr w0 => (fun (w : (List TC) × (List (List TE)) × (List (List TE))) => e = .exit 2 /\ s.le (sp 131 [(7, .c (.ptr 448 0)), (9, .c (.os 2944 0 (U_ w82)))] [(448, .var [.bs (U_ w.1) 4 (row G_ (eC U_ G_) w.1), .bs (U_ w.2.1) 1 (row G_ (eN U_ G_ 21 (eE)) w.2.1), .bs (U_ w.2.2) 1 (row G_ (eN U_ G_ 21 (eE)) w.2.2)]), (2944, .arr .rw [] (U_ w82) 1 (row G_ (encLibrary U_ G_) w82))])) w0)) zb ?_ ?_
 ·rintro ⟨v83, v84, v85, v86⟩ z h K hK hY; replace h := oz (oz (oz (oz h))); dsimp only at h; cbv; revert h; refine fk ?_ ?_ <;> intro h <;> cbv
  ·revert h; refine cu (fun y99 => (sp 131 [(7, .c (.ptr 448 0)), (9, .c (.os 2944 0 (U_ w82))), (14, .c (wi v83)), (15, .c (.ptr 960 0)), (16, .c (wi y99.1))] [(448, .var [.bs (U_ v84) 4 (row G_ (eC U_ G_) v84), .bs (U_ v85) 1 (row G_ (eN U_ G_ 21 (eE)) v85), .bs (U_ v86) 1 (row G_ (eN U_ G_ 21 (eE)) v86)]), (2944, .arr .rw [] (U_ w82) 1 (row G_ (encLibrary U_ G_) w82)), (960, .var [.bs (U_ y99.2.1) 4 (row G_ (eC U_ G_) y99.2.1), .bs (U_ y99.2.2.1) 1 (row G_ (eN U_ G_ 21 (eE)) y99.2.2.1), .bs (U_ y99.2.2.2) 1 (row G_ (eN U_ G_ 21 (eE)) y99.2.2.2)])])) ?_ ?_
   ·intro y99 S hS h; cbv; revert h; refine rk [] [(64000, 5376), (64002, 5378), (64004, 5380)] (hfq62 _) (fun _ => zf) fun y109 h => ⟨_, rfl, _, _, rfl, fun _ _ _ _ => .refl _, _, _, rfl, fun _ _ _ _ => .refl _, _, _, rfl, fun _ _ _ _ => .refl _, ?_⟩
    cbv; injection h with h; subst h; subst hS; show St.le _ _; refine St.le_trans (le_fz 5376 (row G_ (eC U_ G_) y109.1.fr_.fC) rfl (fun _ _ => ln_oncCell _ _)) ?_; refine St.le_trans (le_fz 5378 (row G_ (eN U_ G_ 21 (eE)) y109.1.fU) rfl (fun _ _ => rfl)) ?_; refine St.le_trans (le_fz 5380 (row G_ (eN U_ G_ 21 (eE)) y109.1.fD) rfl (fun _ _ => rfl)) ?_; exact zb
   rintro ⟨w105, w106, w107, w108⟩ h; replace h := oz (oz (oz (oz h))); dsimp only at h; cbv
   revert h; refine cu (fun y111 => (sp 131 [(7, .c (.ptr 448 0)), (9, .c (.os 2944 0 (U_ w82))), (14, .c (wi v83)), (15, .c (.ptr 960 0)), (98, .c (.v (.bool y111)))] [(448, .var [.bs (U_ v84) 4 (row G_ (eC U_ G_) v84), .bs (U_ v85) 1 (row G_ (eN U_ G_ 21 (eE)) v85), .bs (U_ v86) 1 (row G_ (eN U_ G_ 21 (eE)) v86)]), (2944, .arr .rw [] (U_ w82) 1 (row G_ (encLibrary U_ G_) w82)), (960, .var [.bs (U_ w106) 4 (row G_ (eC U_ G_) w106), .bs (U_ w107) 1 (row G_ (eN U_ G_ 21 (eE)) w107), .bs (U_ w108) 1 (row G_ (eN U_ G_ 21 (eE)) w108)])])) ?_ fun w117 => rz fun h => ?_
   ·intro y111 S hS h; cbv; revert h; refine fk ?_ ?_ <;> intro h <;> cbv
    ·exact dn
    revert h; refine ra fun c118 h => ?_; refine ai c118 ?_; revert h; refine rk0 (hfq59 _ _) fun y119 h => ?_; cbv; exact dn
   cbv; revert h; refine fk ?_ ?_ <;> intro h <;> cbv
   ·exact dy
   exact dm
  exact dy
 intro y88 h e97 s98 q96 hne; rcases y88 with y88k0 | y88m0
 ·replace h := h; obtain ⟨rfl, q96⟩ := q96; revert h; refine rz fun h => ?_; cbv; injection h with h; subst h; exact ⟨_, q96, lR _, zo, rfl⟩
 ·revert h; refine rz fun h => ?_; obtain ⟨rfl, q96⟩ := q96; obtain ⟨y88k1_0, y88k1_1, y88k1_2⟩ := y88m0; revert h; refine rl fun w125 hw125 h => ?_; have hw125 : w125 = y88k1_0 := hw125; subst hw125; revert h; refine rl fun w126 hw126 h => ?_; have hw126 : w126 = y88k1_1 := hw126; subst hw126; revert h; refine rz fun h => ?_; cbv; refine ⟨_, q96, ?_⟩; cbv
  revert h; refine rk [] [(64000, 6528), (64002, 6530), (64004, 6532)] (hfq62 _) (fun _ => zf) fun y128 h => ⟨_, rfl, _, _, rfl, fun _ _ _ _ => .refl _, _, _, rfl, fun _ _ _ _ => .refl _, _, _, rfl, fun _ _ _ _ => .refl _, ?_⟩
  cbv
  revert h; refine lc (fun x => (sp 131 [(7, .c (.ptr 448 0)), (9, .c (.os 2944 0 (U_ w82))), (18, .c (wi y128.2)), (19, .c (wi x.1))] [(448, .var [.bs (U_ x.2.1) 4 (row G_ (eC U_ G_) x.2.1), .bs (U_ x.2.2.1) 1 (row G_ (eN U_ G_ 21 (eE)) x.2.2.1), .bs (U_ x.2.2.2) 1 (row G_ (eN U_ G_ 21 (eE)) x.2.2.2)]), (2944, .arr .rw [] (U_ w82) 1 (row G_ (encLibrary U_ G_) w82))])) (fun y e s => (match y with | .inl w => e = .ret /\ s.le (sp 131 [(2, .c (.v (.bool w)))] []) | .inr w0 => (fun (w : Unit) => e = .exit 4 /\ s.le (sp 131 [(18, .c (wi y128.2))] [])) w0)) zb ?_ ?_
  ·rintro ⟨v130, v131, v132, v133⟩ z h K hK hY; replace h := oz (oz (oz (oz h))); dsimp only at h; cbv; revert h; refine fk ?_ ?_ <;> intro h <;> cbv
   ·revert h; refine rk [] [(64000, 7232), (64002, 7234), (64004, 7236)] (hfq83 _) (fun _ => zf) fun y146 h => ⟨_, rfl, _, _, rfl, fun _ _ _ _ => .refl _, _, _, rfl, fun _ _ _ _ => .refl _, _, _, rfl, fun _ _ _ _ => .refl _, ?_⟩
    cbv
    revert h; refine cu (fun y148 => (sp 131 [(7, .c (.ptr 448 0)), (9, .c (.os 2944 0 (U_ w82))), (18, .c (wi y128.2)), (19, .c (wi v130)), (20, .c (.ptr 1280 0)), (127, .c (.v (.bool y148)))] [(448, .var [.bs (U_ v131) 4 (row G_ (eC U_ G_) v131), .bs (U_ v132) 1 (row G_ (eN U_ G_ 21 (eE)) v132), .bs (U_ v133) 1 (row G_ (eN U_ G_ 21 (eE)) v133)]), (2944, .arr .rw [] (U_ w82) 1 (row G_ (encLibrary U_ G_) w82)), (1280, .var [.os 7232 0 (U_ y146.1.fr_.fC), .os 7234 0 (U_ y146.1.fU), .os 7236 0 (U_ y146.1.fD)]), (7232, .arr .rw [] (U_ y146.1.fr_.fC) 4 (row G_ (oC U_ G_) y146.1.fr_.fC)), (7234, .arr .rw [] (U_ y146.1.fU) 1 (row G_ (oN U_ G_ 21 (eE)) y146.1.fU)), (7236, .arr .rw [] (U_ y146.1.fD) 1 (row G_ (oN U_ G_ 21 (eE)) y146.1.fD))])) ?_ fun w154 => rz fun h => ?_
    ·intro y148 S hS h; cbv; revert h; refine fk ?_ ?_ <;> intro h <;> cbv
     ·exact dn
     revert h; refine ra fun c155 h => ?_; refine ai c155 ?_; revert h; refine rk [] [] (hfq59 _ _) (fun _ => zg (lc_ (le_agg ⟨gD (rC) (ln_oncCell) rfl rfl rfl, tv⟩) (zs1))) fun y156 h => ?_; cbv; exact dn
    cbv; revert h; refine fk ?_ ?_ <;> intro h <;> cbv
    ·exact dy
    injection h with h; refine hK _ h.symm _ ?_; refine St.le_trans (le_fz 7232 (row G_ (eC U_ G_) y146.1.fr_.fC) rfl (fun _ _ => ln_oncCell _ _)) ?_; refine St.le_trans (le_fz 7234 (row G_ (eN U_ G_ 21 (eE)) y146.1.fU) rfl (fun _ _ => rfl)) ?_; refine St.le_trans (le_fz 7236 (row G_ (eN U_ G_ 21 (eE)) y146.1.fD) rfl (fun _ _ => rfl)) ?_; exact zb
   exact dy
  intro y135 h e144 s145 q143 hne; rcases y135 with y135k0 | y135m0
  ·replace h := h; obtain ⟨rfl, q143⟩ := q143; revert h; refine rz fun h => ?_; cbv; injection h with h; subst h; exact ⟨_, q143, lR _, zo, rfl⟩
  ·obtain ⟨rfl, q143⟩ := q143; cbv; refine ⟨_, q143, ?_⟩; cbv; exact df
set_option maxHeartbeats 40000000
theorem op_5 (d : Nat) : Opens T (d + 1) 5 (clI .u8) (wfI .u8) := op_int .u8 (show T 5 = some d5 from rfl) rfl
theorem op_22 (d : Nat) : Opens T (d + 2) 22 (clL 1 (encI .u8)) (wfL (wfI .u8)) := op_slice (e := 5) (sz := 1) (show T 22 = some d22 from rfl) rfl (show T 5 = some d5 from rfl) rfl (fun x j hj => by match j, hj with | 0, _ => rfl | (j_ + 1), h_ => omega) (op_5 d)
theorem open_22 {H : Type} {enc : TypeId × Value -> H} {W : World} {spare : Nat -> Bool} {held : Bool} {r : Reach} {base : Nat} {v : Value} {x : DataW H} {ps : List MemPlace}
    (hv : Value.okWide prog W r base 22 v) (h : DataW.Trod enc prog W 0 spare held 22 v x ps) : ∃ e : List Int, (wfL (wfI .u8)) e /\ RelV (RelI (fun b => b < W.heap.size) W) (.c (.bs (len e) 1 (row gd (encI .u8) e))) v := by
  refine opened_one tok (op_22 0) (fun _ => rfl) (by kernel_rfl) ?_ h
  have ht : prog.underlying 22 = some (.slice 5) := (tok 22 d22 rfl).1
  unfold Value.okWide at hv
  rw [ht] at hv
  cases v <;> first | rfl | exact False.elim hv
end
end Go.Proofs.YtfoefnkbiofejaaGreat.AM
