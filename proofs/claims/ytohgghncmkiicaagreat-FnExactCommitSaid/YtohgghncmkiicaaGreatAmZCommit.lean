/-
  What the functions that the law reaches compute, and that they do. No condition.
-/
import Derived.Test.YtohgghncmkiicaaGreatAmSR
import Derived.Test.YtohgghncmkiicaaGreatAmSP
namespace Go.Proofs.YtohgghncmkiicaaGreat.AM
noncomputable section
open Go Go.Proofs Go.RowKit Go.Proofs.Tryz
set_option linter.unusedVariables false
set_option linter.unusedSimpArgs false
set_option maxRecDepth 100000

set_option maxHeartbeats 4000000
/-- spec.Commit -/
def Fq149 (a0 : TD_) (a1 : List TE) : Option (TD_ × Int) :=
 (Fq53 (TD_.mk a0.fr_ a0.fU a0.fD)).bind fun y1 =>
 br (!(y1))
 (some ((TD_.mk (TL.mk ([] : List TC)) ([] : List (List TE)) ([] : List (List TE))), (1 : Int)))
 ((Fq45 a0.fr_ a1).bind fun y3 =>
 br (std.not (std.eq y3.2.2.1 0))
 (some ((TD_.mk (TL.mk ([] : List TC)) ([] : List (List TE)) ([] : List (List TE))), y3.2.2.1))
 ((Fq71 a0.fU y3.2.1).bind fun y5 =>
 some ((TD_.mk y3.1 y5 ([] : List (List TE))), (0 : Int))))
theorem runq149 (a0 : TD_) (a1 : List TE) (r : TD_ × Int) (h : Fq149 a0 a1 = some r) : Fun prog 30 [.agg [.bs (len a0.fr_.fC) 4 (row gd (eC len gd) a0.fr_.fC), .bs (len a0.fU) 1 (row gd (eN len gd 21 (eE)) a0.fU), .bs (len a0.fD) 1 (row gd (eN len gd 21 (eE)) a0.fD)], .c (.bs (len a1) 21 (row gd (eE) a1))] [] (.tup [.agg [.os 64000 0 (len r.1.fr_.fC), .os 64002 0 (len r.1.fU), .v (.slice none 0 0)], .c (wi r.2)]) [(64000, .arr .rw [] (len r.1.fr_.fC) 4 (row gd (oC len gd) r.1.fr_.fC)), (64002, .arr .rw [] (len r.1.fU) 1 (row gd (oN len gd 21 (eE)) r.1.fU))] true := by
 refine ow [] func30 ntmps30 ?_ (hv := (fun _ => ⟨(by simp [AV.flat, AV.flat1, AC.flat]), ⟨fun i _ j _ => fl_oncCell _ _, fun i _ j _ => fl_oncL (vl_encEdit) _ _, tv⟩⟩)); unfold Fq149 at h; have hfq45 := @runq45; have hfq53 := @runq53; have hfq71 := @runq71
 generalize hU_ : @len = U_, hG_ : @gd = G_, hA : std = A, hP : prog = P at *; cbv; revert h; refine rk0 (hfq53 _) fun y1 h => ?_; cbv; revert h; refine fk ?_ ?_ <;> intro h <;> cbv
 ·injection h with h; subst h
  refine ⟨(sp 33 [(4, .c (.ptr 256 0)), (5, .c (wi 1))] [(256, .var [.os 64000 0 (U_ ([] : List TC)), .os 64002 0 (U_ ([] : List (List TE))), .v (.slice none 0 0)]), (64000, .arr .rw [] (U_ ([] : List TC)) 4 (row G_ (oC U_ G_) ([] : List TC))), (64002, .arr .rw [] (U_ ([] : List (List TE))) 1 (row G_ (oN U_ G_ 21 (eE)) ([] : List (List TE))))]), ?_, ?_⟩
  ·refine St.le_trans (le_nilV 256 0 64000 4 (row G_ (oC U_ G_) ([] : List TC)) (by decide) (by decide) rfl rfl) ?_; refine St.le_trans (le_nilV 256 1 64002 1 (row G_ (oN U_ G_ 21 (eE)) ([] : List (List TE))) (by decide) (by decide) rfl rfl) ?_; subst hU_; exact zb
  ·subst hU_; exact ⟨lR _, zo, rfl⟩
 revert h; refine rk [] [(64000, 1152), (64002, 1154)] (hfq45 _ _) (fun _ => zf) fun y3 h => ⟨_, rfl, _, _, rfl, fun _ _ _ _ => .refl _, _, _, rfl, fun _ _ _ _ => .refl _, ?_⟩
 cbv; revert h; refine fk ?_ ?_ <;> intro h <;> cbv
 ·injection h with h; subst h
  refine ⟨(sp 33 [(4, .c (.ptr 256 0)), (5, .c (wi y3.2.2.1))] [(256, .var [.os 64000 0 (U_ ([] : List TC)), .os 64002 0 (U_ ([] : List (List TE))), .v (.slice none 0 0)]), (64000, .arr .rw [] (U_ ([] : List TC)) 4 (row G_ (oC U_ G_) ([] : List TC))), (64002, .arr .rw [] (U_ ([] : List (List TE))) 1 (row G_ (oN U_ G_ 21 (eE)) ([] : List (List TE))))]), ?_, ?_⟩
  ·refine St.le_trans (le_nilV 256 0 64000 4 (row G_ (oC U_ G_) ([] : List TC)) (by decide) (by decide) rfl rfl) ?_; refine St.le_trans (le_nilV 256 1 64002 1 (row G_ (oN U_ G_ 21 (eE)) ([] : List (List TE))) (by decide) (by decide) rfl rfl) ?_; subst hU_; exact zb
  ·subst hU_; exact ⟨lR _, zo, rfl⟩
 revert h; refine rk [(5, 1154)] [(64000, 1984)] (hfq71 _ _) (fun _ => zf) fun y5 h => ⟨_, rfl, _, _, rfl, fun _ _ _ _ => .refl _, ?_⟩
 cbv; injection h with h; subst h; exact ⟨_, St.le_trans (le_ren 1152 64000 (by decide) rfl) ((le_ren 1984 64002 (by decide) rfl)), lR _, zo, rfl⟩

/-- impl.Commit -/
def Fq106 (a0 : TD_) (a1 : List TE) : Option (TD_ × Int) :=
 (Fq55 (TD_.mk a0.fr_ a0.fU a0.fD)).bind fun y1 =>
 br (!(y1))
 (some ((TD_.mk (TL.mk ([] : List TC)) ([] : List (List TE)) ([] : List (List TE))), (1 : Int)))
 ((Fq44 a0.fr_ a1).bind fun y3 =>
 br (std.not (std.eq y3.2.2.1 0))
 (some ((TD_.mk (TL.mk ([] : List TC)) ([] : List (List TE)) ([] : List (List TE))), y3.2.2.1))
 ((Fq102 a0.fU y3.2.1).bind fun y5 =>
 some ((TD_.mk y3.1 y5 ([] : List (List TE))), (0 : Int))))
theorem runq106 (a0 : TD_) (a1 : List TE) (r : TD_ × Int) (h : Fq106 a0 a1 = some r) : Fun prog 32 [.agg [.bs (len a0.fr_.fC) 4 (row gd (eC len gd) a0.fr_.fC), .bs (len a0.fU) 1 (row gd (eN len gd 21 (eE)) a0.fU), .bs (len a0.fD) 1 (row gd (eN len gd 21 (eE)) a0.fD)], .c (.bs (len a1) 21 (row gd (eE) a1))] [] (.tup [.agg [.os 64000 0 (len r.1.fr_.fC), .os 64002 0 (len r.1.fU), .v (.slice none 0 0)], .c (wi r.2)]) [(64000, .arr .rw [] (len r.1.fr_.fC) 4 (row gd (oC len gd) r.1.fr_.fC)), (64002, .arr .rw [] (len r.1.fU) 1 (row gd (oN len gd 21 (eE)) r.1.fU))] true := by
 refine ow [] func32 ntmps32 ?_ (hv := (fun _ => ⟨(by simp [AV.flat, AV.flat1, AC.flat]), ⟨fun i _ j _ => fl_oncCell _ _, fun i _ j _ => fl_oncL (vl_encEdit) _ _, tv⟩⟩)); unfold Fq106 at h; have hfq44 := @runq44; have hfq102 := @runq102; have hfq55 := @runq55
 generalize hU_ : @len = U_, hG_ : @gd = G_, hA : std = A, hP : prog = P at *; cbv; revert h; refine rk0 (hfq55 _) fun y1 h => ?_; cbv; revert h; refine fk ?_ ?_ <;> intro h <;> cbv
 ·injection h with h; subst h
  refine ⟨(sp 33 [(4, .c (.ptr 256 0)), (5, .c (wi 1))] [(256, .var [.os 64000 0 (U_ ([] : List TC)), .os 64002 0 (U_ ([] : List (List TE))), .v (.slice none 0 0)]), (64000, .arr .rw [] (U_ ([] : List TC)) 4 (row G_ (oC U_ G_) ([] : List TC))), (64002, .arr .rw [] (U_ ([] : List (List TE))) 1 (row G_ (oN U_ G_ 21 (eE)) ([] : List (List TE))))]), ?_, ?_⟩
  ·refine St.le_trans (le_nilV 256 0 64000 4 (row G_ (oC U_ G_) ([] : List TC)) (by decide) (by decide) rfl rfl) ?_; refine St.le_trans (le_nilV 256 1 64002 1 (row G_ (oN U_ G_ 21 (eE)) ([] : List (List TE))) (by decide) (by decide) rfl rfl) ?_; subst hU_; exact zb
  ·subst hU_; exact ⟨lR _, zo, rfl⟩
 revert h; refine rk [] [(64000, 1152), (64002, 1154)] (hfq44 _ _) (fun _ => zf) fun y3 h => ⟨_, rfl, _, _, rfl, fun _ _ _ _ => .refl _, _, _, rfl, fun _ _ _ _ => .refl _, ?_⟩
 cbv; revert h; refine fk ?_ ?_ <;> intro h <;> cbv
 ·injection h with h; subst h
  refine ⟨(sp 33 [(4, .c (.ptr 256 0)), (5, .c (wi y3.2.2.1))] [(256, .var [.os 64000 0 (U_ ([] : List TC)), .os 64002 0 (U_ ([] : List (List TE))), .v (.slice none 0 0)]), (64000, .arr .rw [] (U_ ([] : List TC)) 4 (row G_ (oC U_ G_) ([] : List TC))), (64002, .arr .rw [] (U_ ([] : List (List TE))) 1 (row G_ (oN U_ G_ 21 (eE)) ([] : List (List TE))))]), ?_, ?_⟩
  ·refine St.le_trans (le_nilV 256 0 64000 4 (row G_ (oC U_ G_) ([] : List TC)) (by decide) (by decide) rfl rfl) ?_; refine St.le_trans (le_nilV 256 1 64002 1 (row G_ (oN U_ G_ 21 (eE)) ([] : List (List TE))) (by decide) (by decide) rfl rfl) ?_; subst hU_; exact zb
  ·subst hU_; exact ⟨lR _, zo, rfl⟩
 revert h; refine rk [(5, 1154)] [(64000, 1984)] (hfq102 _ _) (fun _ => zf) fun y5 h => ⟨_, rfl, _, _, rfl, fun _ _ _ _ => .refl _, ?_⟩
 cbv; injection h with h; subst h; exact ⟨_, St.le_trans (le_ren 1152 64000 (by decide) rfl) ((le_ren 1984 64002 (by decide) rfl)), lR _, zo, rfl⟩

def Lq97_x1  : (Unit) -> Option ((Unit) ⊕ ((Unit))) := fun x1 =>
 br (std.lt 0 (std.ofN 0))
 (none)
 (some (.inr ()))
/-- laws.markEditSS -/
def Fq97 (a0 : List (List TE)) (a1 : Int) : Option (Int) :=
 (whileP (σ := Unit) (ρ := (Unit)) Lq97_x1 ()).bind fun y2 =>
 some a1
theorem runq97 (a0 : List (List TE)) (a1 : Int) (r : Int) (h : Fq97 a0 a1 = some r) : Fun prog 80 [.c (.v (.slice none 0 0)), .c (wi a1)] [] (.c (wi r)) [] true := by
 refine ow [] func80 ntmps80 ?_; unfold Fq97 at h; unfold Lq97_x1 at h; generalize hU_ : @len = U_, hG_ : @gd = G_, hA : std = A, hP : prog = P at *; cbv
 revert h; refine ln (.exit 0) (fun x => (sp 19 [(0, .c (.v (.slice none 0 0))), (1, .c (wi a1)), (5, .c (wi 0))] [])) (fun w => (sp 19 [(1, .c (wi a1))] [])) zb ?_ ?_
 ·intro x z h K hK hY; cbv; revert h; refine fk ?_ ?_ <;> intro h
  ·cases h
  cbv; exact dx
 intro y2 h s q10; cbv; refine ⟨_, q10, ?_⟩; cbv; exact df

/-- laws.markEditor -/
def Fq116 (a0 : TD_) (a1 : Int) : Option (Int × (List TC) × (List (List TE))) :=
 (Fq95 a0.fr_ a1).bind fun y1 =>
 req (len y1.2 = len a0.fr_.fC) <|
 (Fq39 a0.fU y1.1).bind fun y3 =>
 req (len y3.2 = len a0.fU) <|
 (Fq97 ([] : List (List TE)) y3.1).bind fun y5 =>
 req (len a0.fr_.fC = len y1.2) <|
 req (len a0.fU = len y3.2) <|
 some (y5, y1.2, y3.2)
theorem runq116 (a0 : TD_) (a1 : Int) (r : Int × (List TC) × (List (List TE))) (h : Fq116 a0 a1 = some r) : Fun prog 34 [.agg [.os 5 0 (len a0.fr_.fC), .os 7 0 (len a0.fU), .v (.slice none 0 0)], .c (wi a1)] [(5, .arr .rw [] (len a0.fr_.fC) 4 (row gd (oC len gd) a0.fr_.fC)), (7, .arr .rw [] (len a0.fU) 1 (row gd (oN len gd 21 (eE)) a0.fU))] (.c (wi r.1)) [(5, .arr .rw [] (len r.2.1) 4 (row gd (oC len gd) r.2.1)), (7, .arr .rw [] (len r.2.2) 1 (row gd (oN len gd 21 (eE)) r.2.2))] true := by
 refine ow [] func34 ntmps34 ?_ (hw := ⟨fun i _ j _ k hk => (noref (rC _ _) hk).elim, fun i _ j _ k hk => (noref (rfl) hk).elim, tv⟩) (hv := (fun _ => ⟨trivial, ⟨fun i _ j _ => fl_oncCell _ _, fun i _ j _ => fl_oncL (vl_encEdit) _ _, tv⟩⟩)); unfold Fq116 at h; have hfq97 := @runq97
 have hfq39 := @runq39; have hfq95 := @runq95; generalize hU_ : @len = U_, hG_ : @gd = G_, hA : std = A, hP : prog = P at *; cbv; revert h; refine rb fun y1 hy2 => rq fun c10 h => ?_; refine rc [(5, 5)] [(5, 5)] (hfq95 _ _ _ hy2) yf ⟨_, rfl, U_ a0.fr_.fC, _, c10, fun _ _ _ _ => .refl _, ?_⟩; cbv
 revert h; refine rb fun y3 hy4 => rq fun c9 h => ?_; refine rc [(5, 7)] [(5, 7)] (hfq39 _ _ _ hy4) yf ⟨_, rfl, U_ a0.fU, _, c9, fun _ _ _ _ => .refl _, ?_⟩; cbv; revert h; refine rk0 (hfq97 _ _) fun y5 h => ?_; cbv; revert h; refine rq fun c7 => rq fun c8 h => ?_; injection h with h; subst h
 refine ⟨(sp 18 [(4, .c (wi y5))] [(5, .arr .rw [] (U_ y1.2) 4 (row G_ (oC U_ G_) y1.2)), (7, .arr .rw [] (U_ y3.2) 1 (row G_ (oN U_ G_ 21 (eE)) y3.2))]), ?_, ?_⟩
 ·rw [c7]; rw [c8]; exact zb
 ·exact ⟨lR _, zo, rfl⟩

/-- laws.FnExactCommit -/
def Fq168 (a0 : TD_) (a1 : List TE) : Option (Bool) :=
 (Fq50 (TD_.mk a0.fr_ a0.fU a0.fD) 1048576).bind fun y1 =>
 br (std.lt y1 0)
 (some true)
 ((Fq8 a1 y1).bind fun y3 =>
 br (std.lt y3 0)
 (some true)
 ((Fq10 (TD_.mk a0.fr_ a0.fU a0.fD)).bind fun y5 =>
 (Fq6 a1).bind fun y7 =>
 (Fq149 y5 y7).bind fun y9 =>
 (Fq10 (TD_.mk a0.fr_ a0.fU a0.fD)).bind fun y11 =>
 (Fq6 a1).bind fun y13 =>
 (Fq106 y11 y13).bind fun y15 =>
 ((
 (Fq11 (TD_.mk y15.1.fr_ y15.1.fU ([] : List (List TE))) (TD_.mk y9.1.fr_ y9.1.fU ([] : List (List TE)))).bind fun y24 =>
 br (!(y24))
 (some true)
 (some (std.not (std.eq y15.2 y9.2)))
 ) : Option (Bool)).bind fun y17 =>
 letO y17 fun w23 =>
 br w23
 (some false)
 ((Fq10 (TD_.mk a0.fr_ a0.fU a0.fD)).bind fun y27 =>
 (Fq11 y11 y27).bind fun y29 =>
 br (!(y29))
 (some false)
 ((Fq6 a1).bind fun y31 =>
 (Fq7 y13 y31).bind fun y33 =>
 br (!(y33))
 (some false)
 ((Fq34 y11 1).bind fun y35 =>
 req (len y35.2.1 = len y11.fr_.fC) <|
 req (len y35.2.2.1 = len y11.fU) <|
 req (len y35.2.2.2 = len y11.fD) <|
 (Fq49 y13 y35.1).bind fun y37 =>
 req (len y37.2 = len y13) <|
 ((
 br (std.lt y37.1 0)
 (some true)
 ((Fq11 (TD_.mk y15.1.fr_ y15.1.fU ([] : List (List TE))) (TD_.mk y9.1.fr_ y9.1.fU ([] : List (List TE)))).bind fun y46 =>
 br (!(y46))
 (some true)
 (some (std.not (std.eq y15.2 y9.2))))
 ) : Option (Bool)).bind fun y39 =>
 letO y39 fun w45 =>
 br w45
 (some false)
 ((Fq116 (TD_.mk y15.1.fr_ y15.1.fU ([] : List (List TE))) 1).bind fun y50 =>
 req (len y50.2.1 = len y15.1.fr_.fC) <|
 req (len y50.2.2 = len y15.1.fU) <|
 (Fq28 (TD_.mk (TL.mk y50.2.1) y50.2.2 ([] : List (List TE))) 1).bind fun y52 =>
 req (len y15.1.fr_.fC = len y50.2.1) <|
 req (len y15.1.fU = len y50.2.2) <|
 br (std.lt y52 0)
 (some false)
 (br (std.not (std.eq y52 y50.1))
 (some false)
 ((Fq10 (TD_.mk a0.fr_ a0.fU a0.fD)).bind fun y54 =>
 (Fq6 a1).bind fun y56 =>
 (Fq106 y54 y56).bind fun y58 =>
 ((
 (Fq11 (TD_.mk y58.1.fr_ y58.1.fU ([] : List (List TE))) (TD_.mk y9.1.fr_ y9.1.fU ([] : List (List TE)))).bind fun y67 =>
 br (!(y67))
 (some true)
 (some (std.not (std.eq y58.2 y9.2)))
 ) : Option (Bool)).bind fun y60 =>
 letO y60 fun w66 =>
 br w66
 (some false)
 ((Fq28 (TD_.mk (TL.mk y50.2.1) y50.2.2 ([] : List (List TE))) 1).bind fun y70 =>
 req (len y15.1.fr_.fC = len y50.2.1) <|
 req (len y15.1.fU = len y50.2.2) <|
 br (std.lt y70 0)
 (some false)
 (br (std.not (std.eq y70 y50.1))
 (some false)
 (some true)))))))))))
theorem runq168 (a0 : TD_) (a1 : List TE) (r : Bool) (h : Fq168 a0 a1 = some r) : Fun prog 5 [.agg [.bs (len a0.fr_.fC) 4 (row gd (eC len gd) a0.fr_.fC), .bs (len a0.fU) 1 (row gd (eN len gd 21 (eE)) a0.fU), .bs (len a0.fD) 1 (row gd (eN len gd 21 (eE)) a0.fD)], .c (.bs (len a1) 21 (row gd (eE) a1))] [] (.c (.v (.bool r))) [] true := by
 refine ow [12, 21, 32] func5 ntmps5 ?_; unfold Fq168 at h; have hfq106 := @runq106; have hfq7 := @runq7; have hfq11 := @runq11; have hfq28 := @runq28; have hfq49 := @runq49; have hfq116 := @runq116
 have hfq34 := @runq34; have hfq8 := @runq8; have hfq50 := @runq50; have hfq6 := @runq6; have hfq10 := @runq10; have hfq149 := @runq149; generalize hU_ : @len = U_, hG_ : @gd = G_, hA : std = A, hP : prog = P at *; cbv
 revert h; refine rk0 (hfq50 _ _) fun y1 h => ?_; cbv; revert h; refine fk ?_ ?_ <;> intro h <;> cbv
 ·exact df
 revert h; refine rk0 (hfq8 _ _) fun y3 h => ?_; cbv; revert h; refine fk ?_ ?_ <;> intro h <;> cbv
 ·exact df
 revert h; refine rk [] [(64000, 1856), (64002, 1858), (64004, 1860)] (hfq10 _) (fun _ => zf) fun y5 h => ⟨_, rfl, _, _, rfl, fun _ _ _ _ => .refl _, _, _, rfl, fun _ _ _ _ => .refl _, _, _, rfl, fun _ _ _ _ => .refl _, ?_⟩
 cbv; revert h; refine rk [] [(64000, 1984)] (hfq6 _) (fun _ => zf) fun y7 h => ⟨_, rfl, _, _, rfl, fun _ _ _ _ => .refl _, ?_⟩
 cbv
 revert h; refine rk [] [(64000, 2048), (64002, 2050)] (hfq149 _ _) (fun _ => zg (lc_ (le_agg ⟨gD (rC) (ln_oncCell) rfl rfl rfl, gD (fun _ _ => rfl) (fun _ _ => rfl) rfl rfl rfl, gD (fun _ _ => rfl) (fun _ _ => rfl) rfl rfl rfl, tv⟩) (lc_ (give_os (pl_encEdit) rfl rfl rfl) (ln_)))) fun y9 h => ⟨_, rfl, _, _, rfl, fun _ _ _ _ => .refl _, _, _, rfl, fun _ _ _ _ => .refl _, ?_⟩
 cbv; revert h; refine rk [] [(64000, 2304), (64002, 2306), (64004, 2308)] (hfq10 _) (fun _ => zf) fun y11 h => ⟨_, rfl, _, _, rfl, fun _ _ _ _ => .refl _, _, _, rfl, fun _ _ _ _ => .refl _, _, _, rfl, fun _ _ _ _ => .refl _, ?_⟩
 cbv; revert h; refine rk [] [(64000, 2432)] (hfq6 _) (fun _ => zf) fun y13 h => ⟨_, rfl, _, _, rfl, fun _ _ _ _ => .refl _, ?_⟩
 cbv
 revert h; refine rk [] [(64000, 2688), (64002, 2690)] (hfq106 _ _) (fun _ => zg (lc_ (le_agg ⟨gD (rC) (ln_oncCell) rfl rfl rfl, gD (fun _ _ => rfl) (fun _ _ => rfl) rfl rfl rfl, gD (fun _ _ => rfl) (fun _ _ => rfl) rfl rfl rfl, tv⟩) (lc_ (give_os (pl_encEdit) rfl rfl rfl) (ln_)))) fun y15 h => ⟨_, rfl, _, _, rfl, fun _ _ _ _ => .refl _, _, _, rfl, fun _ _ _ _ => .refl _, ?_⟩
 cbv
 revert h; refine cu (fun y17 => (sp 119 [(1, .c (.bs (U_ a1) 21 (row G_ (eE) a1))), (2, .c (.ptr 128 0)), (6, .c (.ptr 384 0)), (7, .c (wi y9.2)), (8, .c (.ptr 512 0)), (9, .c (.os 2432 0 (U_ y13))), (10, .c (.ptr 640 0)), (11, .c (wi y15.2)), (53, .c (.v (.bool y17)))] [(128, .var [.bs (U_ a0.fr_.fC) 4 (row G_ (eC U_ G_) a0.fr_.fC), .bs (U_ a0.fU) 1 (row G_ (eN U_ G_ 21 (eE)) a0.fU), .bs (U_ a0.fD) 1 (row G_ (eN U_ G_ 21 (eE)) a0.fD)]), (384, .var [.os 2048 0 (U_ y9.1.fr_.fC), .os 2050 0 (U_ y9.1.fU), .v (.slice none 0 0)]), (512, .var [.os 2304 0 (U_ y11.fr_.fC), .os 2306 0 (U_ y11.fU), .os 2308 0 (U_ y11.fD)]), (2432, .arr .rw [] (U_ y13) 21 (row G_ (eE) y13)), (640, .var [.os 2688 0 (U_ y15.1.fr_.fC), .os 2690 0 (U_ y15.1.fU), .v (.slice none 0 0)]), (2048, .arr .rw [] (U_ y9.1.fr_.fC) 4 (row G_ (oC U_ G_) y9.1.fr_.fC)), (2050, .arr .rw [] (U_ y9.1.fU) 1 (row G_ (oN U_ G_ 21 (eE)) y9.1.fU)), (2304, .arr .rw [] (U_ y11.fr_.fC) 4 (row G_ (oC U_ G_) y11.fr_.fC)), (2306, .arr .rw [] (U_ y11.fU) 1 (row G_ (oN U_ G_ 21 (eE)) y11.fU)), (2308, .arr .rw [] (U_ y11.fD) 1 (row G_ (oN U_ G_ 21 (eE)) y11.fD)), (2688, .arr .rw [] (U_ y15.1.fr_.fC) 4 (row G_ (oC U_ G_) y15.1.fr_.fC)), (2690, .arr .rw [] (U_ y15.1.fU) 1 (row G_ (oN U_ G_ 21 (eE)) y15.1.fU))])) ?_ fun w23 => rz fun h => ?_
 ·intro y17 S hS h; cbv
  revert h; refine rk [] [] (hfq11 _ _) (fun _ => zg (lc_ (le_agg ⟨gD (rC) (ln_oncCell) rfl rfl rfl, gD (fun _ _ => rfl) (fun _ _ => rfl) rfl rfl rfl, (by subst hU_; exact le_nil_bs), tv⟩) (lc_ (le_agg ⟨gD (rC) (ln_oncCell) rfl rfl rfl, gD (fun _ _ => rfl) (fun _ _ => rfl) rfl rfl rfl, (by subst hU_; exact le_nil_bs), tv⟩) (ln_)))) fun y24 h => ?_
  cbv; revert h; refine fk ?_ ?_ <;> intro h <;> cbv
  ·exact dn
  exact dn
 cbv; revert h; refine fk ?_ ?_ <;> intro h <;> cbv
 ·exact df
 revert h; refine rk [] [(64000, 3584), (64002, 3586), (64004, 3588)] (hfq10 _) (fun _ => zf) fun y27 h => ⟨_, rfl, _, _, rfl, fun _ _ _ _ => .refl _, _, _, rfl, fun _ _ _ _ => .refl _, _, _, rfl, fun _ _ _ _ => .refl _, ?_⟩
 cbv
 revert h; refine rk [] [] (hfq11 _ _) (fun _ => zg (lc_ (le_agg ⟨gD (rC) (ln_oncCell) rfl rfl rfl, gD (fun _ _ => rfl) (fun _ _ => rfl) rfl rfl rfl, gD (fun _ _ => rfl) (fun _ _ => rfl) rfl rfl rfl, tv⟩) (lc_ (le_agg ⟨gD (rC) (ln_oncCell) rfl rfl rfl, gD (fun _ _ => rfl) (fun _ _ => rfl) rfl rfl rfl, gD (fun _ _ => rfl) (fun _ _ => rfl) rfl rfl rfl, tv⟩) (ln_)))) fun y29 h => ?_
 cbv; revert h; refine fk ?_ ?_ <;> intro h <;> cbv
 ·exact df
 revert h; refine rk [] [(64000, 3904)] (hfq6 _) (fun _ => zf) fun y31 h => ⟨_, rfl, _, _, rfl, fun _ _ _ _ => .refl _, ?_⟩
 cbv; revert h; refine rk [] [] (hfq7 _ _) (fun _ => zg (lc_ (give_os (pl_encEdit) rfl rfl rfl) (lc_ (give_os (pl_encEdit) rfl rfl rfl) (ln_)))) fun y33 h => ?_; cbv; revert h; refine fk ?_ ?_ <;> intro h <;> cbv
 ·exact df
 revert h; refine rb fun y35 hy36 => rq fun c85 => rq fun c86 => rq fun c87 h => ?_; refine rc [(5, 2304), (7, 2306), (9, 2308)] [(5, 2304), (7, 2306), (9, 2308)] (hfq34 _ _ _ hy36) yf ⟨_, rfl, U_ y11.fr_.fC, _, c85, fun _ _ _ _ => .refl _, U_ y11.fU, _, c86, fun _ _ _ _ => .refl _, U_ y11.fD, _, c87, fun _ _ _ _ => .refl _, ?_⟩; cbv
 revert h; refine rb fun y37 hy38 => rq fun c84 h => ?_; refine rc [(5, 2432)] [(5, 2432)] (hfq49 _ _ _ hy38) yf ⟨_, rfl, U_ y13, _, c84, fun _ _ _ _ => .refl _, ?_⟩; cbv
 revert h; refine cu (fun y39 => (sp 119 [(1, .c (.bs (U_ a1) 21 (row G_ (eE) a1))), (2, .c (.ptr 128 0)), (6, .c (.ptr 384 0)), (7, .c (wi y9.2)), (10, .c (.ptr 640 0)), (82, .c (.v (.bool y39)))] [(128, .var [.bs (U_ a0.fr_.fC) 4 (row G_ (eC U_ G_) a0.fr_.fC), .bs (U_ a0.fU) 1 (row G_ (eN U_ G_ 21 (eE)) a0.fU), .bs (U_ a0.fD) 1 (row G_ (eN U_ G_ 21 (eE)) a0.fD)]), (384, .var [.os 2048 0 (U_ y9.1.fr_.fC), .os 2050 0 (U_ y9.1.fU), .v (.slice none 0 0)]), (640, .var [.os 2688 0 (U_ y15.1.fr_.fC), .os 2690 0 (U_ y15.1.fU), .v (.slice none 0 0)]), (2048, .arr .rw [] (U_ y9.1.fr_.fC) 4 (row G_ (oC U_ G_) y9.1.fr_.fC)), (2050, .arr .rw [] (U_ y9.1.fU) 1 (row G_ (oN U_ G_ 21 (eE)) y9.1.fU)), (2688, .arr .rw [] (U_ y15.1.fr_.fC) 4 (row G_ (oC U_ G_) y15.1.fr_.fC)), (2690, .arr .rw [] (U_ y15.1.fU) 1 (row G_ (oN U_ G_ 21 (eE)) y15.1.fU))])) ?_ fun w45 => rz fun h => ?_
 ·intro y39 S hS h; cbv; revert h; refine fk ?_ ?_ <;> intro h <;> cbv
  ·exact dn
  revert h; refine rk [] [] (hfq11 _ _) (fun _ => zg (lc_ (le_agg ⟨gD (rC) (ln_oncCell) rfl rfl rfl, gD (fun _ _ => rfl) (fun _ _ => rfl) rfl rfl rfl, (by subst hU_; exact le_nil_bs), tv⟩) (lc_ (le_agg ⟨gD (rC) (ln_oncCell) rfl rfl rfl, gD (fun _ _ => rfl) (fun _ _ => rfl) rfl rfl rfl, (by subst hU_; exact le_nil_bs), tv⟩) (ln_)))) fun y46 h => ?_
  cbv; revert h; refine fk ?_ ?_ <;> intro h <;> cbv
  ·exact dn
  exact dn
 cbv; revert h; refine fk ?_ ?_ <;> intro h <;> cbv
 ·exact df
 revert h; refine rb fun y50 hy51 => rq fun c81 => rq fun c82 h => ?_; refine rc [(5, 2688), (7, 2690)] [(5, 2688), (7, 2690)] (hfq116 _ _ _ hy51) yf ⟨_, rfl, U_ y15.1.fr_.fC, _, c81, fun _ _ _ _ => .refl _, U_ y15.1.fU, _, c82, fun _ _ _ _ => .refl _, ?_⟩; cbv; revert h; refine rb fun y52 hy53 => rq fun c79 => rq fun c80 h => ?_
 refine rc [] [] (hfq28 _ _ _ hy53) (zg (lc_ (le_agg ⟨gD (rC) (ln_oncCell) rfl rfl c79, gD (fun _ _ => rfl) (fun _ _ => rfl) rfl rfl c80, (by subst hU_; exact le_nil_bs), tv⟩) (zs1))) ?_; cbv; revert h; refine fk ?_ ?_ <;> intro h <;> cbv
 ·exact df
 revert h; refine fk ?_ ?_ <;> intro h <;> cbv
 ·exact df
 revert h; refine rk [] [(64000, 6144), (64002, 6146), (64004, 6148)] (hfq10 _) (fun _ => zf) fun y54 h => ⟨_, rfl, _, _, rfl, fun _ _ _ _ => .refl _, _, _, rfl, fun _ _ _ _ => .refl _, _, _, rfl, fun _ _ _ _ => .refl _, ?_⟩
 cbv; revert h; refine rk [] [(64000, 6272)] (hfq6 _) (fun _ => zf) fun y56 h => ⟨_, rfl, _, _, rfl, fun _ _ _ _ => .refl _, ?_⟩
 cbv
 revert h; refine rk [] [(64000, 6336), (64002, 6338)] (hfq106 _ _) (fun _ => zg (lc_ (le_agg ⟨gD (rC) (ln_oncCell) rfl rfl rfl, gD (fun _ _ => rfl) (fun _ _ => rfl) rfl rfl rfl, gD (fun _ _ => rfl) (fun _ _ => rfl) rfl rfl rfl, tv⟩) (lc_ (give_os (pl_encEdit) rfl rfl rfl) (ln_)))) fun y58 h => ⟨_, rfl, _, _, rfl, fun _ _ _ _ => .refl _, _, _, rfl, fun _ _ _ _ => .refl _, ?_⟩
 cbv
 revert h; refine cu (fun y60 => (sp 119 [(10, .c (.ptr 640 0)), (13, .c (wi y50.1)), (110, .c (.v (.bool y60)))] [(640, .var [.os 2688 0 (U_ y15.1.fr_.fC), .os 2690 0 (U_ y15.1.fU), .v (.slice none 0 0)]), (2688, .arr .rw [] (U_ y15.1.fr_.fC) 4 (row G_ (oC U_ G_) y50.2.1)), (2690, .arr .rw [] (U_ y15.1.fU) 1 (row G_ (oN U_ G_ 21 (eE)) y50.2.2))])) ?_ fun w66 => rz fun h => ?_
 ·intro y60 S hS h; cbv
  revert h; refine rk [] [] (hfq11 _ _) (fun _ => zg (lc_ (le_agg ⟨gD (rC) (ln_oncCell) rfl rfl rfl, gD (fun _ _ => rfl) (fun _ _ => rfl) rfl rfl rfl, (by subst hU_; exact le_nil_bs), tv⟩) (lc_ (le_agg ⟨gD (rC) (ln_oncCell) rfl rfl rfl, gD (fun _ _ => rfl) (fun _ _ => rfl) rfl rfl rfl, (by subst hU_; exact le_nil_bs), tv⟩) (ln_)))) fun y67 h => ?_
  cbv; revert h; refine fk ?_ ?_ <;> intro h <;> cbv
  ·exact dn
  exact dn
 cbv; revert h; refine fk ?_ ?_ <;> intro h <;> cbv
 ·exact df
 revert h; refine rb fun y70 hy71 => rq fun c74 => rq fun c75 h => ?_; refine rc [] [] (hfq28 _ _ _ hy71) (zg (lc_ (le_agg ⟨gD (rC) (ln_oncCell) rfl rfl c74, gD (fun _ _ => rfl) (fun _ _ => rfl) rfl rfl c75, (by subst hU_; exact le_nil_bs), tv⟩) (zs1))) ?_; cbv; revert h; refine fk ?_ ?_ <;> intro h <;> cbv
 ·exact df
 revert h; refine fk ?_ ?_ <;> intro h <;> cbv
 ·exact df
 exact df
/- the law of Commit -/
def comR (a : TD_) (l : List TE) : TD_ × Int := if okD a = true then (if (allR a.fr_ l).2.2.1 = 0 then (⟨(allR a.fr_ l).1, pushR a.fU (allR a.fr_ l).2.1, []⟩, 0) else (⟨⟨[]⟩, [], []⟩, (allR a.fr_ l).2.2.1)) else (⟨⟨[]⟩, [], []⟩, 1)
theorem spec_Commit_ok (a : TD_) (l : List TE) (h : SmallD a) (hE : ∀ e ∈ l, SmallE e) : Fq149 a l = some (comR a l) := by
  unfold Fq149 comR
  rw [show TD_.mk a.fr_ a.fU a.fD = a from rfl, spec_l13Editor_ok a h, obs]
  cases hd : okD a with
  | false => rfl
  | true =>
    rw [if_pos rfl, Bool.not_true, br_f, spec_l13All_ok _ _ h.cur hE, obs, br_bool, s_not]
    by_cases hc : (allR a.fr_ l).2.2.1 = 0
    · rw [if_pos hc, hc, if_neg (by rw [eq_true' rfl]; simp), spec_l13Push_ok _ _ h.und, obs]
    · rw [if_neg hc, if_pos (by rw [eq_false' hc]; rfl)]
theorem impl_Commit_ok (a : TD_) (l : List TE) (h : SmallD a) (hE : ∀ e ∈ l, SmallE e) : Fq106 a l = some (comR a l) := by
  unfold Fq106 comR
  rw [show TD_.mk a.fr_ a.fU a.fD = a from rfl, impl_validEditor_ok a h, obs]
  cases hd : okD a with
  | false => rfl
  | true =>
    rw [if_pos rfl, Bool.not_true, br_f, impl_applyAll_ok _ _ h.cur hE, obs, br_bool, s_not]
    by_cases hc : (allR a.fr_ l).2.2.1 = 0
    · rw [if_pos hc, hc, if_neg (by rw [eq_true' rfl]; simp), impl_push_ok _ _ h.und, obs]
    · rw [if_neg hc, if_pos (by rw [eq_false' hc]; rfl)]
theorem okD_len {a : TD_} (h : okD a = true) : a.fU.length <= 6 /\ a.fD.length <= 6 := by
  unfold okD at h
  simp only [Bool.and_eq_true] at h
  exact ⟨okStack_len h.2.1, okStack_len h.2.2⟩
theorem small_zeroD : SmallD ⟨⟨[]⟩, [], []⟩ := ⟨small_nilL, small_nil, small_nil⟩
theorem comR_small (a : TD_) (l : List TE) (h : SmallD a) (hE : ∀ e ∈ l, SmallE e) : SmallD (comR a l).1 /\ (comR a l).1.fD = [] := by
  unfold comR
  split
  · rename_i hd
    obtain ⟨g1, g2⟩ := okD_len hd
    obtain ⟨b1, b2⟩ := allR_back a.fr_ l h.cur hE
    split
    · exact ⟨⟨allR_small _ _ h.cur hE, small_push h.und (by omega) (by omega) b1, small_nil⟩, rfl⟩
    · exact ⟨small_zeroD, rfl⟩
  · exact ⟨small_zeroD, rfl⟩
theorem wfESS_of {l : List (List TE)} (h : wfL (wfL wfEdit) l) : wfESS l := ⟨h.1, fun x hx => ⟨(h.2 x hx).1, fun e he => ⟨((h.2 x hx).2 e he).2.2.2.1, ((h.2 x hx).2 e he).2.2.2.2.2.1.2.2⟩⟩⟩
theorem markNil (k : Int) : Fq97 [] k = some k := by
  unfold Fq97
  have e : whileP Lq97_x1 () = some () := by
    rw [whileP_unfold]
    rfl
  rw [e, obs]
theorem markEditorN_ok (a : TD_) (h : SmallD a) (hn : a.fD = []) : Fq116 a 1 = some ((nD a : Int), (mD a).fr_.fC, (mD a).fU) := by
  obtain ⟨p1, p2, p3⟩ := nD_parts h
  unfold Fq116
  have m1 := markLibrary_ok a.fr_ 1 h.cur (by omega)
  have m2 := markEditSS_ok a.fU (1 + offC a.fr_.fC a.fr_.fC.length) h.und (by omega)
  rw [show ((1 : Nat) : Int) = 1 from rfl] at m1
  rw [m1, obs, ro_ (by simp [eL_]), m2, obs, ro_ (by simp [eL_]), markNil, obs, ro_ (by simp [eL_]), ro_ (by simp [eL_])]
  have e : nD a = 1 + offC a.fr_.fC a.fr_.fC.length + offSS a.fU a.fU.length := by unfold nD; rw [hn]; rfl
  rw [e]
  rfl
theorem lawW_Commit (a : TD_) (l : List TE) (w : wfEditor a) (we : wfL wfEdit l) : Fq168 a l = some true := by
  unfold Fq168
  rw [show TD_.mk a.fr_ a.fU a.fD = a from rfl]
  obtain ⟨y, hy, hs⟩ := laws_szEditor_ok a (wfLb_of w.1) (wfESS_of w.2.1) (wfESS_of w.2.2)
  rw [hy, obs, br_bool, s_lt]
  by_cases h0 : y < 0
  · rw [if_pos (by simpa using h0)]
  · obtain ⟨hy2, h⟩ := hs (by omega)
    rw [if_neg (by simpa using h0)]
    obtain ⟨z, hz, hs2⟩ := laws_szEditS_ok l y we.1 (fun e he => ⟨(we.2 e he).2.2.2.1, (we.2 e he).2.2.2.2.2.1.2.2⟩) ⟨by omega, by omega⟩
    rw [hz, obs, br_bool, s_lt]
    by_cases h1 : z < 0
    · rw [if_pos (by simpa using h1)]
    · obtain ⟨_, hl, g⟩ := hs2 (by omega)
      rw [if_neg (by simpa using h1)]
      obtain ⟨r, hr⟩ : ∃ r, r = comR a l := ⟨_, rfl⟩
      obtain ⟨hbs, hrn⟩ : SmallD r.1 /\ r.1.fD = [] := by rw [hr]; exact comR_small a l h g
      obtain ⟨l1, l2, l3⟩ := mD_len a
      obtain ⟨k1, k2, k3⟩ := mD_len r.1
      obtain ⟨p1, p2, p3⟩ := nD_parts h
      have hn : nD a <= 100000000000000 := by unfold nD; omega
      have m4 := markEditS_ok l (nD a) (by omega)
      have hml2 : ((List.range l.length).map (mEdit (nD a))).length = l.length := by simp
      have er : TD_.mk r.1.fr_ r.1.fU ([] : List (List TE)) = r.1 := by rw [<- hrn]
      simp only [laws_toEditor_ok a h, laws_toEditS_ok l hl, laws_eqEditS_ok l hl, obs, impl_Commit_ok a l h g, spec_Commit_ok a l h g, <- hr, er, laws_eqEditor_ok a h, laws_eqEditor_ok r.1 hbs, Bool.not_true, br_f, eq_true' rfl, s_not, lq, markEditor_ok a h, markEditorN_ok r.1 hbs hrn, m4]
      rw [ro_ (by rw [eL_, eL_, l1]), ro_ (by rw [eL_, eL_, l2]), ro_ (by rw [eL_, eL_, l3]), ro_ (by rw [eL_, eL_, hml2]), lt_false (by omega)]
      simp only [br_f, obs]
      rw [ro_ (by rw [eL_, eL_, k1]), ro_ (by rw [eL_, eL_, k2])]
      have hm : TD_.mk (TL.mk (mD r.1).fr_.fC) (mD r.1).fU ([] : List (List TE)) = mD r.1 := by
        have : (mD r.1).fD = [] := by unfold mD; rw [hrn]; rfl
        rw [<- this]
      simp only [hm, heldEditor_ok r.1 hbs, obs]
      rw [ro_ (by rw [eL_, eL_, k1]), ro_ (by rw [eL_, eL_, k2]), lt_false (by omega)]
      simp only [br_f, obs, Bool.not_true]
      rw [ro_ (by rw [eL_, eL_, k1]), ro_ (by rw [eL_, eL_, k2]), eq_true' rfl]
      rfl
end
end Go.Proofs.YtohgghncmkiicaaGreat.AM
