/-
  What the functions that the law reaches compute, and that they do. No condition.
-/
import Derived.Test.YtohgghncmkiicaaGreatAmSR
import Derived.Test.YtohgghncmkiicaaGreatAmSP
namespace Go.Proofs.YtohgghncmkiicaaGreat.AM
noncomputable section
open Go Go.Proofs Go.RowKit Go.Proofs.Tryz
set_option linter.unusedVariables false
set_option linter.unusedSimpArgs false
set_option maxRecDepth 100000

set_option maxHeartbeats 4000000
/-- spec.Redo -/
def Fq141 (a0 : TD_) : Option (TD_ × Int) :=
 (Fq53 a0).bind fun y1 =>
 br (!(y1))
 (some ((TD_.mk (TL.mk ([] : List TC)) ([] : List (List TE)) ([] : List (List TE))), (1 : Int)))
 ((Fq96 a0.fr_ a0.fD a0.fU).bind fun y3 =>
 br (std.not (std.eq y3.2.2.2 0))
 (some ((TD_.mk (TL.mk ([] : List TC)) ([] : List (List TE)) ([] : List (List TE))), y3.2.2.2))
 (some ((TD_.mk y3.1 y3.2.2.1 y3.2.1), (0 : Int))))
theorem runq141 (a0 : TD_) (r : TD_ × Int) (h : Fq141 a0 = some r) : Fun prog 38 [.agg [.bs (len a0.fr_.fC) 4 (row gd (eC len gd) a0.fr_.fC), .bs (len a0.fU) 1 (row gd (eN len gd 21 (eE)) a0.fU), .bs (len a0.fD) 1 (row gd (eN len gd 21 (eE)) a0.fD)]] [] (.tup [.agg [.os 64000 0 (len r.1.fr_.fC), .os 64002 0 (len r.1.fU), .os 64004 0 (len r.1.fD)], .c (wi r.2)]) [(64000, .arr .rw [] (len r.1.fr_.fC) 4 (row gd (oC len gd) r.1.fr_.fC)), (64002, .arr .rw [] (len r.1.fU) 1 (row gd (oN len gd 21 (eE)) r.1.fU)), (64004, .arr .rw [] (len r.1.fD) 1 (row gd (oN len gd 21 (eE)) r.1.fD))] true := by
 refine ow [] func38 ntmps38 ?_ (hv := (fun _ => ⟨(by simp [AV.flat, AV.flat1, AC.flat]), ⟨fun i _ j _ => fl_oncCell _ _, fun i _ j _ => fl_oncL (vl_encEdit) _ _, fun i _ j _ => fl_oncL (vl_encEdit) _ _, tv⟩⟩)); unfold Fq141 at h; have hfq96 := @runq96; have hfq53 := @runq53
 generalize hU_ : @len = U_, hG_ : @gd = G_, hA : std = A, hP : prog = P at *; cbv; revert h; refine rk0 (hfq53 _) fun y1 h => ?_; cbv; revert h; refine fk ?_ ?_ <;> intro h <;> cbv
 ·injection h with h; subst h
  refine ⟨(sp 32 [(2, .c (.ptr 128 0)), (3, .c (wi 1))] [(128, .var [.os 64000 0 (U_ ([] : List TC)), .os 64002 0 (U_ ([] : List (List TE))), .os 64004 0 (U_ ([] : List (List TE)))]), (64000, .arr .rw [] (U_ ([] : List TC)) 4 (row G_ (oC U_ G_) ([] : List TC))), (64002, .arr .rw [] (U_ ([] : List (List TE))) 1 (row G_ (oN U_ G_ 21 (eE)) ([] : List (List TE)))), (64004, .arr .rw [] (U_ ([] : List (List TE))) 1 (row G_ (oN U_ G_ 21 (eE)) ([] : List (List TE))))]), ?_, ?_⟩
  ·refine St.le_trans (le_nilV 128 0 64000 4 (row G_ (oC U_ G_) ([] : List TC)) (by decide) (by decide) rfl rfl) ?_; refine St.le_trans (le_nilV 128 1 64002 1 (row G_ (oN U_ G_ 21 (eE)) ([] : List (List TE))) (by decide) (by decide) rfl rfl) ?_; refine St.le_trans (le_nilV 128 2 64004 1 (row G_ (oN U_ G_ 21 (eE)) ([] : List (List TE))) (by decide) (by decide) rfl rfl) ?_
   subst hU_; exact zb
  ·subst hU_; exact ⟨lR _, zo, rfl⟩
 revert h; refine rk [] [(64000, 1216), (64002, 1218), (64004, 1220)] (hfq96 _ _ _) (fun _ => zf) fun y3 h => ⟨_, rfl, _, _, rfl, fun _ _ _ _ => .refl _, _, _, rfl, fun _ _ _ _ => .refl _, _, _, rfl, fun _ _ _ _ => .refl _, ?_⟩
 cbv; revert h; refine fk ?_ ?_ <;> intro h <;> cbv
 ·injection h with h; subst h
  refine ⟨(sp 32 [(2, .c (.ptr 128 0)), (3, .c (wi y3.2.2.2))] [(128, .var [.os 64000 0 (U_ ([] : List TC)), .os 64002 0 (U_ ([] : List (List TE))), .os 64004 0 (U_ ([] : List (List TE)))]), (64000, .arr .rw [] (U_ ([] : List TC)) 4 (row G_ (oC U_ G_) ([] : List TC))), (64002, .arr .rw [] (U_ ([] : List (List TE))) 1 (row G_ (oN U_ G_ 21 (eE)) ([] : List (List TE)))), (64004, .arr .rw [] (U_ ([] : List (List TE))) 1 (row G_ (oN U_ G_ 21 (eE)) ([] : List (List TE))))]), ?_, ?_⟩
  ·refine St.le_trans (le_nilV 128 0 64000 4 (row G_ (oC U_ G_) ([] : List TC)) (by decide) (by decide) rfl rfl) ?_; refine St.le_trans (le_nilV 128 1 64002 1 (row G_ (oN U_ G_ 21 (eE)) ([] : List (List TE))) (by decide) (by decide) rfl rfl) ?_; refine St.le_trans (le_nilV 128 2 64004 1 (row G_ (oN U_ G_ 21 (eE)) ([] : List (List TE))) (by decide) (by decide) rfl rfl) ?_
   subst hU_; exact zb
  ·subst hU_; exact ⟨lR _, zo, rfl⟩
 injection h with h; subst h; exact ⟨_, St.le_trans (le_ren 1216 64000 (by decide) rfl) (St.le_trans (le_ren 1220 64002 (by decide) rfl) ((le_ren 1218 64004 (by decide) rfl))), lR _, zo, rfl⟩

/-- impl.Redo -/
def Fq107 (a0 : TD_) : Option (TD_ × Int) :=
 (Fq55 a0).bind fun y1 =>
 br (!(y1))
 (some ((TD_.mk (TL.mk ([] : List TC)) ([] : List (List TE)) ([] : List (List TE))), (1 : Int)))
 ((Fq93 a0.fr_ a0.fD a0.fU).bind fun y3 =>
 some ((TD_.mk y3.1 y3.2.2.1 y3.2.1), y3.2.2.2))
theorem runq107 (a0 : TD_) (r : TD_ × Int) (h : Fq107 a0 = some r) : Fun prog 39 [.agg [.bs (len a0.fr_.fC) 4 (row gd (eC len gd) a0.fr_.fC), .bs (len a0.fU) 1 (row gd (eN len gd 21 (eE)) a0.fU), .bs (len a0.fD) 1 (row gd (eN len gd 21 (eE)) a0.fD)]] [] (.tup [.agg [.os 64000 0 (len r.1.fr_.fC), .os 64002 0 (len r.1.fU), .os 64004 0 (len r.1.fD)], .c (wi r.2)]) [(64000, .arr .rw [] (len r.1.fr_.fC) 4 (row gd (oC len gd) r.1.fr_.fC)), (64002, .arr .rw [] (len r.1.fU) 1 (row gd (oN len gd 21 (eE)) r.1.fU)), (64004, .arr .rw [] (len r.1.fD) 1 (row gd (oN len gd 21 (eE)) r.1.fD))] true := by
 refine ow [] func39 ntmps39 ?_ (hv := (fun _ => ⟨(by simp [AV.flat, AV.flat1, AC.flat]), ⟨fun i _ j _ => fl_oncCell _ _, fun i _ j _ => fl_oncL (vl_encEdit) _ _, fun i _ j _ => fl_oncL (vl_encEdit) _ _, tv⟩⟩)); unfold Fq107 at h; have hfq93 := @runq93; have hfq55 := @runq55
 generalize hU_ : @len = U_, hG_ : @gd = G_, hA : std = A, hP : prog = P at *; cbv; revert h; refine rk0 (hfq55 _) fun y1 h => ?_; cbv; revert h; refine fk ?_ ?_ <;> intro h <;> cbv
 ·injection h with h; subst h
  refine ⟨(sp 29 [(2, .c (.ptr 128 0)), (3, .c (wi 1))] [(128, .var [.os 64000 0 (U_ ([] : List TC)), .os 64002 0 (U_ ([] : List (List TE))), .os 64004 0 (U_ ([] : List (List TE)))]), (64000, .arr .rw [] (U_ ([] : List TC)) 4 (row G_ (oC U_ G_) ([] : List TC))), (64002, .arr .rw [] (U_ ([] : List (List TE))) 1 (row G_ (oN U_ G_ 21 (eE)) ([] : List (List TE)))), (64004, .arr .rw [] (U_ ([] : List (List TE))) 1 (row G_ (oN U_ G_ 21 (eE)) ([] : List (List TE))))]), ?_, ?_⟩
  ·refine St.le_trans (le_nilV 128 0 64000 4 (row G_ (oC U_ G_) ([] : List TC)) (by decide) (by decide) rfl rfl) ?_; refine St.le_trans (le_nilV 128 1 64002 1 (row G_ (oN U_ G_ 21 (eE)) ([] : List (List TE))) (by decide) (by decide) rfl rfl) ?_; refine St.le_trans (le_nilV 128 2 64004 1 (row G_ (oN U_ G_ 21 (eE)) ([] : List (List TE))) (by decide) (by decide) rfl rfl) ?_
   subst hU_; exact zb
  ·subst hU_; exact ⟨lR _, zo, rfl⟩
 revert h; refine rk [] [(64000, 1216), (64002, 1218), (64004, 1220)] (hfq93 _ _ _) (fun _ => zf) fun y3 h => ⟨_, rfl, _, _, rfl, fun _ _ _ _ => .refl _, _, _, rfl, fun _ _ _ _ => .refl _, _, _, rfl, fun _ _ _ _ => .refl _, ?_⟩
 cbv; injection h with h; subst h; exact ⟨_, St.le_trans (le_ren 1216 64000 (by decide) rfl) (St.le_trans (le_ren 1220 64002 (by decide) rfl) ((le_ren 1218 64004 (by decide) rfl))), lR _, zo, rfl⟩

/-- laws.FnExactRedo -/
def Fq169 (a0 : TD_) : Option (Bool) :=
 (Fq50 a0 1048576).bind fun y1 =>
 br (std.lt y1 0)
 (some true)
 ((Fq10 a0).bind fun y3 =>
 (Fq141 y3).bind fun y5 =>
 (Fq10 a0).bind fun y7 =>
 (Fq107 y7).bind fun y9 =>
 ((
 (Fq11 y9.1 y5.1).bind fun y18 =>
 br (!(y18))
 (some true)
 (some (std.not (std.eq y9.2 y5.2)))
 ) : Option (Bool)).bind fun y11 =>
 letO y11 fun w17 =>
 br w17
 (some false)
 ((Fq10 a0).bind fun y21 =>
 (Fq11 y7 y21).bind fun y23 =>
 br (!(y23))
 (some false)
 ((Fq34 y7 1).bind fun y25 =>
 req (len y25.2.1 = len y7.fr_.fC) <|
 req (len y25.2.2.1 = len y7.fU) <|
 req (len y25.2.2.2 = len y7.fD) <|
 ((
 br (std.lt y25.1 0)
 (some true)
 ((Fq11 y9.1 y5.1).bind fun y34 =>
 br (!(y34))
 (some true)
 (some (std.not (std.eq y9.2 y5.2))))
 ) : Option (Bool)).bind fun y27 =>
 letO y27 fun w33 =>
 br w33
 (some false)
 ((Fq34 y9.1 1).bind fun y38 =>
 req (len y38.2.1 = len y9.1.fr_.fC) <|
 req (len y38.2.2.1 = len y9.1.fU) <|
 req (len y38.2.2.2 = len y9.1.fD) <|
 (Fq28 (TD_.mk (TL.mk y38.2.1) y38.2.2.1 y38.2.2.2) 1).bind fun y40 =>
 req (len y9.1.fr_.fC = len y38.2.1) <|
 req (len y9.1.fU = len y38.2.2.1) <|
 req (len y9.1.fD = len y38.2.2.2) <|
 br (std.lt y40 0)
 (some false)
 (br (std.not (std.eq y40 y38.1))
 (some false)
 ((Fq10 a0).bind fun y42 =>
 (Fq107 y42).bind fun y44 =>
 ((
 (Fq11 y44.1 y5.1).bind fun y53 =>
 br (!(y53))
 (some true)
 (some (std.not (std.eq y44.2 y5.2)))
 ) : Option (Bool)).bind fun y46 =>
 letO y46 fun w52 =>
 br w52
 (some false)
 ((Fq28 (TD_.mk (TL.mk y38.2.1) y38.2.2.1 y38.2.2.2) 1).bind fun y56 =>
 req (len y9.1.fr_.fC = len y38.2.1) <|
 req (len y9.1.fU = len y38.2.2.1) <|
 req (len y9.1.fD = len y38.2.2.2) <|
 br (std.lt y56 0)
 (some false)
 (br (std.not (std.eq y56 y38.1))
 (some false)
 (some true)))))))))
theorem runq169 (a0 : TD_) (r : Bool) (h : Fq169 a0 = some r) : Fun prog 7 [.agg [.bs (len a0.fr_.fC) 4 (row gd (eC len gd) a0.fr_.fC), .bs (len a0.fU) 1 (row gd (eN len gd 21 (eE)) a0.fU), .bs (len a0.fD) 1 (row gd (eN len gd 21 (eE)) a0.fD)]] [] (.c (.v (.bool r))) [] true := by
 refine ow [8, 14, 25] func7 ntmps7 ?_; unfold Fq169 at h; have hfq107 := @runq107; have hfq11 := @runq11; have hfq28 := @runq28; have hfq34 := @runq34; have hfq50 := @runq50; have hfq10 := @runq10; have hfq141 := @runq141
 generalize hU_ : @len = U_, hG_ : @gd = G_, hA : std = A, hP : prog = P at *; cbv; revert h; refine rk0 (hfq50 _ _) fun y1 h => ?_; cbv; revert h; refine fk ?_ ?_ <;> intro h <;> cbv
 ·exact df
 revert h; refine rk [] [(64000, 1344), (64002, 1346), (64004, 1348)] (hfq10 _) (fun _ => zf) fun y3 h => ⟨_, rfl, _, _, rfl, fun _ _ _ _ => .refl _, _, _, rfl, fun _ _ _ _ => .refl _, _, _, rfl, fun _ _ _ _ => .refl _, ?_⟩
 cbv
 revert h; refine rk [] [(64000, 1408), (64002, 1410), (64004, 1412)] (hfq141 _) (fun _ => zg (lc_ (le_agg ⟨gD (rC) (ln_oncCell) rfl rfl rfl, gD (fun _ _ => rfl) (fun _ _ => rfl) rfl rfl rfl, gD (fun _ _ => rfl) (fun _ _ => rfl) rfl rfl rfl, tv⟩) (ln_))) fun y5 h => ⟨_, rfl, _, _, rfl, fun _ _ _ _ => .refl _, _, _, rfl, fun _ _ _ _ => .refl _, _, _, rfl, fun _ _ _ _ => .refl _, ?_⟩
 cbv; revert h; refine rk [] [(64000, 1664), (64002, 1666), (64004, 1668)] (hfq10 _) (fun _ => zf) fun y7 h => ⟨_, rfl, _, _, rfl, fun _ _ _ _ => .refl _, _, _, rfl, fun _ _ _ _ => .refl _, _, _, rfl, fun _ _ _ _ => .refl _, ?_⟩
 cbv
 revert h; refine rk [] [(64000, 1856), (64002, 1858), (64004, 1860)] (hfq107 _) (fun _ => zg (lc_ (le_agg ⟨gD (rC) (ln_oncCell) rfl rfl rfl, gD (fun _ _ => rfl) (fun _ _ => rfl) rfl rfl rfl, gD (fun _ _ => rfl) (fun _ _ => rfl) rfl rfl rfl, tv⟩) (ln_))) fun y9 h => ⟨_, rfl, _, _, rfl, fun _ _ _ _ => .refl _, _, _, rfl, fun _ _ _ _ => .refl _, _, _, rfl, fun _ _ _ _ => .refl _, ?_⟩
 cbv
 revert h; refine cu (fun y11 => (sp 96 [(1, .c (.ptr 64 0)), (4, .c (.ptr 256 0)), (5, .c (wi y5.2)), (6, .c (.ptr 384 0)), (7, .c (.ptr 448 0)), (8, .c (wi y9.2)), (40, .c (.v (.bool y11)))] [(64, .var [.bs (U_ a0.fr_.fC) 4 (row G_ (eC U_ G_) a0.fr_.fC), .bs (U_ a0.fU) 1 (row G_ (eN U_ G_ 21 (eE)) a0.fU), .bs (U_ a0.fD) 1 (row G_ (eN U_ G_ 21 (eE)) a0.fD)]), (256, .var [.os 1408 0 (U_ y5.1.fr_.fC), .os 1410 0 (U_ y5.1.fU), .os 1412 0 (U_ y5.1.fD)]), (384, .var [.os 1664 0 (U_ y7.fr_.fC), .os 1666 0 (U_ y7.fU), .os 1668 0 (U_ y7.fD)]), (448, .var [.os 1856 0 (U_ y9.1.fr_.fC), .os 1858 0 (U_ y9.1.fU), .os 1860 0 (U_ y9.1.fD)]), (1408, .arr .rw [] (U_ y5.1.fr_.fC) 4 (row G_ (oC U_ G_) y5.1.fr_.fC)), (1410, .arr .rw [] (U_ y5.1.fU) 1 (row G_ (oN U_ G_ 21 (eE)) y5.1.fU)), (1412, .arr .rw [] (U_ y5.1.fD) 1 (row G_ (oN U_ G_ 21 (eE)) y5.1.fD)), (1664, .arr .rw [] (U_ y7.fr_.fC) 4 (row G_ (oC U_ G_) y7.fr_.fC)), (1666, .arr .rw [] (U_ y7.fU) 1 (row G_ (oN U_ G_ 21 (eE)) y7.fU)), (1668, .arr .rw [] (U_ y7.fD) 1 (row G_ (oN U_ G_ 21 (eE)) y7.fD)), (1856, .arr .rw [] (U_ y9.1.fr_.fC) 4 (row G_ (oC U_ G_) y9.1.fr_.fC)), (1858, .arr .rw [] (U_ y9.1.fU) 1 (row G_ (oN U_ G_ 21 (eE)) y9.1.fU)), (1860, .arr .rw [] (U_ y9.1.fD) 1 (row G_ (oN U_ G_ 21 (eE)) y9.1.fD))])) ?_ fun w17 => rz fun h => ?_
 ·intro y11 S hS h; cbv
  revert h; refine rk [] [] (hfq11 _ _) (fun _ => zg (lc_ (le_agg ⟨gD (rC) (ln_oncCell) rfl rfl rfl, gD (fun _ _ => rfl) (fun _ _ => rfl) rfl rfl rfl, gD (fun _ _ => rfl) (fun _ _ => rfl) rfl rfl rfl, tv⟩) (lc_ (le_agg ⟨gD (rC) (ln_oncCell) rfl rfl rfl, gD (fun _ _ => rfl) (fun _ _ => rfl) rfl rfl rfl, gD (fun _ _ => rfl) (fun _ _ => rfl) rfl rfl rfl, tv⟩) (ln_)))) fun y18 h => ?_
  cbv; revert h; refine fk ?_ ?_ <;> intro h <;> cbv
  ·exact dn
  exact dn
 cbv; revert h; refine fk ?_ ?_ <;> intro h <;> cbv
 ·exact df
 revert h; refine rk [] [(64000, 2752), (64002, 2754), (64004, 2756)] (hfq10 _) (fun _ => zf) fun y21 h => ⟨_, rfl, _, _, rfl, fun _ _ _ _ => .refl _, _, _, rfl, fun _ _ _ _ => .refl _, _, _, rfl, fun _ _ _ _ => .refl _, ?_⟩
 cbv
 revert h; refine rk [] [] (hfq11 _ _) (fun _ => zg (lc_ (le_agg ⟨gD (rC) (ln_oncCell) rfl rfl rfl, gD (fun _ _ => rfl) (fun _ _ => rfl) rfl rfl rfl, gD (fun _ _ => rfl) (fun _ _ => rfl) rfl rfl rfl, tv⟩) (lc_ (le_agg ⟨gD (rC) (ln_oncCell) rfl rfl rfl, gD (fun _ _ => rfl) (fun _ _ => rfl) rfl rfl rfl, gD (fun _ _ => rfl) (fun _ _ => rfl) rfl rfl rfl, tv⟩) (ln_)))) fun y23 h => ?_
 cbv; revert h; refine fk ?_ ?_ <;> intro h <;> cbv
 ·exact df
 revert h; refine rb fun y25 hy26 => rq fun c73 => rq fun c74 => rq fun c75 h => ?_; refine rc [(5, 1664), (7, 1666), (9, 1668)] [(5, 1664), (7, 1666), (9, 1668)] (hfq34 _ _ _ hy26) yf ⟨_, rfl, U_ y7.fr_.fC, _, c73, fun _ _ _ _ => .refl _, U_ y7.fU, _, c74, fun _ _ _ _ => .refl _, U_ y7.fD, _, c75, fun _ _ _ _ => .refl _, ?_⟩; cbv
 revert h; refine cu (fun y27 => (sp 96 [(1, .c (.ptr 64 0)), (4, .c (.ptr 256 0)), (5, .c (wi y5.2)), (7, .c (.ptr 448 0)), (61, .c (.v (.bool y27)))] [(64, .var [.bs (U_ a0.fr_.fC) 4 (row G_ (eC U_ G_) a0.fr_.fC), .bs (U_ a0.fU) 1 (row G_ (eN U_ G_ 21 (eE)) a0.fU), .bs (U_ a0.fD) 1 (row G_ (eN U_ G_ 21 (eE)) a0.fD)]), (256, .var [.os 1408 0 (U_ y5.1.fr_.fC), .os 1410 0 (U_ y5.1.fU), .os 1412 0 (U_ y5.1.fD)]), (448, .var [.os 1856 0 (U_ y9.1.fr_.fC), .os 1858 0 (U_ y9.1.fU), .os 1860 0 (U_ y9.1.fD)]), (1408, .arr .rw [] (U_ y5.1.fr_.fC) 4 (row G_ (oC U_ G_) y5.1.fr_.fC)), (1410, .arr .rw [] (U_ y5.1.fU) 1 (row G_ (oN U_ G_ 21 (eE)) y5.1.fU)), (1412, .arr .rw [] (U_ y5.1.fD) 1 (row G_ (oN U_ G_ 21 (eE)) y5.1.fD)), (1856, .arr .rw [] (U_ y9.1.fr_.fC) 4 (row G_ (oC U_ G_) y9.1.fr_.fC)), (1858, .arr .rw [] (U_ y9.1.fU) 1 (row G_ (oN U_ G_ 21 (eE)) y9.1.fU)), (1860, .arr .rw [] (U_ y9.1.fD) 1 (row G_ (oN U_ G_ 21 (eE)) y9.1.fD))])) ?_ fun w33 => rz fun h => ?_
 ·intro y27 S hS h; cbv; revert h; refine fk ?_ ?_ <;> intro h <;> cbv
  ·exact dn
  revert h; refine rk [] [] (hfq11 _ _) (fun _ => zg (lc_ (le_agg ⟨gD (rC) (ln_oncCell) rfl rfl rfl, gD (fun _ _ => rfl) (fun _ _ => rfl) rfl rfl rfl, gD (fun _ _ => rfl) (fun _ _ => rfl) rfl rfl rfl, tv⟩) (lc_ (le_agg ⟨gD (rC) (ln_oncCell) rfl rfl rfl, gD (fun _ _ => rfl) (fun _ _ => rfl) rfl rfl rfl, gD (fun _ _ => rfl) (fun _ _ => rfl) rfl rfl rfl, tv⟩) (ln_)))) fun y34 h => ?_
  cbv; revert h; refine fk ?_ ?_ <;> intro h <;> cbv
  ·exact dn
  exact dn
 cbv; revert h; refine fk ?_ ?_ <;> intro h <;> cbv
 ·exact df
 revert h; refine rb fun y38 hy39 => rq fun c69 => rq fun c70 => rq fun c71 h => ?_; refine rc [(5, 1856), (7, 1858), (9, 1860)] [(5, 1856), (7, 1858), (9, 1860)] (hfq34 _ _ _ hy39) yf ⟨_, rfl, U_ y9.1.fr_.fC, _, c69, fun _ _ _ _ => .refl _, U_ y9.1.fU, _, c70, fun _ _ _ _ => .refl _, U_ y9.1.fD, _, c71, fun _ _ _ _ => .refl _, ?_⟩; cbv
 revert h; refine rb fun y40 hy41 => rq fun c66 => rq fun c67 => rq fun c68 h => ?_; refine rc [] [] (hfq28 _ _ _ hy41) (zg (lc_ (le_agg ⟨gD (rC) (ln_oncCell) rfl rfl c66, gD (fun _ _ => rfl) (fun _ _ => rfl) rfl rfl c67, gD (fun _ _ => rfl) (fun _ _ => rfl) rfl rfl c68, tv⟩) (zs1))) ?_; cbv
 revert h; refine fk ?_ ?_ <;> intro h <;> cbv
 ·exact df
 revert h; refine fk ?_ ?_ <;> intro h <;> cbv
 ·exact df
 revert h; refine rk [] [(64000, 4800), (64002, 4802), (64004, 4804)] (hfq10 _) (fun _ => zf) fun y42 h => ⟨_, rfl, _, _, rfl, fun _ _ _ _ => .refl _, _, _, rfl, fun _ _ _ _ => .refl _, _, _, rfl, fun _ _ _ _ => .refl _, ?_⟩
 cbv
 revert h; refine rk [] [(64000, 4864), (64002, 4866), (64004, 4868)] (hfq107 _) (fun _ => zg (lc_ (le_agg ⟨gD (rC) (ln_oncCell) rfl rfl rfl, gD (fun _ _ => rfl) (fun _ _ => rfl) rfl rfl rfl, gD (fun _ _ => rfl) (fun _ _ => rfl) rfl rfl rfl, tv⟩) (ln_))) fun y44 h => ⟨_, rfl, _, _, rfl, fun _ _ _ _ => .refl _, _, _, rfl, fun _ _ _ _ => .refl _, _, _, rfl, fun _ _ _ _ => .refl _, ?_⟩
 cbv
 revert h; refine cu (fun y46 => (sp 96 [(7, .c (.ptr 448 0)), (10, .c (wi y38.1)), (87, .c (.v (.bool y46)))] [(448, .var [.os 1856 0 (U_ y9.1.fr_.fC), .os 1858 0 (U_ y9.1.fU), .os 1860 0 (U_ y9.1.fD)]), (1856, .arr .rw [] (U_ y9.1.fr_.fC) 4 (row G_ (oC U_ G_) y38.2.1)), (1858, .arr .rw [] (U_ y9.1.fU) 1 (row G_ (oN U_ G_ 21 (eE)) y38.2.2.1)), (1860, .arr .rw [] (U_ y9.1.fD) 1 (row G_ (oN U_ G_ 21 (eE)) y38.2.2.2))])) ?_ fun w52 => rz fun h => ?_
 ·intro y46 S hS h; cbv
  revert h; refine rk [] [] (hfq11 _ _) (fun _ => zg (lc_ (le_agg ⟨gD (rC) (ln_oncCell) rfl rfl rfl, gD (fun _ _ => rfl) (fun _ _ => rfl) rfl rfl rfl, gD (fun _ _ => rfl) (fun _ _ => rfl) rfl rfl rfl, tv⟩) (lc_ (le_agg ⟨gD (rC) (ln_oncCell) rfl rfl rfl, gD (fun _ _ => rfl) (fun _ _ => rfl) rfl rfl rfl, gD (fun _ _ => rfl) (fun _ _ => rfl) rfl rfl rfl, tv⟩) (ln_)))) fun y53 h => ?_
  cbv; revert h; refine fk ?_ ?_ <;> intro h <;> cbv
  ·exact dn
  exact dn
 cbv; revert h; refine fk ?_ ?_ <;> intro h <;> cbv
 ·exact df
 revert h; refine rb fun y56 hy57 => rq fun c60 => rq fun c61 => rq fun c62 h => ?_; refine rc [] [] (hfq28 _ _ _ hy57) (zg (lc_ (le_agg ⟨gD (rC) (ln_oncCell) rfl rfl c60, gD (fun _ _ => rfl) (fun _ _ => rfl) rfl rfl c61, gD (fun _ _ => rfl) (fun _ _ => rfl) rfl rfl c62, tv⟩) (zs1))) ?_; cbv
 revert h; refine fk ?_ ?_ <;> intro h <;> cbv
 ·exact df
 revert h; refine fk ?_ ?_ <;> intro h <;> cbv
 ·exact df
 exact df
/- the law of Redo -/
def redoR (a : TD_) : TD_ × Int := if okD a = true then (⟨(backR a.fr_ a.fD a.fU).1, (backR a.fr_ a.fD a.fU).2.2.1, (backR a.fr_ a.fD a.fU).2.1⟩, (backR a.fr_ a.fD a.fU).2.2.2) else (⟨⟨[]⟩, [], []⟩, 1)
theorem back_zero (a : TL) (u r : List (List TE)) (h : (backR a u r).2.2.2 ≠ 0) : backR a u r = (⟨[]⟩, [], [], (backR a u r).2.2.2) := by
  unfold backR at h ⊢
  split
  · rfl
  · rename_i h0
    split
    · rename_i h1
      rw [if_neg h0, if_pos h1] at h
      exact absurd rfl h
    · rfl
theorem spec_Redo_ok (a : TD_) (h : SmallD a) : Fq141 a = some (redoR a) := by
  unfold Fq141 redoR
  change (Fq53 a).bind _ = _
  rw [spec_l13Editor_ok a h, obs]
  cases hd : okD a with
  | false => rfl
  | true =>
    rw [if_pos rfl, Bool.not_true, br_f, spec_back_ok _ _ _ h.cur h.red h.und, obs, br_bool, s_not]
    by_cases hc : (backR a.fr_ a.fD a.fU).2.2.2 = 0
    · rw [hc, if_neg (by rw [eq_true' rfl]; simp)]
    · have e := back_zero _ _ _ hc
      rw [if_pos (by rw [eq_false' hc]; rfl)]
      generalize backR a.fr_ a.fD a.fU = q at *
      rw [e]
theorem impl_Redo_ok (a : TD_) (h : SmallD a) : Fq107 a = some (redoR a) := by
  unfold Fq107 redoR
  change (Fq55 a).bind _ = _
  rw [impl_validEditor_ok a h, obs]
  cases hd : okD a with
  | false => rfl
  | true => rw [if_pos rfl, Bool.not_true, br_f, impl_back_ok _ _ _ h.cur h.red h.und, obs]
theorem okD_len {a : TD_} (h : okD a = true) : a.fU.length <= 6 /\ a.fD.length <= 6 := by
  unfold okD at h
  simp only [Bool.and_eq_true] at h
  exact ⟨okStack_len h.2.1, okStack_len h.2.2⟩
theorem small_zeroD : SmallD ⟨⟨[]⟩, [], []⟩ := ⟨small_nilL, small_nil, small_nil⟩
theorem redoR_small (a : TD_) (h : SmallD a) : SmallD (redoR a).1 := by
  unfold redoR
  split
  · rename_i hd
    obtain ⟨g1, g2⟩ := okD_len hd
    obtain ⟨b1, b2, b3⟩ := backR_small a.fr_ a.fD a.fU h.cur h.red h.und (by omega)
    exact ⟨b1, b3, b2⟩
  · exact small_zeroD
theorem wfESS_of {l : List (List TE)} (h : wfL (wfL wfEdit) l) : wfESS l := ⟨h.1, fun x hx => ⟨(h.2 x hx).1, fun e he => ⟨((h.2 x hx).2 e he).2.2.2.1, ((h.2 x hx).2 e he).2.2.2.2.2.1.2.2⟩⟩⟩
theorem lawW_Redo (a : TD_) (w : wfEditor a) : Fq169 a = some true := by
  unfold Fq169
  try rw [show TD_.mk a.fr_ a.fU a.fD = a from rfl]
  obtain ⟨y, hy, hs⟩ := laws_szEditor_ok a (wfLb_of w.1) (wfESS_of w.2.1) (wfESS_of w.2.2)
  rw [hy, obs, br_bool, s_lt]
  by_cases h0 : y < 0
  · rw [if_pos (by simpa using h0)]
  · obtain ⟨hy2, h⟩ := hs (by omega)
    rw [if_neg (by simpa using h0)]
    obtain ⟨r, hr⟩ : ∃ r, r = redoR a := ⟨_, rfl⟩
    have hbs : SmallD r.1 := by rw [hr]; exact redoR_small a h
    obtain ⟨l1, l2, l3⟩ := mD_len a
    obtain ⟨k1, k2, k3⟩ := mD_len r.1
    simp only [laws_toEditor_ok a h, obs, impl_Redo_ok a h, spec_Redo_ok a h, <- hr, laws_eqEditor_ok a h, laws_eqEditor_ok r.1 hbs, Bool.not_true, br_f, eq_true' rfl, s_not, lq, markEditor_ok a h, markEditor_ok r.1 hbs]
    rw [ro_ (by rw [eL_, eL_, l1]), ro_ (by rw [eL_, eL_, l2]), ro_ (by rw [eL_, eL_, l3]), lt_false (by omega)]
    simp only [br_f, obs]
    rw [ro_ (by rw [eL_, eL_, k1]), ro_ (by rw [eL_, eL_, k2]), ro_ (by rw [eL_, eL_, k3])]
    have hm : TD_.mk (TL.mk (mD r.1).fr_.fC) (mD r.1).fU (mD r.1).fD = mD r.1 := rfl
    simp only [hm, heldEditor_ok r.1 hbs, obs]
    rw [ro_ (by rw [eL_, eL_, k1]), ro_ (by rw [eL_, eL_, k2]), ro_ (by rw [eL_, eL_, k3]), lt_false (by omega)]
    simp only [br_f, obs, Bool.not_true]
    rw [ro_ (by rw [eL_, eL_, k1]), ro_ (by rw [eL_, eL_, k2]), ro_ (by rw [eL_, eL_, k3]), eq_true' rfl]
    rfl
end
end Go.Proofs.YtohgghncmkiicaaGreat.AM
