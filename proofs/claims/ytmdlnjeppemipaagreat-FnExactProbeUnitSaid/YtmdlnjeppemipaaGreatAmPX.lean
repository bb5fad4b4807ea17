/-
  What the functions that the law reaches compute, and that they do. No condition.
-/
import Derived.Test.YtmdlnjeppemipaaGreatAmPW
namespace Go.Proofs.YtmdlnjeppemipaaGreat.AM
open Go Go.Proofs Go.RowKit
set_option linter.unusedVariables false
set_option linter.unusedSimpArgs false
set_option maxRecDepth 100000

/-- spec.l12Visited -/
noncomputable def F_spec_l12Visited (a0 : TLibrary) (a1 : Int) (a2 : TRect) : Option (List TOccurrence) :=
 letO ([] : List TOccurrence) fun l1 =>
 (F_spec_l12Visit_mbxbb (TLibrary.mk a0.fCells) l1 (TOccurrence.mk a1 (TTransform.mk 0 0 0) ([] : List Int)) (TRect.mk a2.fX0 a2.fY0 a2.fX1 a2.fY1)).bind fun y3 =>
 some y3
theorem run_spec_l12Visited (a0 : TLibrary) (a1 : Int) (a2 : TRect) (r : List TOccurrence) (h : F_spec_l12Visited a0 a1 a2 = some r) : Fun Tryz.prog 29 [.agg [.bs (len a0.fCells) 4 (row gd (encCell len gd) a0.fCells)], .c (.v (.int .i64 a1)), .agg [.v (.int .i64 a2.fX0), .v (.int .i64 a2.fY0), .v (.int .i64 a2.fX1), .v (.int .i64 a2.fY1)]] [] (.c (.os 64000 0 (len r))) [(64000, .arr .rw [] (len r) 5 (row gd (encOccurrence len gd) r))] false := by
 refine Fun.of_wp (oneOf []) tok mixed Tryz.func29 (by kernel_rfl) rfl Tryz.ntmps29 rfl trivial (fun h => by cases h) ?_
 unfold F_spec_l12Visited at h
 have hf_spec_l12Visit_mbxbb := @run_spec_l12Visit_mbxbb
 generalize hLEN : @len = LEN at *
 generalize hGD : @gd = GD at *
 generalize hA : std = A at *
 generalize hP : Tryz.prog = P at *
 cbv
 replace h := of_let h
 obtain ⟨l1, hl1, h⟩ := h
 have e2 : 0 = LEN l1 := by subst hl1 hLEN; rfl
 refine ⟨_, congrArg (fun n => AV.c (AC.os 512 0 n)) e2, _, row GD (encOccurrence LEN GD) l1, e2, ?_, ?_⟩
 ·intro i hi j hj
  rw [← e2] at hi
  subst hl1
  subst hGD
  omega
 cbv
 replace h := of_bind h
 obtain ⟨y3, hy4, h⟩ := h
 refine ⟨{ args := [.agg [.bs (LEN a0.fCells) 4 (row GD (encCell LEN GD) a0.fCells)], .c (.os 5 0 (LEN l1)), .agg [.v (.int .i64 a1), .v (.int .i64 0), .v (.int .i64 0), .v (.int .i64 0), .bs (LEN ([] : List Int)) 1 (row GD (encI .i64) ([] : List Int))], .agg [.v (.int .i64 a2.fX0), .v (.int .i64 a2.fY0), .v (.int .i64 a2.fX1), .v (.int .i64 a2.fY1)]], o0 := [(5, .arr .rw [] (LEN l1) 5 (row GD (encOccurrence LEN GD) l1))], r := .c (.os 64000 0 (LEN y3)), o1 := [(64000, .arr .rw [] (LEN y3) 5 (row GD (encOccurrence LEN GD) y3))], fl := false, σ := [(5, 512)], τ := [(64000, 768)] }, hf_spec_l12Visit_mbxbb _ _ _ _ _ hy4, ⟨les_cons (lR _) (les_cons (lR _) (les_cons (le_agg ⟨lR _, lR _, lR _, lR _, (by subst hLEN; exact le_nil_bs), trivial⟩) (les_cons (lR _) (les_nil)))), ⟨oS, trivial⟩, rfl, rfl, rfl, rfl, ⟨fun h => absurd (show (64000 : Nat) % 2 = 1 from h) (by decide), trivial⟩, rfl⟩, _, rfl, _, _, rfl, fun _ _ _ _ => rfl, ?_⟩
 cbv
 injection h with h
 subst h
 refine ⟨(sparse 13 [(6, .c (.os 64000 0 (LEN y3)))] [(64000, .arr .rw [] (LEN y3) 5 (row GD (encOccurrence LEN GD) y3))]), ?_, ?_⟩
 ·refine St.le_trans (le_ren 768 64000 (by decide) rfl) ?_
  exact le_sparse rfl ⟨lR _, trivial⟩ ⟨oS, trivial⟩ rfl
 ·exact ⟨lR _, ⟨oS, trivial⟩, rfl⟩

noncomputable def L_spec_l12Hits_x23 (a0 : TLibrary) (a2 : Int) (a3 : TRect) (y3 : (List TOccurrence)) (v5 : Int) : (Int × (List TWindowHit)) → Option ((Int × (List TWindowHit)) ⊕ (((List TWindowHit)))) := fun x23 =>
 letO x23.1 fun v21 =>
 letO x23.2 fun v22 =>
 br (std.lt v21 (std.ofN (len (gd a0.fCells (std.toN (gd y3 (std.nadd 0 (std.toN v5))).fCell)).fShapes)))
 (req (std.inR v5 (len y3)) <|
 req (std.inR v21 (len (gd a0.fCells (std.toN (gd y3 (std.nadd 0 (std.toN v5))).fCell)).fShapes)) <|
 (F_spec_l10Rect (gd y3 (std.nadd 0 (std.toN v5))).fPlace (gd (gd a0.fCells (std.toN (gd y3 (std.nadd 0 (std.toN v5))).fCell)).fShapes (std.toN v21)).fBox).bind fun y37 =>
 ((
    req (std.inR v21 (len (gd a0.fCells (std.toN (gd y3 (std.nadd 0 (std.toN v5))).fCell)).fShapes)) <|
    br (std.eq (gd (gd a0.fCells (std.toN (gd y3 (std.nadd 0 (std.toN v5))).fCell)).fShapes (std.toN v21)).fLayer a2)
    ((F_spec_l11Overlap y37 a3).bind fun y47 =>
    some y47)
    (some false)
  ) : Option (Bool)).bind fun y39 =>
 letO y39 fun w45 =>
 ((
    br w45
    (((
       req (std.inR v5 (len y3)) <|
       letO ([] : List Int) fun l65 =>
       req (std.inR v5 (len y3)) <|
       req (std.room (std.nadd (len l65) (len (gd y3 (std.nadd 0 (std.toN v5))).fPath)) 8) <|
       letO (l65 ++ (gd y3 (std.nadd 0 (std.toN v5))).fPath) fun l68 =>
       letO ([(TWindowHit.mk (gd y3 (std.nadd 0 (std.toN v5))).fCell v21 a2 y37 l68)] : List TWindowHit) fun l71 =>
       req (std.room (std.nadd (len v22) (len l71)) 80) <|
       letO (v22 ++ l71) fun l73 =>
       some l73
     ) : Option ((List TWindowHit))).bind fun y57 =>
    letO y57 fun w63 =>
    some w63)
    (some v22)
  ) : Option ((List TWindowHit))).bind fun y50 =>
 letO y50 fun w56 =>
 some (.inl (std.add .i64 v21 1, w56)))
 (some (.inr v22))
noncomputable def L_spec_l12Hits_x7 (a0 : TLibrary) (a2 : Int) (a3 : TRect) (y3 : (List TOccurrence)) : (Int × (List TWindowHit)) → Option ((Int × (List TWindowHit)) ⊕ (((List TWindowHit)))) := fun x7 =>
 letO x7.1 fun v5 =>
 letO x7.2 fun v6 =>
 br (std.lt v5 (std.ofN (len y3)))
 (req (std.inR v5 (len y3)) <|
 req (std.inR (gd y3 (std.nadd 0 (std.toN v5))).fCell (len a0.fCells)) <|
 (whileP (σ := Int × (List TWindowHit)) (ρ := ((List TWindowHit))) (L_spec_l12Hits_x23 a0 a2 a3 y3 v5) (0, v6)).bind fun y24 =>
 letO y24 fun y24k0 =>
 letO y24k0 fun w78 =>
 some (.inl (std.add .i64 v5 1, w78)))
 (some (.inr v6))
/-- spec.l12Hits -/
noncomputable def F_spec_l12Hits (a0 : TLibrary) (a1 : Int) (a2 : Int) (a3 : TRect) : Option (List TWindowHit) :=
 letO ([] : List TWindowHit) fun l1 =>
 (F_spec_l12Visited (TLibrary.mk a0.fCells) a1 a3).bind fun y3 =>
 (whileP (σ := Int × (List TWindowHit)) (ρ := ((List TWindowHit))) (L_spec_l12Hits_x7 a0 a2 a3 y3) (0, l1)).bind fun y8 =>
 letO y8 fun y8k0 =>
 letO y8k0 fun w80 =>
 some w80
theorem run_spec_l12Hits (a0 : TLibrary) (a1 : Int) (a2 : Int) (a3 : TRect) (r : List TWindowHit) (h : F_spec_l12Hits a0 a1 a2 a3 = some r) : Fun Tryz.prog 43 [.agg [.bs (len a0.fCells) 4 (row gd (encCell len gd) a0.fCells)], .c (.v (.int .i64 a1)), .c (.v (.int .i64 a2)), .agg [.v (.int .i64 a3.fX0), .v (.int .i64 a3.fY0), .v (.int .i64 a3.fX1), .v (.int .i64 a3.fY1)]] [] (.c (.os 64000 0 (len r))) [(64000, .arr .rw [] (len r) 8 (row gd (oncWindowHit len gd) r))] true := by
 refine Fun.of_wp (oneOf [11, 12, 100066]) tok mixed Tryz.func43 (by kernel_rfl) rfl Tryz.ntmps43 rfl trivial (fun _ => ⟨trivial, ⟨fun i _ j _ => fl_oncWindowHit _ _, trivial⟩⟩) ?_
 unfold F_spec_l12Hits at h
 unfold L_spec_l12Hits_x7 at h
 unfold L_spec_l12Hits_x23 at h
 have hf_spec_l10Rect := @run_spec_l10Rect
 have hf_spec_l11Overlap := @run_spec_l11Overlap
 have hf_spec_l12Visited := @run_spec_l12Visited
 generalize hLEN : @len = LEN at *
 generalize hGD : @gd = GD at *
 generalize hA : std = A at *
 generalize hP : Tryz.prog = P at *
 cbv
 replace h := of_let h
 obtain ⟨l1, hl1, h⟩ := h
 have e2 : 0 = LEN l1 := by subst hl1 hLEN; rfl
 refine ⟨_, congrArg (fun n => AV.c (AC.os 960 0 n)) e2, _, row GD (oncWindowHit LEN GD) l1, e2, ?_, ?_⟩
 ·intro i hi j hj
  rw [← e2] at hi
  subst hl1
  subst hGD
  omega
 cbv
 replace h := of_bind h
 obtain ⟨y3, hy4, h⟩ := h
 refine ⟨{ args := [.agg [.bs (LEN a0.fCells) 4 (row GD (encCell LEN GD) a0.fCells)], .c (.v (.int .i64 a1)), .agg [.v (.int .i64 a3.fX0), .v (.int .i64 a3.fY0), .v (.int .i64 a3.fX1), .v (.int .i64 a3.fY1)]], o0 := [], r := .c (.os 64000 0 (LEN y3)), o1 := [(64000, .arr .rw [] (LEN y3) 5 (row GD (encOccurrence LEN GD) y3))], fl := false, σ := [], τ := [(64000, 1216)] }, hf_spec_l12Visited _ _ _ _ hy4, ⟨les_cons (lR _) (les_cons (lR _) (les_cons (lR _) (les_nil))), trivial, rfl, rfl, rfl, rfl, ⟨fun h => absurd (show (64000 : Nat) % 2 = 1 from h) (by decide), trivial⟩, rfl⟩, _, rfl, _, _, rfl, fun _ _ _ _ => rfl, ?_⟩
 cbv
 replace h := of_bind h
 obtain ⟨y8, hr9, hN10⟩ := h
 refine loop_cut hr9 (fun x => (sparse 87 [(2, .c (.v (.int .i64 a2))), (4, .c (.ptr 256 0)), (7, .c (.ptr 448 0)), (9, .c (.os 960 0 (LEN x.2))), (10, .c (.os 1216 0 (LEN y3))), (11, .c (.v (.int .i64 x.1)))] [(256, .var [.bs (LEN a0.fCells) 4 (row GD (encCell LEN GD) a0.fCells)]), (448, .var [.v (.int .i64 a3.fX0), .v (.int .i64 a3.fY0), .v (.int .i64 a3.fX1), .v (.int .i64 a3.fY1)]), (960, .arr .rw [] (LEN x.2) 8 (row GD (oncWindowHit LEN GD) x.2)), (1216, .arr .rw [] (LEN y3) 5 (row GD (encOccurrence LEN GD) y3))])) ?_ (fun y e s => (fun (w : (List TWindowHit)) => e = .exit 0 ∧ s.le (sparse 87 [(9, .c (.os 960 0 (LEN w)))] [(960, .arr .rw [] (LEN w) 8 (row GD (oncWindowHit LEN GD) w))])) y) ?_ ?_
 ·clear hr9 hN10
  show St.le _ _
  exact le_sparse rfl ⟨lR _, lR _, lR _, lR _, lR _, lR _, trivial⟩ ⟨rfl, rfl, oS, oS, trivial⟩ rfl
 ·clear hr9 hN10
  intro x z14 h K12 hK13 hY11
  obtain ⟨x0_, x1_⟩ := x
  replace h := of_let h
  obtain ⟨v5, hv5, h⟩ := h
  have hv5 : v5 = x0_ := hv5
  subst hv5
  replace h := of_let h
  obtain ⟨v6, hv6, h⟩ := h
  have hv6 : v6 = x1_ := hv6
  subst hv6
  cbv
  refine fork (fun b79 => ?_) (fun b79 => ?_)
  ·replace h := of_br_t b79 h
   cbv
   replace h := of_req h
   obtain ⟨c19, h⟩ := h
   refine ⟨⟨c19, trivial⟩, ?_⟩
   refine And.intro (by first | exact (by subst hA; exact idx_lt c19) | (refine And.intro (by subst hA; exact idx_lt c19) ?_; first | trivial | exact ⟨trivial, trivial⟩)) ?_
   replace h := of_req h
   obtain ⟨c20, h⟩ := h
   refine ⟨⟨c20, trivial⟩, ?_⟩
   replace h := of_bind h
   obtain ⟨y24, hr25, hN26⟩ := h
   refine loop_cut hr25 (fun x => (sparse 87 [(2, .c (.v (.int .i64 a2))), (4, .c (.ptr 256 0)), (7, .c (.ptr 448 0)), (9, .c (.os 960 0 (LEN x.2))), (10, .c (.os 1216 0 (LEN y3))), (11, .c (.v (.int .i64 v5))), (12, .c (.ptr 768 0)), (13, .c (.v (.int .i64 x.1)))] [(256, .var [.bs (LEN a0.fCells) 4 (row GD (encCell LEN GD) a0.fCells)]), (448, .var [.v (.int .i64 a3.fX0), .v (.int .i64 a3.fY0), .v (.int .i64 a3.fX1), .v (.int .i64 a3.fY1)]), (960, .arr .rw [] (LEN x.2) 8 (row GD (oncWindowHit LEN GD) x.2)), (1216, .arr .rw [] (LEN y3) 5 (row GD (encOccurrence LEN GD) y3)), (768, .var [.v (.string (GD a0.fCells (A.toN (GD y3 (A.nadd 0 (A.toN v5))).fCell)).fName), .bs (LEN (GD a0.fCells (A.toN (GD y3 (A.nadd 0 (A.toN v5))).fCell)).fShapes) 5 (row GD (encShape) (GD a0.fCells (A.toN (GD y3 (A.nadd 0 (A.toN v5))).fCell)).fShapes), .bs (LEN (GD a0.fCells (A.toN (GD y3 (A.nadd 0 (A.toN v5))).fCell)).fLabels) 4 (row GD (encLabel) (GD a0.fCells (A.toN (GD y3 (A.nadd 0 (A.toN v5))).fCell)).fLabels), .bs (LEN (GD a0.fCells (A.toN (GD y3 (A.nadd 0 (A.toN v5))).fCell)).fInstances) 8 (row GD (encInstance) (GD a0.fCells (A.toN (GD y3 (A.nadd 0 (A.toN v5))).fCell)).fInstances)])])) ?_ (fun y e s => (fun (w : (List TWindowHit)) => e = .exit 2 ∧ s.le (sparse 87 [(2, .c (.v (.int .i64 a2))), (4, .c (.ptr 256 0)), (7, .c (.ptr 448 0)), (9, .c (.os 960 0 (LEN w))), (10, .c (.os 1216 0 (LEN y3))), (11, .c (.v (.int .i64 v5)))] [(256, .var [.bs (LEN a0.fCells) 4 (row GD (encCell LEN GD) a0.fCells)]), (448, .var [.v (.int .i64 a3.fX0), .v (.int .i64 a3.fY0), .v (.int .i64 a3.fX1), .v (.int .i64 a3.fY1)]), (960, .arr .rw [] (LEN w) 8 (row GD (oncWindowHit LEN GD) w)), (1216, .arr .rw [] (LEN y3) 5 (row GD (encOccurrence LEN GD) y3))])) y) ?_ ?_
   ·clear hr25 hN26
    show St.le _ _
    exact le_sparse rfl ⟨lR _, lR _, lR _, lR _, lR _, lR _, lR _, lR _, trivial⟩ ⟨rfl, rfl, oS, oS, rfl, trivial⟩ rfl
   ·clear hr25 hN26
    intro x z30 h K28 hK29 hY27
    obtain ⟨x0_, x1_⟩ := x
    replace h := of_let h
    obtain ⟨v21, hv21, h⟩ := h
    have hv21 : v21 = x0_ := hv21
    subst hv21
    replace h := of_let h
    obtain ⟨v22, hv22, h⟩ := h
    have hv22 : v22 = x1_ := hv22
    subst hv22
    cbv
    refine fork (fun b77 => ?_) (fun b77 => ?_)
    ·replace h := of_br_t b77 h
     cbv
     replace h := of_req h
     obtain ⟨c35, h⟩ := h
     refine ⟨⟨c35, trivial⟩, ?_⟩
     refine And.intro (by first | exact (by subst hA; exact idx_lt c35) | (refine And.intro (by subst hA; exact idx_lt c35) ?_; first | trivial | exact ⟨trivial, trivial⟩)) ?_
     replace h := of_req h
     obtain ⟨c36, h⟩ := h
     refine ⟨⟨c36, trivial⟩, ?_⟩
     replace h := of_bind h
     obtain ⟨y37, hy38, h⟩ := h
     refine ⟨{ args := [.agg [.v (.int .i64 (GD y3 (A.nadd 0 (A.toN v5))).fPlace.fOrientation), .v (.int .i64 (GD y3 (A.nadd 0 (A.toN v5))).fPlace.fX), .v (.int .i64 (GD y3 (A.nadd 0 (A.toN v5))).fPlace.fY)], .agg [.v (.int .i64 (GD (GD a0.fCells (A.toN (GD y3 (A.nadd 0 (A.toN v5))).fCell)).fShapes (A.toN v21)).fBox.fX0), .v (.int .i64 (GD (GD a0.fCells (A.toN (GD y3 (A.nadd 0 (A.toN v5))).fCell)).fShapes (A.toN v21)).fBox.fY0), .v (.int .i64 (GD (GD a0.fCells (A.toN (GD y3 (A.nadd 0 (A.toN v5))).fCell)).fShapes (A.toN v21)).fBox.fX1), .v (.int .i64 (GD (GD a0.fCells (A.toN (GD y3 (A.nadd 0 (A.toN v5))).fCell)).fShapes (A.toN v21)).fBox.fY1)]], o0 := [], r := .agg [.v (.int .i64 y37.fX0), .v (.int .i64 y37.fY0), .v (.int .i64 y37.fX1), .v (.int .i64 y37.fY1)], o1 := [], fl := true, σ := [], τ := [] }, hf_spec_l10Rect _ _ _ hy38, ⟨les_cons (lR _) (les_cons (lR _) (les_nil)), trivial, rfl, rfl, rfl, rfl, trivial, rfl⟩, ?_⟩
     cbv
     replace h := of_bind h
     obtain ⟨y39, hy40, h⟩ := h
     obtain ⟨S43, hS44⟩ : ∃ S, S = (sparse 87 [(2, .c (.v (.int .i64 a2))), (4, .c (.ptr 256 0)), (7, .c (.ptr 448 0)), (9, .c (.os 960 0 (LEN v22))), (10, .c (.os 1216 0 (LEN y3))), (11, .c (.v (.int .i64 v5))), (12, .c (.ptr 768 0)), (13, .c (.v (.int .i64 v21))), (14, .c (.ptr 896 0)), (66, .c (.v (.bool y39)))] [(256, .var [.bs (LEN a0.fCells) 4 (row GD (encCell LEN GD) a0.fCells)]), (448, .var [.v (.int .i64 a3.fX0), .v (.int .i64 a3.fY0), .v (.int .i64 a3.fX1), .v (.int .i64 a3.fY1)]), (960, .arr .rw [] (LEN v22) 8 (row GD (oncWindowHit LEN GD) v22)), (1216, .arr .rw [] (LEN y3) 5 (row GD (encOccurrence LEN GD) y3)), (768, .var [.v (.string (GD a0.fCells (A.toN (GD y3 (A.nadd 0 (A.toN v5))).fCell)).fName), .bs (LEN (GD a0.fCells (A.toN (GD y3 (A.nadd 0 (A.toN v5))).fCell)).fShapes) 5 (row GD (encShape) (GD a0.fCells (A.toN (GD y3 (A.nadd 0 (A.toN v5))).fCell)).fShapes), .bs (LEN (GD a0.fCells (A.toN (GD y3 (A.nadd 0 (A.toN v5))).fCell)).fLabels) 4 (row GD (encLabel) (GD a0.fCells (A.toN (GD y3 (A.nadd 0 (A.toN v5))).fCell)).fLabels), .bs (LEN (GD a0.fCells (A.toN (GD y3 (A.nadd 0 (A.toN v5))).fCell)).fInstances) 8 (row GD (encInstance) (GD a0.fCells (A.toN (GD y3 (A.nadd 0 (A.toN v5))).fCell)).fInstances)]), (896, .var [.v (.int .i64 y37.fX0), .v (.int .i64 y37.fY0), .v (.int .i64 y37.fX1), .v (.int .i64 y37.fY1)])]) := ⟨_, rfl⟩
     refine ⟨S43, ?_, ?_⟩
     ·clear h
      have h := hy40
      clear hy40
      cbv
      replace h := of_req h
      obtain ⟨c46, h⟩ := h
      refine ⟨⟨c46, trivial⟩, ?_⟩
      refine fork (fun b49 => ?_) (fun b49 => ?_)
      ·replace h := of_br_t b49 h
       cbv
       replace h := of_bind h
       obtain ⟨y47, hy48, h⟩ := h
       refine ⟨{ args := [.agg [.v (.int .i64 y37.fX0), .v (.int .i64 y37.fY0), .v (.int .i64 y37.fX1), .v (.int .i64 y37.fY1)], .agg [.v (.int .i64 a3.fX0), .v (.int .i64 a3.fY0), .v (.int .i64 a3.fX1), .v (.int .i64 a3.fY1)]], o0 := [], r := .c (.v (.bool y47)), o1 := [], fl := true, σ := [], τ := [] }, hf_spec_l11Overlap _ _ _ hy48, ⟨les_cons (lR _) (les_cons (lR _) (les_nil)), trivial, rfl, rfl, rfl, rfl, trivial, rfl⟩, ?_⟩
       cbv
       injection h with h
       subst h
       subst hS44
       show St.le _ _
       exact le_sparse rfl ⟨lR _, lR _, lR _, lR _, lR _, lR _, lR _, lR _, lR _, lR _, trivial⟩ ⟨rfl, rfl, oS, oS, rfl, rfl, trivial⟩ rfl
      ·replace h := of_br_f b49 h
       cbv
       injection h with h
       subst h
       subst hS44
       show St.le _ _
       exact le_sparse rfl ⟨lR _, lR _, lR _, lR _, lR _, lR _, lR _, lR _, lR _, lR _, trivial⟩ ⟨rfl, rfl, oS, oS, rfl, rfl, trivial⟩ rfl
     ·clear hy40
      subst hS44
      replace h := of_let h
      obtain ⟨w45, hw45, h⟩ := h
      have hw45 : w45 = y39 := hw45
      subst hw45
      cbv
      replace h := of_bind h
      obtain ⟨y50, hy51, h⟩ := h
      obtain ⟨S54, hS55⟩ : ∃ S, S = some (sparse 87 [(2, .c (.v (.int .i64 a2))), (4, .c (.ptr 256 0)), (7, .c (.ptr 448 0)), (9, .c (.os 960 0 (LEN y50))), (10, .c (.os 1216 0 (LEN y3))), (11, .c (.v (.int .i64 v5))), (12, .c (.ptr 768 0)), (13, .c (.v (.int .i64 v21)))] [(256, .var [.bs (LEN a0.fCells) 4 (row GD (encCell LEN GD) a0.fCells)]), (448, .var [.v (.int .i64 a3.fX0), .v (.int .i64 a3.fY0), .v (.int .i64 a3.fX1), .v (.int .i64 a3.fY1)]), (960, .arr .rw [] (LEN y50) 8 (row GD (oncWindowHit LEN GD) y50)), (1216, .arr .rw [] (LEN y3) 5 (row GD (encOccurrence LEN GD) y3)), (768, .var [.v (.string (GD a0.fCells (A.toN (GD y3 (A.nadd 0 (A.toN v5))).fCell)).fName), .bs (LEN (GD a0.fCells (A.toN (GD y3 (A.nadd 0 (A.toN v5))).fCell)).fShapes) 5 (row GD (encShape) (GD a0.fCells (A.toN (GD y3 (A.nadd 0 (A.toN v5))).fCell)).fShapes), .bs (LEN (GD a0.fCells (A.toN (GD y3 (A.nadd 0 (A.toN v5))).fCell)).fLabels) 4 (row GD (encLabel) (GD a0.fCells (A.toN (GD y3 (A.nadd 0 (A.toN v5))).fCell)).fLabels), .bs (LEN (GD a0.fCells (A.toN (GD y3 (A.nadd 0 (A.toN v5))).fCell)).fInstances) 8 (row GD (encInstance) (GD a0.fCells (A.toN (GD y3 (A.nadd 0 (A.toN v5))).fCell)).fInstances)])]) := ⟨_, rfl⟩
      refine ⟨S54, ?_, ?_⟩
      ·clear h
       have h := hy51
       clear hy51
       cbv
       refine fork (fun b76 => ?_) (fun b76 => ?_)
       ·replace h := of_br_t b76 h
        cbv
        replace h := of_bind h
        obtain ⟨y57, hy58, h⟩ := h
        obtain ⟨S61, hS62⟩ : ∃ S, S = (sparse 87 [(2, .c (.v (.int .i64 a2))), (4, .c (.ptr 256 0)), (7, .c (.ptr 448 0)), (9, .c (.os 960 0 (LEN y57))), (10, .c (.os 1216 0 (LEN y3))), (11, .c (.v (.int .i64 v5))), (12, .c (.ptr 768 0)), (13, .c (.v (.int .i64 v21)))] [(256, .var [.bs (LEN a0.fCells) 4 (row GD (encCell LEN GD) a0.fCells)]), (448, .var [.v (.int .i64 a3.fX0), .v (.int .i64 a3.fY0), .v (.int .i64 a3.fX1), .v (.int .i64 a3.fY1)]), (960, .arr .rw [] (LEN y57) 8 (row GD (oncWindowHit LEN GD) y57)), (1216, .arr .rw [] (LEN y3) 5 (row GD (encOccurrence LEN GD) y3)), (768, .var [.v (.string (GD a0.fCells (A.toN (GD y3 (A.nadd 0 (A.toN v5))).fCell)).fName), .bs (LEN (GD a0.fCells (A.toN (GD y3 (A.nadd 0 (A.toN v5))).fCell)).fShapes) 5 (row GD (encShape) (GD a0.fCells (A.toN (GD y3 (A.nadd 0 (A.toN v5))).fCell)).fShapes), .bs (LEN (GD a0.fCells (A.toN (GD y3 (A.nadd 0 (A.toN v5))).fCell)).fLabels) 4 (row GD (encLabel) (GD a0.fCells (A.toN (GD y3 (A.nadd 0 (A.toN v5))).fCell)).fLabels), .bs (LEN (GD a0.fCells (A.toN (GD y3 (A.nadd 0 (A.toN v5))).fCell)).fInstances) 8 (row GD (encInstance) (GD a0.fCells (A.toN (GD y3 (A.nadd 0 (A.toN v5))).fCell)).fInstances)])]) := ⟨_, rfl⟩
        refine ⟨S61, ?_, ?_⟩
        ·clear h
         have h := hy58
         clear hy58
         cbv
         replace h := of_req h
         obtain ⟨c64, h⟩ := h
         refine ⟨⟨c64, trivial⟩, ?_⟩
         refine And.intro (by first | exact (by subst hA; exact idx_lt c64) | (refine And.intro (by subst hA; exact idx_lt c64) ?_; first | trivial | exact ⟨trivial, trivial⟩)) ?_
         replace h := of_let h
         obtain ⟨l65, hl65, h⟩ := h
         have e66 : 0 = LEN l65 := by subst hl65 hLEN; rfl
         refine ⟨_, congrArg (fun n => AV.c (AC.os 4864 0 n)) e66, _, row GD (encI .i64) l65, e66, ?_, ?_⟩
         ·intro i hi j hj
          rw [← e66] at hi
          subst hl65
          subst hGD
          omega
         cbv
         replace h := of_req h
         obtain ⟨c67, h⟩ := h
         refine ⟨⟨c67, trivial⟩, ?_⟩
         refine And.intro (by first | exact (by subst hA; exact idx_lt c67) | (refine And.intro (by subst hA; exact idx_lt c67) ?_; first | trivial | exact ⟨trivial, trivial⟩)) ?_
         replace h := of_req h
         obtain ⟨c70, h⟩ := h
         replace h := of_let h
         obtain ⟨l68, hl68, h⟩ := h
         have e69 : A.nadd (LEN l65) (LEN (GD y3 (A.nadd 0 (A.toN v5))).fPath) = LEN l68 := by subst hl68 hLEN hA; simp [std, len]
         refine ⟨c70, _, congrArg (fun n => AV.c (AC.os 4864 0 n)) e69, _, row GD (encI .i64) l68, e69, ?_, ?_⟩
         ·subst hGD hLEN hA
          exact app_bs (fun _ _ => rfl) hl68 (Nat.le_refl _)
         cbv
         replace h := of_let h
         obtain ⟨l71, hl71, h⟩ := h
         have e72 : 1 = LEN l71 := by subst hl71 hLEN; rfl
         refine ⟨_, congrArg (fun n => AV.c (AC.os 5376 0 n)) e72, _, (patchC (row GD (oncWindowHit LEN GD) ([] : List TWindowHit)) 0 [.v (.int .i64 (GD y3 (A.nadd 0 (A.toN v5))).fCell), .v (.int .i64 v21), .v (.int .i64 a2), .v (.int .i64 y37.fX0), .v (.int .i64 y37.fY0), .v (.int .i64 y37.fX1), .v (.int .i64 y37.fY1), .os 4864 0 (LEN l68)]), e72, ?_, ?_⟩
         ·refine patch_one (by subst hl71 hLEN; rfl) ?_
          intro j hj
          match j, hj with | 0, _ => (rfl) | 1, _ => (rfl) | 2, _ => (rfl) | 3, _ => (rfl) | 4, _ => (rfl) | 5, _ => (rfl) | 6, _ => (rfl) | 7, _ => (rfl) | (j_ + 8), h_ => exact absurd h_ (by omega)
         cbv
         replace h := of_req h
         obtain ⟨c75, h⟩ := h
         replace h := of_let h
         obtain ⟨l73, hl73, h⟩ := h
         have e74 : A.nadd (LEN v22) (LEN l71) = LEN l73 := by subst hl73 hLEN hA; simp [std, len]
         refine ⟨c75, _, congrArg (fun n => AV.c (AC.os 960 0 n)) e74, _, (patchC (row GD (oncWindowHit LEN GD) v22) (LEN v22) [.v (.int .i64 (GD y3 (A.nadd 0 (A.toN v5))).fCell), .v (.int .i64 v21), .v (.int .i64 a2), .v (.int .i64 y37.fX0), .v (.int .i64 y37.fY0), .v (.int .i64 y37.fX1), .v (.int .i64 y37.fY1), .os 4864 0 (LEN l68)]), e74, ?_, ?_⟩
         ·subst hLEN hA
          refine patch_joinG (by first | (rw [hl73]; simp [len]; done) | (rw [hl73]; simp [len]; omega) | (subst_vars; simp [len])) ?_
          intro j hj
          match j, hj with | 0, _ => (rfl) | 1, _ => (rfl) | 2, _ => (rfl) | 3, _ => (rfl) | 4, _ => (rfl) | 5, _ => (rfl) | 6, _ => (rfl) | 7, _ => (rfl) | (j_ + 8), h_ => exact absurd h_ (by omega)
         cbv
         rw [hl71] at hl73
         injection h with h
         subst h
         subst hS62
         show St.le _ _
         refine St.le_trans (le_foldP 960 7 4864 rfl rfl rfl (by decide) (by subst hLEN; exact app_lt hl73) (by decide) rfl (fun _ _ => rf_oncWindowHit _ _)) ?_
         exact le_sparse rfl ⟨lR _, lR _, lR _, lR _, lR _, lR _, lR _, lR _, trivial⟩ ⟨rfl, rfl, ⟨fun hw => hw, fun c hc => (by cases hc), .inr (fun i _ j _ z hz => (noref (rf_oncWindowHit _ _) hz).elim), rfl, rfl, (by subst hGD hLEN hA; exact patch_app hl73 (Nat.le_refl _) (by intro j hj; match j, hj with | 0, _ => rfl | 1, _ => rfl | 2, _ => rfl | 3, _ => rfl | 4, _ => rfl | 5, _ => rfl | 6, _ => rfl | 7, _ => rfl | (j_ + 8), h_ => exact absurd h_ (by omega)))⟩, oS, rfl, trivial⟩ rfl
        ·clear hy58
         subst hS62
         replace h := of_let h
         obtain ⟨w63, hw63, h⟩ := h
         have hw63 : w63 = y57 := hw63
         subst hw63
         cbv
         injection h with h
         subst h
         subst hS55
         show St.le _ _
         exact le_sparse rfl ⟨lR _, lR _, lR _, lR _, lR _, lR _, lR _, lR _, trivial⟩ ⟨rfl, rfl, oS, oS, rfl, trivial⟩ rfl
       ·replace h := of_br_f b76 h
        cbv
        injection h with h
        subst h
        subst hS55
        show St.le _ _
        exact le_sparse rfl ⟨lR _, lR _, lR _, lR _, lR _, lR _, lR _, lR _, trivial⟩ ⟨rfl, rfl, oS, oS, rfl, trivial⟩ rfl
      ·clear hy51
       subst hS55
       replace h := of_let h
       obtain ⟨w56, hw56, h⟩ := h
       have hw56 : w56 = y50 := hw56
       subst hw56
       cbv
       injection h with h
       refine hK29 _ h.symm _ ?_
       exact le_sparse rfl ⟨lR _, lR _, lR _, lR _, lR _, lR _, lR _, lR _, trivial⟩ ⟨rfl, rfl, oS, oS, rfl, trivial⟩ rfl
    ·replace h := of_br_f b77 h
     cbv
     injection h with h
     refine hY27 _ h.symm _ _ (And.intro rfl ?_) (by intro hh; cases hh)
     exact le_sparse rfl ⟨lR _, lR _, lR _, lR _, lR _, lR _, trivial⟩ ⟨rfl, rfl, oS, oS, trivial⟩ rfl
   ·clear hr25
    have h := hN26
    clear hN26
    intro e33 s34 q32 hne
    replace h := of_let h
    obtain ⟨y24k0, hyk, h⟩ := h
    have hyk : y24k0 = y24 := hyk
    subst hyk
    obtain ⟨rfl, q32⟩ := q32
    replace h := of_let h
    obtain ⟨w78, hw78, h⟩ := h
    have hw78 : w78 = y24k0 := hw78
    subst hw78
    cbv
    refine ⟨_, q32, ?_⟩
    cbv
    injection h with h
    refine hK13 _ h.symm _ ?_
    exact le_sparse rfl ⟨lR _, lR _, lR _, lR _, lR _, lR _, trivial⟩ ⟨rfl, rfl, oS, oS, trivial⟩ rfl
  ·replace h := of_br_f b79 h
   cbv
   injection h with h
   refine hY11 _ h.symm _ _ (And.intro rfl ?_) (by intro hh; cases hh)
   exact le_sparse rfl ⟨lR _, trivial⟩ ⟨oS, trivial⟩ rfl
 ·clear hr9
  have h := hN10
  clear hN10
  intro e17 s18 q16 hne
  replace h := of_let h
  obtain ⟨y8k0, hyk, h⟩ := h
  have hyk : y8k0 = y8 := hyk
  subst hyk
  obtain ⟨rfl, q16⟩ := q16
  replace h := of_let h
  obtain ⟨w80, hw80, h⟩ := h
  have hw80 : w80 = y8k0 := hw80
  subst hw80
  cbv
  refine ⟨_, q16, ?_⟩
  cbv
  injection h with h
  subst h
  refine ⟨(sparse 87 [(8, .c (.os 64000 0 (LEN w80)))] [(64000, .arr .rw [] (LEN w80) 8 (row GD (oncWindowHit LEN GD) w80))]), ?_, ?_⟩
  ·refine St.le_trans (le_ren 960 64000 (by decide) rfl) ?_
   exact le_sparse rfl ⟨lR _, trivial⟩ ⟨oS, trivial⟩ rfl
  ·exact ⟨lR _, ⟨oS, trivial⟩, rfl⟩

/-- spec.WindowShapes -/
noncomputable def F_spec_WindowShapes (a0 : TLibrary) (a1 : Int) (a2 : Int) (a3 : TRect) : Option ((List TWindowHit) × Int) :=
 ((
    (F_spec_IsValidLibrary (TLibrary.mk a0.fCells)).bind fun y8 =>
    br (!(y8))
    (some true)
    ((F_spec_l09Rect a3).bind fun y10 =>
    some (!(y10)))
  ) : Option (Bool)).bind fun y1 =>
 letO y1 fun w7 =>
 br w7
 (some (([] : List TWindowHit), 1))
 ((F_spec_l09Has (TLibrary.mk a0.fCells) a1).bind fun y13 =>
 br (!(y13))
 (some (([] : List TWindowHit), 5))
 ((F_spec_l09Layer a2).bind fun y15 =>
 br (!(y15))
 (some (([] : List TWindowHit), 2))
 ((F_spec_ElementCount (TLibrary.mk a0.fCells) a1).bind fun y17 =>
 br (std.lt 200 y17)
 (some (([] : List TWindowHit), 3))
 ((F_spec_l12Hits (TLibrary.mk a0.fCells) a1 a2 a3).bind fun y19 =>
 br (std.lt 100 (std.ofN (len y19)))
 (some (([] : List TWindowHit), 3))
 (some (y19, 0))))))
theorem run_spec_WindowShapes (a0 : TLibrary) (a1 : Int) (a2 : Int) (a3 : TRect) (r : (List TWindowHit) × Int) (h : F_spec_WindowShapes a0 a1 a2 a3 = some r) : Fun Tryz.prog 16 [.agg [.bs (len a0.fCells) 4 (row gd (encCell len gd) a0.fCells)], .c (.v (.int .i64 a1)), .c (.v (.int .i64 a2)), .agg [.v (.int .i64 a3.fX0), .v (.int .i64 a3.fY0), .v (.int .i64 a3.fX1), .v (.int .i64 a3.fY1)]] [] (.tup [.c (.os 64000 0 (len r.1)), .c (.v (.int .i64 r.2))]) [(64000, .arr .rw [] (len r.1) 8 (row gd (oncWindowHit len gd) r.1))] true := by
 refine Fun.of_wp (oneOf [1]) tok mixed Tryz.func16 (by kernel_rfl) rfl Tryz.ntmps16 rfl trivial (fun _ => ⟨(by simp [AV.flat, AV.flat1, AC.flat]), ⟨fun i _ j _ => fl_oncWindowHit _ _, trivial⟩⟩) ?_
 unfold F_spec_WindowShapes at h
 have hf_spec_ElementCount := @run_spec_ElementCount
 have hf_spec_IsValidLibrary := @run_spec_IsValidLibrary
 have hf_spec_l09Has := @run_spec_l09Has
 have hf_spec_l09Layer := @run_spec_l09Layer
 have hf_spec_l09Rect := @run_spec_l09Rect
 have hf_spec_l12Hits := @run_spec_l12Hits
 generalize hLEN : @len = LEN at *
 generalize hGD : @gd = GD at *
 generalize hA : std = A at *
 generalize hP : Tryz.prog = P at *
 cbv
 replace h := of_bind h
 obtain ⟨y1, hy2, h⟩ := h
 obtain ⟨S5, hS6⟩ : ∃ S, S = (sparse 43 [(1, .c (.v (.int .i64 a1))), (2, .c (.v (.int .i64 a2))), (4, .c (.ptr 256 0)), (7, .c (.ptr 448 0)), (11, .c (.v (.bool y1)))] [(256, .var [.bs (LEN a0.fCells) 4 (row GD (encCell LEN GD) a0.fCells)]), (448, .var [.v (.int .i64 a3.fX0), .v (.int .i64 a3.fY0), .v (.int .i64 a3.fX1), .v (.int .i64 a3.fY1)])]) := ⟨_, rfl⟩
 refine ⟨S5, ?_, ?_⟩
 ·clear h
  have h := hy2
  clear hy2
  cbv
  replace h := of_bind h
  obtain ⟨y8, hy9, h⟩ := h
  refine ⟨{ args := [.agg [.bs (LEN a0.fCells) 4 (row GD (encCell LEN GD) a0.fCells)]], o0 := [], r := .c (.v (.bool y8)), o1 := [], fl := true, σ := [], τ := [] }, hf_spec_IsValidLibrary _ _ hy9, ⟨les_cons (lR _) (les_nil), trivial, rfl, rfl, rfl, rfl, trivial, rfl⟩, ?_⟩
  cbv
  refine fork (fun b12 => ?_) (fun b12 => ?_)
  ·replace h := of_br_t b12 h
   cbv
   injection h with h
   subst h
   subst hS6
   show St.le _ _
   exact le_sparse rfl ⟨lR _, lR _, lR _, lR _, lR _, trivial⟩ ⟨rfl, rfl, trivial⟩ rfl
  ·replace h := of_br_f b12 h
   cbv
   replace h := of_bind h
   obtain ⟨y10, hy11, h⟩ := h
   refine ⟨{ args := [.agg [.v (.int .i64 a3.fX0), .v (.int .i64 a3.fY0), .v (.int .i64 a3.fX1), .v (.int .i64 a3.fY1)]], o0 := [], r := .c (.v (.bool y10)), o1 := [], fl := true, σ := [], τ := [] }, hf_spec_l09Rect _ _ hy11, ⟨les_cons (lR _) (les_nil), trivial, rfl, rfl, rfl, rfl, trivial, rfl⟩, ?_⟩
   cbv
   injection h with h
   subst h
   subst hS6
   show St.le _ _
   exact le_sparse rfl ⟨lR _, lR _, lR _, lR _, lR _, trivial⟩ ⟨rfl, rfl, trivial⟩ rfl
 ·clear hy2
  subst hS6
  replace h := of_let h
  obtain ⟨w7, hw7, h⟩ := h
  have hw7 : w7 = y1 := hw7
  subst hw7
  cbv
  refine fork (fun b25 => ?_) (fun b25 => ?_)
  ·replace h := of_br_t b25 h
   cbv
   injection h with h
   subst h
   refine ⟨(sparse 43 [(8, .c (.os 64000 0 (LEN ([] : List TWindowHit)))), (9, .c (.v (.int .i64 1)))] [(64000, .arr .rw [] (LEN ([] : List TWindowHit)) 8 (row GD (oncWindowHit LEN GD) ([] : List TWindowHit)))]), ?_, ?_⟩
   ·refine St.le_trans (le_nilT 8 64000 8 (row GD (oncWindowHit LEN GD) ([] : List TWindowHit)) (by decide) rfl) ?_
    subst hLEN
    exact le_sparse rfl ⟨lR _, lR _, trivial⟩ ⟨oS, trivial⟩ rfl
   ·subst hLEN
    exact ⟨lR _, ⟨oS, trivial⟩, rfl⟩
  ·replace h := of_br_f b25 h
   cbv
   replace h := of_bind h
   obtain ⟨y13, hy14, h⟩ := h
   refine ⟨{ args := [.agg [.bs (LEN a0.fCells) 4 (row GD (encCell LEN GD) a0.fCells)], .c (.v (.int .i64 a1))], o0 := [], r := .c (.v (.bool y13)), o1 := [], fl := true, σ := [], τ := [] }, hf_spec_l09Has _ _ _ hy14, ⟨les_cons (lR _) (les_cons (lR _) (les_nil)), trivial, rfl, rfl, rfl, rfl, trivial, rfl⟩, ?_⟩
   cbv
   refine fork (fun b24 => ?_) (fun b24 => ?_)
   ·replace h := of_br_t b24 h
    cbv
    injection h with h
    subst h
    refine ⟨(sparse 43 [(8, .c (.os 64000 0 (LEN ([] : List TWindowHit)))), (9, .c (.v (.int .i64 5)))] [(64000, .arr .rw [] (LEN ([] : List TWindowHit)) 8 (row GD (oncWindowHit LEN GD) ([] : List TWindowHit)))]), ?_, ?_⟩
    ·refine St.le_trans (le_nilT 8 64000 8 (row GD (oncWindowHit LEN GD) ([] : List TWindowHit)) (by decide) rfl) ?_
     subst hLEN
     exact le_sparse rfl ⟨lR _, lR _, trivial⟩ ⟨oS, trivial⟩ rfl
    ·subst hLEN
     exact ⟨lR _, ⟨oS, trivial⟩, rfl⟩
   ·replace h := of_br_f b24 h
    cbv
    replace h := of_bind h
    obtain ⟨y15, hy16, h⟩ := h
    refine ⟨{ args := [.c (.v (.int .i64 a2))], o0 := [], r := .c (.v (.bool y15)), o1 := [], fl := true, σ := [], τ := [] }, hf_spec_l09Layer _ _ hy16, ⟨les_cons (lR _) (les_nil), trivial, rfl, rfl, rfl, rfl, trivial, rfl⟩, ?_⟩
    cbv
    refine fork (fun b23 => ?_) (fun b23 => ?_)
    ·replace h := of_br_t b23 h
     cbv
     injection h with h
     subst h
     refine ⟨(sparse 43 [(8, .c (.os 64000 0 (LEN ([] : List TWindowHit)))), (9, .c (.v (.int .i64 2)))] [(64000, .arr .rw [] (LEN ([] : List TWindowHit)) 8 (row GD (oncWindowHit LEN GD) ([] : List TWindowHit)))]), ?_, ?_⟩
     ·refine St.le_trans (le_nilT 8 64000 8 (row GD (oncWindowHit LEN GD) ([] : List TWindowHit)) (by decide) rfl) ?_
      subst hLEN
      exact le_sparse rfl ⟨lR _, lR _, trivial⟩ ⟨oS, trivial⟩ rfl
     ·subst hLEN
      exact ⟨lR _, ⟨oS, trivial⟩, rfl⟩
    ·replace h := of_br_f b23 h
     cbv
     replace h := of_bind h
     obtain ⟨y17, hy18, h⟩ := h
     refine ⟨{ args := [.agg [.bs (LEN a0.fCells) 4 (row GD (encCell LEN GD) a0.fCells)], .c (.v (.int .i64 a1))], o0 := [], r := .c (.v (.int .i64 y17)), o1 := [], fl := true, σ := [], τ := [] }, hf_spec_ElementCount _ _ _ hy18, ⟨les_cons (lR _) (les_cons (lR _) (les_nil)), trivial, rfl, rfl, rfl, rfl, trivial, rfl⟩, ?_⟩
     cbv
     refine fork (fun b22 => ?_) (fun b22 => ?_)
     ·replace h := of_br_t b22 h
      cbv
      injection h with h
      subst h
      refine ⟨(sparse 43 [(8, .c (.os 64000 0 (LEN ([] : List TWindowHit)))), (9, .c (.v (.int .i64 3)))] [(64000, .arr .rw [] (LEN ([] : List TWindowHit)) 8 (row GD (oncWindowHit LEN GD) ([] : List TWindowHit)))]), ?_, ?_⟩
      ·refine St.le_trans (le_nilT 8 64000 8 (row GD (oncWindowHit LEN GD) ([] : List TWindowHit)) (by decide) rfl) ?_
       subst hLEN
       exact le_sparse rfl ⟨lR _, lR _, trivial⟩ ⟨oS, trivial⟩ rfl
      ·subst hLEN
       exact ⟨lR _, ⟨oS, trivial⟩, rfl⟩
     ·replace h := of_br_f b22 h
      cbv
      replace h := of_bind h
      obtain ⟨y19, hy20, h⟩ := h
      refine ⟨{ args := [.agg [.bs (LEN a0.fCells) 4 (row GD (encCell LEN GD) a0.fCells)], .c (.v (.int .i64 a1)), .c (.v (.int .i64 a2)), .agg [.v (.int .i64 a3.fX0), .v (.int .i64 a3.fY0), .v (.int .i64 a3.fX1), .v (.int .i64 a3.fY1)]], o0 := [], r := .c (.os 64000 0 (LEN y19)), o1 := [(64000, .arr .rw [] (LEN y19) 8 (row GD (oncWindowHit LEN GD) y19))], fl := true, σ := [], τ := [(64000, 2432)] }, hf_spec_l12Hits _ _ _ _ _ hy20, ⟨les_cons (lR _) (les_cons (lR _) (les_cons (lR _) (les_cons (lR _) (les_nil)))), trivial, rfl, rfl, rfl, rfl, ⟨fun h => absurd (show (64000 : Nat) % 2 = 1 from h) (by decide), trivial⟩, rfl⟩, _, rfl, _, _, rfl, fun _ _ _ _ => rfl, ?_⟩
      cbv
      refine fork (fun b21 => ?_) (fun b21 => ?_)
      ·replace h := of_br_t b21 h
       cbv
       injection h with h
       subst h
       refine ⟨(sparse 43 [(8, .c (.os 64000 0 (LEN ([] : List TWindowHit)))), (9, .c (.v (.int .i64 3)))] [(64000, .arr .rw [] (LEN ([] : List TWindowHit)) 8 (row GD (oncWindowHit LEN GD) ([] : List TWindowHit)))]), ?_, ?_⟩
       ·refine St.le_trans (le_nilT 8 64000 8 (row GD (oncWindowHit LEN GD) ([] : List TWindowHit)) (by decide) rfl) ?_
        subst hLEN
        exact le_sparse rfl ⟨lR _, lR _, trivial⟩ ⟨oS, trivial⟩ rfl
       ·subst hLEN
        exact ⟨lR _, ⟨oS, trivial⟩, rfl⟩
      ·replace h := of_br_f b21 h
       cbv
       injection h with h
       subst h
       refine ⟨(sparse 43 [(8, .c (.os 64000 0 (LEN y19))), (9, .c (.v (.int .i64 0)))] [(64000, .arr .rw [] (LEN y19) 8 (row GD (oncWindowHit LEN GD) y19))]), ?_, ?_⟩
       ·refine St.le_trans (le_ren 2432 64000 (by decide) rfl) ?_
        exact le_sparse rfl ⟨lR _, lR _, trivial⟩ ⟨oS, trivial⟩ rfl
       ·exact ⟨lR _, ⟨oS, trivial⟩, rfl⟩

noncomputable def L_spec_ProbeUnit_x17 (a0 : TLibrary) (a1 : Int) (a2 : TPoint) : (Int × (List TWindowHit)) → Option ((Int × (List TWindowHit)) ⊕ ((Int) ⊕ ((List TWindowHit)))) := fun x17 =>
 letO x17.1 fun v15 =>
 letO x17.2 fun v16 =>
 br (std.le 0 v15)
 ((F_spec_WindowShapes (TLibrary.mk a0.fCells) a1 v15 (TRect.mk a2.fX a2.fY (std.add .i64 a2.fX 1) (std.add .i64 a2.fY 1))).bind fun y29 =>
 br (std.not (std.eq y29.2 0))
 (some (.inr (.inl y29.2)))
 (req (std.room (std.nadd (len v16) (len y29.1)) 80) <|
 letO (v16 ++ y29.1) fun l31 =>
 some (.inl (std.sub .i64 v15 1, l31))))
 (some (.inr (.inr v16)))
/-- spec.ProbeUnit -/
noncomputable def F_spec_ProbeUnit (a0 : TLibrary) (a1 : Int) (a2 : TPoint) : Option ((List TWindowHit) × Int) :=
 ((
    (F_spec_IsValidLibrary (TLibrary.mk a0.fCells)).bind fun y8 =>
    br (!(y8))
    (some true)
    ((F_spec_l09Unit (TPoint.mk a2.fX a2.fY)).bind fun y10 =>
    some (!(y10)))
  ) : Option (Bool)).bind fun y1 =>
 letO y1 fun w7 =>
 br w7
 (some (([] : List TWindowHit), 1))
 (letO ([] : List TWindowHit) fun l13 =>
 (whileP (σ := Int × (List TWindowHit)) (ρ := (Int) ⊕ ((List TWindowHit))) (L_spec_ProbeUnit_x17 a0 a1 a2) (7, l13)).bind fun y18 =>
 (match y18 with
  | .inl y18k0 => (
    letO y18k0 fun w36 =>
    some (([] : List TWindowHit), w36))
  | .inr y18m0 =>
    letO y18m0 fun y18k1 =>
    letO y18k1 fun w37 =>
    some (w37, 0)))
theorem run_spec_ProbeUnit (a0 : TLibrary) (a1 : Int) (a2 : TPoint) (r : (List TWindowHit) × Int) (h : F_spec_ProbeUnit a0 a1 a2 = some r) : Fun Tryz.prog 21 [.agg [.bs (len a0.fCells) 4 (row gd (encCell len gd) a0.fCells)], .c (.v (.int .i64 a1)), .agg [.v (.int .i64 a2.fX), .v (.int .i64 a2.fY)]] [] (.tup [.c (.os 64000 0 (len r.1)), .c (.v (.int .i64 r.2))]) [(64000, .arr .rw [] (len r.1) 8 (row gd (oncWindowHit len gd) r.1))] true := by
 refine Fun.of_wp (oneOf [1]) tok mixed Tryz.func21 (by kernel_rfl) rfl Tryz.ntmps21 rfl trivial (fun _ => ⟨(by simp [AV.flat, AV.flat1, AC.flat]), ⟨fun i _ j _ => fl_oncWindowHit _ _, trivial⟩⟩) ?_
 unfold F_spec_ProbeUnit at h
 unfold L_spec_ProbeUnit_x17 at h
 have hf_spec_IsValidLibrary := @run_spec_IsValidLibrary
 have hf_spec_WindowShapes := @run_spec_WindowShapes
 have hf_spec_l09Unit := @run_spec_l09Unit
 generalize hLEN : @len = LEN at *
 generalize hGD : @gd = GD at *
 generalize hA : std = A at *
 generalize hP : Tryz.prog = P at *
 cbv
 replace h := of_bind h
 obtain ⟨y1, hy2, h⟩ := h
 obtain ⟨S5, hS6⟩ : ∃ S, S = (sparse 52 [(1, .c (.v (.int .i64 a1))), (3, .c (.ptr 192 0)), (5, .c (.ptr 320 0)), (20, .c (.v (.bool y1)))] [(192, .var [.bs (LEN a0.fCells) 4 (row GD (encCell LEN GD) a0.fCells)]), (320, .var [.v (.int .i64 a2.fX), .v (.int .i64 a2.fY)])]) := ⟨_, rfl⟩
 refine ⟨S5, ?_, ?_⟩
 ·clear h
  have h := hy2
  clear hy2
  cbv
  replace h := of_bind h
  obtain ⟨y8, hy9, h⟩ := h
  refine ⟨{ args := [.agg [.bs (LEN a0.fCells) 4 (row GD (encCell LEN GD) a0.fCells)]], o0 := [], r := .c (.v (.bool y8)), o1 := [], fl := true, σ := [], τ := [] }, hf_spec_IsValidLibrary _ _ hy9, ⟨les_cons (lR _) (les_nil), trivial, rfl, rfl, rfl, rfl, trivial, rfl⟩, ?_⟩
  cbv
  refine fork (fun b12 => ?_) (fun b12 => ?_)
  ·replace h := of_br_t b12 h
   cbv
   injection h with h
   subst h
   subst hS6
   show St.le _ _
   exact le_sparse rfl ⟨lR _, lR _, lR _, lR _, trivial⟩ ⟨rfl, rfl, trivial⟩ rfl
  ·replace h := of_br_f b12 h
   cbv
   replace h := of_bind h
   obtain ⟨y10, hy11, h⟩ := h
   refine ⟨{ args := [.agg [.v (.int .i64 a2.fX), .v (.int .i64 a2.fY)]], o0 := [], r := .c (.v (.bool y10)), o1 := [], fl := true, σ := [], τ := [] }, hf_spec_l09Unit _ _ hy11, ⟨les_cons (lR _) (les_nil), trivial, rfl, rfl, rfl, rfl, trivial, rfl⟩, ?_⟩
   cbv
   injection h with h
   subst h
   subst hS6
   show St.le _ _
   exact le_sparse rfl ⟨lR _, lR _, lR _, lR _, trivial⟩ ⟨rfl, rfl, trivial⟩ rfl
 ·clear hy2
  subst hS6
  replace h := of_let h
  obtain ⟨w7, hw7, h⟩ := h
  have hw7 : w7 = y1 := hw7
  subst hw7
  cbv
  refine fork (fun b38 => ?_) (fun b38 => ?_)
  ·replace h := of_br_t b38 h
   cbv
   injection h with h
   subst h
   refine ⟨(sparse 52 [(6, .c (.os 64000 0 (LEN ([] : List TWindowHit)))), (7, .c (.v (.int .i64 1)))] [(64000, .arr .rw [] (LEN ([] : List TWindowHit)) 8 (row GD (oncWindowHit LEN GD) ([] : List TWindowHit)))]), ?_, ?_⟩
   ·refine St.le_trans (le_nilT 6 64000 8 (row GD (oncWindowHit LEN GD) ([] : List TWindowHit)) (by decide) rfl) ?_
    subst hLEN
    exact le_sparse rfl ⟨lR _, lR _, trivial⟩ ⟨oS, trivial⟩ rfl
   ·subst hLEN
    exact ⟨lR _, ⟨oS, trivial⟩, rfl⟩
  ·replace h := of_br_f b38 h
   cbv
   replace h := of_let h
   obtain ⟨l13, hl13, h⟩ := h
   have e14 : 0 = LEN l13 := by subst hl13 hLEN; rfl
   refine ⟨_, congrArg (fun n => AV.c (AC.os 2048 0 n)) e14, _, row GD (oncWindowHit LEN GD) l13, e14, ?_, ?_⟩
   ·intro i hi j hj
    rw [← e14] at hi
    subst hl13
    subst hGD
    omega
   cbv
   replace h := of_bind h
   obtain ⟨y18, hr19, hN20⟩ := h
   refine loop_cut hr19 (fun x => (sparse 52 [(1, .c (.v (.int .i64 a1))), (3, .c (.ptr 192 0)), (8, .c (.ptr 512 0)), (9, .c (.os 2048 0 (LEN x.2))), (10, .c (.v (.int .i64 x.1)))] [(192, .var [.bs (LEN a0.fCells) 4 (row GD (encCell LEN GD) a0.fCells)]), (512, .var [.v (.int .i64 a2.fX), .v (.int .i64 a2.fY), .v (.int .i64 (A.add .i64 a2.fX 1)), .v (.int .i64 (A.add .i64 a2.fY 1))]), (2048, .arr .rw [] (LEN x.2) 8 (row GD (oncWindowHit LEN GD) x.2))])) ?_ (fun y e s => (match y with | .inl w => e = .ret ∧ s.le (sparse 52 [(6, .c (.v (.slice none 0 0))), (7, .c (.v (.int .i64 w)))] []) | .inr w0 => (fun (w : (List TWindowHit)) => e = .exit 0 ∧ s.le (sparse 52 [(9, .c (.os 2048 0 (LEN w)))] [(2048, .arr .rw [] (LEN w) 8 (row GD (oncWindowHit LEN GD) w))])) w0)) ?_ ?_
   ·clear hr19 hN20
    show St.le _ _
    exact le_sparse rfl ⟨lR _, lR _, lR _, lR _, lR _, trivial⟩ ⟨rfl, rfl, oS, trivial⟩ rfl
   ·clear hr19 hN20
    intro x z24 h K22 hK23 hY21
    obtain ⟨x0_, x1_⟩ := x
    replace h := of_let h
    obtain ⟨v15, hv15, h⟩ := h
    have hv15 : v15 = x0_ := hv15
    subst hv15
    replace h := of_let h
    obtain ⟨v16, hv16, h⟩ := h
    have hv16 : v16 = x1_ := hv16
    subst hv16
    cbv
    refine fork (fun b35 => ?_) (fun b35 => ?_)
    ·replace h := of_br_t b35 h
     cbv
     replace h := of_bind h
     obtain ⟨y29, hy30, h⟩ := h
     refine ⟨{ args := [.agg [.bs (LEN a0.fCells) 4 (row GD (encCell LEN GD) a0.fCells)], .c (.v (.int .i64 a1)), .c (.v (.int .i64 v15)), .agg [.v (.int .i64 a2.fX), .v (.int .i64 a2.fY), .v (.int .i64 (A.add .i64 a2.fX 1)), .v (.int .i64 (A.add .i64 a2.fY 1))]], o0 := [], r := .tup [.c (.os 64000 0 (LEN y29.1)), .c (.v (.int .i64 y29.2))], o1 := [(64000, .arr .rw [] (LEN y29.1) 8 (row GD (oncWindowHit LEN GD) y29.1))], fl := true, σ := [], τ := [(64000, 2688)] }, hf_spec_WindowShapes _ _ _ _ _ hy30, ⟨les_cons (lR _) (les_cons (lR _) (les_cons (lR _) (les_cons (lR _) (les_nil)))), trivial, rfl, rfl, rfl, rfl, ⟨fun h => absurd (show (64000 : Nat) % 2 = 1 from h) (by decide), trivial⟩, rfl⟩, _, rfl, _, _, rfl, fun _ _ _ _ => rfl, ?_⟩
     cbv
     refine fork (fun b34 => ?_) (fun b34 => ?_)
     ·replace h := of_br_t b34 h
      cbv
      injection h with h
      refine hY21 _ h.symm _ _ (And.intro rfl ?_) (by intro hh; cases hh)
      exact le_sparse rfl ⟨lR _, lR _, trivial⟩ trivial rfl
     ·replace h := of_br_f b34 h
      cbv
      replace h := of_req h
      obtain ⟨c33, h⟩ := h
      replace h := of_let h
      obtain ⟨l31, hl31, h⟩ := h
      have e32 : A.nadd (LEN v16) (LEN y29.1) = LEN l31 := by subst hl31 hLEN hA; simp [std, len]
      refine ⟨c33, _, congrArg (fun n => AV.c (AC.os 2048 0 n)) e32, _, row GD (oncWindowHit LEN GD) l31, e32, ?_, ?_⟩
      ·subst hGD hLEN hA
       exact app_mv (off := 0) hl31
      refine ⟨_, _, rfl, fun _ _ _ _ => rfl, ?_⟩
      cbv
      injection h with h
      refine hK23 _ h.symm _ ?_
      exact le_sparse rfl ⟨lR _, lR _, lR _, lR _, lR _, trivial⟩ ⟨rfl, rfl, oS, trivial⟩ rfl
    ·replace h := of_br_f b35 h
     cbv
     injection h with h
     refine hY21 _ h.symm _ _ (And.intro rfl ?_) (by intro hh; cases hh)
     exact le_sparse rfl ⟨lR _, trivial⟩ ⟨oS, trivial⟩ rfl
   ·clear hr19
    have h := hN20
    clear hN20
    intro e27 s28 q26 hne
    rcases y18 with y18k0 | y18m0
    ·replace h := h
     obtain ⟨rfl, q26⟩ := q26
     replace h := of_let h
     obtain ⟨w36, hw36, h⟩ := h
     have hw36 : w36 = y18k0 := hw36
     subst hw36
     cbv
     injection h with h
     subst h
     refine ⟨(sparse 52 [(6, .c (.os 64000 0 (LEN ([] : List TWindowHit)))), (7, .c (.v (.int .i64 w36)))] [(64000, .arr .rw [] (LEN ([] : List TWindowHit)) 8 (row GD (oncWindowHit LEN GD) ([] : List TWindowHit)))]), ?_, ?_⟩
     ·refine St.le_trans q26 ?_
      refine St.le_trans (le_nilT 6 64000 8 (row GD (oncWindowHit LEN GD) ([] : List TWindowHit)) (by decide) rfl) ?_
      subst hLEN
      exact le_sparse rfl ⟨lR _, lR _, trivial⟩ ⟨oS, trivial⟩ rfl
     ·subst hLEN
      exact ⟨lR _, ⟨oS, trivial⟩, rfl⟩
    ·replace h := of_let h
     obtain ⟨y18k1, hyk, h⟩ := h
     have hyk : y18k1 = y18m0 := hyk
     subst hyk
     obtain ⟨rfl, q26⟩ := q26
     replace h := of_let h
     obtain ⟨w37, hw37, h⟩ := h
     have hw37 : w37 = y18k1 := hw37
     subst hw37
     cbv
     refine ⟨_, q26, ?_⟩
     cbv
     injection h with h
     subst h
     refine ⟨(sparse 52 [(6, .c (.os 64000 0 (LEN w37))), (7, .c (.v (.int .i64 0)))] [(64000, .arr .rw [] (LEN w37) 8 (row GD (oncWindowHit LEN GD) w37))]), ?_, ?_⟩
     ·refine St.le_trans (le_ren 2048 64000 (by decide) rfl) ?_
      exact le_sparse rfl ⟨lR _, lR _, trivial⟩ ⟨oS, trivial⟩ rfl
     ·exact ⟨lR _, ⟨oS, trivial⟩, rfl⟩

/-- impl.within -/
noncomputable def F_impl_within (a0 : Int) (a1 : Int) (a2 : Int) : Option (Bool) :=
 ((
    br (std.le a1 a0)
    (some (std.le a0 a2))
    (some false)
  ) : Option (Bool)).bind fun y1 =>
 letO y1 fun w7 =>
 some w7
theorem run_impl_within (a0 : Int) (a1 : Int) (a2 : Int) (r : Bool) (h : F_impl_within a0 a1 a2 = some r) : Fun Tryz.prog 59 [.c (.v (.int .i64 a0)), .c (.v (.int .i64 a1)), .c (.v (.int .i64 a2))] [] (.c (.v (.bool r))) [] true := by
 refine Fun.of_wp (oneOf [1]) tok mixed Tryz.func59 (by kernel_rfl) rfl Tryz.ntmps59 rfl trivial (fun _ => ⟨trivial, trivial⟩) ?_
 unfold F_impl_within at h
 generalize hLEN : @len = LEN at *
 generalize hGD : @gd = GD at *
 generalize hA : std = A at *
 generalize hP : Tryz.prog = P at *
 cbv
 replace h := of_bind h
 obtain ⟨y1, hy2, h⟩ := h
 obtain ⟨S5, hS6⟩ : ∃ S, S = (sparse 15 [(6, .c (.v (.bool y1)))] []) := ⟨_, rfl⟩
 refine ⟨S5, ?_, ?_⟩
 ·clear h
  have h := hy2
  clear hy2
  cbv
  refine fork (fun b8 => ?_) (fun b8 => ?_)
  ·replace h := of_br_t b8 h
   cbv
   injection h with h
   subst h
   subst hS6
   show St.le _ _
   exact le_sparse rfl ⟨lR _, trivial⟩ trivial rfl
  ·replace h := of_br_f b8 h
   cbv
   injection h with h
   subst h
   subst hS6
   show St.le _ _
   exact le_sparse rfl ⟨lR _, trivial⟩ trivial rfl
 ·clear hy2
  subst hS6
  replace h := of_let h
  obtain ⟨w7, hw7, h⟩ := h
  have hw7 : w7 = y1 := hw7
  subst hw7
  cbv
  injection h with h
  subst h
  refine ⟨(sparse 15 [(6, .c (.v (.bool w7)))] []), ?_, ?_⟩
  ·exact le_sparse rfl ⟨lR _, trivial⟩ trivial rfl
  ·exact ⟨lR _, trivial, rfl⟩

/-- impl.isUnitCell -/
noncomputable def F_impl_isUnitCell (a0 : TPoint) : Option (Bool) :=
 ((
    (F_impl_within a0.fX (-40) 39).bind fun y8 =>
    br y8
    ((F_impl_within a0.fY (-40) 39).bind fun y10 =>
    some y10)
    (some false)
  ) : Option (Bool)).bind fun y1 =>
 letO y1 fun w7 =>
 some w7
theorem run_impl_isUnitCell (a0 : TPoint) (r : Bool) (h : F_impl_isUnitCell a0 = some r) : Fun Tryz.prog 49 [.agg [.v (.int .i64 a0.fX), .v (.int .i64 a0.fY)]] [] (.c (.v (.bool r))) [] true := by
 refine Fun.of_wp (oneOf [1]) tok mixed Tryz.func49 (by kernel_rfl) rfl Tryz.ntmps49 rfl trivial (fun _ => ⟨trivial, trivial⟩) ?_
 unfold F_impl_isUnitCell at h
 have hf_impl_within := @run_impl_within
 generalize hLEN : @len = LEN at *
 generalize hGD : @gd = GD at *
 generalize hA : std = A at *
 generalize hP : Tryz.prog = P at *
 cbv
 replace h := of_bind h
 obtain ⟨y1, hy2, h⟩ := h
 obtain ⟨S5, hS6⟩ : ∃ S, S = (sparse 11 [(2, .c (.v (.bool y1)))] []) := ⟨_, rfl⟩
 refine ⟨S5, ?_, ?_⟩
 ·clear h
  have h := hy2
  clear hy2
  cbv
  replace h := of_bind h
  obtain ⟨y8, hy9, h⟩ := h
  refine ⟨{ args := [.c (.v (.int .i64 a0.fX)), .c (.v (.int .i64 (-40))), .c (.v (.int .i64 39))], o0 := [], r := .c (.v (.bool y8)), o1 := [], fl := true, σ := [], τ := [] }, hf_impl_within _ _ _ _ hy9, ⟨les_cons (lR _) (les_cons (lR _) (les_cons (lR _) (les_nil))), trivial, rfl, rfl, rfl, rfl, trivial, rfl⟩, ?_⟩
  cbv
  refine fork (fun b12 => ?_) (fun b12 => ?_)
  ·replace h := of_br_t b12 h
   cbv
   replace h := of_bind h
   obtain ⟨y10, hy11, h⟩ := h
   refine ⟨{ args := [.c (.v (.int .i64 a0.fY)), .c (.v (.int .i64 (-40))), .c (.v (.int .i64 39))], o0 := [], r := .c (.v (.bool y10)), o1 := [], fl := true, σ := [], τ := [] }, hf_impl_within _ _ _ _ hy11, ⟨les_cons (lR _) (les_cons (lR _) (les_cons (lR _) (les_nil))), trivial, rfl, rfl, rfl, rfl, trivial, rfl⟩, ?_⟩
   cbv
   injection h with h
   subst h
   subst hS6
   show St.le _ _
   exact le_sparse rfl ⟨lR _, trivial⟩ trivial rfl
  ·replace h := of_br_f b12 h
   cbv
   injection h with h
   subst h
   subst hS6
   show St.le _ _
   exact le_sparse rfl ⟨lR _, trivial⟩ trivial rfl
 ·clear hy2
  subst hS6
  replace h := of_let h
  obtain ⟨w7, hw7, h⟩ := h
  have hw7 : w7 = y1 := hw7
  subst hw7
  cbv
  injection h with h
  subst h
  refine ⟨(sparse 11 [(2, .c (.v (.bool w7)))] []), ?_, ?_⟩
  ·exact le_sparse rfl ⟨lR _, trivial⟩ trivial rfl
  ·exact ⟨lR _, trivial, rfl⟩
/-- impl.unitRect -/
noncomputable def F_impl_unitRect (a0 : TPoint) : Option (TRect) :=
 some (TRect.mk a0.fX a0.fY (std.add .i64 a0.fX 1) (std.add .i64 a0.fY 1))
theorem run_impl_unitRect (a0 : TPoint) (r : TRect) (h : F_impl_unitRect a0 = some r) : Fun Tryz.prog 37 [.agg [.v (.int .i64 a0.fX), .v (.int .i64 a0.fY)]] [] (.agg [.v (.int .i64 r.fX0), .v (.int .i64 r.fY0), .v (.int .i64 r.fX1), .v (.int .i64 r.fY1)]) [] true := by
 refine Fun.of_wp (oneOf []) tok mixed Tryz.func37 (by kernel_rfl) rfl Tryz.ntmps37 rfl trivial (fun _ => ⟨(by simp [AV.flat, AV.flat1, AC.flat]), trivial⟩) ?_
 unfold F_impl_unitRect at h
 generalize hLEN : @len = LEN at *
 generalize hGD : @gd = GD at *
 generalize hA : std = A at *
 generalize hP : Tryz.prog = P at *
 cbv
 injection h with h
 subst h
 refine ⟨(sparse 14 [(2, .c (.ptr 128 0))] [(128, .var [.v (.int .i64 a0.fX), .v (.int .i64 a0.fY), .v (.int .i64 (A.add .i64 a0.fX 1)), .v (.int .i64 (A.add .i64 a0.fY 1))])]), ?_, ?_⟩
 ·exact le_sparse rfl ⟨lR _, trivial⟩ ⟨rfl, trivial⟩ rfl
 ·exact ⟨lR _, trivial, rfl⟩

noncomputable def L_impl_IsName_x2 (a0 : ByteArray) : (Int) → Option ((Int) ⊕ ((Unit) ⊕ (Unit))) := fun x2 =>
 letO x2 fun v1 =>
 br (std.lt v1 (std.ofN (std.slen a0)))
 (((
    req (std.inR v1 (std.slen a0)) <|
    br (std.lt (std.sat a0 (std.toN v1)) 97)
    (req (std.inR v1 (std.slen a0)) <|
    br (std.lt (std.sat a0 (std.toN v1)) 48)
    (some true)
    (req (std.inR v1 (std.slen a0)) <|
    some (std.lt 57 (std.sat a0 (std.toN v1)))))
    (req (std.inR v1 (std.slen a0)) <|
    br (std.lt 122 (std.sat a0 (std.toN v1)))
    (req (std.inR v1 (std.slen a0)) <|
    br (std.lt (std.sat a0 (std.toN v1)) 48)
    (some true)
    (req (std.inR v1 (std.slen a0)) <|
    some (std.lt 57 (std.sat a0 (std.toN v1)))))
    (some false))
  ) : Option (Bool)).bind fun y14 =>
 letO y14 fun w20 =>
 br w20
 (some (.inr (.inl ())))
 (some (.inl (std.add .i64 v1 1))))
 (some (.inr (.inr ())))
/-- impl.IsName -/
noncomputable def F_impl_IsName (a0 : ByteArray) : Option (Bool) :=
 (whileP (σ := Int) (ρ := (Unit) ⊕ (Unit)) (L_impl_IsName_x2 a0) 0).bind fun y3 =>
 (match y3 with
  | .inl y3k0 => (
    some false)
  | .inr y3m0 =>
    ((
       br (std.le 1 (std.ofN (std.slen a0)))
       (some (std.le (std.ofN (std.slen a0)) 8))
       (some false)
     ) : Option (Bool)).bind fun y33 =>
    letO y33 fun w39 =>
    some w39)
theorem run_impl_IsName (a0 : ByteArray) (r : Bool) (h : F_impl_IsName a0 = some r) : Fun Tryz.prog 103 [.c (.v (.string a0))] [] (.c (.v (.bool r))) [] true := by
 refine Fun.of_wp (oneOf [4, 6]) tok mixed Tryz.func103 (by kernel_rfl) rfl Tryz.ntmps103 rfl trivial (fun _ => ⟨trivial, trivial⟩) ?_
 unfold F_impl_IsName at h
 unfold L_impl_IsName_x2 at h
 generalize hLEN : @len = LEN at *
 generalize hGD : @gd = GD at *
 generalize hA : std = A at *
 generalize hP : Tryz.prog = P at *
 cbv
 replace h := of_bind h
 obtain ⟨y3, hr4, hN5⟩ := h
 refine loop_cut hr4 (fun x => (sparse 40 [(0, .c (.v (.string a0))), (3, .c (.v (.int .i64 x)))] [])) ?_ (fun y e s => (match y with | .inl w => e = .ret ∧ s.le (sparse 40 [(2, .c (.v (.bool false)))] []) | .inr w0 => (fun (w : Unit) => e = .exit 0 ∧ s.le (sparse 40 [(0, .c (.v (.string a0)))] [])) w0)) ?_ ?_
 ·clear hr4 hN5
  show St.le _ _
  exact le_sparse rfl ⟨lR _, lR _, trivial⟩ trivial rfl
 ·clear hr4 hN5
  intro x z9 h K7 hK8 hY6
  replace h := of_let h
  obtain ⟨v1, hv1, h⟩ := h
  have hv1 : v1 = x := hv1
  subst hv1
  cbv
  refine fork (fun b32 => ?_) (fun b32 => ?_)
  ·replace h := of_br_t b32 h
   cbv
   replace h := of_bind h
   obtain ⟨y14, hy15, h⟩ := h
   obtain ⟨S18, hS19⟩ : ∃ S, S = (sparse 40 [(0, .c (.v (.string a0))), (3, .c (.v (.int .i64 v1))), (31, .c (.v (.bool y14)))] []) := ⟨_, rfl⟩
   refine ⟨S18, ?_, ?_⟩
   ·clear h
    have h := hy15
    clear hy15
    cbv
    replace h := of_req h
    obtain ⟨c21, h⟩ := h
    refine ⟨c21, ?_⟩
    refine fork (fun b30 => ?_) (fun b30 => ?_)
    ·replace h := of_br_t b30 h
     cbv
     replace h := of_req h
     obtain ⟨c27, h⟩ := h
     refine ⟨c27, ?_⟩
     refine fork (fun b29 => ?_) (fun b29 => ?_)
     ·replace h := of_br_t b29 h
      cbv
      injection h with h
      subst h
      subst hS19
      show St.le _ _
      exact le_sparse rfl ⟨lR _, lR _, lR _, trivial⟩ trivial rfl
     ·replace h := of_br_f b29 h
      cbv
      replace h := of_req h
      obtain ⟨c28, h⟩ := h
      refine ⟨c28, ?_⟩
      injection h with h
      subst h
      subst hS19
      show St.le _ _
      exact le_sparse rfl ⟨lR _, lR _, lR _, trivial⟩ trivial rfl
    ·replace h := of_br_f b30 h
     cbv
     replace h := of_req h
     obtain ⟨c22, h⟩ := h
     refine ⟨c22, ?_⟩
     refine fork (fun b26 => ?_) (fun b26 => ?_)
     ·replace h := of_br_t b26 h
      cbv
      replace h := of_req h
      obtain ⟨c23, h⟩ := h
      refine ⟨c23, ?_⟩
      refine fork (fun b25 => ?_) (fun b25 => ?_)
      ·replace h := of_br_t b25 h
       cbv
       injection h with h
       subst h
       subst hS19
       show St.le _ _
       exact le_sparse rfl ⟨lR _, lR _, lR _, trivial⟩ trivial rfl
      ·replace h := of_br_f b25 h
       cbv
       replace h := of_req h
       obtain ⟨c24, h⟩ := h
       refine ⟨c24, ?_⟩
       injection h with h
       subst h
       subst hS19
       show St.le _ _
       exact le_sparse rfl ⟨lR _, lR _, lR _, trivial⟩ trivial rfl
     ·replace h := of_br_f b26 h
      cbv
      injection h with h
      subst h
      subst hS19
      show St.le _ _
      exact le_sparse rfl ⟨lR _, lR _, lR _, trivial⟩ trivial rfl
   ·clear hy15
    subst hS19
    replace h := of_let h
    obtain ⟨w20, hw20, h⟩ := h
    have hw20 : w20 = y14 := hw20
    subst hw20
    cbv
    refine fork (fun b31 => ?_) (fun b31 => ?_)
    ·replace h := of_br_t b31 h
     cbv
     injection h with h
     refine hY6 _ h.symm _ _ (And.intro rfl ?_) (by intro hh; cases hh)
     exact le_sparse rfl ⟨lR _, trivial⟩ trivial rfl
    ·replace h := of_br_f b31 h
     cbv
     injection h with h
     refine hK8 _ h.symm _ ?_
     exact le_sparse rfl ⟨lR _, lR _, trivial⟩ trivial rfl
  ·replace h := of_br_f b32 h
   cbv
   injection h with h
   refine hY6 _ h.symm _ _ (And.intro rfl ?_) (by intro hh; cases hh)
   exact le_sparse rfl ⟨lR _, trivial⟩ trivial rfl
 ·clear hr4
  have h := hN5
  clear hN5
  intro e12 s13 q11 hne
  rcases y3 with y3k0 | y3m0
  ·replace h := h
   obtain ⟨rfl, q11⟩ := q11
   cbv
   injection h with h
   subst h
   refine ⟨(sparse 40 [(2, .c (.v (.bool false)))] []), ?_, ?_⟩
   ·refine St.le_trans q11 ?_
    exact le_sparse rfl ⟨lR _, trivial⟩ trivial rfl
   ·exact ⟨lR _, trivial, rfl⟩
  ·obtain ⟨rfl, q11⟩ := q11
   cbv
   refine ⟨_, q11, ?_⟩
   cbv
   replace h := of_bind h
   obtain ⟨y33, hy34, h⟩ := h
   obtain ⟨S37, hS38⟩ : ∃ S, S = (sparse 40 [(2, .c (.v (.bool y33)))] []) := ⟨_, rfl⟩
   refine ⟨S37, ?_, ?_⟩
   ·clear h
    have h := hy34
    clear hy34
    cbv
    refine fork (fun b40 => ?_) (fun b40 => ?_)
    ·replace h := of_br_t b40 h
     cbv
     injection h with h
     subst h
     subst hS38
     show St.le _ _
     exact le_sparse rfl ⟨lR _, trivial⟩ trivial rfl
    ·replace h := of_br_f b40 h
     cbv
     injection h with h
     subst h
     subst hS38
     show St.le _ _
     exact le_sparse rfl ⟨lR _, trivial⟩ trivial rfl
   ·clear hy34
    subst hS38
    replace h := of_let h
    obtain ⟨w39, hw39, h⟩ := h
    have hw39 : w39 = y33 := hw39
    subst hw39
    cbv
    injection h with h
    subst h
    refine ⟨(sparse 40 [(2, .c (.v (.bool w39)))] []), ?_, ?_⟩
    ·exact le_sparse rfl ⟨lR _, trivial⟩ trivial rfl
    ·exact ⟨lR _, trivial, rfl⟩

/-- impl.IsValidRect -/
noncomputable def F_impl_IsValidRect (a0 : TRect) : Option (Bool) :=
 ((
    br (std.le (-40) a0.fX0)
    (br (std.lt a0.fX0 a0.fX1)
    (br (std.le a0.fX1 40)
    (br (std.le (-40) a0.fY0)
    (br (std.lt a0.fY0 a0.fY1)
    (some (std.le a0.fY1 40))
    (some false))
    (some false))
    (some false))
    (some false))
    (some false)
  ) : Option (Bool)).bind fun y1 =>
 letO y1 fun w7 =>
 some w7
theorem run_impl_IsValidRect (a0 : TRect) (r : Bool) (h : F_impl_IsValidRect a0 = some r) : Fun Tryz.prog 57 [.agg [.v (.int .i64 a0.fX0), .v (.int .i64 a0.fY0), .v (.int .i64 a0.fX1), .v (.int .i64 a0.fY1)]] [] (.c (.v (.bool r))) [] true := by
 refine Fun.of_wp (oneOf [1]) tok mixed Tryz.func57 (by kernel_rfl) rfl Tryz.ntmps57 rfl trivial (fun _ => ⟨trivial, trivial⟩) ?_
 unfold F_impl_IsValidRect at h
 generalize hLEN : @len = LEN at *
 generalize hGD : @gd = GD at *
 generalize hA : std = A at *
 generalize hP : Tryz.prog = P at *
 cbv
 replace h := of_bind h
 obtain ⟨y1, hy2, h⟩ := h
 obtain ⟨S5, hS6⟩ : ∃ S, S = (sparse 35 [(2, .c (.v (.bool y1)))] []) := ⟨_, rfl⟩
 refine ⟨S5, ?_, ?_⟩
 ·clear h
  have h := hy2
  clear hy2
  cbv
  refine fork (fun b12 => ?_) (fun b12 => ?_)
  ·replace h := of_br_t b12 h
   cbv
   refine fork (fun b11 => ?_) (fun b11 => ?_)
   ·replace h := of_br_t b11 h
    cbv
    refine fork (fun b10 => ?_) (fun b10 => ?_)
    ·replace h := of_br_t b10 h
     cbv
     refine fork (fun b9 => ?_) (fun b9 => ?_)
     ·replace h := of_br_t b9 h
      cbv
      refine fork (fun b8 => ?_) (fun b8 => ?_)
      ·replace h := of_br_t b8 h
       cbv
       injection h with h
       subst h
       subst hS6
       show St.le _ _
       exact le_sparse rfl ⟨lR _, trivial⟩ trivial rfl
      ·replace h := of_br_f b8 h
       cbv
       injection h with h
       subst h
       subst hS6
       show St.le _ _
       exact le_sparse rfl ⟨lR _, trivial⟩ trivial rfl
     ·replace h := of_br_f b9 h
      cbv
      injection h with h
      subst h
      subst hS6
      show St.le _ _
      exact le_sparse rfl ⟨lR _, trivial⟩ trivial rfl
    ·replace h := of_br_f b10 h
     cbv
     injection h with h
     subst h
     subst hS6
     show St.le _ _
     exact le_sparse rfl ⟨lR _, trivial⟩ trivial rfl
   ·replace h := of_br_f b11 h
    cbv
    injection h with h
    subst h
    subst hS6
    show St.le _ _
    exact le_sparse rfl ⟨lR _, trivial⟩ trivial rfl
  ·replace h := of_br_f b12 h
   cbv
   injection h with h
   subst h
   subst hS6
   show St.le _ _
   exact le_sparse rfl ⟨lR _, trivial⟩ trivial rfl
 ·clear hy2
  subst hS6
  replace h := of_let h
  obtain ⟨w7, hw7, h⟩ := h
  have hw7 : w7 = y1 := hw7
  subst hw7
  cbv
  injection h with h
  subst h
  refine ⟨(sparse 35 [(2, .c (.v (.bool w7)))] []), ?_, ?_⟩
  ·exact le_sparse rfl ⟨lR _, trivial⟩ trivial rfl
  ·exact ⟨lR _, trivial, rfl⟩

/-- impl.validShape -/
noncomputable def F_impl_validShape (a0 : TShape) : Option (Bool) :=
 ((
    (F_impl_within a0.fLayer 0 7).bind fun y8 =>
    br y8
    ((F_impl_IsValidRect a0.fBox).bind fun y10 =>
    some y10)
    (some false)
  ) : Option (Bool)).bind fun y1 =>
 letO y1 fun w7 =>
 some w7
theorem run_impl_validShape (a0 : TShape) (r : Bool) (h : F_impl_validShape a0 = some r) : Fun Tryz.prog 106 [.agg [.v (.int .i64 a0.fLayer), .v (.int .i64 a0.fBox.fX0), .v (.int .i64 a0.fBox.fY0), .v (.int .i64 a0.fBox.fX1), .v (.int .i64 a0.fBox.fY1)]] [] (.c (.v (.bool r))) [] true := by
 refine Fun.of_wp (oneOf [1]) tok mixed Tryz.func106 (by kernel_rfl) rfl Tryz.ntmps106 rfl trivial (fun _ => ⟨trivial, trivial⟩) ?_
 unfold F_impl_validShape at h
 have hf_impl_IsValidRect := @run_impl_IsValidRect
 have hf_impl_within := @run_impl_within
 generalize hLEN : @len = LEN at *
 generalize hGD : @gd = GD at *
 generalize hA : std = A at *
 generalize hP : Tryz.prog = P at *
 cbv
 replace h := of_bind h
 obtain ⟨y1, hy2, h⟩ := h
 obtain ⟨S5, hS6⟩ : ∃ S, S = (sparse 11 [(2, .c (.v (.bool y1)))] []) := ⟨_, rfl⟩
 refine ⟨S5, ?_, ?_⟩
 ·clear h
  have h := hy2
  clear hy2
  cbv
  replace h := of_bind h
  obtain ⟨y8, hy9, h⟩ := h
  refine ⟨{ args := [.c (.v (.int .i64 a0.fLayer)), .c (.v (.int .i64 0)), .c (.v (.int .i64 7))], o0 := [], r := .c (.v (.bool y8)), o1 := [], fl := true, σ := [], τ := [] }, hf_impl_within _ _ _ _ hy9, ⟨les_cons (lR _) (les_cons (lR _) (les_cons (lR _) (les_nil))), trivial, rfl, rfl, rfl, rfl, trivial, rfl⟩, ?_⟩
  cbv
  refine fork (fun b12 => ?_) (fun b12 => ?_)
  ·replace h := of_br_t b12 h
   cbv
   replace h := of_bind h
   obtain ⟨y10, hy11, h⟩ := h
   refine ⟨{ args := [.agg [.v (.int .i64 a0.fBox.fX0), .v (.int .i64 a0.fBox.fY0), .v (.int .i64 a0.fBox.fX1), .v (.int .i64 a0.fBox.fY1)]], o0 := [], r := .c (.v (.bool y10)), o1 := [], fl := true, σ := [], τ := [] }, hf_impl_IsValidRect _ _ hy11, ⟨les_cons (lR _) (les_nil), trivial, rfl, rfl, rfl, rfl, trivial, rfl⟩, ?_⟩
   cbv
   injection h with h
   subst h
   subst hS6
   show St.le _ _
   exact le_sparse rfl ⟨lR _, trivial⟩ trivial rfl
  ·replace h := of_br_f b12 h
   cbv
   injection h with h
   subst h
   subst hS6
   show St.le _ _
   exact le_sparse rfl ⟨lR _, trivial⟩ trivial rfl
 ·clear hy2
  subst hS6
  replace h := of_let h
  obtain ⟨w7, hw7, h⟩ := h
  have hw7 : w7 = y1 := hw7
  subst hw7
  cbv
  injection h with h
  subst h
  refine ⟨(sparse 11 [(2, .c (.v (.bool w7)))] []), ?_, ?_⟩
  ·exact le_sparse rfl ⟨lR _, trivial⟩ trivial rfl
  ·exact ⟨lR _, trivial, rfl⟩

/-- impl.validCell$1 -/
noncomputable def F_impl_validCell_1 (a0 : TShape) : Option (Bool) :=
 (F_impl_validShape (TShape.mk a0.fLayer a0.fBox)).bind fun y1 =>
 some (!(y1))
theorem run_impl_validCell_1 (a0 : TShape) (r : Bool) (h : F_impl_validCell_1 a0 = some r) : Fun Tryz.prog 105 [.agg [.v (.int .i64 a0.fLayer), .v (.int .i64 a0.fBox.fX0), .v (.int .i64 a0.fBox.fY0), .v (.int .i64 a0.fBox.fX1), .v (.int .i64 a0.fBox.fY1)]] [] (.c (.v (.bool r))) [] true := by
 refine Fun.of_wp (oneOf []) tok mixed Tryz.func105 (by kernel_rfl) rfl Tryz.ntmps105 rfl trivial (fun _ => ⟨trivial, trivial⟩) ?_
 unfold F_impl_validCell_1 at h
 have hf_impl_validShape := @run_impl_validShape
 generalize hLEN : @len = LEN at *
 generalize hGD : @gd = GD at *
 generalize hA : std = A at *
 generalize hP : Tryz.prog = P at *
 cbv
 replace h := of_bind h
 obtain ⟨y1, hy2, h⟩ := h
 refine ⟨{ args := [.agg [.v (.int .i64 a0.fLayer), .v (.int .i64 a0.fBox.fX0), .v (.int .i64 a0.fBox.fY0), .v (.int .i64 a0.fBox.fX1), .v (.int .i64 a0.fBox.fY1)]], o0 := [], r := .c (.v (.bool y1)), o1 := [], fl := true, σ := [], τ := [] }, hf_impl_validShape _ _ hy2, ⟨les_cons (lR _) (les_nil), trivial, rfl, rfl, rfl, rfl, trivial, rfl⟩, ?_⟩
 cbv
 injection h with h
 subst h
 refine ⟨(sparse 6 [(2, .c (.v (.bool (!(y1)))))] []), ?_, ?_⟩
 ·exact le_sparse rfl ⟨lR _, trivial⟩ trivial rfl
 ·exact ⟨lR _, trivial, rfl⟩

noncomputable def L_slices_IndexFunc_Limpl_Shape_impl_Shape_mbFimpl_validCell_1_x2 (a0 : List TShape) : (Int) → Option ((Int) ⊕ ((Int) ⊕ (Unit))) := fun x2 =>
 letO x2 fun v1 =>
 br (std.lt v1 (std.ofN (len a0)))
 (req (std.inR v1 (len a0)) <|
 (F_impl_validCell_1 (gd a0 (std.toN v1))).bind fun y15 =>
 br y15
 (some (.inr (.inl v1)))
 (some (.inl (std.add .i64 v1 1))))
 (some (.inr (.inr ())))
/-- impl.Shape] -/
noncomputable def F_slices_IndexFunc_Limpl_Shape_impl_Shape_mbFimpl_validCell_1 (a0 : List TShape) : Option (Int) :=
 (whileP (σ := Int) (ρ := (Int) ⊕ (Unit)) (L_slices_IndexFunc_Limpl_Shape_impl_Shape_mbFimpl_validCell_1_x2 a0) 0).bind fun y3 =>
 (match y3 with
  | .inl y3k0 => (
    letO y3k0 fun w19 =>
    some w19)
  | .inr y3m0 =>
    some (-1))
theorem run_slices_IndexFunc_Limpl_Shape_impl_Shape_mbFimpl_validCell_1 (a0 : List TShape) (r : Int) (h : F_slices_IndexFunc_Limpl_Shape_impl_Shape_mbFimpl_validCell_1 a0 = some r) : Fun Tryz.prog 120 [.c (.bs (len a0) 5 (row gd (encShape) a0)), .c (.fn 105 0 fun _ => .junk)] [] (.c (.v (.int .i64 r))) [] true := by
 refine Fun.of_wp (oneOf []) tok mixed Tryz.func120 (by kernel_rfl) rfl Tryz.ntmps120 rfl trivial (fun _ => ⟨trivial, trivial⟩) ?_
 unfold F_slices_IndexFunc_Limpl_Shape_impl_Shape_mbFimpl_validCell_1 at h
 unfold L_slices_IndexFunc_Limpl_Shape_impl_Shape_mbFimpl_validCell_1_x2 at h
 have hf_impl_validCell_1 := @run_impl_validCell_1
 generalize hLEN : @len = LEN at *
 generalize hGD : @gd = GD at *
 generalize hA : std = A at *
 generalize hP : Tryz.prog = P at *
 cbv
 replace h := of_bind h
 obtain ⟨y3, hr4, hN5⟩ := h
 refine loop_cut hr4 (fun x => (sparse 19 [(0, .c (.bs (LEN a0) 5 (row GD (encShape) a0))), (1, .c (.fn 105 0 fun _ => .junk)), (7, .c (.v (.int .i64 (A.ofN (LEN a0))))), (8, .c (.v (.int .i64 x)))] [])) ?_ (fun y e s => (match y with | .inl w => e = .ret ∧ s.le (sparse 19 [(4, .c (.v (.int .i64 w)))] []) | .inr w0 => (fun (w : Unit) => e = .exit 0 ∧ s.le (sparse 19 [] [])) w0)) ?_ ?_
 ·clear hr4 hN5
  show St.le _ _
  exact le_sparse rfl ⟨lR _, lR _, lR _, lR _, trivial⟩ trivial rfl
 ·clear hr4 hN5
  intro x z9 h K7 hK8 hY6
  replace h := of_let h
  obtain ⟨v1, hv1, h⟩ := h
  have hv1 : v1 = x := hv1
  subst hv1
  cbv
  refine fork (fun b18 => ?_) (fun b18 => ?_)
  ·replace h := of_br_t b18 h
   cbv
   replace h := of_req h
   obtain ⟨c14, h⟩ := h
   refine ⟨⟨c14, trivial⟩, ?_⟩
   replace h := of_bind h
   obtain ⟨y15, hy16, h⟩ := h
   refine ⟨{ args := [.agg [.v (.int .i64 (GD a0 (A.toN v1)).fLayer), .v (.int .i64 (GD a0 (A.toN v1)).fBox.fX0), .v (.int .i64 (GD a0 (A.toN v1)).fBox.fY0), .v (.int .i64 (GD a0 (A.toN v1)).fBox.fX1), .v (.int .i64 (GD a0 (A.toN v1)).fBox.fY1)]], o0 := [], r := .c (.v (.bool y15)), o1 := [], fl := true, σ := [], τ := [] }, hf_impl_validCell_1 _ _ hy16, ⟨les_cons (lR _) (les_nil), trivial, rfl, rfl, rfl, rfl, trivial, rfl⟩, ?_⟩
   cbv
   refine fork (fun b17 => ?_) (fun b17 => ?_)
   ·replace h := of_br_t b17 h
    cbv
    injection h with h
    refine hY6 _ h.symm _ _ (And.intro rfl ?_) (by intro hh; cases hh)
    exact le_sparse rfl ⟨lR _, trivial⟩ trivial rfl
   ·replace h := of_br_f b17 h
    cbv
    injection h with h
    refine hK8 _ h.symm _ ?_
    exact le_sparse rfl ⟨lR _, lR _, lR _, lR _, trivial⟩ trivial rfl
  ·replace h := of_br_f b18 h
   cbv
   injection h with h
   refine hY6 _ h.symm _ _ (And.intro rfl ?_) (by intro hh; cases hh)
   exact le_sparse rfl trivial trivial rfl
 ·clear hr4
  have h := hN5
  clear hN5
  intro e12 s13 q11 hne
  rcases y3 with y3k0 | y3m0
  ·replace h := h
   obtain ⟨rfl, q11⟩ := q11
   replace h := of_let h
   obtain ⟨w19, hw19, h⟩ := h
   have hw19 : w19 = y3k0 := hw19
   subst hw19
   cbv
   injection h with h
   subst h
   refine ⟨(sparse 19 [(4, .c (.v (.int .i64 w19)))] []), ?_, ?_⟩
   ·refine St.le_trans q11 ?_
    exact le_sparse rfl ⟨lR _, trivial⟩ trivial rfl
   ·exact ⟨lR _, trivial, rfl⟩
  ·obtain ⟨rfl, q11⟩ := q11
   cbv
   refine ⟨_, q11, ?_⟩
   cbv
   injection h with h
   subst h
   refine ⟨(sparse 19 [(4, .c (.v (.int .i64 (-1))))] []), ?_, ?_⟩
   ·exact le_sparse rfl ⟨lR _, trivial⟩ trivial rfl
   ·exact ⟨lR _, trivial, rfl⟩
/-- impl.Shape] -/
noncomputable def F_slices_ContainsFunc_Limpl_Shape_impl_Shape_mbFimpl_validCell_1 (a0 : List TShape) : Option (Bool) :=
 (F_slices_IndexFunc_Limpl_Shape_impl_Shape_mbFimpl_validCell_1 a0).bind fun y1 =>
 some (std.le 0 y1)
theorem run_slices_ContainsFunc_Limpl_Shape_impl_Shape_mbFimpl_validCell_1 (a0 : List TShape) (r : Bool) (h : F_slices_ContainsFunc_Limpl_Shape_impl_Shape_mbFimpl_validCell_1 a0 = some r) : Fun Tryz.prog 104 [.c (.bs (len a0) 5 (row gd (encShape) a0)), .c (.fn 105 0 fun _ => .junk)] [] (.c (.v (.bool r))) [] true := by
 refine Fun.of_wp (oneOf []) tok mixed Tryz.func104 (by kernel_rfl) rfl Tryz.ntmps104 rfl trivial (fun _ => ⟨trivial, trivial⟩) ?_
 unfold F_slices_ContainsFunc_Limpl_Shape_impl_Shape_mbFimpl_validCell_1 at h
 have hf_slices_IndexFunc_Limpl_Shape_impl_Shape_mbFimpl_validCell_1 := @run_slices_IndexFunc_Limpl_Shape_impl_Shape_mbFimpl_validCell_1
 generalize hLEN : @len = LEN at *
 generalize hGD : @gd = GD at *
 generalize hA : std = A at *
 generalize hP : Tryz.prog = P at *
 cbv
 replace h := of_bind h
 obtain ⟨y1, hy2, h⟩ := h
 refine ⟨{ args := [.c (.bs (LEN a0) 5 (row GD (encShape) a0)), .c (.fn 105 0 fun _ => .junk)], o0 := [], r := .c (.v (.int .i64 y1)), o1 := [], fl := true, σ := [], τ := [] }, hf_slices_IndexFunc_Limpl_Shape_impl_Shape_mbFimpl_validCell_1 _ _ hy2, ⟨les_cons (lR _) (les_cons (lR _) (les_nil)), trivial, rfl, rfl, rfl, rfl, trivial, rfl⟩, ?_⟩
 cbv
 injection h with h
 subst h
 refine ⟨(sparse 9 [(4, .c (.v (.bool (A.le 0 y1))))] []), ?_, ?_⟩
 ·exact le_sparse rfl ⟨lR _, trivial⟩ trivial rfl
 ·exact ⟨lR _, trivial, rfl⟩

/-- impl.validLabel -/
noncomputable def F_impl_validLabel (a0 : TLabel) : Option (Bool) :=
 ((
    (F_impl_within a0.fLayer 0 7).bind fun y8 =>
    br y8
    ((F_impl_isUnitCell a0.fAt).bind fun y10 =>
    br y10
    ((F_impl_IsName a0.fName).bind fun y12 =>
    some y12)
    (some false))
    (some false)
  ) : Option (Bool)).bind fun y1 =>
 letO y1 fun w7 =>
 some w7
theorem run_impl_validLabel (a0 : TLabel) (r : Bool) (h : F_impl_validLabel a0 = some r) : Fun Tryz.prog 109 [.agg [.v (.int .i64 a0.fLayer), .v (.int .i64 a0.fAt.fX), .v (.int .i64 a0.fAt.fY), .v (.string a0.fName)]] [] (.c (.v (.bool r))) [] true := by
 refine Fun.of_wp (oneOf [1]) tok mixed Tryz.func109 (by kernel_rfl) rfl Tryz.ntmps109 rfl trivial (fun _ => ⟨trivial, trivial⟩) ?_
 unfold F_impl_validLabel at h
 have hf_impl_IsName := @run_impl_IsName
 have hf_impl_isUnitCell := @run_impl_isUnitCell
 have hf_impl_within := @run_impl_within
 generalize hLEN : @len = LEN at *
 generalize hGD : @gd = GD at *
 generalize hA : std = A at *
 generalize hP : Tryz.prog = P at *
 cbv
 replace h := of_bind h
 obtain ⟨y1, hy2, h⟩ := h
 obtain ⟨S5, hS6⟩ : ∃ S, S = (sparse 16 [(2, .c (.v (.bool y1)))] []) := ⟨_, rfl⟩
 refine ⟨S5, ?_, ?_⟩
 ·clear h
  have h := hy2
  clear hy2
  cbv
  replace h := of_bind h
  obtain ⟨y8, hy9, h⟩ := h
  refine ⟨{ args := [.c (.v (.int .i64 a0.fLayer)), .c (.v (.int .i64 0)), .c (.v (.int .i64 7))], o0 := [], r := .c (.v (.bool y8)), o1 := [], fl := true, σ := [], τ := [] }, hf_impl_within _ _ _ _ hy9, ⟨les_cons (lR _) (les_cons (lR _) (les_cons (lR _) (les_nil))), trivial, rfl, rfl, rfl, rfl, trivial, rfl⟩, ?_⟩
  cbv
  refine fork (fun b15 => ?_) (fun b15 => ?_)
  ·replace h := of_br_t b15 h
   cbv
   replace h := of_bind h
   obtain ⟨y10, hy11, h⟩ := h
   refine ⟨{ args := [.agg [.v (.int .i64 a0.fAt.fX), .v (.int .i64 a0.fAt.fY)]], o0 := [], r := .c (.v (.bool y10)), o1 := [], fl := true, σ := [], τ := [] }, hf_impl_isUnitCell _ _ hy11, ⟨les_cons (lR _) (les_nil), trivial, rfl, rfl, rfl, rfl, trivial, rfl⟩, ?_⟩
   cbv
   refine fork (fun b14 => ?_) (fun b14 => ?_)
   ·replace h := of_br_t b14 h
    cbv
    replace h := of_bind h
    obtain ⟨y12, hy13, h⟩ := h
    refine ⟨{ args := [.c (.v (.string a0.fName))], o0 := [], r := .c (.v (.bool y12)), o1 := [], fl := true, σ := [], τ := [] }, hf_impl_IsName _ _ hy13, ⟨les_cons (lR _) (les_nil), trivial, rfl, rfl, rfl, rfl, trivial, rfl⟩, ?_⟩
    cbv
    injection h with h
    subst h
    subst hS6
    show St.le _ _
    exact le_sparse rfl ⟨lR _, trivial⟩ trivial rfl
   ·replace h := of_br_f b14 h
    cbv
    injection h with h
    subst h
    subst hS6
    show St.le _ _
    exact le_sparse rfl ⟨lR _, trivial⟩ trivial rfl
  ·replace h := of_br_f b15 h
   cbv
   injection h with h
   subst h
   subst hS6
   show St.le _ _
   exact le_sparse rfl ⟨lR _, trivial⟩ trivial rfl
 ·clear hy2
  subst hS6
  replace h := of_let h
  obtain ⟨w7, hw7, h⟩ := h
  have hw7 : w7 = y1 := hw7
  subst hw7
  cbv
  injection h with h
  subst h
  refine ⟨(sparse 16 [(2, .c (.v (.bool w7)))] []), ?_, ?_⟩
  ·exact le_sparse rfl ⟨lR _, trivial⟩ trivial rfl
  ·exact ⟨lR _, trivial, rfl⟩

/-- impl.validCell$2 -/
noncomputable def F_impl_validCell_2 (a0 : TLabel) : Option (Bool) :=
 (F_impl_validLabel a0).bind fun y1 =>
 some (!(y1))
theorem run_impl_validCell_2 (a0 : TLabel) (r : Bool) (h : F_impl_validCell_2 a0 = some r) : Fun Tryz.prog 108 [.agg [.v (.int .i64 a0.fLayer), .v (.int .i64 a0.fAt.fX), .v (.int .i64 a0.fAt.fY), .v (.string a0.fName)]] [] (.c (.v (.bool r))) [] true := by
 refine Fun.of_wp (oneOf []) tok mixed Tryz.func108 (by kernel_rfl) rfl Tryz.ntmps108 rfl trivial (fun _ => ⟨trivial, trivial⟩) ?_
 unfold F_impl_validCell_2 at h
 have hf_impl_validLabel := @run_impl_validLabel
 generalize hLEN : @len = LEN at *
 generalize hGD : @gd = GD at *
 generalize hA : std = A at *
 generalize hP : Tryz.prog = P at *
 cbv
 replace h := of_bind h
 obtain ⟨y1, hy2, h⟩ := h
 refine ⟨{ args := [.agg [.v (.int .i64 a0.fLayer), .v (.int .i64 a0.fAt.fX), .v (.int .i64 a0.fAt.fY), .v (.string a0.fName)]], o0 := [], r := .c (.v (.bool y1)), o1 := [], fl := true, σ := [], τ := [] }, hf_impl_validLabel _ _ hy2, ⟨les_cons (lR _) (les_nil), trivial, rfl, rfl, rfl, rfl, trivial, rfl⟩, ?_⟩
 cbv
 injection h with h
 subst h
 refine ⟨(sparse 6 [(2, .c (.v (.bool (!(y1)))))] []), ?_, ?_⟩
 ·exact le_sparse rfl ⟨lR _, trivial⟩ trivial rfl
 ·exact ⟨lR _, trivial, rfl⟩

noncomputable def L_slices_IndexFunc_Limpl_Label_impl_Label_mbFimpl_validCell_2_x2 (a0 : List TLabel) : (Int) → Option ((Int) ⊕ ((Int) ⊕ (Unit))) := fun x2 =>
 letO x2 fun v1 =>
 br (std.lt v1 (std.ofN (len a0)))
 (req (std.inR v1 (len a0)) <|
 (F_impl_validCell_2 (gd a0 (std.toN v1))).bind fun y15 =>
 br y15
 (some (.inr (.inl v1)))
 (some (.inl (std.add .i64 v1 1))))
 (some (.inr (.inr ())))
/-- impl.Label] -/
noncomputable def F_slices_IndexFunc_Limpl_Label_impl_Label_mbFimpl_validCell_2 (a0 : List TLabel) : Option (Int) :=
 (whileP (σ := Int) (ρ := (Int) ⊕ (Unit)) (L_slices_IndexFunc_Limpl_Label_impl_Label_mbFimpl_validCell_2_x2 a0) 0).bind fun y3 =>
 (match y3 with
  | .inl y3k0 => (
    letO y3k0 fun w19 =>
    some w19)
  | .inr y3m0 =>
    some (-1))
theorem run_slices_IndexFunc_Limpl_Label_impl_Label_mbFimpl_validCell_2 (a0 : List TLabel) (r : Int) (h : F_slices_IndexFunc_Limpl_Label_impl_Label_mbFimpl_validCell_2 a0 = some r) : Fun Tryz.prog 121 [.c (.bs (len a0) 4 (row gd (encLabel) a0)), .c (.fn 108 0 fun _ => .junk)] [] (.c (.v (.int .i64 r))) [] true := by
 refine Fun.of_wp (oneOf []) tok mixed Tryz.func121 (by kernel_rfl) rfl Tryz.ntmps121 rfl trivial (fun _ => ⟨trivial, trivial⟩) ?_
 unfold F_slices_IndexFunc_Limpl_Label_impl_Label_mbFimpl_validCell_2 at h
 unfold L_slices_IndexFunc_Limpl_Label_impl_Label_mbFimpl_validCell_2_x2 at h
 have hf_impl_validCell_2 := @run_impl_validCell_2
 generalize hLEN : @len = LEN at *
 generalize hGD : @gd = GD at *
 generalize hA : std = A at *
 generalize hP : Tryz.prog = P at *
 cbv
 replace h := of_bind h
 obtain ⟨y3, hr4, hN5⟩ := h
 refine loop_cut hr4 (fun x => (sparse 19 [(0, .c (.bs (LEN a0) 4 (row GD (encLabel) a0))), (1, .c (.fn 108 0 fun _ => .junk)), (7, .c (.v (.int .i64 (A.ofN (LEN a0))))), (8, .c (.v (.int .i64 x)))] [])) ?_ (fun y e s => (match y with | .inl w => e = .ret ∧ s.le (sparse 19 [(4, .c (.v (.int .i64 w)))] []) | .inr w0 => (fun (w : Unit) => e = .exit 0 ∧ s.le (sparse 19 [] [])) w0)) ?_ ?_
 ·clear hr4 hN5
  show St.le _ _
  exact le_sparse rfl ⟨lR _, lR _, lR _, lR _, trivial⟩ trivial rfl
 ·clear hr4 hN5
  intro x z9 h K7 hK8 hY6
  replace h := of_let h
  obtain ⟨v1, hv1, h⟩ := h
  have hv1 : v1 = x := hv1
  subst hv1
  cbv
  refine fork (fun b18 => ?_) (fun b18 => ?_)
  ·replace h := of_br_t b18 h
   cbv
   replace h := of_req h
   obtain ⟨c14, h⟩ := h
   refine ⟨⟨c14, trivial⟩, ?_⟩
   replace h := of_bind h
   obtain ⟨y15, hy16, h⟩ := h
   refine ⟨{ args := [.agg [.v (.int .i64 (GD a0 (A.toN v1)).fLayer), .v (.int .i64 (GD a0 (A.toN v1)).fAt.fX), .v (.int .i64 (GD a0 (A.toN v1)).fAt.fY), .v (.string (GD a0 (A.toN v1)).fName)]], o0 := [], r := .c (.v (.bool y15)), o1 := [], fl := true, σ := [], τ := [] }, hf_impl_validCell_2 _ _ hy16, ⟨les_cons (lR _) (les_nil), trivial, rfl, rfl, rfl, rfl, trivial, rfl⟩, ?_⟩
   cbv
   refine fork (fun b17 => ?_) (fun b17 => ?_)
   ·replace h := of_br_t b17 h
    cbv
    injection h with h
    refine hY6 _ h.symm _ _ (And.intro rfl ?_) (by intro hh; cases hh)
    exact le_sparse rfl ⟨lR _, trivial⟩ trivial rfl
   ·replace h := of_br_f b17 h
    cbv
    injection h with h
    refine hK8 _ h.symm _ ?_
    exact le_sparse rfl ⟨lR _, lR _, lR _, lR _, trivial⟩ trivial rfl
  ·replace h := of_br_f b18 h
   cbv
   injection h with h
   refine hY6 _ h.symm _ _ (And.intro rfl ?_) (by intro hh; cases hh)
   exact le_sparse rfl trivial trivial rfl
 ·clear hr4
  have h := hN5
  clear hN5
  intro e12 s13 q11 hne
  rcases y3 with y3k0 | y3m0
  ·replace h := h
   obtain ⟨rfl, q11⟩ := q11
   replace h := of_let h
   obtain ⟨w19, hw19, h⟩ := h
   have hw19 : w19 = y3k0 := hw19
   subst hw19
   cbv
   injection h with h
   subst h
   refine ⟨(sparse 19 [(4, .c (.v (.int .i64 w19)))] []), ?_, ?_⟩
   ·refine St.le_trans q11 ?_
    exact le_sparse rfl ⟨lR _, trivial⟩ trivial rfl
   ·exact ⟨lR _, trivial, rfl⟩
  ·obtain ⟨rfl, q11⟩ := q11
   cbv
   refine ⟨_, q11, ?_⟩
   cbv
   injection h with h
   subst h
   refine ⟨(sparse 19 [(4, .c (.v (.int .i64 (-1))))] []), ?_, ?_⟩
   ·exact le_sparse rfl ⟨lR _, trivial⟩ trivial rfl
   ·exact ⟨lR _, trivial, rfl⟩

/-- impl.Label] -/
noncomputable def F_slices_ContainsFunc_Limpl_Label_impl_Label_mbFimpl_validCell_2 (a0 : List TLabel) : Option (Bool) :=
 (F_slices_IndexFunc_Limpl_Label_impl_Label_mbFimpl_validCell_2 a0).bind fun y1 =>
 some (std.le 0 y1)
theorem run_slices_ContainsFunc_Limpl_Label_impl_Label_mbFimpl_validCell_2 (a0 : List TLabel) (r : Bool) (h : F_slices_ContainsFunc_Limpl_Label_impl_Label_mbFimpl_validCell_2 a0 = some r) : Fun Tryz.prog 107 [.c (.bs (len a0) 4 (row gd (encLabel) a0)), .c (.fn 108 0 fun _ => .junk)] [] (.c (.v (.bool r))) [] true := by
 refine Fun.of_wp (oneOf []) tok mixed Tryz.func107 (by kernel_rfl) rfl Tryz.ntmps107 rfl trivial (fun _ => ⟨trivial, trivial⟩) ?_
 unfold F_slices_ContainsFunc_Limpl_Label_impl_Label_mbFimpl_validCell_2 at h
 have hf_slices_IndexFunc_Limpl_Label_impl_Label_mbFimpl_validCell_2 := @run_slices_IndexFunc_Limpl_Label_impl_Label_mbFimpl_validCell_2
 generalize hLEN : @len = LEN at *
 generalize hGD : @gd = GD at *
 generalize hA : std = A at *
 generalize hP : Tryz.prog = P at *
 cbv
 replace h := of_bind h
 obtain ⟨y1, hy2, h⟩ := h
 refine ⟨{ args := [.c (.bs (LEN a0) 4 (row GD (encLabel) a0)), .c (.fn 108 0 fun _ => .junk)], o0 := [], r := .c (.v (.int .i64 y1)), o1 := [], fl := true, σ := [], τ := [] }, hf_slices_IndexFunc_Limpl_Label_impl_Label_mbFimpl_validCell_2 _ _ hy2, ⟨les_cons (lR _) (les_cons (lR _) (les_nil)), trivial, rfl, rfl, rfl, rfl, trivial, rfl⟩, ?_⟩
 cbv
 injection h with h
 subst h
 refine ⟨(sparse 9 [(4, .c (.v (.bool (A.le 0 y1))))] []), ?_, ?_⟩
 ·exact le_sparse rfl ⟨lR _, trivial⟩ trivial rfl
 ·exact ⟨lR _, trivial, rfl⟩

/-- impl.IsValidTransform -/
noncomputable def F_impl_IsValidTransform (a0 : TTransform) : Option (Bool) :=
 ((
    (F_impl_within a0.fOrientation 0 7).bind fun y8 =>
    br y8
    ((F_impl_within a0.fX (-80) 80).bind fun y10 =>
    br y10
    ((F_impl_within a0.fY (-80) 80).bind fun y12 =>
    some y12)
    (some false))
    (some false)
  ) : Option (Bool)).bind fun y1 =>
 letO y1 fun w7 =>
 some w7
theorem run_impl_IsValidTransform (a0 : TTransform) (r : Bool) (h : F_impl_IsValidTransform a0 = some r) : Fun Tryz.prog 123 [.agg [.v (.int .i64 a0.fOrientation), .v (.int .i64 a0.fX), .v (.int .i64 a0.fY)]] [] (.c (.v (.bool r))) [] true := by
 refine Fun.of_wp (oneOf [1]) tok mixed Tryz.func123 (by kernel_rfl) rfl Tryz.ntmps123 rfl trivial (fun _ => ⟨trivial, trivial⟩) ?_
 unfold F_impl_IsValidTransform at h
 have hf_impl_within := @run_impl_within
 generalize hLEN : @len = LEN at *
 generalize hGD : @gd = GD at *
 generalize hA : std = A at *
 generalize hP : Tryz.prog = P at *
 cbv
 replace h := of_bind h
 obtain ⟨y1, hy2, h⟩ := h
 obtain ⟨S5, hS6⟩ : ∃ S, S = (sparse 16 [(2, .c (.v (.bool y1)))] []) := ⟨_, rfl⟩
 refine ⟨S5, ?_, ?_⟩
 ·clear h
  have h := hy2
  clear hy2
  cbv
  replace h := of_bind h
  obtain ⟨y8, hy9, h⟩ := h
  refine ⟨{ args := [.c (.v (.int .i64 a0.fOrientation)), .c (.v (.int .i64 0)), .c (.v (.int .i64 7))], o0 := [], r := .c (.v (.bool y8)), o1 := [], fl := true, σ := [], τ := [] }, hf_impl_within _ _ _ _ hy9, ⟨les_cons (lR _) (les_cons (lR _) (les_cons (lR _) (les_nil))), trivial, rfl, rfl, rfl, rfl, trivial, rfl⟩, ?_⟩
  cbv
  refine fork (fun b15 => ?_) (fun b15 => ?_)
  ·replace h := of_br_t b15 h
   cbv
   replace h := of_bind h
   obtain ⟨y10, hy11, h⟩ := h
   refine ⟨{ args := [.c (.v (.int .i64 a0.fX)), .c (.v (.int .i64 (-80))), .c (.v (.int .i64 80))], o0 := [], r := .c (.v (.bool y10)), o1 := [], fl := true, σ := [], τ := [] }, hf_impl_within _ _ _ _ hy11, ⟨les_cons (lR _) (les_cons (lR _) (les_cons (lR _) (les_nil))), trivial, rfl, rfl, rfl, rfl, trivial, rfl⟩, ?_⟩
   cbv
   refine fork (fun b14 => ?_) (fun b14 => ?_)
   ·replace h := of_br_t b14 h
    cbv
    replace h := of_bind h
    obtain ⟨y12, hy13, h⟩ := h
    refine ⟨{ args := [.c (.v (.int .i64 a0.fY)), .c (.v (.int .i64 (-80))), .c (.v (.int .i64 80))], o0 := [], r := .c (.v (.bool y12)), o1 := [], fl := true, σ := [], τ := [] }, hf_impl_within _ _ _ _ hy13, ⟨les_cons (lR _) (les_cons (lR _) (les_cons (lR _) (les_nil))), trivial, rfl, rfl, rfl, rfl, trivial, rfl⟩, ?_⟩
    cbv
    injection h with h
    subst h
    subst hS6
    show St.le _ _
    exact le_sparse rfl ⟨lR _, trivial⟩ trivial rfl
   ·replace h := of_br_f b14 h
    cbv
    injection h with h
    subst h
    subst hS6
    show St.le _ _
    exact le_sparse rfl ⟨lR _, trivial⟩ trivial rfl
  ·replace h := of_br_f b15 h
   cbv
   injection h with h
   subst h
   subst hS6
   show St.le _ _
   exact le_sparse rfl ⟨lR _, trivial⟩ trivial rfl
 ·clear hy2
  subst hS6
  replace h := of_let h
  obtain ⟨w7, hw7, h⟩ := h
  have hw7 : w7 = y1 := hw7
  subst hw7
  cbv
  injection h with h
  subst h
  refine ⟨(sparse 16 [(2, .c (.v (.bool w7)))] []), ?_, ?_⟩
  ·exact le_sparse rfl ⟨lR _, trivial⟩ trivial rfl
  ·exact ⟨lR _, trivial, rfl⟩
/-- impl.validInstance -/
noncomputable def F_impl_validInstance (a0 : TInstance) (a1 : Int) : Option (Bool) :=
 ((
    (F_impl_within a0.fCell 0 (std.sub .i64 a1 1)).bind fun y8 =>
    br y8
    ((F_impl_IsValidTransform a0.fPlace).bind fun y10 =>
    br y10
    ((F_impl_within a0.fColumns 1 4).bind fun y12 =>
    br y12
    ((F_impl_within a0.fRows 1 4).bind fun y14 =>
    br y14
    ((F_impl_within a0.fStepX (-80) 80).bind fun y16 =>
    br y16
    ((F_impl_within a0.fStepY (-80) 80).bind fun y18 =>
    br y18
    (br (std.eq a0.fStepX 0)
    (br (std.eq a0.fStepY 0)
    (some true)
    (some (std.lt 1 a0.fRows)))
    (br (std.lt 1 a0.fColumns)
    (br (std.eq a0.fStepY 0)
    (some true)
    (some (std.lt 1 a0.fRows)))
    (some false)))
    (some false))
    (some false))
    (some false))
    (some false))
    (some false))
    (some false)
  ) : Option (Bool)).bind fun y1 =>
 letO y1 fun w7 =>
 some w7
theorem run_impl_validInstance (a0 : TInstance) (a1 : Int) (r : Bool) (h : F_impl_validInstance a0 a1 = some r) : Fun Tryz.prog 112 [.agg [.v (.int .i64 a0.fCell), .v (.int .i64 a0.fPlace.fOrientation), .v (.int .i64 a0.fPlace.fX), .v (.int .i64 a0.fPlace.fY), .v (.int .i64 a0.fColumns), .v (.int .i64 a0.fRows), .v (.int .i64 a0.fStepX), .v (.int .i64 a0.fStepY)], .c (.v (.int .i64 a1))] [] (.c (.v (.bool r))) [] true := by
 refine Fun.of_wp (oneOf [1]) tok mixed Tryz.func112 (by kernel_rfl) rfl Tryz.ntmps112 rfl trivial (fun _ => ⟨trivial, trivial⟩) ?_
 unfold F_impl_validInstance at h
 have hf_impl_IsValidTransform := @run_impl_IsValidTransform
 have hf_impl_within := @run_impl_within
 generalize hLEN : @len = LEN at *
 generalize hGD : @gd = GD at *
 generalize hA : std = A at *
 generalize hP : Tryz.prog = P at *
 cbv
 replace h := of_bind h
 obtain ⟨y1, hy2, h⟩ := h
 obtain ⟨S5, hS6⟩ : ∃ S, S = (sparse 55 [(4, .c (.v (.bool y1)))] []) := ⟨_, rfl⟩
 refine ⟨S5, ?_, ?_⟩
 ·clear h
  have h := hy2
  clear hy2
  cbv
  replace h := of_bind h
  obtain ⟨y8, hy9, h⟩ := h
  refine ⟨{ args := [.c (.v (.int .i64 a0.fCell)), .c (.v (.int .i64 0)), .c (.v (.int .i64 (A.sub .i64 a1 1)))], o0 := [], r := .c (.v (.bool y8)), o1 := [], fl := true, σ := [], τ := [] }, hf_impl_within _ _ _ _ hy9, ⟨les_cons (lR _) (les_cons (lR _) (les_cons (lR _) (les_nil))), trivial, rfl, rfl, rfl, rfl, trivial, rfl⟩, ?_⟩
  cbv
  refine fork (fun b29 => ?_) (fun b29 => ?_)
  ·replace h := of_br_t b29 h
   cbv
   replace h := of_bind h
   obtain ⟨y10, hy11, h⟩ := h
   refine ⟨{ args := [.agg [.v (.int .i64 a0.fPlace.fOrientation), .v (.int .i64 a0.fPlace.fX), .v (.int .i64 a0.fPlace.fY)]], o0 := [], r := .c (.v (.bool y10)), o1 := [], fl := true, σ := [], τ := [] }, hf_impl_IsValidTransform _ _ hy11, ⟨les_cons (lR _) (les_nil), trivial, rfl, rfl, rfl, rfl, trivial, rfl⟩, ?_⟩
   cbv
   refine fork (fun b28 => ?_) (fun b28 => ?_)
   ·replace h := of_br_t b28 h
    cbv
    replace h := of_bind h
    obtain ⟨y12, hy13, h⟩ := h
    refine ⟨{ args := [.c (.v (.int .i64 a0.fColumns)), .c (.v (.int .i64 1)), .c (.v (.int .i64 4))], o0 := [], r := .c (.v (.bool y12)), o1 := [], fl := true, σ := [], τ := [] }, hf_impl_within _ _ _ _ hy13, ⟨les_cons (lR _) (les_cons (lR _) (les_cons (lR _) (les_nil))), trivial, rfl, rfl, rfl, rfl, trivial, rfl⟩, ?_⟩
    cbv
    refine fork (fun b27 => ?_) (fun b27 => ?_)
    ·replace h := of_br_t b27 h
     cbv
     replace h := of_bind h
     obtain ⟨y14, hy15, h⟩ := h
     refine ⟨{ args := [.c (.v (.int .i64 a0.fRows)), .c (.v (.int .i64 1)), .c (.v (.int .i64 4))], o0 := [], r := .c (.v (.bool y14)), o1 := [], fl := true, σ := [], τ := [] }, hf_impl_within _ _ _ _ hy15, ⟨les_cons (lR _) (les_cons (lR _) (les_cons (lR _) (les_nil))), trivial, rfl, rfl, rfl, rfl, trivial, rfl⟩, ?_⟩
     cbv
     refine fork (fun b26 => ?_) (fun b26 => ?_)
     ·replace h := of_br_t b26 h
      cbv
      replace h := of_bind h
      obtain ⟨y16, hy17, h⟩ := h
      refine ⟨{ args := [.c (.v (.int .i64 a0.fStepX)), .c (.v (.int .i64 (-80))), .c (.v (.int .i64 80))], o0 := [], r := .c (.v (.bool y16)), o1 := [], fl := true, σ := [], τ := [] }, hf_impl_within _ _ _ _ hy17, ⟨les_cons (lR _) (les_cons (lR _) (les_cons (lR _) (les_nil))), trivial, rfl, rfl, rfl, rfl, trivial, rfl⟩, ?_⟩
      cbv
      refine fork (fun b25 => ?_) (fun b25 => ?_)
      ·replace h := of_br_t b25 h
       cbv
       replace h := of_bind h
       obtain ⟨y18, hy19, h⟩ := h
       refine ⟨{ args := [.c (.v (.int .i64 a0.fStepY)), .c (.v (.int .i64 (-80))), .c (.v (.int .i64 80))], o0 := [], r := .c (.v (.bool y18)), o1 := [], fl := true, σ := [], τ := [] }, hf_impl_within _ _ _ _ hy19, ⟨les_cons (lR _) (les_cons (lR _) (les_cons (lR _) (les_nil))), trivial, rfl, rfl, rfl, rfl, trivial, rfl⟩, ?_⟩
       cbv
       refine fork (fun b24 => ?_) (fun b24 => ?_)
       ·replace h := of_br_t b24 h
        cbv
        refine fork (fun b23 => ?_) (fun b23 => ?_)
        ·replace h := of_br_t b23 h
         cbv
         refine fork (fun b22 => ?_) (fun b22 => ?_)
         ·replace h := of_br_t b22 h
          cbv
          injection h with h
          subst h
          subst hS6
          show St.le _ _
          exact le_sparse rfl ⟨lR _, trivial⟩ trivial rfl
         ·replace h := of_br_f b22 h
          cbv
          injection h with h
          subst h
          subst hS6
          show St.le _ _
          exact le_sparse rfl ⟨lR _, trivial⟩ trivial rfl
        ·replace h := of_br_f b23 h
         cbv
         refine fork (fun b21 => ?_) (fun b21 => ?_)
         ·replace h := of_br_t b21 h
          cbv
          refine fork (fun b20 => ?_) (fun b20 => ?_)
          ·replace h := of_br_t b20 h
           cbv
           injection h with h
           subst h
           subst hS6
           show St.le _ _
           exact le_sparse rfl ⟨lR _, trivial⟩ trivial rfl
          ·replace h := of_br_f b20 h
           cbv
           injection h with h
           subst h
           subst hS6
           show St.le _ _
           exact le_sparse rfl ⟨lR _, trivial⟩ trivial rfl
         ·replace h := of_br_f b21 h
          cbv
          injection h with h
          subst h
          subst hS6
          show St.le _ _
          exact le_sparse rfl ⟨lR _, trivial⟩ trivial rfl
       ·replace h := of_br_f b24 h
        cbv
        injection h with h
        subst h
        subst hS6
        show St.le _ _
        exact le_sparse rfl ⟨lR _, trivial⟩ trivial rfl
      ·replace h := of_br_f b25 h
       cbv
       injection h with h
       subst h
       subst hS6
       show St.le _ _
       exact le_sparse rfl ⟨lR _, trivial⟩ trivial rfl
     ·replace h := of_br_f b26 h
      cbv
      injection h with h
      subst h
      subst hS6
      show St.le _ _
      exact le_sparse rfl ⟨lR _, trivial⟩ trivial rfl
    ·replace h := of_br_f b27 h
     cbv
     injection h with h
     subst h
     subst hS6
     show St.le _ _
     exact le_sparse rfl ⟨lR _, trivial⟩ trivial rfl
   ·replace h := of_br_f b28 h
    cbv
    injection h with h
    subst h
    subst hS6
    show St.le _ _
    exact le_sparse rfl ⟨lR _, trivial⟩ trivial rfl
  ·replace h := of_br_f b29 h
   cbv
   injection h with h
   subst h
   subst hS6
   show St.le _ _
   exact le_sparse rfl ⟨lR _, trivial⟩ trivial rfl
 ·clear hy2
  subst hS6
  replace h := of_let h
  obtain ⟨w7, hw7, h⟩ := h
  have hw7 : w7 = y1 := hw7
  subst hw7
  cbv
  injection h with h
  subst h
  refine ⟨(sparse 55 [(4, .c (.v (.bool w7)))] []), ?_, ?_⟩
  ·exact le_sparse rfl ⟨lR _, trivial⟩ trivial rfl
  ·exact ⟨lR _, trivial, rfl⟩

/-- impl.validCell$3 -/
noncomputable def F_impl_validCell_3_mbp (a0 : TInstance) (a1 : Int) : Option (Bool) :=
 (F_impl_validInstance (TInstance.mk a0.fCell a0.fPlace a0.fColumns a0.fRows a0.fStepX a0.fStepY) a1).bind fun y1 =>
 some (!(y1))
theorem run_impl_validCell_3_mbp (a0 : TInstance) (a1 : Int) (r : Bool) (h : F_impl_validCell_3_mbp a0 a1 = some r) : Fun Tryz.prog 111 [.agg [.v (.int .i64 a0.fCell), .v (.int .i64 a0.fPlace.fOrientation), .v (.int .i64 a0.fPlace.fX), .v (.int .i64 a0.fPlace.fY), .v (.int .i64 a0.fColumns), .v (.int .i64 a0.fRows), .v (.int .i64 a0.fStepX), .v (.int .i64 a0.fStepY)], .c (.bp 1 (encI .i64 a1))] [] (.c (.v (.bool r))) [] true := by
 refine Fun.of_wp (oneOf []) tok mixed Tryz.func111 (by kernel_rfl) rfl Tryz.ntmps111 rfl trivial (fun _ => ⟨trivial, trivial⟩) ?_
 unfold F_impl_validCell_3_mbp at h
 have hf_impl_validInstance := @run_impl_validInstance
 generalize hLEN : @len = LEN at *
 generalize hGD : @gd = GD at *
 generalize hA : std = A at *
 generalize hP : Tryz.prog = P at *
 cbv
 replace h := of_bind h
 obtain ⟨y1, hy2, h⟩ := h
 refine ⟨{ args := [.agg [.v (.int .i64 a0.fCell), .v (.int .i64 a0.fPlace.fOrientation), .v (.int .i64 a0.fPlace.fX), .v (.int .i64 a0.fPlace.fY), .v (.int .i64 a0.fColumns), .v (.int .i64 a0.fRows), .v (.int .i64 a0.fStepX), .v (.int .i64 a0.fStepY)], .c (.v (.int .i64 a1))], o0 := [], r := .c (.v (.bool y1)), o1 := [], fl := true, σ := [], τ := [] }, hf_impl_validInstance _ _ _ hy2, ⟨les_cons (lR _) (les_cons (lR _) (les_nil)), trivial, rfl, rfl, rfl, rfl, trivial, rfl⟩, ?_⟩
 cbv
 injection h with h
 subst h
 refine ⟨(sparse 8 [(3, .c (.v (.bool (!(y1)))))] []), ?_, ?_⟩
 ·exact le_sparse rfl ⟨lR _, trivial⟩ trivial rfl
 ·exact ⟨lR _, trivial, rfl⟩

noncomputable def L_slices_IndexFunc_Limpl_Instance_impl_Instance_mbFimpl_validCell_3p_x2 (a0 : List TInstance) (a1_0 : Int) : (Int) → Option ((Int) ⊕ ((Int) ⊕ (Unit))) := fun x2 =>
 letO x2 fun v1 =>
 br (std.lt v1 (std.ofN (len a0)))
 (req (std.inR v1 (len a0)) <|
 (F_impl_validCell_3_mbp (gd a0 (std.toN v1)) a1_0).bind fun y15 =>
 br y15
 (some (.inr (.inl v1)))
 (some (.inl (std.add .i64 v1 1))))
 (some (.inr (.inr ())))
/-- impl.Instance] -/
noncomputable def F_slices_IndexFunc_Limpl_Instance_impl_Instance_mbFimpl_validCell_3p (a0 : List TInstance) (a1_0 : Int) : Option (Int) :=
 (whileP (σ := Int) (ρ := (Int) ⊕ (Unit)) (L_slices_IndexFunc_Limpl_Instance_impl_Instance_mbFimpl_validCell_3p_x2 a0 a1_0) 0).bind fun y3 =>
 (match y3 with
  | .inl y3k0 => (
    letO y3k0 fun w19 =>
    some w19)
  | .inr y3m0 =>
    some (-1))
theorem run_slices_IndexFunc_Limpl_Instance_impl_Instance_mbFimpl_validCell_3p (a0 : List TInstance) (a1_0 : Int) (r : Int) (h : F_slices_IndexFunc_Limpl_Instance_impl_Instance_mbFimpl_validCell_3p a0 a1_0 = some r) : Fun Tryz.prog 122 [.c (.bs (len a0) 8 (row gd (encInstance) a0)), .c (.fn 111 1 fun j => ([.bp 1 (encI .i64 a1_0)] : List AC).getD j .junk)] [] (.c (.v (.int .i64 r))) [] true := by
 refine Fun.of_wp (oneOf []) tok mixed Tryz.func122 (by kernel_rfl) rfl Tryz.ntmps122 rfl trivial (fun _ => ⟨trivial, trivial⟩) ?_
 unfold F_slices_IndexFunc_Limpl_Instance_impl_Instance_mbFimpl_validCell_3p at h
 unfold L_slices_IndexFunc_Limpl_Instance_impl_Instance_mbFimpl_validCell_3p_x2 at h
 have hf_impl_validCell_3_mbp := @run_impl_validCell_3_mbp
 generalize hLEN : @len = LEN at *
 generalize hGD : @gd = GD at *
 generalize hA : std = A at *
 generalize hP : Tryz.prog = P at *
 cbv
 replace h := of_bind h
 obtain ⟨y3, hr4, hN5⟩ := h
 refine loop_cut hr4 (fun x => (sparse 19 [(0, .c (.bs (LEN a0) 8 (row GD (encInstance) a0))), (1, .c (.fn 111 1 fun j => ([.bp 1 (encI .i64 a1_0)] : List AC).getD j .junk)), (7, .c (.v (.int .i64 (A.ofN (LEN a0))))), (8, .c (.v (.int .i64 x)))] [])) ?_ (fun y e s => (match y with | .inl w => e = .ret ∧ s.le (sparse 19 [(4, .c (.v (.int .i64 w)))] []) | .inr w0 => (fun (w : Unit) => e = .exit 0 ∧ s.le (sparse 19 [] [])) w0)) ?_ ?_
 ·clear hr4 hN5
  show St.le _ _
  exact le_sparse rfl ⟨lR _, lR _, lR _, lR _, trivial⟩ trivial rfl
 ·clear hr4 hN5
  intro x z9 h K7 hK8 hY6
  replace h := of_let h
  obtain ⟨v1, hv1, h⟩ := h
  have hv1 : v1 = x := hv1
  subst hv1
  cbv
  refine fork (fun b18 => ?_) (fun b18 => ?_)
  ·replace h := of_br_t b18 h
   cbv
   replace h := of_req h
   obtain ⟨c14, h⟩ := h
   refine ⟨⟨c14, trivial⟩, ?_⟩
   replace h := of_bind h
   obtain ⟨y15, hy16, h⟩ := h
   refine ⟨{ args := [.agg [.v (.int .i64 (GD a0 (A.toN v1)).fCell), .v (.int .i64 (GD a0 (A.toN v1)).fPlace.fOrientation), .v (.int .i64 (GD a0 (A.toN v1)).fPlace.fX), .v (.int .i64 (GD a0 (A.toN v1)).fPlace.fY), .v (.int .i64 (GD a0 (A.toN v1)).fColumns), .v (.int .i64 (GD a0 (A.toN v1)).fRows), .v (.int .i64 (GD a0 (A.toN v1)).fStepX), .v (.int .i64 (GD a0 (A.toN v1)).fStepY)], .c (.bp 1 (encI .i64 a1_0))], o0 := [], r := .c (.v (.bool y15)), o1 := [], fl := true, σ := [], τ := [] }, hf_impl_validCell_3_mbp _ _ _ hy16, ⟨les_cons (lR _) (les_cons (le_bp (show 1 ≤ 1 from by decide) (by intro j hj; match j, hj with | 0, _ => exact rle_refl _ | (j_ + 1), h_ => exact absurd h_ (by omega))) (les_nil)), trivial, rfl, rfl, rfl, rfl, trivial, rfl⟩, ?_⟩
   cbv
   refine fork (fun b17 => ?_) (fun b17 => ?_)
   ·replace h := of_br_t b17 h
    cbv
    injection h with h
    refine hY6 _ h.symm _ _ (And.intro rfl ?_) (by intro hh; cases hh)
    exact le_sparse rfl ⟨lR _, trivial⟩ trivial rfl
   ·replace h := of_br_f b17 h
    cbv
    injection h with h
    refine hK8 _ h.symm _ ?_
    exact le_sparse rfl ⟨lR _, lR _, lR _, lR _, trivial⟩ trivial rfl
  ·replace h := of_br_f b18 h
   cbv
   injection h with h
   refine hY6 _ h.symm _ _ (And.intro rfl ?_) (by intro hh; cases hh)
   exact le_sparse rfl trivial trivial rfl
 ·clear hr4
  have h := hN5
  clear hN5
  intro e12 s13 q11 hne
  rcases y3 with y3k0 | y3m0
  ·replace h := h
   obtain ⟨rfl, q11⟩ := q11
   replace h := of_let h
   obtain ⟨w19, hw19, h⟩ := h
   have hw19 : w19 = y3k0 := hw19
   subst hw19
   cbv
   injection h with h
   subst h
   refine ⟨(sparse 19 [(4, .c (.v (.int .i64 w19)))] []), ?_, ?_⟩
   ·refine St.le_trans q11 ?_
    exact le_sparse rfl ⟨lR _, trivial⟩ trivial rfl
   ·exact ⟨lR _, trivial, rfl⟩
  ·obtain ⟨rfl, q11⟩ := q11
   cbv
   refine ⟨_, q11, ?_⟩
   cbv
   injection h with h
   subst h
   refine ⟨(sparse 19 [(4, .c (.v (.int .i64 (-1))))] []), ?_, ?_⟩
   ·exact le_sparse rfl ⟨lR _, trivial⟩ trivial rfl
   ·exact ⟨lR _, trivial, rfl⟩

/-- impl.Instance] -/
noncomputable def F_slices_ContainsFunc_Limpl_Instance_impl_Instance_mbFimpl_validCell_3p (a0 : List TInstance) (a1_0 : Int) : Option (Bool) :=
 (F_slices_IndexFunc_Limpl_Instance_impl_Instance_mbFimpl_validCell_3p a0 a1_0).bind fun y1 =>
 some (std.le 0 y1)
theorem run_slices_ContainsFunc_Limpl_Instance_impl_Instance_mbFimpl_validCell_3p (a0 : List TInstance) (a1_0 : Int) (r : Bool) (h : F_slices_ContainsFunc_Limpl_Instance_impl_Instance_mbFimpl_validCell_3p a0 a1_0 = some r) : Fun Tryz.prog 110 [.c (.bs (len a0) 8 (row gd (encInstance) a0)), .c (.fn 111 1 fun j => ([.bp 1 (encI .i64 a1_0)] : List AC).getD j .junk)] [] (.c (.v (.bool r))) [] true := by
 refine Fun.of_wp (oneOf []) tok mixed Tryz.func110 (by kernel_rfl) rfl Tryz.ntmps110 rfl trivial (fun _ => ⟨trivial, trivial⟩) ?_
 unfold F_slices_ContainsFunc_Limpl_Instance_impl_Instance_mbFimpl_validCell_3p at h
 have hf_slices_IndexFunc_Limpl_Instance_impl_Instance_mbFimpl_validCell_3p := @run_slices_IndexFunc_Limpl_Instance_impl_Instance_mbFimpl_validCell_3p
 generalize hLEN : @len = LEN at *
 generalize hGD : @gd = GD at *
 generalize hA : std = A at *
 generalize hP : Tryz.prog = P at *
 cbv
 replace h := of_bind h
 obtain ⟨y1, hy2, h⟩ := h
 refine ⟨{ args := [.c (.bs (LEN a0) 8 (row GD (encInstance) a0)), .c (.fn 111 1 fun j => ([.bp 1 (encI .i64 a1_0)] : List AC).getD j .junk)], o0 := [], r := .c (.v (.int .i64 y1)), o1 := [], fl := true, σ := [], τ := [] }, hf_slices_IndexFunc_Limpl_Instance_impl_Instance_mbFimpl_validCell_3p _ _ _ hy2, ⟨les_cons (lR _) (les_cons (le_fn (by intro j hj; match j, hj with | 0, _ => exact le_bp (show 1 ≤ 1 from by decide) (by intro j hj; match j, hj with | 0, _ => exact rle_refl _ | (j_ + 1), h_ => exact absurd h_ (by omega)) | (j_ + 1), h_ => exact absurd h_ (by omega))) (les_nil)), trivial, rfl, rfl, rfl, rfl, trivial, rfl⟩, ?_⟩
 cbv
 injection h with h
 subst h
 refine ⟨(sparse 9 [(4, .c (.v (.bool (A.le 0 y1))))] []), ?_, ?_⟩
 ·exact le_sparse rfl ⟨lR _, trivial⟩ trivial rfl
 ·exact ⟨lR _, trivial, rfl⟩

/-- impl.validCell -/
noncomputable def F_impl_validCell (a0 : TCell) (a1 : Int) : Option (Bool) :=
 ((
    (F_impl_IsName a0.fName).bind fun y8 =>
    br (!(y8))
    (some true)
    (br (std.lt 24 (std.ofN (len a0.fShapes)))
    (some true)
    (br (std.lt 8 (std.ofN (len a0.fLabels)))
    (some true)
    (some (std.lt 8 (std.ofN (len a0.fInstances))))))
  ) : Option (Bool)).bind fun y1 =>
 letO y1 fun w7 =>
 br w7
 (some false)
 (((
    (F_slices_ContainsFunc_Limpl_Shape_impl_Shape_mbFimpl_validCell_1 a0.fShapes).bind fun y20 =>
    br (!(y20))
    ((F_slices_ContainsFunc_Limpl_Label_impl_Label_mbFimpl_validCell_2 a0.fLabels).bind fun y22 =>
    br (!(y22))
    ((F_slices_ContainsFunc_Limpl_Instance_impl_Instance_mbFimpl_validCell_3p a0.fInstances a1).bind fun y24 =>
    some (!(y24)))
    (some false))
    (some false)
  ) : Option (Bool)).bind fun y13 =>
 letO y13 fun w19 =>
 some w19)
theorem run_impl_validCell (a0 : TCell) (a1 : Int) (r : Bool) (h : F_impl_validCell a0 a1 = some r) : Fun Tryz.prog 87 [.agg [.v (.string a0.fName), .bs (len a0.fShapes) 5 (row gd (encShape) a0.fShapes), .bs (len a0.fLabels) 4 (row gd (encLabel) a0.fLabels), .bs (len a0.fInstances) 8 (row gd (encInstance) a0.fInstances)], .c (.v (.int .i64 a1))] [] (.c (.v (.bool r))) [] true := by
 refine Fun.of_wp (oneOf [1, 3]) tok mixed Tryz.func87 (by kernel_rfl) rfl Tryz.ntmps87 rfl trivial (fun _ => ⟨trivial, trivial⟩) ?_
 unfold F_impl_validCell at h
 have hf_impl_IsName := @run_impl_IsName
 have hf_slices_ContainsFunc_Limpl_Instance_impl_Instance_mbFimpl_validCell_3p := @run_slices_ContainsFunc_Limpl_Instance_impl_Instance_mbFimpl_validCell_3p
 have hf_slices_ContainsFunc_Limpl_Label_impl_Label_mbFimpl_validCell_2 := @run_slices_ContainsFunc_Limpl_Label_impl_Label_mbFimpl_validCell_2
 have hf_slices_ContainsFunc_Limpl_Shape_impl_Shape_mbFimpl_validCell_1 := @run_slices_ContainsFunc_Limpl_Shape_impl_Shape_mbFimpl_validCell_1
 generalize hLEN : @len = LEN at *
 generalize hGD : @gd = GD at *
 generalize hA : std = A at *
 generalize hP : Tryz.prog = P at *
 cbv
 replace h := of_bind h
 obtain ⟨y1, hy2, h⟩ := h
 obtain ⟨S5, hS6⟩ : ∃ S, S = (sparse 44 [(2, .c (.ptr 128 0)), (3, .c (.ptr 192 0)), (26, .c (.v (.bool y1)))] [(128, .var [.v (.string a0.fName), .bs (LEN a0.fShapes) 5 (row GD (encShape) a0.fShapes), .bs (LEN a0.fLabels) 4 (row GD (encLabel) a0.fLabels), .bs (LEN a0.fInstances) 8 (row GD (encInstance) a0.fInstances)]), (192, .var [.v (.int .i64 a1)])]) := ⟨_, rfl⟩
 refine ⟨S5, ?_, ?_⟩
 ·clear h
  have h := hy2
  clear hy2
  cbv
  replace h := of_bind h
  obtain ⟨y8, hy9, h⟩ := h
  refine ⟨{ args := [.c (.v (.string a0.fName))], o0 := [], r := .c (.v (.bool y8)), o1 := [], fl := true, σ := [], τ := [] }, hf_impl_IsName _ _ hy9, ⟨les_cons (lR _) (les_nil), trivial, rfl, rfl, rfl, rfl, trivial, rfl⟩, ?_⟩
  cbv
  refine fork (fun b12 => ?_) (fun b12 => ?_)
  ·replace h := of_br_t b12 h
   cbv
   injection h with h
   subst h
   subst hS6
   show St.le _ _
   exact le_sparse rfl ⟨lR _, lR _, lR _, trivial⟩ ⟨rfl, rfl, trivial⟩ rfl
  ·replace h := of_br_f b12 h
   cbv
   refine fork (fun b11 => ?_) (fun b11 => ?_)
   ·replace h := of_br_t b11 h
    cbv
    injection h with h
    subst h
    subst hS6
    show St.le _ _
    exact le_sparse rfl ⟨lR _, lR _, lR _, trivial⟩ ⟨rfl, rfl, trivial⟩ rfl
   ·replace h := of_br_f b11 h
    cbv
    refine fork (fun b10 => ?_) (fun b10 => ?_)
    ·replace h := of_br_t b10 h
     cbv
     injection h with h
     subst h
     subst hS6
     show St.le _ _
     exact le_sparse rfl ⟨lR _, lR _, lR _, trivial⟩ ⟨rfl, rfl, trivial⟩ rfl
    ·replace h := of_br_f b10 h
     cbv
     injection h with h
     subst h
     subst hS6
     show St.le _ _
     exact le_sparse rfl ⟨lR _, lR _, lR _, trivial⟩ ⟨rfl, rfl, trivial⟩ rfl
 ·clear hy2
  subst hS6
  replace h := of_let h
  obtain ⟨w7, hw7, h⟩ := h
  have hw7 : w7 = y1 := hw7
  subst hw7
  cbv
  refine fork (fun b28 => ?_) (fun b28 => ?_)
  ·replace h := of_br_t b28 h
   cbv
   injection h with h
   subst h
   refine ⟨(sparse 44 [(4, .c (.v (.bool false)))] []), ?_, ?_⟩
   ·exact le_sparse rfl ⟨lR _, trivial⟩ trivial rfl
   ·exact ⟨lR _, trivial, rfl⟩
  ·replace h := of_br_f b28 h
   cbv
   replace h := of_bind h
   obtain ⟨y13, hy14, h⟩ := h
   obtain ⟨S17, hS18⟩ : ∃ S, S = (sparse 44 [(4, .c (.v (.bool y13)))] []) := ⟨_, rfl⟩
   refine ⟨S17, ?_, ?_⟩
   ·clear h
    have h := hy14
    clear hy14
    cbv
    replace h := of_bind h
    obtain ⟨y20, hy21, h⟩ := h
    refine ⟨{ args := [.c (.bs (LEN a0.fShapes) 5 (row GD (encShape) a0.fShapes)), .c (.fn 105 0 fun _ => .junk)], o0 := [], r := .c (.v (.bool y20)), o1 := [], fl := true, σ := [], τ := [] }, hf_slices_ContainsFunc_Limpl_Shape_impl_Shape_mbFimpl_validCell_1 _ _ hy21, ⟨les_cons (lR _) (les_cons (lR _) (les_nil)), trivial, rfl, rfl, rfl, rfl, trivial, rfl⟩, ?_⟩
    cbv
    refine fork (fun b27 => ?_) (fun b27 => ?_)
    ·replace h := of_br_t b27 h
     cbv
     replace h := of_bind h
     obtain ⟨y22, hy23, h⟩ := h
     refine ⟨{ args := [.c (.bs (LEN a0.fLabels) 4 (row GD (encLabel) a0.fLabels)), .c (.fn 108 0 fun _ => .junk)], o0 := [], r := .c (.v (.bool y22)), o1 := [], fl := true, σ := [], τ := [] }, hf_slices_ContainsFunc_Limpl_Label_impl_Label_mbFimpl_validCell_2 _ _ hy23, ⟨les_cons (lR _) (les_cons (lR _) (les_nil)), trivial, rfl, rfl, rfl, rfl, trivial, rfl⟩, ?_⟩
     cbv
     refine fork (fun b26 => ?_) (fun b26 => ?_)
     ·replace h := of_br_t b26 h
      cbv
      replace h := of_bind h
      obtain ⟨y24, hy25, h⟩ := h
      refine ⟨{ args := [.c (.bs (LEN a0.fInstances) 8 (row GD (encInstance) a0.fInstances)), .c (.fn 111 1 fun j => ([.bp 1 (encI .i64 a1)] : List AC).getD j .junk)], o0 := [], r := .c (.v (.bool y24)), o1 := [], fl := true, σ := [], τ := [] }, hf_slices_ContainsFunc_Limpl_Instance_impl_Instance_mbFimpl_validCell_3p _ _ _ hy25, ⟨les_cons (lR _) (les_cons (le_fn (by intro j hj; match j, hj with | 0, _ => exact le_bp (show 1 ≤ 1 from by decide) (by intro j hj; match j, hj with | 0, _ => exact rle_refl _ | (j_ + 1), h_ => exact absurd h_ (by omega)) | (j_ + 1), h_ => exact absurd h_ (by omega))) (les_nil)), trivial, rfl, rfl, rfl, rfl, trivial, rfl⟩, ?_⟩
      cbv
      injection h with h
      subst h
      subst hS18
      show St.le _ _
      exact le_sparse rfl ⟨lR _, trivial⟩ trivial rfl
     ·replace h := of_br_f b26 h
      cbv
      injection h with h
      subst h
      subst hS18
      show St.le _ _
      exact le_sparse rfl ⟨lR _, trivial⟩ trivial rfl
    ·replace h := of_br_f b27 h
     cbv
     injection h with h
     subst h
     subst hS18
     show St.le _ _
     exact le_sparse rfl ⟨lR _, trivial⟩ trivial rfl
   ·clear hy14
    subst hS18
    replace h := of_let h
    obtain ⟨w19, hw19, h⟩ := h
    have hw19 : w19 = y13 := hw19
    subst hw19
    cbv
    injection h with h
    subst h
    refine ⟨(sparse 44 [(4, .c (.v (.bool w19)))] []), ?_, ?_⟩
    ·exact le_sparse rfl ⟨lR _, trivial⟩ trivial rfl
    ·exact ⟨lR _, trivial, rfl⟩

/-- impl.named$1 -/
noncomputable def F_impl_named_1_mbp (a0 : TCell) (a1 : ByteArray) : Option (Bool) :=
 some (std.seq a0.fName a1)
theorem run_impl_named_1_mbp (a0 : TCell) (a1 : ByteArray) (r : Bool) (h : F_impl_named_1_mbp a0 a1 = some r) : Fun Tryz.prog 114 [.agg [.v (.string a0.fName), .bs (len a0.fShapes) 5 (row gd (encShape) a0.fShapes), .bs (len a0.fLabels) 4 (row gd (encLabel) a0.fLabels), .bs (len a0.fInstances) 8 (row gd (encInstance) a0.fInstances)], .c (.bp 1 (encS a1))] [] (.c (.v (.bool r))) [] true := by
 refine Fun.of_wp (oneOf []) tok mixed Tryz.func114 (by kernel_rfl) rfl Tryz.ntmps114 rfl trivial (fun _ => ⟨trivial, trivial⟩) ?_
 unfold F_impl_named_1_mbp at h
 generalize hLEN : @len = LEN at *
 generalize hGD : @gd = GD at *
 generalize hA : std = A at *
 generalize hP : Tryz.prog = P at *
 cbv
 injection h with h
 subst h
 refine ⟨(sparse 8 [(3, .c (.v (.bool (A.seq a0.fName a1))))] []), ?_, ?_⟩
 ·exact le_sparse rfl ⟨lR _, trivial⟩ trivial rfl
 ·exact ⟨lR _, trivial, rfl⟩
noncomputable def L_slices_IndexFunc_Limpl_Cell_impl_Cell_mbFimpl_named_1p_x2 (a0 : List TCell) (a1_0 : ByteArray) : (Int) → Option ((Int) ⊕ ((Int) ⊕ (Unit))) := fun x2 =>
 letO x2 fun v1 =>
 br (std.lt v1 (std.ofN (len a0)))
 (req (std.inR v1 (len a0)) <|
 (F_impl_named_1_mbp (gd a0 (std.toN v1)) a1_0).bind fun y15 =>
 br y15
 (some (.inr (.inl v1)))
 (some (.inl (std.add .i64 v1 1))))
 (some (.inr (.inr ())))
/-- impl.Cell] -/
noncomputable def F_slices_IndexFunc_Limpl_Cell_impl_Cell_mbFimpl_named_1p (a0 : List TCell) (a1_0 : ByteArray) : Option (Int) :=
 (whileP (σ := Int) (ρ := (Int) ⊕ (Unit)) (L_slices_IndexFunc_Limpl_Cell_impl_Cell_mbFimpl_named_1p_x2 a0 a1_0) 0).bind fun y3 =>
 (match y3 with
  | .inl y3k0 => (
    letO y3k0 fun w19 =>
    some w19)
  | .inr y3m0 =>
    some (-1))
theorem run_slices_IndexFunc_Limpl_Cell_impl_Cell_mbFimpl_named_1p (a0 : List TCell) (a1_0 : ByteArray) (r : Int) (h : F_slices_IndexFunc_Limpl_Cell_impl_Cell_mbFimpl_named_1p a0 a1_0 = some r) : Fun Tryz.prog 113 [.c (.bs (len a0) 4 (row gd (encCell len gd) a0)), .c (.fn 114 1 fun j => ([.bp 1 (encS a1_0)] : List AC).getD j .junk)] [] (.c (.v (.int .i64 r))) [] true := by
 refine Fun.of_wp (oneOf []) tok mixed Tryz.func113 (by kernel_rfl) rfl Tryz.ntmps113 rfl trivial (fun _ => ⟨trivial, trivial⟩) ?_
 unfold F_slices_IndexFunc_Limpl_Cell_impl_Cell_mbFimpl_named_1p at h
 unfold L_slices_IndexFunc_Limpl_Cell_impl_Cell_mbFimpl_named_1p_x2 at h
 have hf_impl_named_1_mbp := @run_impl_named_1_mbp
 generalize hLEN : @len = LEN at *
 generalize hGD : @gd = GD at *
 generalize hA : std = A at *
 generalize hP : Tryz.prog = P at *
 cbv
 replace h := of_bind h
 obtain ⟨y3, hr4, hN5⟩ := h
 refine loop_cut hr4 (fun x => (sparse 19 [(0, .c (.bs (LEN a0) 4 (row GD (encCell LEN GD) a0))), (1, .c (.fn 114 1 fun j => ([.bp 1 (encS a1_0)] : List AC).getD j .junk)), (7, .c (.v (.int .i64 (A.ofN (LEN a0))))), (8, .c (.v (.int .i64 x)))] [])) ?_ (fun y e s => (match y with | .inl w => e = .ret ∧ s.le (sparse 19 [(4, .c (.v (.int .i64 w)))] []) | .inr w0 => (fun (w : Unit) => e = .exit 0 ∧ s.le (sparse 19 [] [])) w0)) ?_ ?_
 ·clear hr4 hN5
  show St.le _ _
  exact le_sparse rfl ⟨lR _, lR _, lR _, lR _, trivial⟩ trivial rfl
 ·clear hr4 hN5
  intro x z9 h K7 hK8 hY6
  replace h := of_let h
  obtain ⟨v1, hv1, h⟩ := h
  have hv1 : v1 = x := hv1
  subst hv1
  cbv
  refine fork (fun b18 => ?_) (fun b18 => ?_)
  ·replace h := of_br_t b18 h
   cbv
   replace h := of_req h
   obtain ⟨c14, h⟩ := h
   refine ⟨⟨c14, trivial⟩, ?_⟩
   replace h := of_bind h
   obtain ⟨y15, hy16, h⟩ := h
   refine ⟨{ args := [.agg [.v (.string (GD a0 (A.toN v1)).fName), .bs (LEN (GD a0 (A.toN v1)).fShapes) 5 (row GD (encShape) (GD a0 (A.toN v1)).fShapes), .bs (LEN (GD a0 (A.toN v1)).fLabels) 4 (row GD (encLabel) (GD a0 (A.toN v1)).fLabels), .bs (LEN (GD a0 (A.toN v1)).fInstances) 8 (row GD (encInstance) (GD a0 (A.toN v1)).fInstances)], .c (.bp 1 (encS a1_0))], o0 := [], r := .c (.v (.bool y15)), o1 := [], fl := true, σ := [], τ := [] }, hf_impl_named_1_mbp _ _ _ hy16, ⟨les_cons (lR _) (les_cons (le_bp (show 1 ≤ 1 from by decide) (by intro j hj; match j, hj with | 0, _ => exact rle_refl _ | (j_ + 1), h_ => exact absurd h_ (by omega))) (les_nil)), trivial, rfl, rfl, rfl, rfl, trivial, rfl⟩, ?_⟩
   cbv
   refine fork (fun b17 => ?_) (fun b17 => ?_)
   ·replace h := of_br_t b17 h
    cbv
    injection h with h
    refine hY6 _ h.symm _ _ (And.intro rfl ?_) (by intro hh; cases hh)
    exact le_sparse rfl ⟨lR _, trivial⟩ trivial rfl
   ·replace h := of_br_f b17 h
    cbv
    injection h with h
    refine hK8 _ h.symm _ ?_
    exact le_sparse rfl ⟨lR _, lR _, lR _, lR _, trivial⟩ trivial rfl
  ·replace h := of_br_f b18 h
   cbv
   injection h with h
   refine hY6 _ h.symm _ _ (And.intro rfl ?_) (by intro hh; cases hh)
   exact le_sparse rfl trivial trivial rfl
 ·clear hr4
  have h := hN5
  clear hN5
  intro e12 s13 q11 hne
  rcases y3 with y3k0 | y3m0
  ·replace h := h
   obtain ⟨rfl, q11⟩ := q11
   replace h := of_let h
   obtain ⟨w19, hw19, h⟩ := h
   have hw19 : w19 = y3k0 := hw19
   subst hw19
   cbv
   injection h with h
   subst h
   refine ⟨(sparse 19 [(4, .c (.v (.int .i64 w19)))] []), ?_, ?_⟩
   ·refine St.le_trans q11 ?_
    exact le_sparse rfl ⟨lR _, trivial⟩ trivial rfl
   ·exact ⟨lR _, trivial, rfl⟩
  ·obtain ⟨rfl, q11⟩ := q11
   cbv
   refine ⟨_, q11, ?_⟩
   cbv
   injection h with h
   subst h
   refine ⟨(sparse 19 [(4, .c (.v (.int .i64 (-1))))] []), ?_, ?_⟩
   ·exact le_sparse rfl ⟨lR _, trivial⟩ trivial rfl
   ·exact ⟨lR _, trivial, rfl⟩

/-- impl.named -/
noncomputable def F_impl_named (a0 : TLibrary) (a1 : ByteArray) : Option (Int) :=
 (F_slices_IndexFunc_Limpl_Cell_impl_Cell_mbFimpl_named_1p a0.fCells a1).bind fun y1 =>
 some y1
theorem run_impl_named (a0 : TLibrary) (a1 : ByteArray) (r : Int) (h : F_impl_named a0 a1 = some r) : Fun Tryz.prog 88 [.agg [.bs (len a0.fCells) 4 (row gd (encCell len gd) a0.fCells)], .c (.v (.string a1))] [] (.c (.v (.int .i64 r))) [] true := by
 refine Fun.of_wp (oneOf []) tok mixed Tryz.func88 (by kernel_rfl) rfl Tryz.ntmps88 rfl trivial (fun _ => ⟨trivial, trivial⟩) ?_
 unfold F_impl_named at h
 have hf_slices_IndexFunc_Limpl_Cell_impl_Cell_mbFimpl_named_1p := @run_slices_IndexFunc_Limpl_Cell_impl_Cell_mbFimpl_named_1p
 generalize hLEN : @len = LEN at *
 generalize hGD : @gd = GD at *
 generalize hA : std = A at *
 generalize hP : Tryz.prog = P at *
 cbv
 replace h := of_bind h
 obtain ⟨y1, hy2, h⟩ := h
 refine ⟨{ args := [.c (.bs (LEN a0.fCells) 4 (row GD (encCell LEN GD) a0.fCells)), .c (.fn 114 1 fun j => ([.bp 1 (encS a1)] : List AC).getD j .junk)], o0 := [], r := .c (.v (.int .i64 y1)), o1 := [], fl := true, σ := [], τ := [] }, hf_slices_IndexFunc_Limpl_Cell_impl_Cell_mbFimpl_named_1p _ _ _ hy2, ⟨les_cons (lR _) (les_cons (le_fn (by intro j hj; match j, hj with | 0, _ => exact le_bp (show 1 ≤ 1 from by decide) (by intro j hj; match j, hj with | 0, _ => exact rle_refl _ | (j_ + 1), h_ => exact absurd h_ (by omega)) | (j_ + 1), h_ => exact absurd h_ (by omega))) (les_nil)), trivial, rfl, rfl, rfl, rfl, trivial, rfl⟩, ?_⟩
 cbv
 injection h with h
 subst h
 refine ⟨(sparse 9 [(4, .c (.v (.int .i64 y1)))] []), ?_, ?_⟩
 ·exact le_sparse rfl ⟨lR _, trivial⟩ trivial rfl
 ·exact ⟨lR _, trivial, rfl⟩

noncomputable def L_impl_IsValidLibrary_x10 (a0 : TLibrary) : (Int) → Option ((Int) ⊕ ((Bool) ⊕ (Unit))) := fun x10 =>
 letO x10 fun v9 =>
 br (std.lt v9 (std.ofN (len a0.fCells)))
 (req (std.inR v9 (len a0.fCells)) <|
 ((
    (F_impl_validCell (gd a0.fCells (std.toN v9)) v9).bind fun y30 =>
    br (!(y30))
    (some true)
    ((F_impl_named (TLibrary.mk a0.fCells) (gd a0.fCells (std.toN v9)).fName).bind fun y32 =>
    some (std.not (std.eq y32 v9)))
  ) : Option (Bool)).bind fun y23 =>
 letO y23 fun w29 =>
 br w29
 (some (.inr (.inl false)))
 (some (.inl (std.add .i64 v9 1))))
 (some (.inr (.inr ())))
/-- impl.IsValidLibrary -/
noncomputable def F_impl_IsValidLibrary (a0 : TLibrary) : Option (Bool) :=
 ((
    br (std.lt (std.ofN (len a0.fCells)) 1)
    (some true)
    (some (std.lt 8 (std.ofN (len a0.fCells))))
  ) : Option (Bool)).bind fun y1 =>
 letO y1 fun w7 =>
 br w7
 (some false)
 ((whileP (σ := Int) (ρ := (Bool) ⊕ (Unit)) (L_impl_IsValidLibrary_x10 a0) 0).bind fun y11 =>
 (match y11 with
  | .inl y11k0 => (
    letO y11k0 fun w37 =>
    some w37)
  | .inr y11m0 =>
    some true))
theorem run_impl_IsValidLibrary (a0 : TLibrary) (r : Bool) (h : F_impl_IsValidLibrary a0 = some r) : Fun Tryz.prog 56 [.agg [.bs (len a0.fCells) 4 (row gd (encCell len gd) a0.fCells)]] [] (.c (.v (.bool r))) [] true := by
 refine Fun.of_wp (oneOf [1, 6]) tok mixed Tryz.func56 (by kernel_rfl) rfl Tryz.ntmps56 rfl trivial (fun _ => ⟨trivial, trivial⟩) ?_
 unfold F_impl_IsValidLibrary at h
 unfold L_impl_IsValidLibrary_x10 at h
 have hf_impl_named := @run_impl_named
 have hf_impl_validCell := @run_impl_validCell
 generalize hLEN : @len = LEN at *
 generalize hGD : @gd = GD at *
 generalize hA : std = A at *
 generalize hP : Tryz.prog = P at *
 cbv
 replace h := of_bind h
 obtain ⟨y1, hy2, h⟩ := h
 obtain ⟨S5, hS6⟩ : ∃ S, S = (sparse 36 [(1, .c (.ptr 64 0)), (14, .c (.v (.bool y1)))] [(64, .var [.bs (LEN a0.fCells) 4 (row GD (encCell LEN GD) a0.fCells)])]) := ⟨_, rfl⟩
 refine ⟨S5, ?_, ?_⟩
 ·clear h
  have h := hy2
  clear hy2
  cbv
  refine fork (fun b8 => ?_) (fun b8 => ?_)
  ·replace h := of_br_t b8 h
   cbv
   injection h with h
   subst h
   subst hS6
   show St.le _ _
   exact le_sparse rfl ⟨lR _, lR _, trivial⟩ ⟨rfl, trivial⟩ rfl
  ·replace h := of_br_f b8 h
   cbv
   injection h with h
   subst h
   subst hS6
   show St.le _ _
   exact le_sparse rfl ⟨lR _, lR _, trivial⟩ ⟨rfl, trivial⟩ rfl
 ·clear hy2
  subst hS6
  replace h := of_let h
  obtain ⟨w7, hw7, h⟩ := h
  have hw7 : w7 = y1 := hw7
  subst hw7
  cbv
  refine fork (fun b38 => ?_) (fun b38 => ?_)
  ·replace h := of_br_t b38 h
   cbv
   injection h with h
   subst h
   refine ⟨(sparse 36 [(2, .c (.v (.bool false)))] []), ?_, ?_⟩
   ·exact le_sparse rfl ⟨lR _, trivial⟩ trivial rfl
   ·exact ⟨lR _, trivial, rfl⟩
  ·replace h := of_br_f b38 h
   cbv
   replace h := of_bind h
   obtain ⟨y11, hr12, hN13⟩ := h
   refine loop_cut hr12 (fun x => (sparse 36 [(1, .c (.ptr 64 0)), (16, .c (.bs (LEN a0.fCells) 4 (row GD (encCell LEN GD) a0.fCells))), (17, .c (.v (.int .i64 (A.ofN (LEN a0.fCells))))), (18, .c (.v (.int .i64 x)))] [(64, .var [.bs (LEN a0.fCells) 4 (row GD (encCell LEN GD) a0.fCells)])])) ?_ (fun y e s => (match y with | .inl w => e = .ret ∧ s.le (sparse 36 [(2, .c (.v (.bool w)))] []) | .inr w0 => (fun (w : Unit) => e = .exit 0 ∧ s.le (sparse 36 [] [])) w0)) ?_ ?_
   ·clear hr12 hN13
    show St.le _ _
    exact le_sparse rfl ⟨lR _, lR _, lR _, lR _, trivial⟩ ⟨rfl, trivial⟩ rfl
   ·clear hr12 hN13
    intro x z17 h K15 hK16 hY14
    replace h := of_let h
    obtain ⟨v9, hv9, h⟩ := h
    have hv9 : v9 = x := hv9
    subst hv9
    cbv
    refine fork (fun b36 => ?_) (fun b36 => ?_)
    ·replace h := of_br_t b36 h
     cbv
     replace h := of_req h
     obtain ⟨c22, h⟩ := h
     refine ⟨⟨c22, trivial⟩, ?_⟩
     replace h := of_bind h
     obtain ⟨y23, hy24, h⟩ := h
     obtain ⟨S27, hS28⟩ : ∃ S, S = (sparse 36 [(1, .c (.ptr 64 0)), (16, .c (.bs (LEN a0.fCells) 4 (row GD (encCell LEN GD) a0.fCells))), (17, .c (.v (.int .i64 (A.ofN (LEN a0.fCells))))), (18, .c (.v (.int .i64 v9))), (34, .c (.v (.bool y23)))] [(64, .var [.bs (LEN a0.fCells) 4 (row GD (encCell LEN GD) a0.fCells)])]) := ⟨_, rfl⟩
     refine ⟨S27, ?_, ?_⟩
     ·clear h
      have h := hy24
      clear hy24
      cbv
      replace h := of_bind h
      obtain ⟨y30, hy31, h⟩ := h
      refine ⟨{ args := [.agg [.v (.string (GD a0.fCells (A.toN v9)).fName), .bs (LEN (GD a0.fCells (A.toN v9)).fShapes) 5 (row GD (encShape) (GD a0.fCells (A.toN v9)).fShapes), .bs (LEN (GD a0.fCells (A.toN v9)).fLabels) 4 (row GD (encLabel) (GD a0.fCells (A.toN v9)).fLabels), .bs (LEN (GD a0.fCells (A.toN v9)).fInstances) 8 (row GD (encInstance) (GD a0.fCells (A.toN v9)).fInstances)], .c (.v (.int .i64 v9))], o0 := [], r := .c (.v (.bool y30)), o1 := [], fl := true, σ := [], τ := [] }, hf_impl_validCell _ _ _ hy31, ⟨les_cons (lR _) (les_cons (lR _) (les_nil)), trivial, rfl, rfl, rfl, rfl, trivial, rfl⟩, ?_⟩
      cbv
      refine fork (fun b34 => ?_) (fun b34 => ?_)
      ·replace h := of_br_t b34 h
       cbv
       injection h with h
       subst h
       subst hS28
       show St.le _ _
       exact le_sparse rfl ⟨lR _, lR _, lR _, lR _, lR _, trivial⟩ ⟨rfl, trivial⟩ rfl
      ·replace h := of_br_f b34 h
       cbv
       replace h := of_bind h
       obtain ⟨y32, hy33, h⟩ := h
       refine ⟨{ args := [.agg [.bs (LEN a0.fCells) 4 (row GD (encCell LEN GD) a0.fCells)], .c (.v (.string (GD a0.fCells (A.toN v9)).fName))], o0 := [], r := .c (.v (.int .i64 y32)), o1 := [], fl := true, σ := [], τ := [] }, hf_impl_named _ _ _ hy33, ⟨les_cons (lR _) (les_cons (lR _) (les_nil)), trivial, rfl, rfl, rfl, rfl, trivial, rfl⟩, ?_⟩
       cbv
       injection h with h
       subst h
       subst hS28
       show St.le _ _
       exact le_sparse rfl ⟨lR _, lR _, lR _, lR _, lR _, trivial⟩ ⟨rfl, trivial⟩ rfl
     ·clear hy24
      subst hS28
      replace h := of_let h
      obtain ⟨w29, hw29, h⟩ := h
      have hw29 : w29 = y23 := hw29
      subst hw29
      cbv
      refine fork (fun b35 => ?_) (fun b35 => ?_)
      ·replace h := of_br_t b35 h
       cbv
       injection h with h
       refine hY14 _ h.symm _ _ (And.intro rfl ?_) (by intro hh; cases hh)
       exact le_sparse rfl ⟨lR _, trivial⟩ trivial rfl
      ·replace h := of_br_f b35 h
       cbv
       injection h with h
       refine hK16 _ h.symm _ ?_
       exact le_sparse rfl ⟨lR _, lR _, lR _, lR _, trivial⟩ ⟨rfl, trivial⟩ rfl
    ·replace h := of_br_f b36 h
     cbv
     injection h with h
     refine hY14 _ h.symm _ _ (And.intro rfl ?_) (by intro hh; cases hh)
     exact le_sparse rfl trivial trivial rfl
   ·clear hr12
    have h := hN13
    clear hN13
    intro e20 s21 q19 hne
    rcases y11 with y11k0 | y11m0
    ·replace h := h
     obtain ⟨rfl, q19⟩ := q19
     replace h := of_let h
     obtain ⟨w37, hw37, h⟩ := h
     have hw37 : w37 = y11k0 := hw37
     subst hw37
     cbv
     injection h with h
     subst h
     refine ⟨(sparse 36 [(2, .c (.v (.bool w37)))] []), ?_, ?_⟩
     ·refine St.le_trans q19 ?_
      exact le_sparse rfl ⟨lR _, trivial⟩ trivial rfl
     ·exact ⟨lR _, trivial, rfl⟩
    ·obtain ⟨rfl, q19⟩ := q19
     cbv
     refine ⟨_, q19, ?_⟩
     cbv
     injection h with h
     subst h
     refine ⟨(sparse 36 [(2, .c (.v (.bool true)))] []), ?_, ?_⟩
     ·exact le_sparse rfl ⟨lR _, trivial⟩ trivial rfl
     ·exact ⟨lR _, trivial, rfl⟩

/-- impl.hasCell -/
noncomputable def F_impl_hasCell (a0 : TLibrary) (a1 : Int) : Option (Bool) :=
 ((
    (F_impl_IsValidLibrary a0).bind fun y8 =>
    br y8
    ((F_impl_within a1 0 (std.sub .i64 (std.ofN (len a0.fCells)) 1)).bind fun y10 =>
    some y10)
    (some false)
  ) : Option (Bool)).bind fun y1 =>
 letO y1 fun w7 =>
 some w7
theorem run_impl_hasCell (a0 : TLibrary) (a1 : Int) (r : Bool) (h : F_impl_hasCell a0 a1 = some r) : Fun Tryz.prog 58 [.agg [.bs (len a0.fCells) 4 (row gd (encCell len gd) a0.fCells)], .c (.v (.int .i64 a1))] [] (.c (.v (.bool r))) [] true := by
 refine Fun.of_wp (oneOf [1]) tok mixed Tryz.func58 (by kernel_rfl) rfl Tryz.ntmps58 rfl trivial (fun _ => ⟨trivial, trivial⟩) ?_
 unfold F_impl_hasCell at h
 have hf_impl_IsValidLibrary := @run_impl_IsValidLibrary
 have hf_impl_within := @run_impl_within
 generalize hLEN : @len = LEN at *
 generalize hGD : @gd = GD at *
 generalize hA : std = A at *
 generalize hP : Tryz.prog = P at *
 cbv
 replace h := of_bind h
 obtain ⟨y1, hy2, h⟩ := h
 obtain ⟨S5, hS6⟩ : ∃ S, S = (sparse 15 [(4, .c (.v (.bool y1)))] []) := ⟨_, rfl⟩
 refine ⟨S5, ?_, ?_⟩
 ·clear h
  have h := hy2
  clear hy2
  cbv
  replace h := of_bind h
  obtain ⟨y8, hy9, h⟩ := h
  refine ⟨{ args := [.agg [.bs (LEN a0.fCells) 4 (row GD (encCell LEN GD) a0.fCells)]], o0 := [], r := .c (.v (.bool y8)), o1 := [], fl := true, σ := [], τ := [] }, hf_impl_IsValidLibrary _ _ hy9, ⟨les_cons (lR _) (les_nil), trivial, rfl, rfl, rfl, rfl, trivial, rfl⟩, ?_⟩
  cbv
  refine fork (fun b12 => ?_) (fun b12 => ?_)
  ·replace h := of_br_t b12 h
   cbv
   replace h := of_bind h
   obtain ⟨y10, hy11, h⟩ := h
   refine ⟨{ args := [.c (.v (.int .i64 a1)), .c (.v (.int .i64 0)), .c (.v (.int .i64 (A.sub .i64 (A.ofN (LEN a0.fCells)) 1)))], o0 := [], r := .c (.v (.bool y10)), o1 := [], fl := true, σ := [], τ := [] }, hf_impl_within _ _ _ _ hy11, ⟨les_cons (lR _) (les_cons (lR _) (les_cons (lR _) (les_nil))), trivial, rfl, rfl, rfl, rfl, trivial, rfl⟩, ?_⟩
   cbv
   injection h with h
   subst h
   subst hS6
   show St.le _ _
   exact le_sparse rfl ⟨lR _, trivial⟩ trivial rfl
  ·replace h := of_br_f b12 h
   cbv
   injection h with h
   subst h
   subst hS6
   show St.le _ _
   exact le_sparse rfl ⟨lR _, trivial⟩ trivial rfl
 ·clear hy2
  subst hS6
  replace h := of_let h
  obtain ⟨w7, hw7, h⟩ := h
  have hw7 : w7 = y1 := hw7
  subst hw7
  cbv
  injection h with h
  subst h
  refine ⟨(sparse 15 [(4, .c (.v (.bool w7)))] []), ?_, ?_⟩
  ·exact le_sparse rfl ⟨lR _, trivial⟩ trivial rfl
  ·exact ⟨lR _, trivial, rfl⟩

noncomputable def L_impl_elementCount_x23 (l3 : List TCell) (v7 : List Int) (v6 : Int) : (Int × Int) → Option ((Int × Int) ⊕ ((Int))) := fun x23 =>
 letO x23.1 fun v21 =>
 letO x23.2 fun v22 =>
 br (std.lt v22 (std.ofN (len (gd l3 (std.toN v6)).fInstances)))
 (req (std.inR v22 (len (gd l3 (std.toN v6)).fInstances)) <|
 req (std.inR (gd (gd l3 (std.toN v6)).fInstances (std.toN v22)).fCell (len v7)) <|
 some (.inl (std.add .i64 v21 (std.mul .i64 (std.mul .i64 (gd (gd l3 (std.toN v6)).fInstances (std.toN v22)).fColumns (gd (gd l3 (std.toN v6)).fInstances (std.toN v22)).fRows) (gd v7 (std.nadd 0 (std.toN (gd (gd l3 (std.toN v6)).fInstances (std.toN v22)).fCell)))), std.add .i64 v22 1)))
 (some (.inr v21))
noncomputable def L_impl_elementCount_x8 (l3 : List TCell) : (Int × (List Int)) → Option ((Int × (List Int)) ⊕ (((List Int)))) := fun x8 =>
 letO x8.1 fun v6 =>
 letO x8.2 fun v7 =>
 br (std.lt v6 (std.ofN (len l3)))
 (req (std.inR v6 (len l3)) <|
 (whileP (σ := Int × Int) (ρ := (Int)) (L_impl_elementCount_x23 l3 v7 v6) (1, 0)).bind fun y24 =>
 letO y24 fun y24k0 =>
 letO y24k0 fun w38 =>
 letO ([w38] : List Int) fun l39 =>
 req (std.room (std.nadd (len v7) (len l39)) 8) <|
 letO (v7 ++ l39) fun l41 =>
 some (.inl (std.add .i64 v6 1, l41)))
 (some (.inr v7))
/-- impl.elementCount -/
noncomputable def F_impl_elementCount (a0 : TLibrary) (a1 : Int) : Option (Int) :=
 letO ([] : List Int) fun l1 =>
 req (std.upTo (std.add .i64 a1 1) (len a0.fCells)) <|
 req (std.upTo 0 (std.toN (std.add .i64 a1 1))) <|
 letO (subL a0.fCells (std.toN 0) (std.toN (std.add .i64 a1 1))) fun l3 =>
 (whileP (σ := Int × (List Int)) (ρ := ((List Int))) (L_impl_elementCount_x8 l3) (0, l1)).bind fun y9 =>
 letO y9 fun y9k0 =>
 letO y9k0 fun w45 =>
 req (std.inR a1 (len w45)) <|
 some (gd w45 (std.nadd 0 (std.toN a1)))
theorem run_impl_elementCount (a0 : TLibrary) (a1 : Int) (r : Int) (h : F_impl_elementCount a0 a1 = some r) : Fun Tryz.prog 60 [.agg [.bs (len a0.fCells) 4 (row gd (encCell len gd) a0.fCells)], .c (.v (.int .i64 a1))] [] (.c (.v (.int .i64 r))) [] true := by
 refine Fun.of_wp (oneOf []) tok mixed Tryz.func60 (by kernel_rfl) rfl Tryz.ntmps60 rfl trivial (fun _ => ⟨trivial, trivial⟩) ?_
 unfold F_impl_elementCount at h
 unfold L_impl_elementCount_x8 at h
 unfold L_impl_elementCount_x23 at h
 generalize hLEN : @len = LEN at *
 generalize hGD : @gd = GD at *
 generalize hA : std = A at *
 generalize hP : Tryz.prog = P at *
 cbv
 replace h := of_let h
 obtain ⟨l1, hl1, h⟩ := h
 have e2 : 0 = LEN l1 := by subst hl1 hLEN; rfl
 refine ⟨_, congrArg (fun n => AV.c (AC.os 704 0 n)) e2, _, row GD (encI .i64) l1, e2, ?_, ?_⟩
 ·intro i hi j hj
  rw [← e2] at hi
  subst hl1
  subst hGD
  omega
 cbv
 replace h := of_req h
 obtain ⟨c4, h⟩ := h
 replace h := of_req h
 obtain ⟨c5, h⟩ := h
 replace h := of_let h
 obtain ⟨l3, hl3, h⟩ := h
 refine And.intro (by first | exact ⟨c4, c5, trivial⟩ | exact ⟨c4, c5⟩) ?_
 refine ⟨.c (.bs (LEN l3) 4 (row GD (encCell LEN GD) l3)), ?_, ?_⟩
 ·subst hGD hLEN hA
  exact le_sub c4 c5 hl3
 cbv
 replace h := of_bind h
 obtain ⟨y9, hr10, hN11⟩ := h
 refine loop_cut hr10 (fun x => (sparse 52 [(1, .c (.v (.int .i64 a1))), (5, .c (.os 704 0 (LEN x.2))), (16, .c (.bs (LEN l3) 4 (row GD (encCell LEN GD) l3))), (17, .c (.v (.int .i64 (A.ofN (LEN l3))))), (18, .c (.v (.int .i64 x.1)))] [(704, .arr .rw [] (LEN x.2) 1 (row GD (encI .i64) x.2))])) ?_ (fun y e s => (fun (w : (List Int)) => e = .exit 0 ∧ s.le (sparse 52 [(1, .c (.v (.int .i64 a1))), (5, .c (.os 704 0 (LEN w)))] [(704, .arr .rw [] (LEN w) 1 (row GD (encI .i64) w))])) y) ?_ ?_
 ·clear hr10 hN11
  show St.le _ _
  exact le_sparse rfl ⟨lR _, lR _, lR _, lR _, lR _, trivial⟩ ⟨oS, trivial⟩ rfl
 ·clear hr10 hN11
  intro x z15 h K13 hK14 hY12
  obtain ⟨x0_, x1_⟩ := x
  replace h := of_let h
  obtain ⟨v6, hv6, h⟩ := h
  have hv6 : v6 = x0_ := hv6
  subst hv6
  replace h := of_let h
  obtain ⟨v7, hv7, h⟩ := h
  have hv7 : v7 = x1_ := hv7
  subst hv7
  cbv
  refine fork (fun b44 => ?_) (fun b44 => ?_)
  ·replace h := of_br_t b44 h
   cbv
   replace h := of_req h
   obtain ⟨c20, h⟩ := h
   refine ⟨⟨c20, trivial⟩, ?_⟩
   replace h := of_bind h
   obtain ⟨y24, hr25, hN26⟩ := h
   refine loop_cut hr25 (fun x => (sparse 52 [(1, .c (.v (.int .i64 a1))), (5, .c (.os 704 0 (LEN v7))), (8, .c (.v (.int .i64 x.1))), (16, .c (.bs (LEN l3) 4 (row GD (encCell LEN GD) l3))), (17, .c (.v (.int .i64 (A.ofN (LEN l3))))), (18, .c (.v (.int .i64 v6))), (23, .c (.bs (LEN (GD l3 (A.toN v6)).fInstances) 8 (row GD (encInstance) (GD l3 (A.toN v6)).fInstances))), (24, .c (.v (.int .i64 (A.ofN (LEN (GD l3 (A.toN v6)).fInstances))))), (25, .c (.v (.int .i64 x.2)))] [(704, .arr .rw [] (LEN v7) 1 (row GD (encI .i64) v7))])) ?_ (fun y e s => (fun (w : Int) => e = .exit 2 ∧ s.le (sparse 52 [(1, .c (.v (.int .i64 a1))), (5, .c (.os 704 0 (LEN v7))), (8, .c (.v (.int .i64 w))), (16, .c (.bs (LEN l3) 4 (row GD (encCell LEN GD) l3))), (17, .c (.v (.int .i64 (A.ofN (LEN l3))))), (18, .c (.v (.int .i64 v6)))] [(704, .arr .rw [] (LEN v7) 1 (row GD (encI .i64) v7))])) y) ?_ ?_
   ·clear hr25 hN26
    show St.le _ _
    exact le_sparse rfl ⟨lR _, lR _, lR _, lR _, lR _, lR _, lR _, lR _, lR _, trivial⟩ ⟨oS, trivial⟩ rfl
   ·clear hr25 hN26
    intro x z30 h K28 hK29 hY27
    obtain ⟨x0_, x1_⟩ := x
    replace h := of_let h
    obtain ⟨v21, hv21, h⟩ := h
    have hv21 : v21 = x0_ := hv21
    subst hv21
    replace h := of_let h
    obtain ⟨v22, hv22, h⟩ := h
    have hv22 : v22 = x1_ := hv22
    subst hv22
    cbv
    refine fork (fun b37 => ?_) (fun b37 => ?_)
    ·replace h := of_br_t b37 h
     cbv
     replace h := of_req h
     obtain ⟨c35, h⟩ := h
     refine ⟨⟨c35, trivial⟩, ?_⟩
     replace h := of_req h
     obtain ⟨c36, h⟩ := h
     refine ⟨⟨c36, trivial⟩, ?_⟩
     refine And.intro (by first | exact (by subst hA; exact idx_lt c36) | (refine And.intro (by subst hA; exact idx_lt c36) ?_; first | trivial | exact ⟨trivial, trivial⟩)) ?_
     injection h with h
     refine hK29 _ h.symm _ ?_
     exact le_sparse rfl ⟨lR _, lR _, lR _, lR _, lR _, lR _, lR _, lR _, lR _, trivial⟩ ⟨oS, trivial⟩ rfl
    ·replace h := of_br_f b37 h
     cbv
     injection h with h
     refine hY27 _ h.symm _ _ (And.intro rfl ?_) (by intro hh; cases hh)
     exact le_sparse rfl ⟨lR _, lR _, lR _, lR _, lR _, lR _, trivial⟩ ⟨oS, trivial⟩ rfl
   ·clear hr25
    have h := hN26
    clear hN26
    intro e33 s34 q32 hne
    replace h := of_let h
    obtain ⟨y24k0, hyk, h⟩ := h
    have hyk : y24k0 = y24 := hyk
    subst hyk
    obtain ⟨rfl, q32⟩ := q32
    replace h := of_let h
    obtain ⟨w38, hw38, h⟩ := h
    have hw38 : w38 = y24k0 := hw38
    subst hw38
    cbv
    refine ⟨_, q32, ?_⟩
    cbv
    replace h := of_let h
    obtain ⟨l39, hl39, h⟩ := h
    have e40 : 1 = LEN l39 := by subst hl39 hLEN; rfl
    refine ⟨_, congrArg (fun n => AV.c (AC.os 2880 0 n)) e40, _, row GD (encI .i64) l39, e40, ?_, ?_⟩
    ·intro i hi j hj
     rw [← e40] at hi
     subst hl39
     subst hGD
     obtain rfl : i = 0 := (by omega)
     all_goals obtain rfl : j = 0 := by omega
     all_goals rfl
    cbv
    replace h := of_req h
    obtain ⟨c43, h⟩ := h
    replace h := of_let h
    obtain ⟨l41, hl41, h⟩ := h
    have e42 : A.nadd (LEN v7) (LEN l39) = LEN l41 := by subst hl41 hLEN hA; simp [std, len]
    refine ⟨c43, _, congrArg (fun n => AV.c (AC.os 704 0 n)) e42, _, row GD (encI .i64) l41, e42, ?_, ?_⟩
    ·subst hGD hLEN hA
     exact app_os (off := 0) (fun _ _ => rfl) hl41 (Nat.le_refl _)
    cbv
    injection h with h
    refine hK14 _ h.symm _ ?_
    exact le_sparse rfl ⟨lR _, lR _, lR _, lR _, lR _, trivial⟩ ⟨oS, trivial⟩ rfl
  ·replace h := of_br_f b44 h
   cbv
   injection h with h
   refine hY12 _ h.symm _ _ (And.intro rfl ?_) (by intro hh; cases hh)
   exact le_sparse rfl ⟨lR _, lR _, trivial⟩ ⟨oS, trivial⟩ rfl
 ·clear hr10
  have h := hN11
  clear hN11
  intro e18 s19 q17 hne
  replace h := of_let h
  obtain ⟨y9k0, hyk, h⟩ := h
  have hyk : y9k0 = y9 := hyk
  subst hyk
  obtain ⟨rfl, q17⟩ := q17
  replace h := of_let h
  obtain ⟨w45, hw45, h⟩ := h
  have hw45 : w45 = y9k0 := hw45
  subst hw45
  cbv
  refine ⟨_, q17, ?_⟩
  cbv
  replace h := of_req h
  obtain ⟨c46, h⟩ := h
  refine ⟨⟨c46, trivial⟩, ?_⟩
  refine And.intro (by first | exact (by subst hA; exact idx_lt c46) | (refine And.intro (by subst hA; exact idx_lt c46) ?_; first | trivial | exact ⟨trivial, trivial⟩)) ?_
  injection h with h
  subst h
  refine ⟨(sparse 52 [(4, .c (.v (.int .i64 (GD w45 (A.nadd 0 (A.toN a1))))))] []), ?_, ?_⟩
  ·exact le_sparse rfl ⟨lR _, trivial⟩ trivial rfl
  ·exact ⟨lR _, trivial, rfl⟩

/-- impl.windowCode -/
noncomputable def F_impl_windowCode (a0 : TLibrary) (a1 : Int) (a2 : Int) (a3 : TRect) : Option (Int) :=
 ((
    (F_impl_IsValidLibrary a0).bind fun y8 =>
    br (!(y8))
    (some true)
    ((F_impl_IsValidRect a3).bind fun y10 =>
    some (!(y10)))
  ) : Option (Bool)).bind fun y1 =>
 letO y1 fun w7 =>
 br w7
 (some 1)
 ((F_impl_hasCell a0 a1).bind fun y13 =>
 br (!(y13))
 (some 5)
 ((F_impl_within a2 0 7).bind fun y15 =>
 br (!(y15))
 (some 2)
 ((F_impl_elementCount a0 a1).bind fun y17 =>
 br (std.lt 200 y17)
 (some 3)
 (some 0))))
theorem run_impl_windowCode (a0 : TLibrary) (a1 : Int) (a2 : Int) (a3 : TRect) (r : Int) (h : F_impl_windowCode a0 a1 a2 a3 = some r) : Fun Tryz.prog 33 [.agg [.bs (len a0.fCells) 4 (row gd (encCell len gd) a0.fCells)], .c (.v (.int .i64 a1)), .c (.v (.int .i64 a2)), .agg [.v (.int .i64 a3.fX0), .v (.int .i64 a3.fY0), .v (.int .i64 a3.fX1), .v (.int .i64 a3.fY1)]] [] (.c (.v (.int .i64 r))) [] true := by
 refine Fun.of_wp (oneOf [1]) tok mixed Tryz.func33 (by kernel_rfl) rfl Tryz.ntmps33 rfl trivial (fun _ => ⟨trivial, trivial⟩) ?_
 unfold F_impl_windowCode at h
 have hf_impl_IsValidLibrary := @run_impl_IsValidLibrary
 have hf_impl_IsValidRect := @run_impl_IsValidRect
 have hf_impl_elementCount := @run_impl_elementCount
 have hf_impl_hasCell := @run_impl_hasCell
 have hf_impl_within := @run_impl_within
 generalize hLEN : @len = LEN at *
 generalize hGD : @gd = GD at *
 generalize hA : std = A at *
 generalize hP : Tryz.prog = P at *
 cbv
 replace h := of_bind h
 obtain ⟨y1, hy2, h⟩ := h
 obtain ⟨S5, hS6⟩ : ∃ S, S = (sparse 32 [(1, .c (.v (.int .i64 a1))), (2, .c (.v (.int .i64 a2))), (4, .c (.ptr 256 0)), (9, .c (.v (.bool y1)))] [(256, .var [.bs (LEN a0.fCells) 4 (row GD (encCell LEN GD) a0.fCells)])]) := ⟨_, rfl⟩
 refine ⟨S5, ?_, ?_⟩
 ·clear h
  have h := hy2
  clear hy2
  cbv
  replace h := of_bind h
  obtain ⟨y8, hy9, h⟩ := h
  refine ⟨{ args := [.agg [.bs (LEN a0.fCells) 4 (row GD (encCell LEN GD) a0.fCells)]], o0 := [], r := .c (.v (.bool y8)), o1 := [], fl := true, σ := [], τ := [] }, hf_impl_IsValidLibrary _ _ hy9, ⟨les_cons (lR _) (les_nil), trivial, rfl, rfl, rfl, rfl, trivial, rfl⟩, ?_⟩
  cbv
  refine fork (fun b12 => ?_) (fun b12 => ?_)
  ·replace h := of_br_t b12 h
   cbv
   injection h with h
   subst h
   subst hS6
   show St.le _ _
   exact le_sparse rfl ⟨lR _, lR _, lR _, lR _, trivial⟩ ⟨rfl, trivial⟩ rfl
  ·replace h := of_br_f b12 h
   cbv
   replace h := of_bind h
   obtain ⟨y10, hy11, h⟩ := h
   refine ⟨{ args := [.agg [.v (.int .i64 a3.fX0), .v (.int .i64 a3.fY0), .v (.int .i64 a3.fX1), .v (.int .i64 a3.fY1)]], o0 := [], r := .c (.v (.bool y10)), o1 := [], fl := true, σ := [], τ := [] }, hf_impl_IsValidRect _ _ hy11, ⟨les_cons (lR _) (les_nil), trivial, rfl, rfl, rfl, rfl, trivial, rfl⟩, ?_⟩
   cbv
   injection h with h
   subst h
   subst hS6
   show St.le _ _
   exact le_sparse rfl ⟨lR _, lR _, lR _, lR _, trivial⟩ ⟨rfl, trivial⟩ rfl
 ·clear hy2
  subst hS6
  replace h := of_let h
  obtain ⟨w7, hw7, h⟩ := h
  have hw7 : w7 = y1 := hw7
  subst hw7
  cbv
  refine fork (fun b22 => ?_) (fun b22 => ?_)
  ·replace h := of_br_t b22 h
   cbv
   injection h with h
   subst h
   refine ⟨(sparse 32 [(8, .c (.v (.int .i64 1)))] []), ?_, ?_⟩
   ·exact le_sparse rfl ⟨lR _, trivial⟩ trivial rfl
   ·exact ⟨lR _, trivial, rfl⟩
  ·replace h := of_br_f b22 h
   cbv
   replace h := of_bind h
   obtain ⟨y13, hy14, h⟩ := h
   refine ⟨{ args := [.agg [.bs (LEN a0.fCells) 4 (row GD (encCell LEN GD) a0.fCells)], .c (.v (.int .i64 a1))], o0 := [], r := .c (.v (.bool y13)), o1 := [], fl := true, σ := [], τ := [] }, hf_impl_hasCell _ _ _ hy14, ⟨les_cons (lR _) (les_cons (lR _) (les_nil)), trivial, rfl, rfl, rfl, rfl, trivial, rfl⟩, ?_⟩
   cbv
   refine fork (fun b21 => ?_) (fun b21 => ?_)
   ·replace h := of_br_t b21 h
    cbv
    injection h with h
    subst h
    refine ⟨(sparse 32 [(8, .c (.v (.int .i64 5)))] []), ?_, ?_⟩
    ·exact le_sparse rfl ⟨lR _, trivial⟩ trivial rfl
    ·exact ⟨lR _, trivial, rfl⟩
   ·replace h := of_br_f b21 h
    cbv
    replace h := of_bind h
    obtain ⟨y15, hy16, h⟩ := h
    refine ⟨{ args := [.c (.v (.int .i64 a2)), .c (.v (.int .i64 0)), .c (.v (.int .i64 7))], o0 := [], r := .c (.v (.bool y15)), o1 := [], fl := true, σ := [], τ := [] }, hf_impl_within _ _ _ _ hy16, ⟨les_cons (lR _) (les_cons (lR _) (les_cons (lR _) (les_nil))), trivial, rfl, rfl, rfl, rfl, trivial, rfl⟩, ?_⟩
    cbv
    refine fork (fun b20 => ?_) (fun b20 => ?_)
    ·replace h := of_br_t b20 h
     cbv
     injection h with h
     subst h
     refine ⟨(sparse 32 [(8, .c (.v (.int .i64 2)))] []), ?_, ?_⟩
     ·exact le_sparse rfl ⟨lR _, trivial⟩ trivial rfl
     ·exact ⟨lR _, trivial, rfl⟩
    ·replace h := of_br_f b20 h
     cbv
     replace h := of_bind h
     obtain ⟨y17, hy18, h⟩ := h
     refine ⟨{ args := [.agg [.bs (LEN a0.fCells) 4 (row GD (encCell LEN GD) a0.fCells)], .c (.v (.int .i64 a1))], o0 := [], r := .c (.v (.int .i64 y17)), o1 := [], fl := true, σ := [], τ := [] }, hf_impl_elementCount _ _ _ hy18, ⟨les_cons (lR _) (les_cons (lR _) (les_nil)), trivial, rfl, rfl, rfl, rfl, trivial, rfl⟩, ?_⟩
     cbv
     refine fork (fun b19 => ?_) (fun b19 => ?_)
     ·replace h := of_br_t b19 h
      cbv
      injection h with h
      subst h
      refine ⟨(sparse 32 [(8, .c (.v (.int .i64 3)))] []), ?_, ?_⟩
      ·exact le_sparse rfl ⟨lR _, trivial⟩ trivial rfl
      ·exact ⟨lR _, trivial, rfl⟩
     ·replace h := of_br_f b19 h
      cbv
      injection h with h
      subst h
      refine ⟨(sparse 32 [(8, .c (.v (.int .i64 0)))] []), ?_, ?_⟩
      ·exact le_sparse rfl ⟨lR _, trivial⟩ trivial rfl
      ·exact ⟨lR _, trivial, rfl⟩
end Go.Proofs.YtmdlnjeppemipaaGreat.AM
