/-
  What the functions that the law reaches compute, and that they do. No condition.
-/
import Derived.Test.YtmdlnjeppemipaaGreatAmLY
import Derived.Test.YtmdlnjeppemipaaGreatAmE
namespace Go.Proofs.YtmdlnjeppemipaaGreat.AM
open Go Go.Proofs Go.RowKit
set_option linter.unusedVariables false
set_option linter.unusedSimpArgs false
set_option maxRecDepth 100000

noncomputable def L_laws_markInstanceS_mob_x4 (a0 : List TInstance) : (Int × Int × (List TInstance)) → Option ((Int × Int × (List TInstance)) ⊕ ((Int × (List TInstance)))) := fun x4 =>
 letO x4.1 fun v1 =>
 letO x4.2.1 fun v2 =>
 letO x4.2.2 fun v3 =>
 br (std.lt v2 (std.ofN (len a0)))
 (req (std.inR v2 (len a0)) <|
 req (len a0 = len v3) <|
 letO (List.set v3 (std.nadd 0 (std.toN v2)) (TInstance.mk v1 (gd v3 (std.nadd 0 (std.toN v2))).fPlace (gd v3 (std.nadd 0 (std.toN v2))).fColumns (gd v3 (std.nadd 0 (std.toN v2))).fRows (gd v3 (std.nadd 0 (std.toN v2))).fStepX (gd v3 (std.nadd 0 (std.toN v2))).fStepY)) fun l17 =>
 req (std.inR v2 (len a0)) <|
 req (len a0 = len l17) <|
 letO (List.set l17 (std.nadd 0 (std.toN v2)) (TInstance.mk (gd l17 (std.nadd 0 (std.toN v2))).fCell (TTransform.mk (std.add .i64 v1 1) (gd l17 (std.nadd 0 (std.toN v2))).fPlace.fX (gd l17 (std.nadd 0 (std.toN v2))).fPlace.fY) (gd l17 (std.nadd 0 (std.toN v2))).fColumns (gd l17 (std.nadd 0 (std.toN v2))).fRows (gd l17 (std.nadd 0 (std.toN v2))).fStepX (gd l17 (std.nadd 0 (std.toN v2))).fStepY)) fun l19 =>
 req (std.inR v2 (len a0)) <|
 req (len a0 = len l19) <|
 letO (List.set l19 (std.nadd 0 (std.toN v2)) (TInstance.mk (gd l19 (std.nadd 0 (std.toN v2))).fCell (TTransform.mk (gd l19 (std.nadd 0 (std.toN v2))).fPlace.fOrientation (std.add .i64 (std.add .i64 v1 1) 1) (gd l19 (std.nadd 0 (std.toN v2))).fPlace.fY) (gd l19 (std.nadd 0 (std.toN v2))).fColumns (gd l19 (std.nadd 0 (std.toN v2))).fRows (gd l19 (std.nadd 0 (std.toN v2))).fStepX (gd l19 (std.nadd 0 (std.toN v2))).fStepY)) fun l21 =>
 req (std.inR v2 (len a0)) <|
 req (len a0 = len l21) <|
 letO (List.set l21 (std.nadd 0 (std.toN v2)) (TInstance.mk (gd l21 (std.nadd 0 (std.toN v2))).fCell (TTransform.mk (gd l21 (std.nadd 0 (std.toN v2))).fPlace.fOrientation (gd l21 (std.nadd 0 (std.toN v2))).fPlace.fX (std.add .i64 (std.add .i64 (std.add .i64 v1 1) 1) 1)) (gd l21 (std.nadd 0 (std.toN v2))).fColumns (gd l21 (std.nadd 0 (std.toN v2))).fRows (gd l21 (std.nadd 0 (std.toN v2))).fStepX (gd l21 (std.nadd 0 (std.toN v2))).fStepY)) fun l23 =>
 req (std.inR v2 (len a0)) <|
 req (len a0 = len l23) <|
 letO (List.set l23 (std.nadd 0 (std.toN v2)) (TInstance.mk (gd l23 (std.nadd 0 (std.toN v2))).fCell (gd l23 (std.nadd 0 (std.toN v2))).fPlace (std.add .i64 (std.add .i64 (std.add .i64 (std.add .i64 v1 1) 1) 1) 1) (gd l23 (std.nadd 0 (std.toN v2))).fRows (gd l23 (std.nadd 0 (std.toN v2))).fStepX (gd l23 (std.nadd 0 (std.toN v2))).fStepY)) fun l25 =>
 req (std.inR v2 (len a0)) <|
 req (len a0 = len l25) <|
 letO (List.set l25 (std.nadd 0 (std.toN v2)) (TInstance.mk (gd l25 (std.nadd 0 (std.toN v2))).fCell (gd l25 (std.nadd 0 (std.toN v2))).fPlace (gd l25 (std.nadd 0 (std.toN v2))).fColumns (std.add .i64 (std.add .i64 (std.add .i64 (std.add .i64 (std.add .i64 v1 1) 1) 1) 1) 1) (gd l25 (std.nadd 0 (std.toN v2))).fStepX (gd l25 (std.nadd 0 (std.toN v2))).fStepY)) fun l27 =>
 req (std.inR v2 (len a0)) <|
 req (len a0 = len l27) <|
 letO (List.set l27 (std.nadd 0 (std.toN v2)) (TInstance.mk (gd l27 (std.nadd 0 (std.toN v2))).fCell (gd l27 (std.nadd 0 (std.toN v2))).fPlace (gd l27 (std.nadd 0 (std.toN v2))).fColumns (gd l27 (std.nadd 0 (std.toN v2))).fRows (std.add .i64 (std.add .i64 (std.add .i64 (std.add .i64 (std.add .i64 (std.add .i64 v1 1) 1) 1) 1) 1) 1) (gd l27 (std.nadd 0 (std.toN v2))).fStepY)) fun l29 =>
 req (std.inR v2 (len a0)) <|
 req (len a0 = len l29) <|
 letO (List.set l29 (std.nadd 0 (std.toN v2)) (TInstance.mk (gd l29 (std.nadd 0 (std.toN v2))).fCell (gd l29 (std.nadd 0 (std.toN v2))).fPlace (gd l29 (std.nadd 0 (std.toN v2))).fColumns (gd l29 (std.nadd 0 (std.toN v2))).fRows (gd l29 (std.nadd 0 (std.toN v2))).fStepX (std.add .i64 (std.add .i64 (std.add .i64 (std.add .i64 (std.add .i64 (std.add .i64 (std.add .i64 v1 1) 1) 1) 1) 1) 1) 1))) fun l31 =>
 some (.inl (std.add .i64 (std.add .i64 (std.add .i64 (std.add .i64 (std.add .i64 (std.add .i64 (std.add .i64 (std.add .i64 v1 1) 1) 1) 1) 1) 1) 1) 1, std.add .i64 v2 1, l31)))
 (some (.inr (v1, v3)))
/-- laws.markInstanceS -/
noncomputable def F_laws_markInstanceS_mob (a0 : List TInstance) (a1 : Int) : Option (Int × (List TInstance)) :=
 (whileP (σ := Int × Int × (List TInstance)) (ρ := (Int × (List TInstance))) (L_laws_markInstanceS_mob_x4 a0) (a1, 0, a0)).bind fun y5 =>
 letO y5 fun y5k0 =>
 letO y5k0.1 fun w41 =>
 letO y5k0.2 fun w42 =>
 req (len a0 = len w42) <|
 some (w41, w42)
theorem run_laws_markInstanceS_mob (a0 : List TInstance) (a1 : Int) (r : Int × (List TInstance)) (h : F_laws_markInstanceS_mob a0 a1 = some r) : Fun Tryz.prog 68 [.c (.os 5 0 (len a0)), .c (.v (.int .i64 a1))] [(5, .arr .rw [] (len a0) 8 (row gd (encInstance) a0))] (.c (.v (.int .i64 r.1))) [(5, .arr .rw [] (len r.2) 8 (row gd (encInstance) r.2))] true := by
 refine Fun.of_wp (oneOf []) tok mixed Tryz.func68 (by kernel_rfl) rfl Tryz.ntmps68 rfl ⟨fun i _ j _ k hk => (noref (plain_nil (pl_encInstance _ _)) hk).elim, trivial⟩ (fun _ => ⟨trivial, ⟨fun i _ j _ => val_flat (vl_encInstance _ _), trivial⟩⟩) ?_
 unfold F_laws_markInstanceS_mob at h
 unfold L_laws_markInstanceS_mob_x4 at h
 generalize hLEN : @len = LEN at *
 generalize hGD : @gd = GD at *
 generalize hA : std = A at *
 generalize hP : Tryz.prog = P at *
 cbv
 replace h := of_bind h
 obtain ⟨y5, hr6, hN7⟩ := h
 refine loop_cut hr6 (fun x => (sparse 72 [(0, .c (.os 5 0 (LEN a0))), (1, .c (.v (.int .i64 x.1))), (5, .c (.v (.int .i64 x.2.1)))] [(5, .arr .rw [] (LEN a0) 8 (row GD (encInstance) x.2.2))])) ?_ (fun y e s => (fun (w : Int × (List TInstance)) => e = .exit 0 ∧ s.le (sparse 72 [(1, .c (.v (.int .i64 w.1)))] [(5, .arr .rw [] (LEN a0) 8 (row GD (encInstance) w.2))])) y) ?_ ?_
 ·clear hr6 hN7
  show St.le _ _
  exact le_sparse rfl ⟨lR _, lR _, lR _, trivial⟩ ⟨oS, trivial⟩ rfl
 ·clear hr6 hN7
  intro x z11 h K9 hK10 hY8
  obtain ⟨x0_, x1_, x2_⟩ := x
  replace h := of_let h
  obtain ⟨v1, hv1, h⟩ := h
  have hv1 : v1 = x0_ := hv1
  subst hv1
  replace h := of_let h
  obtain ⟨v2, hv2, h⟩ := h
  have hv2 : v2 = x1_ := hv2
  subst hv2
  replace h := of_let h
  obtain ⟨v3, hv3, h⟩ := h
  have hv3 : v3 = x2_ := hv3
  subst hv3
  cbv
  refine fork (fun b40 => ?_) (fun b40 => ?_)
  ·replace h := of_br_t b40 h
   cbv
   replace h := of_req h
   obtain ⟨c16, h⟩ := h
   refine ⟨⟨c16, trivial⟩, ?_⟩
   replace h := of_req h
   obtain ⟨c39, h⟩ := h
   replace h := of_let h
   obtain ⟨l17, hl17, h⟩ := h
   refine And.intro (by first | exact (by subst hA; exact idx_lt c16) | (refine And.intro (by subst hA; exact idx_lt c16) ?_; first | trivial | exact ⟨trivial, trivial⟩)) ?_
   refine ⟨_, rfl, _, row GD (encInstance) l17, rfl, ?_, ?_⟩
   ·subst hGD hLEN hA
    rw [c39] at c16
    refine upd_set hl17 (idx_lt c16) ?_ ?_
    ·intro b hb hh
     match b, hb, hh with | 0, _, hh => exact rfl | 1, _, hh => exact (absurd hh (show ¬ (0 ≤ 1 ∧ 1 < 0 + 1) from by decide)) | 2, _, hh => exact (absurd hh (show ¬ (0 ≤ 2 ∧ 2 < 0 + 1) from by decide)) | 3, _, hh => exact (absurd hh (show ¬ (0 ≤ 3 ∧ 3 < 0 + 1) from by decide)) | 4, _, hh => exact (absurd hh (show ¬ (0 ≤ 4 ∧ 4 < 0 + 1) from by decide)) | 5, _, hh => exact (absurd hh (show ¬ (0 ≤ 5 ∧ 5 < 0 + 1) from by decide)) | 6, _, hh => exact (absurd hh (show ¬ (0 ≤ 6 ∧ 6 < 0 + 1) from by decide)) | 7, _, hh => exact (absurd hh (show ¬ (0 ≤ 7 ∧ 7 < 0 + 1) from by decide)) | (b_ + 8), h_, _ => exact absurd h_ (by omega)
    ·intro b hb hh
     match b, hb, hh with | 0, _, hh => exact (absurd (show 0 ≤ 0 ∧ 0 < 0 + 1 from by decide) hh) | 1, _, hh => exact rfl | 2, _, hh => exact rfl | 3, _, hh => exact rfl | 4, _, hh => exact rfl | 5, _, hh => exact rfl | 6, _, hh => exact rfl | 7, _, hh => exact rfl | (b_ + 8), h_, _ => exact absurd h_ (by omega)
   cbv
   replace h := of_req h
   obtain ⟨c18, h⟩ := h
   refine ⟨⟨c18, trivial⟩, ?_⟩
   replace h := of_req h
   obtain ⟨c38, h⟩ := h
   replace h := of_let h
   obtain ⟨l19, hl19, h⟩ := h
   refine And.intro (by first | exact (by subst hA; exact idx_lt c18) | (refine And.intro (by subst hA; exact idx_lt c18) ?_; first | trivial | exact ⟨trivial, trivial⟩)) ?_
   refine ⟨_, rfl, _, row GD (encInstance) l19, rfl, ?_, ?_⟩
   ·subst hGD hLEN hA
    rw [c38] at c18
    refine upd_set hl19 (idx_lt c18) ?_ ?_
    ·intro b hb hh
     match b, hb, hh with | 0, _, hh => exact (absurd hh (show ¬ (1 ≤ 0 ∧ 0 < 1 + 1) from by decide)) | 1, _, hh => exact rfl | 2, _, hh => exact (absurd hh (show ¬ (1 ≤ 2 ∧ 2 < 1 + 1) from by decide)) | 3, _, hh => exact (absurd hh (show ¬ (1 ≤ 3 ∧ 3 < 1 + 1) from by decide)) | 4, _, hh => exact (absurd hh (show ¬ (1 ≤ 4 ∧ 4 < 1 + 1) from by decide)) | 5, _, hh => exact (absurd hh (show ¬ (1 ≤ 5 ∧ 5 < 1 + 1) from by decide)) | 6, _, hh => exact (absurd hh (show ¬ (1 ≤ 6 ∧ 6 < 1 + 1) from by decide)) | 7, _, hh => exact (absurd hh (show ¬ (1 ≤ 7 ∧ 7 < 1 + 1) from by decide)) | (b_ + 8), h_, _ => exact absurd h_ (by omega)
    ·intro b hb hh
     match b, hb, hh with | 0, _, hh => exact rfl | 1, _, hh => exact (absurd (show 1 ≤ 1 ∧ 1 < 1 + 1 from by decide) hh) | 2, _, hh => exact rfl | 3, _, hh => exact rfl | 4, _, hh => exact rfl | 5, _, hh => exact rfl | 6, _, hh => exact rfl | 7, _, hh => exact rfl | (b_ + 8), h_, _ => exact absurd h_ (by omega)
   cbv
   replace h := of_req h
   obtain ⟨c20, h⟩ := h
   refine ⟨⟨c20, trivial⟩, ?_⟩
   replace h := of_req h
   obtain ⟨c37, h⟩ := h
   replace h := of_let h
   obtain ⟨l21, hl21, h⟩ := h
   refine And.intro (by first | exact (by subst hA; exact idx_lt c20) | (refine And.intro (by subst hA; exact idx_lt c20) ?_; first | trivial | exact ⟨trivial, trivial⟩)) ?_
   refine ⟨_, rfl, _, row GD (encInstance) l21, rfl, ?_, ?_⟩
   ·subst hGD hLEN hA
    rw [c37] at c20
    refine upd_set hl21 (idx_lt c20) ?_ ?_
    ·intro b hb hh
     match b, hb, hh with | 0, _, hh => exact (absurd hh (show ¬ (2 ≤ 0 ∧ 0 < 2 + 1) from by decide)) | 1, _, hh => exact (absurd hh (show ¬ (2 ≤ 1 ∧ 1 < 2 + 1) from by decide)) | 2, _, hh => exact rfl | 3, _, hh => exact (absurd hh (show ¬ (2 ≤ 3 ∧ 3 < 2 + 1) from by decide)) | 4, _, hh => exact (absurd hh (show ¬ (2 ≤ 4 ∧ 4 < 2 + 1) from by decide)) | 5, _, hh => exact (absurd hh (show ¬ (2 ≤ 5 ∧ 5 < 2 + 1) from by decide)) | 6, _, hh => exact (absurd hh (show ¬ (2 ≤ 6 ∧ 6 < 2 + 1) from by decide)) | 7, _, hh => exact (absurd hh (show ¬ (2 ≤ 7 ∧ 7 < 2 + 1) from by decide)) | (b_ + 8), h_, _ => exact absurd h_ (by omega)
    ·intro b hb hh
     match b, hb, hh with | 0, _, hh => exact rfl | 1, _, hh => exact rfl | 2, _, hh => exact (absurd (show 2 ≤ 2 ∧ 2 < 2 + 1 from by decide) hh) | 3, _, hh => exact rfl | 4, _, hh => exact rfl | 5, _, hh => exact rfl | 6, _, hh => exact rfl | 7, _, hh => exact rfl | (b_ + 8), h_, _ => exact absurd h_ (by omega)
   cbv
   replace h := of_req h
   obtain ⟨c22, h⟩ := h
   refine ⟨⟨c22, trivial⟩, ?_⟩
   replace h := of_req h
   obtain ⟨c36, h⟩ := h
   replace h := of_let h
   obtain ⟨l23, hl23, h⟩ := h
   refine And.intro (by first | exact (by subst hA; exact idx_lt c22) | (refine And.intro (by subst hA; exact idx_lt c22) ?_; first | trivial | exact ⟨trivial, trivial⟩)) ?_
   refine ⟨_, rfl, _, row GD (encInstance) l23, rfl, ?_, ?_⟩
   ·subst hGD hLEN hA
    rw [c36] at c22
    refine upd_set hl23 (idx_lt c22) ?_ ?_
    ·intro b hb hh
     match b, hb, hh with | 0, _, hh => exact (absurd hh (show ¬ (3 ≤ 0 ∧ 0 < 3 + 1) from by decide)) | 1, _, hh => exact (absurd hh (show ¬ (3 ≤ 1 ∧ 1 < 3 + 1) from by decide)) | 2, _, hh => exact (absurd hh (show ¬ (3 ≤ 2 ∧ 2 < 3 + 1) from by decide)) | 3, _, hh => exact rfl | 4, _, hh => exact (absurd hh (show ¬ (3 ≤ 4 ∧ 4 < 3 + 1) from by decide)) | 5, _, hh => exact (absurd hh (show ¬ (3 ≤ 5 ∧ 5 < 3 + 1) from by decide)) | 6, _, hh => exact (absurd hh (show ¬ (3 ≤ 6 ∧ 6 < 3 + 1) from by decide)) | 7, _, hh => exact (absurd hh (show ¬ (3 ≤ 7 ∧ 7 < 3 + 1) from by decide)) | (b_ + 8), h_, _ => exact absurd h_ (by omega)
    ·intro b hb hh
     match b, hb, hh with | 0, _, hh => exact rfl | 1, _, hh => exact rfl | 2, _, hh => exact rfl | 3, _, hh => exact (absurd (show 3 ≤ 3 ∧ 3 < 3 + 1 from by decide) hh) | 4, _, hh => exact rfl | 5, _, hh => exact rfl | 6, _, hh => exact rfl | 7, _, hh => exact rfl | (b_ + 8), h_, _ => exact absurd h_ (by omega)
   cbv
   replace h := of_req h
   obtain ⟨c24, h⟩ := h
   refine ⟨⟨c24, trivial⟩, ?_⟩
   replace h := of_req h
   obtain ⟨c35, h⟩ := h
   replace h := of_let h
   obtain ⟨l25, hl25, h⟩ := h
   refine And.intro (by first | exact (by subst hA; exact idx_lt c24) | (refine And.intro (by subst hA; exact idx_lt c24) ?_; first | trivial | exact ⟨trivial, trivial⟩)) ?_
   refine ⟨_, rfl, _, row GD (encInstance) l25, rfl, ?_, ?_⟩
   ·subst hGD hLEN hA
    rw [c35] at c24
    refine upd_set hl25 (idx_lt c24) ?_ ?_
    ·intro b hb hh
     match b, hb, hh with | 0, _, hh => exact (absurd hh (show ¬ (4 ≤ 0 ∧ 0 < 4 + 1) from by decide)) | 1, _, hh => exact (absurd hh (show ¬ (4 ≤ 1 ∧ 1 < 4 + 1) from by decide)) | 2, _, hh => exact (absurd hh (show ¬ (4 ≤ 2 ∧ 2 < 4 + 1) from by decide)) | 3, _, hh => exact (absurd hh (show ¬ (4 ≤ 3 ∧ 3 < 4 + 1) from by decide)) | 4, _, hh => exact rfl | 5, _, hh => exact (absurd hh (show ¬ (4 ≤ 5 ∧ 5 < 4 + 1) from by decide)) | 6, _, hh => exact (absurd hh (show ¬ (4 ≤ 6 ∧ 6 < 4 + 1) from by decide)) | 7, _, hh => exact (absurd hh (show ¬ (4 ≤ 7 ∧ 7 < 4 + 1) from by decide)) | (b_ + 8), h_, _ => exact absurd h_ (by omega)
    ·intro b hb hh
     match b, hb, hh with | 0, _, hh => exact rfl | 1, _, hh => exact rfl | 2, _, hh => exact rfl | 3, _, hh => exact rfl | 4, _, hh => exact (absurd (show 4 ≤ 4 ∧ 4 < 4 + 1 from by decide) hh) | 5, _, hh => exact rfl | 6, _, hh => exact rfl | 7, _, hh => exact rfl | (b_ + 8), h_, _ => exact absurd h_ (by omega)
   cbv
   replace h := of_req h
   obtain ⟨c26, h⟩ := h
   refine ⟨⟨c26, trivial⟩, ?_⟩
   replace h := of_req h
   obtain ⟨c34, h⟩ := h
   replace h := of_let h
   obtain ⟨l27, hl27, h⟩ := h
   refine And.intro (by first | exact (by subst hA; exact idx_lt c26) | (refine And.intro (by subst hA; exact idx_lt c26) ?_; first | trivial | exact ⟨trivial, trivial⟩)) ?_
   refine ⟨_, rfl, _, row GD (encInstance) l27, rfl, ?_, ?_⟩
   ·subst hGD hLEN hA
    rw [c34] at c26
    refine upd_set hl27 (idx_lt c26) ?_ ?_
    ·intro b hb hh
     match b, hb, hh with | 0, _, hh => exact (absurd hh (show ¬ (5 ≤ 0 ∧ 0 < 5 + 1) from by decide)) | 1, _, hh => exact (absurd hh (show ¬ (5 ≤ 1 ∧ 1 < 5 + 1) from by decide)) | 2, _, hh => exact (absurd hh (show ¬ (5 ≤ 2 ∧ 2 < 5 + 1) from by decide)) | 3, _, hh => exact (absurd hh (show ¬ (5 ≤ 3 ∧ 3 < 5 + 1) from by decide)) | 4, _, hh => exact (absurd hh (show ¬ (5 ≤ 4 ∧ 4 < 5 + 1) from by decide)) | 5, _, hh => exact rfl | 6, _, hh => exact (absurd hh (show ¬ (5 ≤ 6 ∧ 6 < 5 + 1) from by decide)) | 7, _, hh => exact (absurd hh (show ¬ (5 ≤ 7 ∧ 7 < 5 + 1) from by decide)) | (b_ + 8), h_, _ => exact absurd h_ (by omega)
    ·intro b hb hh
     match b, hb, hh with | 0, _, hh => exact rfl | 1, _, hh => exact rfl | 2, _, hh => exact rfl | 3, _, hh => exact rfl | 4, _, hh => exact rfl | 5, _, hh => exact (absurd (show 5 ≤ 5 ∧ 5 < 5 + 1 from by decide) hh) | 6, _, hh => exact rfl | 7, _, hh => exact rfl | (b_ + 8), h_, _ => exact absurd h_ (by omega)
   cbv
   replace h := of_req h
   obtain ⟨c28, h⟩ := h
   refine ⟨⟨c28, trivial⟩, ?_⟩
   replace h := of_req h
   obtain ⟨c33, h⟩ := h
   replace h := of_let h
   obtain ⟨l29, hl29, h⟩ := h
   refine And.intro (by first | exact (by subst hA; exact idx_lt c28) | (refine And.intro (by subst hA; exact idx_lt c28) ?_; first | trivial | exact ⟨trivial, trivial⟩)) ?_
   refine ⟨_, rfl, _, row GD (encInstance) l29, rfl, ?_, ?_⟩
   ·subst hGD hLEN hA
    rw [c33] at c28
    refine upd_set hl29 (idx_lt c28) ?_ ?_
    ·intro b hb hh
     match b, hb, hh with | 0, _, hh => exact (absurd hh (show ¬ (6 ≤ 0 ∧ 0 < 6 + 1) from by decide)) | 1, _, hh => exact (absurd hh (show ¬ (6 ≤ 1 ∧ 1 < 6 + 1) from by decide)) | 2, _, hh => exact (absurd hh (show ¬ (6 ≤ 2 ∧ 2 < 6 + 1) from by decide)) | 3, _, hh => exact (absurd hh (show ¬ (6 ≤ 3 ∧ 3 < 6 + 1) from by decide)) | 4, _, hh => exact (absurd hh (show ¬ (6 ≤ 4 ∧ 4 < 6 + 1) from by decide)) | 5, _, hh => exact (absurd hh (show ¬ (6 ≤ 5 ∧ 5 < 6 + 1) from by decide)) | 6, _, hh => exact rfl | 7, _, hh => exact (absurd hh (show ¬ (6 ≤ 7 ∧ 7 < 6 + 1) from by decide)) | (b_ + 8), h_, _ => exact absurd h_ (by omega)
    ·intro b hb hh
     match b, hb, hh with | 0, _, hh => exact rfl | 1, _, hh => exact rfl | 2, _, hh => exact rfl | 3, _, hh => exact rfl | 4, _, hh => exact rfl | 5, _, hh => exact rfl | 6, _, hh => exact (absurd (show 6 ≤ 6 ∧ 6 < 6 + 1 from by decide) hh) | 7, _, hh => exact rfl | (b_ + 8), h_, _ => exact absurd h_ (by omega)
   cbv
   replace h := of_req h
   obtain ⟨c30, h⟩ := h
   refine ⟨⟨c30, trivial⟩, ?_⟩
   replace h := of_req h
   obtain ⟨c32, h⟩ := h
   replace h := of_let h
   obtain ⟨l31, hl31, h⟩ := h
   refine And.intro (by first | exact (by subst hA; exact idx_lt c30) | (refine And.intro (by subst hA; exact idx_lt c30) ?_; first | trivial | exact ⟨trivial, trivial⟩)) ?_
   refine ⟨_, rfl, _, row GD (encInstance) l31, rfl, ?_, ?_⟩
   ·subst hGD hLEN hA
    rw [c32] at c30
    refine upd_set hl31 (idx_lt c30) ?_ ?_
    ·intro b hb hh
     match b, hb, hh with | 0, _, hh => exact (absurd hh (show ¬ (7 ≤ 0 ∧ 0 < 7 + 1) from by decide)) | 1, _, hh => exact (absurd hh (show ¬ (7 ≤ 1 ∧ 1 < 7 + 1) from by decide)) | 2, _, hh => exact (absurd hh (show ¬ (7 ≤ 2 ∧ 2 < 7 + 1) from by decide)) | 3, _, hh => exact (absurd hh (show ¬ (7 ≤ 3 ∧ 3 < 7 + 1) from by decide)) | 4, _, hh => exact (absurd hh (show ¬ (7 ≤ 4 ∧ 4 < 7 + 1) from by decide)) | 5, _, hh => exact (absurd hh (show ¬ (7 ≤ 5 ∧ 5 < 7 + 1) from by decide)) | 6, _, hh => exact (absurd hh (show ¬ (7 ≤ 6 ∧ 6 < 7 + 1) from by decide)) | 7, _, hh => exact rfl | (b_ + 8), h_, _ => exact absurd h_ (by omega)
    ·intro b hb hh
     match b, hb, hh with | 0, _, hh => exact rfl | 1, _, hh => exact rfl | 2, _, hh => exact rfl | 3, _, hh => exact rfl | 4, _, hh => exact rfl | 5, _, hh => exact rfl | 6, _, hh => exact rfl | 7, _, hh => exact (absurd (show 7 ≤ 7 ∧ 7 < 7 + 1 from by decide) hh) | (b_ + 8), h_, _ => exact absurd h_ (by omega)
   cbv
   injection h with h
   refine hK10 _ h.symm _ ?_
   exact le_sparse rfl ⟨lR _, lR _, lR _, trivial⟩ ⟨oS, trivial⟩ rfl
  ·replace h := of_br_f b40 h
   cbv
   injection h with h
   refine hY8 _ h.symm _ _ (And.intro rfl ?_) (by intro hh; cases hh)
   exact le_sparse rfl ⟨lR _, trivial⟩ ⟨oS, trivial⟩ rfl
 ·clear hr6
  have h := hN7
  clear hN7
  intro e14 s15 q13 hne
  replace h := of_let h
  obtain ⟨y5k0, hyk, h⟩ := h
  have hyk : y5k0 = y5 := hyk
  subst hyk
  obtain ⟨rfl, q13⟩ := q13
  obtain ⟨y5k0_0, y5k0_1⟩ := y5k0
  replace h := of_let h
  obtain ⟨w41, hw41, h⟩ := h
  have hw41 : w41 = y5k0_0 := hw41
  subst hw41
  replace h := of_let h
  obtain ⟨w42, hw42, h⟩ := h
  have hw42 : w42 = y5k0_1 := hw42
  subst hw42
  cbv
  refine ⟨_, q13, ?_⟩
  cbv
  replace h := of_req h
  obtain ⟨c43, h⟩ := h
  injection h with h
  subst h
  refine ⟨(sparse 72 [(4, .c (.v (.int .i64 w41)))] [(5, .arr .rw [] (LEN w42) 8 (row GD (encInstance) w42))]), ?_, ?_⟩
  ·rw [c43]
   exact le_sparse rfl ⟨lR _, trivial⟩ ⟨oS, trivial⟩ rfl
  ·exact ⟨lR _, ⟨oS, trivial⟩, rfl⟩

noncomputable def L_laws_markCellS_mob_x4 (a0 : List TCell) : (Int × Int × (List TCell)) → Option ((Int × Int × (List TCell)) ⊕ ((Int × (List TCell)))) := fun x4 =>
 letO x4.1 fun v1 =>
 letO x4.2.1 fun v2 =>
 letO x4.2.2 fun v3 =>
 br (std.lt v2 (std.ofN (len a0)))
 (((
    (F_laws_markText v1).bind fun y23 =>
    req (std.inR v2 (len a0)) <|
    req (len a0 = len v3) <|
    letO (List.set v3 (std.nadd 0 (std.toN v2)) (TCell.mk y23 (gd v3 (std.nadd 0 (std.toN v2))).fShapes (gd v3 (std.nadd 0 (std.toN v2))).fLabels (gd v3 (std.nadd 0 (std.toN v2))).fInstances)) fun l26 =>
    some l26
  ) : Option ((List TCell))).bind fun y16 =>
 letO y16 fun w22 =>
 ((
    req (std.inR v2 (len a0)) <|
    (F_laws_markShapeS_mob (gd w22 (std.nadd 0 (std.toN v2))).fShapes (std.add .i64 v1 1)).bind fun y37 =>
    req (len y37.2 = len (gd w22 (std.nadd 0 (std.toN v2))).fShapes) <|
    req (len a0 = len w22) <|
    letO (List.set w22 (std.nadd 0 (std.toN v2)) (TCell.mk (gd w22 (std.nadd 0 (std.toN v2))).fName y37.2 (gd w22 (std.nadd 0 (std.toN v2))).fLabels (gd w22 (std.nadd 0 (std.toN v2))).fInstances)) fun l39 =>
    some (y37.1, l39)
  ) : Option (Int × (List TCell))).bind fun y28 =>
 letO y28.1 fun w34 =>
 letO y28.2 fun w35 =>
 ((
    req (std.inR v2 (len a0)) <|
    (F_laws_markLabelS_mob (gd w35 (std.nadd 0 (std.toN v2))).fLabels w34).bind fun y51 =>
    req (len y51.2 = len (gd w35 (std.nadd 0 (std.toN v2))).fLabels) <|
    req (len a0 = len w35) <|
    letO (List.set w35 (std.nadd 0 (std.toN v2)) (TCell.mk (gd w35 (std.nadd 0 (std.toN v2))).fName (gd w35 (std.nadd 0 (std.toN v2))).fShapes y51.2 (gd w35 (std.nadd 0 (std.toN v2))).fInstances)) fun l53 =>
    some (y51.1, l53)
  ) : Option (Int × (List TCell))).bind fun y42 =>
 letO y42.1 fun w48 =>
 letO y42.2 fun w49 =>
 ((
    req (std.inR v2 (len a0)) <|
    (F_laws_markInstanceS_mob (gd w49 (std.nadd 0 (std.toN v2))).fInstances w48).bind fun y65 =>
    req (len y65.2 = len (gd w49 (std.nadd 0 (std.toN v2))).fInstances) <|
    req (len a0 = len w49) <|
    letO (List.set w49 (std.nadd 0 (std.toN v2)) (TCell.mk (gd w49 (std.nadd 0 (std.toN v2))).fName (gd w49 (std.nadd 0 (std.toN v2))).fShapes (gd w49 (std.nadd 0 (std.toN v2))).fLabels y65.2)) fun l67 =>
    some (y65.1, l67)
  ) : Option (Int × (List TCell))).bind fun y56 =>
 letO y56.1 fun w62 =>
 letO y56.2 fun w63 =>
 some (.inl (w62, std.add .i64 v2 1, w63)))
 (some (.inr (v1, v3)))
/-- laws.markCellS -/
noncomputable def F_laws_markCellS_mob (a0 : List TCell) (a1 : Int) : Option (Int × (List TCell)) :=
 (whileP (σ := Int × Int × (List TCell)) (ρ := (Int × (List TCell))) (L_laws_markCellS_mob_x4 a0) (a1, 0, a0)).bind fun y5 =>
 letO y5 fun y5k0 =>
 letO y5k0.1 fun w71 =>
 letO y5k0.2 fun w72 =>
 req (len a0 = len w72) <|
 some (w71, w72)
theorem run_laws_markCellS_mob (a0 : List TCell) (a1 : Int) (r : Int × (List TCell)) (h : F_laws_markCellS_mob a0 a1 = some r) : Fun Tryz.prog 40 [.c (.os 5 0 (len a0)), .c (.v (.int .i64 a1))] [(5, .arr .rw [] (len a0) 4 (row gd (oncCell len gd) a0))] (.c (.v (.int .i64 r.1))) [(5, .arr .rw [] (len r.2) 4 (row gd (oncCell len gd) r.2))] true := by
 refine Fun.of_wp (oneOf [4, 6, 7, 8]) tok mixed Tryz.func40 (by kernel_rfl) rfl Tryz.ntmps40 rfl ⟨fun i _ j _ k hk => (noref (rf_oncCell _ _) hk).elim, trivial⟩ (fun _ => ⟨trivial, ⟨fun i _ j _ => fl_oncCell _ _, trivial⟩⟩) ?_
 unfold F_laws_markCellS_mob at h
 unfold L_laws_markCellS_mob_x4 at h
 have hf_laws_markInstanceS_mob := @run_laws_markInstanceS_mob
 have hf_laws_markLabelS_mob := @run_laws_markLabelS_mob
 have hf_laws_markShapeS_mob := @run_laws_markShapeS_mob
 have hf_laws_markText := @run_laws_markText
 generalize hLEN : @len = LEN at *
 generalize hGD : @gd = GD at *
 generalize hA : std = A at *
 generalize hP : Tryz.prog = P at *
 cbv
 replace h := of_bind h
 obtain ⟨y5, hr6, hN7⟩ := h
 refine loop_cut hr6 (fun x => (sparse 42 [(0, .c (.os 5 0 (LEN a0))), (1, .c (.v (.int .i64 x.1))), (5, .c (.v (.int .i64 x.2.1)))] [(5, .arr .rw [] (LEN a0) 4 (row GD (oncCell LEN GD) x.2.2))])) ?_ (fun y e s => (fun (w : Int × (List TCell)) => e = .exit 0 ∧ s.le (sparse 42 [(1, .c (.v (.int .i64 w.1)))] [(5, .arr .rw [] (LEN a0) 4 (row GD (oncCell LEN GD) w.2))])) y) ?_ ?_
 ·clear hr6 hN7
  show St.le _ _
  exact le_sparse rfl ⟨lR _, lR _, lR _, trivial⟩ ⟨oS, trivial⟩ rfl
 ·clear hr6 hN7
  intro x z11 h K9 hK10 hY8
  obtain ⟨x0_, x1_, x2_⟩ := x
  replace h := of_let h
  obtain ⟨v1, hv1, h⟩ := h
  have hv1 : v1 = x0_ := hv1
  subst hv1
  replace h := of_let h
  obtain ⟨v2, hv2, h⟩ := h
  have hv2 : v2 = x1_ := hv2
  subst hv2
  replace h := of_let h
  obtain ⟨v3, hv3, h⟩ := h
  have hv3 : v3 = x2_ := hv3
  subst hv3
  cbv
  refine fork (fun b70 => ?_) (fun b70 => ?_)
  ·replace h := of_br_t b70 h
   cbv
   replace h := of_bind h
   obtain ⟨y16, hy17, h⟩ := h
   obtain ⟨S20, hS21⟩ : ∃ S, S = (sparse 42 [(0, .c (.os 5 0 (LEN a0))), (1, .c (.v (.int .i64 v1))), (5, .c (.v (.int .i64 v2)))] [(5, .arr .rw [] (LEN a0) 4 (row GD (oncCell LEN GD) y16))]) := ⟨_, rfl⟩
   refine ⟨S20, ?_, ?_⟩
   ·clear h
    have h := hy17
    clear hy17
    cbv
    replace h := of_bind h
    obtain ⟨y23, hy24, h⟩ := h
    refine ⟨{ args := [.c (.v (.int .i64 v1))], o0 := [], r := .c (.v (.string y23)), o1 := [], fl := true, σ := [], τ := [] }, hf_laws_markText _ _ hy24, ⟨les_cons (lR _) (les_nil), trivial, rfl, rfl, rfl, rfl, trivial, rfl⟩, ?_⟩
    cbv
    replace h := of_req h
    obtain ⟨c25, h⟩ := h
    refine ⟨⟨c25, trivial⟩, ?_⟩
    refine And.intro (by first | exact (by subst hA; exact idx_lt c25) | (refine And.intro (by subst hA; exact idx_lt c25) ?_; first | trivial | exact ⟨trivial, trivial⟩)) ?_
    refine ⟨_, rfl, _, (patchC (row GD (oncCell LEN GD) v3) (A.nadd 0 (A.toN v2)) [.v (.string y23), .ow (LEN (GD v3 (A.nadd 0 (A.toN v2))).fShapes) 5 (row GD (encShape) (GD v3 (A.nadd 0 (A.toN v2))).fShapes), .ow (LEN (GD v3 (A.nadd 0 (A.toN v2))).fLabels) 4 (row GD (encLabel) (GD v3 (A.nadd 0 (A.toN v2))).fLabels), .ow (LEN (GD v3 (A.nadd 0 (A.toN v2))).fInstances) 8 (row GD (encInstance) (GD v3 (A.nadd 0 (A.toN v2))).fInstances)]), rfl, ?_, ?_⟩
    ·refine patch_of ?_
     intro j hj
     match j, hj with | 0, _ => (rfl) | 1, _ => (rfl) | 2, _ => (rfl) | 3, _ => (rfl) | (j_ + 4), h_ => exact absurd h_ (by omega)
    cbv
    replace h := of_req h
    obtain ⟨c27, h⟩ := h
    replace h := of_let h
    obtain ⟨l26, hl26, h⟩ := h
    injection h with h
    subst h
    subst hS21
    show St.le _ _
    exact le_sparse rfl ⟨lR _, lR _, lR _, trivial⟩ ⟨⟨fun hw => hw, fun c hc => (by cases hc), .inr (fun i _ j _ z hz => (noref (rf_oncCell _ _) hz).elim), rfl, rfl, (by subst hGD hLEN hA; exact patch_set hl26 (idx_lt (by rw [← c27]; exact c25)) (by intro j hj; match j, hj with | 0, _ => rfl | 1, _ => rfl | 2, _ => rfl | 3, _ => rfl | (j_ + 4), h_ => exact absurd h_ (by omega)))⟩, trivial⟩ rfl
   ·clear hy17
    subst hS21
    replace h := of_let h
    obtain ⟨w22, hw22, h⟩ := h
    have hw22 : w22 = y16 := hw22
    subst hw22
    cbv
    replace h := of_bind h
    obtain ⟨y28, hy29, h⟩ := h
    obtain ⟨S32, hS33⟩ : ∃ S, S = (sparse 42 [(0, .c (.os 5 0 (LEN a0))), (1, .c (.v (.int .i64 y28.1))), (5, .c (.v (.int .i64 v2)))] [(5, .arr .rw [] (LEN a0) 4 (row GD (oncCell LEN GD) y28.2))]) := ⟨_, rfl⟩
    refine ⟨S32, ?_, ?_⟩
    ·clear h
     have h := hy29
     clear hy29
     cbv
     replace h := of_req h
     obtain ⟨c36, h⟩ := h
     refine ⟨⟨c36, trivial⟩, ?_⟩
     refine And.intro (by first | exact (by subst hA; exact idx_lt c36) | (refine And.intro (by subst hA; exact idx_lt c36) ?_; first | trivial | exact ⟨trivial, trivial⟩)) ?_
     refine ⟨_, rfl, _, (patchC (row GD (oncCell LEN GD) w22) (A.nadd 0 (A.toN v2)) [.v (.string (GD w22 (A.nadd 0 (A.toN v2))).fName), .os 1538 0 (LEN (GD w22 (A.nadd 0 (A.toN v2))).fShapes), .ow (LEN (GD w22 (A.nadd 0 (A.toN v2))).fLabels) 4 (row GD (encLabel) (GD w22 (A.nadd 0 (A.toN v2))).fLabels), .ow (LEN (GD w22 (A.nadd 0 (A.toN v2))).fInstances) 8 (row GD (encInstance) (GD w22 (A.nadd 0 (A.toN v2))).fInstances)]), rfl, ?_, ?_⟩
     ·refine patch_of ?_
      intro j hj
      match j, hj with | 0, _ => (rfl) | 1, _ => (rfl) | 2, _ => (rfl) | 3, _ => (rfl) | (j_ + 4), h_ => exact absurd h_ (by omega)
     refine ⟨_, row GD (encShape) (GD w22 (A.nadd 0 (A.toN v2))).fShapes, rfl, ?_, ?_⟩
     ·exact fun i _ j _ => plain_cp (pl_encShape _ _)
     cbv
     replace h := of_bind h
     obtain ⟨y37, hy38, h⟩ := h
     replace h := of_req h
     obtain ⟨c41, h⟩ := h
     refine ⟨{ args := [.c (.os 5 0 (LEN (GD w22 (A.nadd 0 (A.toN v2))).fShapes)), .c (.v (.int .i64 (A.add .i64 v1 1)))], o0 := [(5, .arr .rw [] (LEN (GD w22 (A.nadd 0 (A.toN v2))).fShapes) 5 (row GD (encShape) (GD w22 (A.nadd 0 (A.toN v2))).fShapes))], r := .c (.v (.int .i64 y37.1)), o1 := [(5, .arr .rw [] (LEN y37.2) 5 (row GD (encShape) y37.2))], fl := true, σ := [(5, 1538)], τ := [(5, 1538)] }, hf_laws_markShapeS_mob _ _ _ hy38, ⟨les_cons (lR _) (les_cons (lR _) (les_nil)), ⟨oS, trivial⟩, rfl, rfl, rfl, rfl, ⟨fun _ => ⟨c41.symm, rfl, fun c h => h⟩, trivial⟩, rfl⟩, _, rfl, LEN (GD w22 (A.nadd 0 (A.toN v2))).fShapes, _, c41, fun _ _ _ _ => rfl, ?_⟩
     cbv
     replace h := of_req h
     obtain ⟨c40, h⟩ := h
     replace h := of_let h
     obtain ⟨l39, hl39, h⟩ := h
     injection h with h
     subst h
     subst hS33
     show St.le _ _
     refine St.le_trans (le_foldP 5 1 1538 rfl rfl rfl (by decide) (by subst hA; exact idx_lt c36) (by decide) rfl (fun _ _ => rf_oncCell _ _)) ?_
     exact le_sparse rfl ⟨lR _, lR _, lR _, trivial⟩ ⟨⟨fun hw => hw, fun c hc => (by cases hc), .inr (fun i _ j _ z hz => (noref (rf_oncCell _ _) hz).elim), rfl, rfl, (by subst hGD hLEN hA; exact patch_set hl39 (idx_lt (by rw [← c40]; exact c36)) (by intro j hj; match j, hj with | 0, _ => rfl | 1, _ => exact (by first | rfl | exact congrArg (fun n => AC.ow n _ _) (Eq.symm (by assumption))) | 2, _ => rfl | 3, _ => rfl | (j_ + 4), h_ => exact absurd h_ (by omega)))⟩, trivial⟩ rfl
    ·clear hy29
     subst hS33
     obtain ⟨y28_0, y28_1⟩ := y28
     replace h := of_let h
     obtain ⟨w34, hw34, h⟩ := h
     have hw34 : w34 = y28_0 := hw34
     subst hw34
     replace h := of_let h
     obtain ⟨w35, hw35, h⟩ := h
     have hw35 : w35 = y28_1 := hw35
     subst hw35
     cbv
     replace h := of_bind h
     obtain ⟨y42, hy43, h⟩ := h
     obtain ⟨S46, hS47⟩ : ∃ S, S = (sparse 42 [(0, .c (.os 5 0 (LEN a0))), (1, .c (.v (.int .i64 y42.1))), (5, .c (.v (.int .i64 v2)))] [(5, .arr .rw [] (LEN a0) 4 (row GD (oncCell LEN GD) y42.2))]) := ⟨_, rfl⟩
     refine ⟨S46, ?_, ?_⟩
     ·clear h
      have h := hy43
      clear hy43
      cbv
      replace h := of_req h
      obtain ⟨c50, h⟩ := h
      refine ⟨⟨c50, trivial⟩, ?_⟩
      refine And.intro (by first | exact (by subst hA; exact idx_lt c50) | (refine And.intro (by subst hA; exact idx_lt c50) ?_; first | trivial | exact ⟨trivial, trivial⟩)) ?_
      refine ⟨_, rfl, _, (patchC (row GD (oncCell LEN GD) w35) (A.nadd 0 (A.toN v2)) [.v (.string (GD w35 (A.nadd 0 (A.toN v2))).fName), .ow (LEN (GD w35 (A.nadd 0 (A.toN v2))).fShapes) 5 (row GD (encShape) (GD w35 (A.nadd 0 (A.toN v2))).fShapes), .os 1986 0 (LEN (GD w35 (A.nadd 0 (A.toN v2))).fLabels), .ow (LEN (GD w35 (A.nadd 0 (A.toN v2))).fInstances) 8 (row GD (encInstance) (GD w35 (A.nadd 0 (A.toN v2))).fInstances)]), rfl, ?_, ?_⟩
      ·refine patch_of ?_
       intro j hj
       match j, hj with | 0, _ => (rfl) | 1, _ => (rfl) | 2, _ => (rfl) | 3, _ => (rfl) | (j_ + 4), h_ => exact absurd h_ (by omega)
      refine ⟨_, row GD (encLabel) (GD w35 (A.nadd 0 (A.toN v2))).fLabels, rfl, ?_, ?_⟩
      ·exact fun i _ j _ => plain_cp (pl_encLabel _ _)
      cbv
      replace h := of_bind h
      obtain ⟨y51, hy52, h⟩ := h
      replace h := of_req h
      obtain ⟨c55, h⟩ := h
      refine ⟨{ args := [.c (.os 5 0 (LEN (GD w35 (A.nadd 0 (A.toN v2))).fLabels)), .c (.v (.int .i64 w34))], o0 := [(5, .arr .rw [] (LEN (GD w35 (A.nadd 0 (A.toN v2))).fLabels) 4 (row GD (encLabel) (GD w35 (A.nadd 0 (A.toN v2))).fLabels))], r := .c (.v (.int .i64 y51.1)), o1 := [(5, .arr .rw [] (LEN y51.2) 4 (row GD (encLabel) y51.2))], fl := true, σ := [(5, 1986)], τ := [(5, 1986)] }, hf_laws_markLabelS_mob _ _ _ hy52, ⟨les_cons (lR _) (les_cons (lR _) (les_nil)), ⟨oS, trivial⟩, rfl, rfl, rfl, rfl, ⟨fun _ => ⟨c55.symm, rfl, fun c h => h⟩, trivial⟩, rfl⟩, _, rfl, LEN (GD w35 (A.nadd 0 (A.toN v2))).fLabels, _, c55, fun _ _ _ _ => rfl, ?_⟩
      cbv
      replace h := of_req h
      obtain ⟨c54, h⟩ := h
      replace h := of_let h
      obtain ⟨l53, hl53, h⟩ := h
      injection h with h
      subst h
      subst hS47
      show St.le _ _
      refine St.le_trans (le_foldP 5 2 1986 rfl rfl rfl (by decide) (by subst hA; exact idx_lt c50) (by decide) rfl (fun _ _ => rf_oncCell _ _)) ?_
      exact le_sparse rfl ⟨lR _, lR _, lR _, trivial⟩ ⟨⟨fun hw => hw, fun c hc => (by cases hc), .inr (fun i _ j _ z hz => (noref (rf_oncCell _ _) hz).elim), rfl, rfl, (by subst hGD hLEN hA; exact patch_set hl53 (idx_lt (by rw [← c54]; exact c50)) (by intro j hj; match j, hj with | 0, _ => rfl | 1, _ => rfl | 2, _ => exact (by first | rfl | exact congrArg (fun n => AC.ow n _ _) (Eq.symm (by assumption))) | 3, _ => rfl | (j_ + 4), h_ => exact absurd h_ (by omega)))⟩, trivial⟩ rfl
     ·clear hy43
      subst hS47
      obtain ⟨y42_0, y42_1⟩ := y42
      replace h := of_let h
      obtain ⟨w48, hw48, h⟩ := h
      have hw48 : w48 = y42_0 := hw48
      subst hw48
      replace h := of_let h
      obtain ⟨w49, hw49, h⟩ := h
      have hw49 : w49 = y42_1 := hw49
      subst hw49
      cbv
      replace h := of_bind h
      obtain ⟨y56, hy57, h⟩ := h
      obtain ⟨S60, hS61⟩ : ∃ S, S = (sparse 42 [(0, .c (.os 5 0 (LEN a0))), (1, .c (.v (.int .i64 y56.1))), (5, .c (.v (.int .i64 v2)))] [(5, .arr .rw [] (LEN a0) 4 (row GD (oncCell LEN GD) y56.2))]) := ⟨_, rfl⟩
      refine ⟨S60, ?_, ?_⟩
      ·clear h
       have h := hy57
       clear hy57
       cbv
       replace h := of_req h
       obtain ⟨c64, h⟩ := h
       refine ⟨⟨c64, trivial⟩, ?_⟩
       refine And.intro (by first | exact (by subst hA; exact idx_lt c64) | (refine And.intro (by subst hA; exact idx_lt c64) ?_; first | trivial | exact ⟨trivial, trivial⟩)) ?_
       refine ⟨_, rfl, _, (patchC (row GD (oncCell LEN GD) w49) (A.nadd 0 (A.toN v2)) [.v (.string (GD w49 (A.nadd 0 (A.toN v2))).fName), .ow (LEN (GD w49 (A.nadd 0 (A.toN v2))).fShapes) 5 (row GD (encShape) (GD w49 (A.nadd 0 (A.toN v2))).fShapes), .ow (LEN (GD w49 (A.nadd 0 (A.toN v2))).fLabels) 4 (row GD (encLabel) (GD w49 (A.nadd 0 (A.toN v2))).fLabels), .os 2434 0 (LEN (GD w49 (A.nadd 0 (A.toN v2))).fInstances)]), rfl, ?_, ?_⟩
       ·refine patch_of ?_
        intro j hj
        match j, hj with | 0, _ => (rfl) | 1, _ => (rfl) | 2, _ => (rfl) | 3, _ => (rfl) | (j_ + 4), h_ => exact absurd h_ (by omega)
       refine ⟨_, row GD (encInstance) (GD w49 (A.nadd 0 (A.toN v2))).fInstances, rfl, ?_, ?_⟩
       ·exact fun i _ j _ => plain_cp (pl_encInstance _ _)
       cbv
       replace h := of_bind h
       obtain ⟨y65, hy66, h⟩ := h
       replace h := of_req h
       obtain ⟨c69, h⟩ := h
       refine ⟨{ args := [.c (.os 5 0 (LEN (GD w49 (A.nadd 0 (A.toN v2))).fInstances)), .c (.v (.int .i64 w48))], o0 := [(5, .arr .rw [] (LEN (GD w49 (A.nadd 0 (A.toN v2))).fInstances) 8 (row GD (encInstance) (GD w49 (A.nadd 0 (A.toN v2))).fInstances))], r := .c (.v (.int .i64 y65.1)), o1 := [(5, .arr .rw [] (LEN y65.2) 8 (row GD (encInstance) y65.2))], fl := true, σ := [(5, 2434)], τ := [(5, 2434)] }, hf_laws_markInstanceS_mob _ _ _ hy66, ⟨les_cons (lR _) (les_cons (lR _) (les_nil)), ⟨oS, trivial⟩, rfl, rfl, rfl, rfl, ⟨fun _ => ⟨c69.symm, rfl, fun c h => h⟩, trivial⟩, rfl⟩, _, rfl, LEN (GD w49 (A.nadd 0 (A.toN v2))).fInstances, _, c69, fun _ _ _ _ => rfl, ?_⟩
       cbv
       replace h := of_req h
       obtain ⟨c68, h⟩ := h
       replace h := of_let h
       obtain ⟨l67, hl67, h⟩ := h
       injection h with h
       subst h
       subst hS61
       show St.le _ _
       refine St.le_trans (le_foldP 5 3 2434 rfl rfl rfl (by decide) (by subst hA; exact idx_lt c64) (by decide) rfl (fun _ _ => rf_oncCell _ _)) ?_
       exact le_sparse rfl ⟨lR _, lR _, lR _, trivial⟩ ⟨⟨fun hw => hw, fun c hc => (by cases hc), .inr (fun i _ j _ z hz => (noref (rf_oncCell _ _) hz).elim), rfl, rfl, (by subst hGD hLEN hA; exact patch_set hl67 (idx_lt (by rw [← c68]; exact c64)) (by intro j hj; match j, hj with | 0, _ => rfl | 1, _ => rfl | 2, _ => rfl | 3, _ => exact (by first | rfl | exact congrArg (fun n => AC.ow n _ _) (Eq.symm (by assumption))) | (j_ + 4), h_ => exact absurd h_ (by omega)))⟩, trivial⟩ rfl
      ·clear hy57
       subst hS61
       obtain ⟨y56_0, y56_1⟩ := y56
       replace h := of_let h
       obtain ⟨w62, hw62, h⟩ := h
       have hw62 : w62 = y56_0 := hw62
       subst hw62
       replace h := of_let h
       obtain ⟨w63, hw63, h⟩ := h
       have hw63 : w63 = y56_1 := hw63
       subst hw63
       cbv
       injection h with h
       refine hK10 _ h.symm _ ?_
       exact le_sparse rfl ⟨lR _, lR _, lR _, trivial⟩ ⟨oS, trivial⟩ rfl
  ·replace h := of_br_f b70 h
   cbv
   injection h with h
   refine hY8 _ h.symm _ _ (And.intro rfl ?_) (by intro hh; cases hh)
   exact le_sparse rfl ⟨lR _, trivial⟩ ⟨oS, trivial⟩ rfl
 ·clear hr6
  have h := hN7
  clear hN7
  intro e14 s15 q13 hne
  replace h := of_let h
  obtain ⟨y5k0, hyk, h⟩ := h
  have hyk : y5k0 = y5 := hyk
  subst hyk
  obtain ⟨rfl, q13⟩ := q13
  obtain ⟨y5k0_0, y5k0_1⟩ := y5k0
  replace h := of_let h
  obtain ⟨w71, hw71, h⟩ := h
  have hw71 : w71 = y5k0_0 := hw71
  subst hw71
  replace h := of_let h
  obtain ⟨w72, hw72, h⟩ := h
  have hw72 : w72 = y5k0_1 := hw72
  subst hw72
  cbv
  refine ⟨_, q13, ?_⟩
  cbv
  replace h := of_req h
  obtain ⟨c73, h⟩ := h
  injection h with h
  subst h
  refine ⟨(sparse 42 [(4, .c (.v (.int .i64 w71)))] [(5, .arr .rw [] (LEN w72) 4 (row GD (oncCell LEN GD) w72))]), ?_, ?_⟩
  ·rw [c73]
   exact le_sparse rfl ⟨lR _, trivial⟩ ⟨oS, trivial⟩ rfl
  ·exact ⟨lR _, ⟨oS, trivial⟩, rfl⟩

/-- laws.markLibrary -/
noncomputable def F_laws_markLibrary_mob (a0 : TLibrary) (a1 : Int) : Option (Int × (List TCell)) :=
 (F_laws_markCellS_mob a0.fCells a1).bind fun y1 =>
 req (len y1.2 = len a0.fCells) <|
 req (len a0.fCells = len y1.2) <|
 some (y1.1, y1.2)
theorem run_laws_markLibrary_mob (a0 : TLibrary) (a1 : Int) (r : Int × (List TCell)) (h : F_laws_markLibrary_mob a0 a1 = some r) : Fun Tryz.prog 13 [.agg [.os 5 0 (len a0.fCells)], .c (.v (.int .i64 a1))] [(5, .arr .rw [] (len a0.fCells) 4 (row gd (oncCell len gd) a0.fCells))] (.c (.v (.int .i64 r.1))) [(5, .arr .rw [] (len r.2) 4 (row gd (oncCell len gd) r.2))] true := by
 refine Fun.of_wp (oneOf []) tok mixed Tryz.func13 (by kernel_rfl) rfl Tryz.ntmps13 rfl ⟨fun i _ j _ k hk => (noref (rf_oncCell _ _) hk).elim, trivial⟩ (fun _ => ⟨trivial, ⟨fun i _ j _ => fl_oncCell _ _, trivial⟩⟩) ?_
 unfold F_laws_markLibrary_mob at h
 have hf_laws_markCellS_mob := @run_laws_markCellS_mob
 generalize hLEN : @len = LEN at *
 generalize hGD : @gd = GD at *
 generalize hA : std = A at *
 generalize hP : Tryz.prog = P at *
 cbv
 replace h := of_bind h
 obtain ⟨y1, hy2, h⟩ := h
 replace h := of_req h
 obtain ⟨c4, h⟩ := h
 refine ⟨{ args := [.c (.os 5 0 (LEN a0.fCells)), .c (.v (.int .i64 a1))], o0 := [(5, .arr .rw [] (LEN a0.fCells) 4 (row GD (oncCell LEN GD) a0.fCells))], r := .c (.v (.int .i64 y1.1)), o1 := [(5, .arr .rw [] (LEN y1.2) 4 (row GD (oncCell LEN GD) y1.2))], fl := true, σ := [(5, 5)], τ := [(5, 5)] }, hf_laws_markCellS_mob _ _ _ hy2, ⟨les_cons (lR _) (les_cons (lR _) (les_nil)), ⟨oS, trivial⟩, rfl, rfl, rfl, rfl, ⟨fun _ => ⟨c4.symm, rfl, fun c h => h⟩, trivial⟩, rfl⟩, _, rfl, LEN a0.fCells, _, c4, fun _ _ _ _ => rfl, ?_⟩
 cbv
 replace h := of_req h
 obtain ⟨c3, h⟩ := h
 injection h with h
 subst h
 refine ⟨(sparse 10 [(4, .c (.v (.int .i64 y1.1)))] [(5, .arr .rw [] (LEN y1.2) 4 (row GD (oncCell LEN GD) y1.2))]), ?_, ?_⟩
 ·rw [c3]
  exact le_sparse rfl ⟨lR _, trivial⟩ ⟨oS, trivial⟩ rfl
 ·exact ⟨lR _, ⟨oS, trivial⟩, rfl⟩

noncomputable def L_laws_heldLabelS_x3 (a0 : List TLabel) : (Int × Int) → Option ((Int × Int) ⊕ ((Int) ⊕ (Int))) := fun x3 =>
 letO x3.1 fun v1 =>
 letO x3.2 fun v2 =>
 br (std.lt v2 (std.ofN (len a0)))
 (req (std.inR v2 (len a0)) <|
 br (std.not (std.eq (gd a0 (std.toN v2)).fLayer v1))
 (some (.inr (.inl (-1))))
 (req (std.inR v2 (len a0)) <|
 br (std.not (std.eq (gd a0 (std.toN v2)).fAt.fX (std.add .i64 v1 1)))
 (some (.inr (.inl (-1))))
 (req (std.inR v2 (len a0)) <|
 br (std.not (std.eq (gd a0 (std.toN v2)).fAt.fY (std.add .i64 (std.add .i64 v1 1) 1)))
 (some (.inr (.inl (-1))))
 (req (std.inR v2 (len a0)) <|
 (F_laws_markText (std.add .i64 (std.add .i64 (std.add .i64 v1 1) 1) 1)).bind fun y19 =>
 br (std.not (std.seq (gd a0 (std.toN v2)).fName y19))
 (some (.inr (.inl (-1))))
 (some (.inl (std.add .i64 (std.add .i64 (std.add .i64 (std.add .i64 v1 1) 1) 1) 1, std.add .i64 v2 1)))))))
 (some (.inr (.inr v1)))
/-- laws.heldLabelS -/
noncomputable def F_laws_heldLabelS (a0 : List TLabel) (a1 : Int) : Option (Int) :=
 (whileP (σ := Int × Int) (ρ := (Int) ⊕ (Int)) (L_laws_heldLabelS_x3 a0) (a1, 0)).bind fun y4 =>
 (match y4 with
  | .inl y4k0 => (
    letO y4k0 fun w26 =>
    some w26)
  | .inr y4m0 =>
    letO y4m0 fun y4k1 =>
    letO y4k1 fun w27 =>
    some w27)
theorem run_laws_heldLabelS (a0 : List TLabel) (a1 : Int) (r : Int) (h : F_laws_heldLabelS a0 a1 = some r) : Fun Tryz.prog 15 [.c (.bs (len a0) 4 (row gd (encLabel) a0)), .c (.v (.int .i64 a1))] [] (.c (.v (.int .i64 r))) [] true := by
 refine Fun.of_wp (oneOf []) tok mixed Tryz.func15 (by kernel_rfl) rfl Tryz.ntmps15 rfl trivial (fun _ => ⟨trivial, trivial⟩) ?_
 unfold F_laws_heldLabelS at h
 unfold L_laws_heldLabelS_x3 at h
 have hf_laws_markText := @run_laws_markText
 generalize hLEN : @len = LEN at *
 generalize hGD : @gd = GD at *
 generalize hA : std = A at *
 generalize hP : Tryz.prog = P at *
 cbv
 replace h := of_bind h
 obtain ⟨y4, hr5, hN6⟩ := h
 refine loop_cut hr5 (fun x => (sparse 52 [(0, .c (.bs (LEN a0) 4 (row GD (encLabel) a0))), (1, .c (.v (.int .i64 x.1))), (5, .c (.v (.int .i64 x.2)))] [])) ?_ (fun y e s => (match y with | .inl w => e = .ret ∧ s.le (sparse 52 [(4, .c (.v (.int .i64 w)))] []) | .inr w0 => (fun (w : Int) => e = .exit 0 ∧ s.le (sparse 52 [(1, .c (.v (.int .i64 w)))] [])) w0)) ?_ ?_
 ·clear hr5 hN6
  show St.le _ _
  exact le_sparse rfl ⟨lR _, lR _, lR _, trivial⟩ trivial rfl
 ·clear hr5 hN6
  intro x z10 h K8 hK9 hY7
  obtain ⟨x0_, x1_⟩ := x
  replace h := of_let h
  obtain ⟨v1, hv1, h⟩ := h
  have hv1 : v1 = x0_ := hv1
  subst hv1
  replace h := of_let h
  obtain ⟨v2, hv2, h⟩ := h
  have hv2 : v2 = x1_ := hv2
  subst hv2
  cbv
  refine fork (fun b25 => ?_) (fun b25 => ?_)
  ·replace h := of_br_t b25 h
   cbv
   replace h := of_req h
   obtain ⟨c15, h⟩ := h
   refine ⟨⟨c15, trivial⟩, ?_⟩
   refine fork (fun b24 => ?_) (fun b24 => ?_)
   ·replace h := of_br_t b24 h
    cbv
    injection h with h
    refine hY7 _ h.symm _ _ (And.intro rfl ?_) (by intro hh; cases hh)
    exact le_sparse rfl ⟨lR _, trivial⟩ trivial rfl
   ·replace h := of_br_f b24 h
    cbv
    replace h := of_req h
    obtain ⟨c16, h⟩ := h
    refine ⟨⟨c16, trivial⟩, ?_⟩
    refine fork (fun b23 => ?_) (fun b23 => ?_)
    ·replace h := of_br_t b23 h
     cbv
     injection h with h
     refine hY7 _ h.symm _ _ (And.intro rfl ?_) (by intro hh; cases hh)
     exact le_sparse rfl ⟨lR _, trivial⟩ trivial rfl
    ·replace h := of_br_f b23 h
     cbv
     replace h := of_req h
     obtain ⟨c17, h⟩ := h
     refine ⟨⟨c17, trivial⟩, ?_⟩
     refine fork (fun b22 => ?_) (fun b22 => ?_)
     ·replace h := of_br_t b22 h
      cbv
      injection h with h
      refine hY7 _ h.symm _ _ (And.intro rfl ?_) (by intro hh; cases hh)
      exact le_sparse rfl ⟨lR _, trivial⟩ trivial rfl
     ·replace h := of_br_f b22 h
      cbv
      replace h := of_req h
      obtain ⟨c18, h⟩ := h
      refine ⟨⟨c18, trivial⟩, ?_⟩
      replace h := of_bind h
      obtain ⟨y19, hy20, h⟩ := h
      refine ⟨{ args := [.c (.v (.int .i64 (A.add .i64 (A.add .i64 (A.add .i64 v1 1) 1) 1)))], o0 := [], r := .c (.v (.string y19)), o1 := [], fl := true, σ := [], τ := [] }, hf_laws_markText _ _ hy20, ⟨les_cons (lR _) (les_nil), trivial, rfl, rfl, rfl, rfl, trivial, rfl⟩, ?_⟩
      cbv
      refine fork (fun b21 => ?_) (fun b21 => ?_)
      ·replace h := of_br_t b21 h
       cbv
       injection h with h
       refine hY7 _ h.symm _ _ (And.intro rfl ?_) (by intro hh; cases hh)
       exact le_sparse rfl ⟨lR _, trivial⟩ trivial rfl
      ·replace h := of_br_f b21 h
       cbv
       injection h with h
       refine hK9 _ h.symm _ ?_
       exact le_sparse rfl ⟨lR _, lR _, lR _, trivial⟩ trivial rfl
  ·replace h := of_br_f b25 h
   cbv
   injection h with h
   refine hY7 _ h.symm _ _ (And.intro rfl ?_) (by intro hh; cases hh)
   exact le_sparse rfl ⟨lR _, trivial⟩ trivial rfl
 ·clear hr5
  have h := hN6
  clear hN6
  intro e13 s14 q12 hne
  rcases y4 with y4k0 | y4m0
  ·replace h := h
   obtain ⟨rfl, q12⟩ := q12
   replace h := of_let h
   obtain ⟨w26, hw26, h⟩ := h
   have hw26 : w26 = y4k0 := hw26
   subst hw26
   cbv
   injection h with h
   subst h
   refine ⟨(sparse 52 [(4, .c (.v (.int .i64 w26)))] []), ?_, ?_⟩
   ·refine St.le_trans q12 ?_
    exact le_sparse rfl ⟨lR _, trivial⟩ trivial rfl
   ·exact ⟨lR _, trivial, rfl⟩
  ·replace h := of_let h
   obtain ⟨y4k1, hyk, h⟩ := h
   have hyk : y4k1 = y4m0 := hyk
   subst hyk
   obtain ⟨rfl, q12⟩ := q12
   replace h := of_let h
   obtain ⟨w27, hw27, h⟩ := h
   have hw27 : w27 = y4k1 := hw27
   subst hw27
   cbv
   refine ⟨_, q12, ?_⟩
   cbv
   injection h with h
   subst h
   refine ⟨(sparse 52 [(4, .c (.v (.int .i64 w27)))] []), ?_, ?_⟩
   ·exact le_sparse rfl ⟨lR _, trivial⟩ trivial rfl
   ·exact ⟨lR _, trivial, rfl⟩

/-- laws.FnExactWindowLabels -/
noncomputable def F_laws_FnExactWindowLabels (a0 : TLibrary) (a1 : Int) (a2 : TRect) : Option (Bool) :=
 (F_laws_szLibrary a0 1048576).bind fun y1 =>
 br (std.lt y1 0)
 (some true)
 ((F_laws_toLibrary a0).bind fun y3 =>
 (F_laws_toRect a2).bind fun y5 =>
 (F_spec_WindowLabels y3 a1 y5).bind fun y7 =>
 (F_laws_toLibrary a0).bind fun y9 =>
 (F_laws_toRect a2).bind fun y11 =>
 (F_impl_WindowLabels y9 a1 y11).bind fun y13 =>
 ((
    (F_laws_eqLabelS y13.1 y7.1).bind fun y22 =>
    br (!(y22))
    (some true)
    (some (std.not (std.eq y13.2 y7.2)))
  ) : Option (Bool)).bind fun y15 =>
 letO y15 fun w21 =>
 br w21
 (some false)
 ((F_laws_toLibrary a0).bind fun y25 =>
 (F_laws_eqLibrary y9 y25).bind fun y27 =>
 br (!(y27))
 (some false)
 ((F_laws_markLibrary_mob y9 1).bind fun y29 =>
 req (len y29.2 = len y9.fCells) <|
 ((
    br (std.lt y29.1 0)
    (some true)
    ((F_laws_eqLabelS y13.1 y7.1).bind fun y38 =>
    br (!(y38))
    (some true)
    (some (std.not (std.eq y13.2 y7.2))))
  ) : Option (Bool)).bind fun y31 =>
 letO y31 fun w37 =>
 br w37
 (some false)
 ((F_laws_markLabelS_mob y13.1 1).bind fun y42 =>
 req (len y42.2 = len y13.1) <|
 (F_laws_heldLabelS y42.2 1).bind fun y44 =>
 req (len y13.1 = len y42.2) <|
 br (std.lt y44 0)
 (some false)
 (br (std.not (std.eq y44 y42.1))
 (some false)
 ((F_laws_toLibrary a0).bind fun y46 =>
 (F_laws_toRect a2).bind fun y48 =>
 (F_impl_WindowLabels y46 a1 y48).bind fun y50 =>
 ((
    (F_laws_eqLabelS y50.1 y7.1).bind fun y59 =>
    br (!(y59))
    (some true)
    (some (std.not (std.eq y50.2 y7.2)))
  ) : Option (Bool)).bind fun y52 =>
 letO y52 fun w58 =>
 br w58
 (some false)
 ((F_laws_heldLabelS y42.2 1).bind fun y62 =>
 req (len y13.1 = len y42.2) <|
 br (std.lt y62 0)
 (some false)
 (br (std.not (std.eq y62 y42.1))
 (some false)
 (some true)))))))))
theorem run_laws_FnExactWindowLabels (a0 : TLibrary) (a1 : Int) (a2 : TRect) (r : Bool) (h : F_laws_FnExactWindowLabels a0 a1 a2 = some r) : Fun Tryz.prog 3 [.agg [.bs (len a0.fCells) 4 (row gd (encCell len gd) a0.fCells)], .c (.v (.int .i64 a1)), .agg [.v (.int .i64 a2.fX0), .v (.int .i64 a2.fY0), .v (.int .i64 a2.fX1), .v (.int .i64 a2.fY1)]] [] (.c (.v (.bool r))) [] true := by
 refine Fun.of_wp (oneOf [8, 14, 25]) tok mixed Tryz.func3 (by kernel_rfl) rfl Tryz.ntmps3 rfl trivial (fun _ => ⟨trivial, trivial⟩) ?_
 unfold F_laws_FnExactWindowLabels at h
 have hf_impl_WindowLabels := @run_impl_WindowLabels
 have hf_laws_eqLabelS := @run_laws_eqLabelS
 have hf_laws_eqLibrary := @run_laws_eqLibrary
 have hf_laws_heldLabelS := @run_laws_heldLabelS
 have hf_laws_markLabelS_mob := @run_laws_markLabelS_mob
 have hf_laws_markLibrary_mob := @run_laws_markLibrary_mob
 have hf_laws_szLibrary := @run_laws_szLibrary
 have hf_laws_toLibrary := @run_laws_toLibrary
 have hf_laws_toRect := @run_laws_toRect
 have hf_spec_WindowLabels := @run_spec_WindowLabels
 generalize hLEN : @len = LEN at *
 generalize hGD : @gd = GD at *
 generalize hA : std = A at *
 generalize hP : Tryz.prog = P at *
 cbv
 replace h := of_bind h
 obtain ⟨y1, hy2, h⟩ := h
 refine ⟨{ args := [.agg [.bs (LEN a0.fCells) 4 (row GD (encCell LEN GD) a0.fCells)], .c (.v (.int .i64 1048576))], o0 := [], r := .c (.v (.int .i64 y1)), o1 := [], fl := true, σ := [], τ := [] }, hf_laws_szLibrary _ _ _ hy2, ⟨les_cons (lR _) (les_cons (lR _) (les_nil)), trivial, rfl, rfl, rfl, rfl, trivial, rfl⟩, ?_⟩
 cbv
 refine fork (fun b76 => ?_) (fun b76 => ?_)
 ·replace h := of_br_t b76 h
  cbv
  injection h with h
  subst h
  refine ⟨(sparse 109 [(6, .c (.v (.bool true)))] []), ?_, ?_⟩
  ·exact le_sparse rfl ⟨lR _, trivial⟩ trivial rfl
  ·exact ⟨lR _, trivial, rfl⟩
 ·replace h := of_br_f b76 h
  cbv
  replace h := of_bind h
  obtain ⟨y3, hy4, h⟩ := h
  refine ⟨{ args := [.agg [.bs (LEN a0.fCells) 4 (row GD (encCell LEN GD) a0.fCells)]], o0 := [], r := .agg [.os 64000 0 (LEN y3.fCells)], o1 := [(64000, .arr .rw [] (LEN y3.fCells) 4 (row GD (oncCell LEN GD) y3.fCells))], fl := true, σ := [], τ := [(64000, 1600)] }, hf_laws_toLibrary _ _ hy4, ⟨les_cons (lR _) (les_nil), trivial, rfl, rfl, rfl, rfl, ⟨fun h => absurd (show (64000 : Nat) % 2 = 1 from h) (by decide), trivial⟩, rfl⟩, _, rfl, _, _, rfl, fun _ _ _ _ => rfl, ?_⟩
  cbv
  replace h := of_bind h
  obtain ⟨y5, hy6, h⟩ := h
  refine ⟨{ args := [.agg [.v (.int .i64 a2.fX0), .v (.int .i64 a2.fY0), .v (.int .i64 a2.fX1), .v (.int .i64 a2.fY1)]], o0 := [], r := .agg [.v (.int .i64 y5.fX0), .v (.int .i64 y5.fY0), .v (.int .i64 y5.fX1), .v (.int .i64 y5.fY1)], o1 := [], fl := true, σ := [], τ := [] }, hf_laws_toRect _ _ hy6, ⟨les_cons (lR _) (les_nil), trivial, rfl, rfl, rfl, rfl, trivial, rfl⟩, ?_⟩
  cbv
  replace h := of_bind h
  obtain ⟨y7, hy8, h⟩ := h
  refine ⟨{ args := [.agg [.bs (LEN y3.fCells) 4 (row GD (encCell LEN GD) y3.fCells)], .c (.v (.int .i64 a1)), .agg [.v (.int .i64 y5.fX0), .v (.int .i64 y5.fY0), .v (.int .i64 y5.fX1), .v (.int .i64 y5.fY1)]], o0 := [], r := .tup [.c (.os 64000 0 (LEN y7.1)), .c (.v (.int .i64 y7.2))], o1 := [(64000, .arr .rw [] (LEN y7.1) 4 (row GD (encLabel) y7.1))], fl := true, σ := [], τ := [(64000, 1856)] }, hf_spec_WindowLabels _ _ _ _ hy8, ⟨les_cons (le_agg ⟨give_osD (rf_oncCell) (ln_oncCell) rfl rfl rfl, trivial⟩) (les_cons (lR _) (les_cons (lR _) (les_nil))), trivial, rfl, rfl, rfl, rfl, ⟨fun h => absurd (show (64000 : Nat) % 2 = 1 from h) (by decide), trivial⟩, rfl⟩, _, rfl, _, _, rfl, fun _ _ _ _ => rfl, ?_⟩
  cbv
  replace h := of_bind h
  obtain ⟨y9, hy10, h⟩ := h
  refine ⟨{ args := [.agg [.bs (LEN a0.fCells) 4 (row GD (encCell LEN GD) a0.fCells)]], o0 := [], r := .agg [.os 64000 0 (LEN y9.fCells)], o1 := [(64000, .arr .rw [] (LEN y9.fCells) 4 (row GD (oncCell LEN GD) y9.fCells))], fl := true, σ := [], τ := [(64000, 2112)] }, hf_laws_toLibrary _ _ hy10, ⟨les_cons (lR _) (les_nil), trivial, rfl, rfl, rfl, rfl, ⟨fun h => absurd (show (64000 : Nat) % 2 = 1 from h) (by decide), trivial⟩, rfl⟩, _, rfl, _, _, rfl, fun _ _ _ _ => rfl, ?_⟩
  cbv
  replace h := of_bind h
  obtain ⟨y11, hy12, h⟩ := h
  refine ⟨{ args := [.agg [.v (.int .i64 a2.fX0), .v (.int .i64 a2.fY0), .v (.int .i64 a2.fX1), .v (.int .i64 a2.fY1)]], o0 := [], r := .agg [.v (.int .i64 y11.fX0), .v (.int .i64 y11.fY0), .v (.int .i64 y11.fX1), .v (.int .i64 y11.fY1)], o1 := [], fl := true, σ := [], τ := [] }, hf_laws_toRect _ _ hy12, ⟨les_cons (lR _) (les_nil), trivial, rfl, rfl, rfl, rfl, trivial, rfl⟩, ?_⟩
  cbv
  replace h := of_bind h
  obtain ⟨y13, hy14, h⟩ := h
  refine ⟨{ args := [.agg [.bs (LEN y9.fCells) 4 (row GD (encCell LEN GD) y9.fCells)], .c (.v (.int .i64 a1)), .agg [.v (.int .i64 y11.fX0), .v (.int .i64 y11.fY0), .v (.int .i64 y11.fX1), .v (.int .i64 y11.fY1)]], o0 := [], r := .tup [.c (.os 64000 0 (LEN y13.1)), .c (.v (.int .i64 y13.2))], o1 := [(64000, .arr .rw [] (LEN y13.1) 4 (row GD (encLabel) y13.1))], fl := true, σ := [], τ := [(64000, 2496)] }, hf_impl_WindowLabels _ _ _ _ hy14, ⟨les_cons (le_agg ⟨give_osD (rf_oncCell) (ln_oncCell) rfl rfl rfl, trivial⟩) (les_cons (lR _) (les_cons (lR _) (les_nil))), trivial, rfl, rfl, rfl, rfl, ⟨fun h => absurd (show (64000 : Nat) % 2 = 1 from h) (by decide), trivial⟩, rfl⟩, _, rfl, _, _, rfl, fun _ _ _ _ => rfl, ?_⟩
  cbv
  replace h := of_bind h
  obtain ⟨y15, hy16, h⟩ := h
  obtain ⟨S19, hS20⟩ : ∃ S, S = (sparse 109 [(1, .c (.v (.int .i64 a1))), (3, .c (.ptr 192 0)), (5, .c (.ptr 320 0)), (8, .c (.os 1856 0 (LEN y7.1))), (9, .c (.v (.int .i64 y7.2))), (10, .c (.ptr 640 0)), (11, .c (.os 2496 0 (LEN y13.1))), (12, .c (.v (.int .i64 y13.2))), (50, .c (.v (.bool y15)))] [(192, .var [.bs (LEN a0.fCells) 4 (row GD (encCell LEN GD) a0.fCells)]), (320, .var [.v (.int .i64 a2.fX0), .v (.int .i64 a2.fY0), .v (.int .i64 a2.fX1), .v (.int .i64 a2.fY1)]), (1856, .arr .rw [] (LEN y7.1) 4 (row GD (encLabel) y7.1)), (640, .var [.os 2112 0 (LEN y9.fCells)]), (2496, .arr .rw [] (LEN y13.1) 4 (row GD (encLabel) y13.1)), (2112, .arr .rw [] (LEN y9.fCells) 4 (row GD (oncCell LEN GD) y9.fCells))]) := ⟨_, rfl⟩
  refine ⟨S19, ?_, ?_⟩
  ·clear h
   have h := hy16
   clear hy16
   cbv
   replace h := of_bind h
   obtain ⟨y22, hy23, h⟩ := h
   refine ⟨{ args := [.c (.bs (LEN y13.1) 4 (row GD (encLabel) y13.1)), .c (.bs (LEN y7.1) 4 (row GD (encLabel) y7.1))], o0 := [], r := .c (.v (.bool y22)), o1 := [], fl := true, σ := [], τ := [] }, hf_laws_eqLabelS _ _ _ hy23, ⟨les_cons (give_os (pl_encLabel) rfl rfl rfl) (les_cons (give_os (pl_encLabel) rfl rfl rfl) (les_nil)), trivial, rfl, rfl, rfl, rfl, trivial, rfl⟩, ?_⟩
   cbv
   refine fork (fun b24 => ?_) (fun b24 => ?_)
   ·replace h := of_br_t b24 h
    cbv
    injection h with h
    subst h
    subst hS20
    show St.le _ _
    exact le_sparse rfl ⟨lR _, lR _, lR _, lR _, lR _, lR _, lR _, lR _, lR _, trivial⟩ ⟨rfl, rfl, oS, rfl, oS, oS, trivial⟩ rfl
   ·replace h := of_br_f b24 h
    cbv
    injection h with h
    subst h
    subst hS20
    show St.le _ _
    exact le_sparse rfl ⟨lR _, lR _, lR _, lR _, lR _, lR _, lR _, lR _, lR _, trivial⟩ ⟨rfl, rfl, oS, rfl, oS, oS, trivial⟩ rfl
  ·clear hy16
   subst hS20
   replace h := of_let h
   obtain ⟨w21, hw21, h⟩ := h
   have hw21 : w21 = y15 := hw21
   subst hw21
   cbv
   refine fork (fun b75 => ?_) (fun b75 => ?_)
   ·replace h := of_br_t b75 h
    cbv
    injection h with h
    subst h
    refine ⟨(sparse 109 [(6, .c (.v (.bool false)))] []), ?_, ?_⟩
    ·exact le_sparse rfl ⟨lR _, trivial⟩ trivial rfl
    ·exact ⟨lR _, trivial, rfl⟩
   ·replace h := of_br_f b75 h
    cbv
    replace h := of_bind h
    obtain ⟨y25, hy26, h⟩ := h
    refine ⟨{ args := [.agg [.bs (LEN a0.fCells) 4 (row GD (encCell LEN GD) a0.fCells)]], o0 := [], r := .agg [.os 64000 0 (LEN y25.fCells)], o1 := [(64000, .arr .rw [] (LEN y25.fCells) 4 (row GD (oncCell LEN GD) y25.fCells))], fl := true, σ := [], τ := [(64000, 3392)] }, hf_laws_toLibrary _ _ hy26, ⟨les_cons (lR _) (les_nil), trivial, rfl, rfl, rfl, rfl, ⟨fun h => absurd (show (64000 : Nat) % 2 = 1 from h) (by decide), trivial⟩, rfl⟩, _, rfl, _, _, rfl, fun _ _ _ _ => rfl, ?_⟩
    cbv
    replace h := of_bind h
    obtain ⟨y27, hy28, h⟩ := h
    refine ⟨{ args := [.agg [.bs (LEN y9.fCells) 4 (row GD (encCell LEN GD) y9.fCells)], .agg [.bs (LEN y25.fCells) 4 (row GD (encCell LEN GD) y25.fCells)]], o0 := [], r := .c (.v (.bool y27)), o1 := [], fl := true, σ := [], τ := [] }, hf_laws_eqLibrary _ _ _ hy28, ⟨les_cons (le_agg ⟨give_osD (rf_oncCell) (ln_oncCell) rfl rfl rfl, trivial⟩) (les_cons (le_agg ⟨give_osD (rf_oncCell) (ln_oncCell) rfl rfl rfl, trivial⟩) (les_nil)), trivial, rfl, rfl, rfl, rfl, trivial, rfl⟩, ?_⟩
    cbv
    refine fork (fun b74 => ?_) (fun b74 => ?_)
    ·replace h := of_br_t b74 h
     cbv
     injection h with h
     subst h
     refine ⟨(sparse 109 [(6, .c (.v (.bool false)))] []), ?_, ?_⟩
     ·exact le_sparse rfl ⟨lR _, trivial⟩ trivial rfl
     ·exact ⟨lR _, trivial, rfl⟩
    ·replace h := of_br_f b74 h
     cbv
     replace h := of_bind h
     obtain ⟨y29, hy30, h⟩ := h
     replace h := of_req h
     obtain ⟨c73, h⟩ := h
     refine ⟨{ args := [.agg [.os 5 0 (LEN y9.fCells)], .c (.v (.int .i64 1))], o0 := [(5, .arr .rw [] (LEN y9.fCells) 4 (row GD (oncCell LEN GD) y9.fCells))], r := .c (.v (.int .i64 y29.1)), o1 := [(5, .arr .rw [] (LEN y29.2) 4 (row GD (oncCell LEN GD) y29.2))], fl := true, σ := [(5, 2112)], τ := [(5, 2112)] }, hf_laws_markLibrary_mob _ _ _ hy30, ⟨les_cons (lR _) (les_cons (lR _) (les_nil)), ⟨oS, trivial⟩, rfl, rfl, rfl, rfl, ⟨fun _ => ⟨c73.symm, rfl, fun c h => h⟩, trivial⟩, rfl⟩, _, rfl, LEN y9.fCells, _, c73, fun _ _ _ _ => rfl, ?_⟩
     cbv
     replace h := of_bind h
     obtain ⟨y31, hy32, h⟩ := h
     obtain ⟨S35, hS36⟩ : ∃ S, S = (sparse 109 [(1, .c (.v (.int .i64 a1))), (3, .c (.ptr 192 0)), (5, .c (.ptr 320 0)), (8, .c (.os 1856 0 (LEN y7.1))), (9, .c (.v (.int .i64 y7.2))), (11, .c (.os 2496 0 (LEN y13.1))), (71, .c (.v (.bool y31)))] [(192, .var [.bs (LEN a0.fCells) 4 (row GD (encCell LEN GD) a0.fCells)]), (320, .var [.v (.int .i64 a2.fX0), .v (.int .i64 a2.fY0), .v (.int .i64 a2.fX1), .v (.int .i64 a2.fY1)]), (1856, .arr .rw [] (LEN y7.1) 4 (row GD (encLabel) y7.1)), (2496, .arr .rw [] (LEN y13.1) 4 (row GD (encLabel) y13.1))]) := ⟨_, rfl⟩
     refine ⟨S35, ?_, ?_⟩
     ·clear h
      have h := hy32
      clear hy32
      cbv
      refine fork (fun b41 => ?_) (fun b41 => ?_)
      ·replace h := of_br_t b41 h
       cbv
       injection h with h
       subst h
       subst hS36
       show St.le _ _
       exact le_sparse rfl ⟨lR _, lR _, lR _, lR _, lR _, lR _, lR _, trivial⟩ ⟨rfl, rfl, oS, oS, trivial⟩ rfl
      ·replace h := of_br_f b41 h
       cbv
       replace h := of_bind h
       obtain ⟨y38, hy39, h⟩ := h
       refine ⟨{ args := [.c (.bs (LEN y13.1) 4 (row GD (encLabel) y13.1)), .c (.bs (LEN y7.1) 4 (row GD (encLabel) y7.1))], o0 := [], r := .c (.v (.bool y38)), o1 := [], fl := true, σ := [], τ := [] }, hf_laws_eqLabelS _ _ _ hy39, ⟨les_cons (give_os (pl_encLabel) rfl rfl rfl) (les_cons (give_os (pl_encLabel) rfl rfl rfl) (les_nil)), trivial, rfl, rfl, rfl, rfl, trivial, rfl⟩, ?_⟩
       cbv
       refine fork (fun b40 => ?_) (fun b40 => ?_)
       ·replace h := of_br_t b40 h
        cbv
        injection h with h
        subst h
        subst hS36
        show St.le _ _
        exact le_sparse rfl ⟨lR _, lR _, lR _, lR _, lR _, lR _, lR _, trivial⟩ ⟨rfl, rfl, oS, oS, trivial⟩ rfl
       ·replace h := of_br_f b40 h
        cbv
        injection h with h
        subst h
        subst hS36
        show St.le _ _
        exact le_sparse rfl ⟨lR _, lR _, lR _, lR _, lR _, lR _, lR _, trivial⟩ ⟨rfl, rfl, oS, oS, trivial⟩ rfl
     ·clear hy32
      subst hS36
      replace h := of_let h
      obtain ⟨w37, hw37, h⟩ := h
      have hw37 : w37 = y31 := hw37
      subst hw37
      cbv
      refine fork (fun b72 => ?_) (fun b72 => ?_)
      ·replace h := of_br_t b72 h
       cbv
       injection h with h
       subst h
       refine ⟨(sparse 109 [(6, .c (.v (.bool false)))] []), ?_, ?_⟩
       ·exact le_sparse rfl ⟨lR _, trivial⟩ trivial rfl
       ·exact ⟨lR _, trivial, rfl⟩
      ·replace h := of_br_f b72 h
       cbv
       replace h := of_bind h
       obtain ⟨y42, hy43, h⟩ := h
       replace h := of_req h
       obtain ⟨c71, h⟩ := h
       refine ⟨{ args := [.c (.os 5 0 (LEN y13.1)), .c (.v (.int .i64 1))], o0 := [(5, .arr .rw [] (LEN y13.1) 4 (row GD (encLabel) y13.1))], r := .c (.v (.int .i64 y42.1)), o1 := [(5, .arr .rw [] (LEN y42.2) 4 (row GD (encLabel) y42.2))], fl := true, σ := [(5, 2496)], τ := [(5, 2496)] }, hf_laws_markLabelS_mob _ _ _ hy43, ⟨les_cons (lR _) (les_cons (lR _) (les_nil)), ⟨oS, trivial⟩, rfl, rfl, rfl, rfl, ⟨fun _ => ⟨c71.symm, rfl, fun c h => h⟩, trivial⟩, rfl⟩, _, rfl, LEN y13.1, _, c71, fun _ _ _ _ => rfl, ?_⟩
       cbv
       replace h := of_bind h
       obtain ⟨y44, hy45, h⟩ := h
       replace h := of_req h
       obtain ⟨c70, h⟩ := h
       refine ⟨{ args := [.c (.bs (LEN y42.2) 4 (row GD (encLabel) y42.2)), .c (.v (.int .i64 1))], o0 := [], r := .c (.v (.int .i64 y44)), o1 := [], fl := true, σ := [], τ := [] }, hf_laws_heldLabelS _ _ _ hy45, ⟨les_cons (give_os (pl_encLabel) rfl rfl c70) (les_cons (lR _) (les_nil)), trivial, rfl, rfl, rfl, rfl, trivial, rfl⟩, ?_⟩
       cbv
       refine fork (fun b69 => ?_) (fun b69 => ?_)
       ·replace h := of_br_t b69 h
        cbv
        injection h with h
        subst h
        refine ⟨(sparse 109 [(6, .c (.v (.bool false)))] []), ?_, ?_⟩
        ·exact le_sparse rfl ⟨lR _, trivial⟩ trivial rfl
        ·exact ⟨lR _, trivial, rfl⟩
       ·replace h := of_br_f b69 h
        cbv
        refine fork (fun b68 => ?_) (fun b68 => ?_)
        ·replace h := of_br_t b68 h
         cbv
         injection h with h
         subst h
         refine ⟨(sparse 109 [(6, .c (.v (.bool false)))] []), ?_, ?_⟩
         ·exact le_sparse rfl ⟨lR _, trivial⟩ trivial rfl
         ·exact ⟨lR _, trivial, rfl⟩
        ·replace h := of_br_f b68 h
         cbv
         replace h := of_bind h
         obtain ⟨y46, hy47, h⟩ := h
         refine ⟨{ args := [.agg [.bs (LEN a0.fCells) 4 (row GD (encCell LEN GD) a0.fCells)]], o0 := [], r := .agg [.os 64000 0 (LEN y46.fCells)], o1 := [(64000, .arr .rw [] (LEN y46.fCells) 4 (row GD (oncCell LEN GD) y46.fCells))], fl := true, σ := [], τ := [(64000, 5440)] }, hf_laws_toLibrary _ _ hy47, ⟨les_cons (lR _) (les_nil), trivial, rfl, rfl, rfl, rfl, ⟨fun h => absurd (show (64000 : Nat) % 2 = 1 from h) (by decide), trivial⟩, rfl⟩, _, rfl, _, _, rfl, fun _ _ _ _ => rfl, ?_⟩
         cbv
         replace h := of_bind h
         obtain ⟨y48, hy49, h⟩ := h
         refine ⟨{ args := [.agg [.v (.int .i64 a2.fX0), .v (.int .i64 a2.fY0), .v (.int .i64 a2.fX1), .v (.int .i64 a2.fY1)]], o0 := [], r := .agg [.v (.int .i64 y48.fX0), .v (.int .i64 y48.fY0), .v (.int .i64 y48.fX1), .v (.int .i64 y48.fY1)], o1 := [], fl := true, σ := [], τ := [] }, hf_laws_toRect _ _ hy49, ⟨les_cons (lR _) (les_nil), trivial, rfl, rfl, rfl, rfl, trivial, rfl⟩, ?_⟩
         cbv
         replace h := of_bind h
         obtain ⟨y50, hy51, h⟩ := h
         refine ⟨{ args := [.agg [.bs (LEN y46.fCells) 4 (row GD (encCell LEN GD) y46.fCells)], .c (.v (.int .i64 a1)), .agg [.v (.int .i64 y48.fX0), .v (.int .i64 y48.fY0), .v (.int .i64 y48.fX1), .v (.int .i64 y48.fY1)]], o0 := [], r := .tup [.c (.os 64000 0 (LEN y50.1)), .c (.v (.int .i64 y50.2))], o1 := [(64000, .arr .rw [] (LEN y50.1) 4 (row GD (encLabel) y50.1))], fl := true, σ := [], τ := [(64000, 5696)] }, hf_impl_WindowLabels _ _ _ _ hy51, ⟨les_cons (le_agg ⟨give_osD (rf_oncCell) (ln_oncCell) rfl rfl rfl, trivial⟩) (les_cons (lR _) (les_cons (lR _) (les_nil))), trivial, rfl, rfl, rfl, rfl, ⟨fun h => absurd (show (64000 : Nat) % 2 = 1 from h) (by decide), trivial⟩, rfl⟩, _, rfl, _, _, rfl, fun _ _ _ _ => rfl, ?_⟩
         cbv
         replace h := of_bind h
         obtain ⟨y52, hy53, h⟩ := h
         obtain ⟨S56, hS57⟩ : ∃ S, S = (sparse 109 [(11, .c (.os 2496 0 (LEN y13.1))), (14, .c (.v (.int .i64 y42.1))), (100, .c (.v (.bool y52)))] [(2496, .arr .rw [] (LEN y13.1) 4 (row GD (encLabel) y42.2))]) := ⟨_, rfl⟩
         refine ⟨S56, ?_, ?_⟩
         ·clear h
          have h := hy53
          clear hy53
          cbv
          replace h := of_bind h
          obtain ⟨y59, hy60, h⟩ := h
          refine ⟨{ args := [.c (.bs (LEN y50.1) 4 (row GD (encLabel) y50.1)), .c (.bs (LEN y7.1) 4 (row GD (encLabel) y7.1))], o0 := [], r := .c (.v (.bool y59)), o1 := [], fl := true, σ := [], τ := [] }, hf_laws_eqLabelS _ _ _ hy60, ⟨les_cons (give_os (pl_encLabel) rfl rfl rfl) (les_cons (give_os (pl_encLabel) rfl rfl rfl) (les_nil)), trivial, rfl, rfl, rfl, rfl, trivial, rfl⟩, ?_⟩
          cbv
          refine fork (fun b61 => ?_) (fun b61 => ?_)
          ·replace h := of_br_t b61 h
           cbv
           injection h with h
           subst h
           subst hS57
           show St.le _ _
           exact le_sparse rfl ⟨lR _, lR _, lR _, trivial⟩ ⟨oS, trivial⟩ rfl
          ·replace h := of_br_f b61 h
           cbv
           injection h with h
           subst h
           subst hS57
           show St.le _ _
           exact le_sparse rfl ⟨lR _, lR _, lR _, trivial⟩ ⟨oS, trivial⟩ rfl
         ·clear hy53
          subst hS57
          replace h := of_let h
          obtain ⟨w58, hw58, h⟩ := h
          have hw58 : w58 = y52 := hw58
          subst hw58
          cbv
          refine fork (fun b67 => ?_) (fun b67 => ?_)
          ·replace h := of_br_t b67 h
           cbv
           injection h with h
           subst h
           refine ⟨(sparse 109 [(6, .c (.v (.bool false)))] []), ?_, ?_⟩
           ·exact le_sparse rfl ⟨lR _, trivial⟩ trivial rfl
           ·exact ⟨lR _, trivial, rfl⟩
          ·replace h := of_br_f b67 h
           cbv
           replace h := of_bind h
           obtain ⟨y62, hy63, h⟩ := h
           replace h := of_req h
           obtain ⟨c66, h⟩ := h
           refine ⟨{ args := [.c (.bs (LEN y42.2) 4 (row GD (encLabel) y42.2)), .c (.v (.int .i64 1))], o0 := [], r := .c (.v (.int .i64 y62)), o1 := [], fl := true, σ := [], τ := [] }, hf_laws_heldLabelS _ _ _ hy63, ⟨les_cons (give_os (pl_encLabel) rfl rfl c66) (les_cons (lR _) (les_nil)), trivial, rfl, rfl, rfl, rfl, trivial, rfl⟩, ?_⟩
           cbv
           refine fork (fun b65 => ?_) (fun b65 => ?_)
           ·replace h := of_br_t b65 h
            cbv
            injection h with h
            subst h
            refine ⟨(sparse 109 [(6, .c (.v (.bool false)))] []), ?_, ?_⟩
            ·exact le_sparse rfl ⟨lR _, trivial⟩ trivial rfl
            ·exact ⟨lR _, trivial, rfl⟩
           ·replace h := of_br_f b65 h
            cbv
            refine fork (fun b64 => ?_) (fun b64 => ?_)
            ·replace h := of_br_t b64 h
             cbv
             injection h with h
             subst h
             refine ⟨(sparse 109 [(6, .c (.v (.bool false)))] []), ?_, ?_⟩
             ·exact le_sparse rfl ⟨lR _, trivial⟩ trivial rfl
             ·exact ⟨lR _, trivial, rfl⟩
            ·replace h := of_br_f b64 h
             cbv
             injection h with h
             subst h
             refine ⟨(sparse 109 [(6, .c (.v (.bool true)))] []), ?_, ?_⟩
             ·exact le_sparse rfl ⟨lR _, trivial⟩ trivial rfl
             ·exact ⟨lR _, trivial, rfl⟩
theorem op_9 (d : Nat) : Opens T (d + 1) 9 (clS) (wfS) := op_str (show T 9 = some d9 from rfl) rfl
theorem op_2 (d : Nat) : Opens T (d + 1) 2 (clI .i64) (wfI .i64) := op_int .i64 (show T 2 = some d2 from rfl) rfl
def clRect (e : TRect) : List AC := clI .i64 e.fX0 ++ (clI .i64 e.fY0 ++ (clI .i64 e.fX1 ++ (clI .i64 e.fY1 ++ ([]))))
def wfRect (e : TRect) : Prop := wfI .i64 e.fX0 ∧ wfI .i64 e.fY0 ∧ wfI .i64 e.fX1 ∧ wfI .i64 e.fY1
theorem op_26 (d : Nat) : Opens T (d + 2) 26 (clRect) (wfRect) := by
  intro cs hs
  obtain ⟨a0, b0, rfl, h0, a1, b1, rfl, h1, a2, b2, rfl, h2, a3, b3, rfl, h3, rfl⟩ := hs
  obtain ⟨e0, w0, r0⟩ := op_2 (d + 0) a0 h0
  obtain ⟨e1, w1, r1⟩ := op_2 (d + 0) a1 h1
  obtain ⟨e2, w2, r2⟩ := op_2 (d + 0) a2 h2
  obtain ⟨e3, w3, r3⟩ := op_2 (d + 0) a3 h3
  exact ⟨TRect.mk e0 e1 e2 e3, ⟨w0, w1, w2, w3⟩, rlist_app r0 (rlist_app r1 (rlist_app r2 (rlist_app r3 (trivial))))⟩
def clShape (e : TShape) : List AC := clI .i64 e.fLayer ++ (clRect e.fBox ++ ([]))
def wfShape (e : TShape) : Prop := wfI .i64 e.fLayer ∧ wfRect e.fBox
theorem op_148 (d : Nat) : Opens T (d + 3) 148 (clShape) (wfShape) := by
  intro cs hs
  obtain ⟨a0, b0, rfl, h0, a1, b1, rfl, h1, rfl⟩ := hs
  obtain ⟨e0, w0, r0⟩ := op_2 (d + 1) a0 h0
  obtain ⟨e1, w1, r1⟩ := op_26 (d + 0) a1 h1
  exact ⟨TShape.mk e0 e1, ⟨w0, w1⟩, rlist_app r0 (rlist_app r1 (trivial))⟩
theorem op_90 (d : Nat) : Opens T (d + 4) 90 (clL 5 (encShape)) (wfL wfShape) := op_slice (e := 148) (sz := 5) (show T 90 = some d90 from rfl) rfl (show T 148 = some d148 from rfl) rfl (fun x j hj => by match j, hj with | 0, _ => rfl | 1, _ => rfl | 2, _ => rfl | 3, _ => rfl | 4, _ => rfl | (j_ + 5), h_ => exact absurd h_ (by omega)) (op_148 d)
def clPoint (e : TPoint) : List AC := clI .i64 e.fX ++ (clI .i64 e.fY ++ ([]))
def wfPoint (e : TPoint) : Prop := wfI .i64 e.fX ∧ wfI .i64 e.fY
theorem op_49 (d : Nat) : Opens T (d + 2) 49 (clPoint) (wfPoint) := by
  intro cs hs
  obtain ⟨a0, b0, rfl, h0, a1, b1, rfl, h1, rfl⟩ := hs
  obtain ⟨e0, w0, r0⟩ := op_2 (d + 0) a0 h0
  obtain ⟨e1, w1, r1⟩ := op_2 (d + 0) a1 h1
  exact ⟨TPoint.mk e0 e1, ⟨w0, w1⟩, rlist_app r0 (rlist_app r1 (trivial))⟩
def clLabel (e : TLabel) : List AC := clI .i64 e.fLayer ++ (clPoint e.fAt ++ (clS e.fName ++ ([])))
def wfLabel (e : TLabel) : Prop := wfI .i64 e.fLayer ∧ wfPoint e.fAt ∧ wfS e.fName
theorem op_141 (d : Nat) : Opens T (d + 3) 141 (clLabel) (wfLabel) := by
  intro cs hs
  obtain ⟨a0, b0, rfl, h0, a1, b1, rfl, h1, a2, b2, rfl, h2, rfl⟩ := hs
  obtain ⟨e0, w0, r0⟩ := op_2 (d + 1) a0 h0
  obtain ⟨e1, w1, r1⟩ := op_49 (d + 0) a1 h1
  obtain ⟨e2, w2, r2⟩ := op_9 (d + 1) a2 h2
  exact ⟨TLabel.mk e0 e1 e2, ⟨w0, w1, w2⟩, rlist_app r0 (rlist_app r1 (rlist_app r2 (trivial)))⟩
theorem op_91 (d : Nat) : Opens T (d + 4) 91 (clL 4 (encLabel)) (wfL wfLabel) := op_slice (e := 141) (sz := 4) (show T 91 = some d91 from rfl) rfl (show T 141 = some d141 from rfl) rfl (fun x j hj => by match j, hj with | 0, _ => rfl | 1, _ => rfl | 2, _ => rfl | 3, _ => rfl | (j_ + 4), h_ => exact absurd h_ (by omega)) (op_141 d)
def clTransform (e : TTransform) : List AC := clI .i64 e.fOrientation ++ (clI .i64 e.fX ++ (clI .i64 e.fY ++ ([])))
def wfTransform (e : TTransform) : Prop := wfI .i64 e.fOrientation ∧ wfI .i64 e.fX ∧ wfI .i64 e.fY
theorem op_151 (d : Nat) : Opens T (d + 2) 151 (clTransform) (wfTransform) := by
  intro cs hs
  obtain ⟨a0, b0, rfl, h0, a1, b1, rfl, h1, a2, b2, rfl, h2, rfl⟩ := hs
  obtain ⟨e0, w0, r0⟩ := op_2 (d + 0) a0 h0
  obtain ⟨e1, w1, r1⟩ := op_2 (d + 0) a1 h1
  obtain ⟨e2, w2, r2⟩ := op_2 (d + 0) a2 h2
  exact ⟨TTransform.mk e0 e1 e2, ⟨w0, w1, w2⟩, rlist_app r0 (rlist_app r1 (rlist_app r2 (trivial)))⟩
def clInstance (e : TInstance) : List AC := clI .i64 e.fCell ++ (clTransform e.fPlace ++ (clI .i64 e.fColumns ++ (clI .i64 e.fRows ++ (clI .i64 e.fStepX ++ (clI .i64 e.fStepY ++ ([]))))))
def wfInstance (e : TInstance) : Prop := wfI .i64 e.fCell ∧ wfTransform e.fPlace ∧ wfI .i64 e.fColumns ∧ wfI .i64 e.fRows ∧ wfI .i64 e.fStepX ∧ wfI .i64 e.fStepY
theorem op_153 (d : Nat) : Opens T (d + 3) 153 (clInstance) (wfInstance) := by
  intro cs hs
  obtain ⟨a0, b0, rfl, h0, a1, b1, rfl, h1, a2, b2, rfl, h2, a3, b3, rfl, h3, a4, b4, rfl, h4, a5, b5, rfl, h5, rfl⟩ := hs
  obtain ⟨e0, w0, r0⟩ := op_2 (d + 1) a0 h0
  obtain ⟨e1, w1, r1⟩ := op_151 (d + 0) a1 h1
  obtain ⟨e2, w2, r2⟩ := op_2 (d + 1) a2 h2
  obtain ⟨e3, w3, r3⟩ := op_2 (d + 1) a3 h3
  obtain ⟨e4, w4, r4⟩ := op_2 (d + 1) a4 h4
  obtain ⟨e5, w5, r5⟩ := op_2 (d + 1) a5 h5
  exact ⟨TInstance.mk e0 e1 e2 e3 e4 e5, ⟨w0, w1, w2, w3, w4, w5⟩, rlist_app r0 (rlist_app r1 (rlist_app r2 (rlist_app r3 (rlist_app r4 (rlist_app r5 (trivial))))))⟩
theorem op_92 (d : Nat) : Opens T (d + 4) 92 (clL 8 (encInstance)) (wfL wfInstance) := op_slice (e := 153) (sz := 8) (show T 92 = some d92 from rfl) rfl (show T 153 = some d153 from rfl) rfl (fun x j hj => by match j, hj with | 0, _ => rfl | 1, _ => rfl | 2, _ => rfl | 3, _ => rfl | 4, _ => rfl | 5, _ => rfl | 6, _ => rfl | 7, _ => rfl | (j_ + 8), h_ => exact absurd h_ (by omega)) (op_153 d)
def clCell (e : TCell) : List AC := clS e.fName ++ (clL 5 (encShape) e.fShapes ++ (clL 4 (encLabel) e.fLabels ++ (clL 8 (encInstance) e.fInstances ++ ([]))))
def wfCell (e : TCell) : Prop := wfS e.fName ∧ wfL wfShape e.fShapes ∧ wfL wfLabel e.fLabels ∧ wfL wfInstance e.fInstances
theorem op_94 (d : Nat) : Opens T (d + 5) 94 (clCell) (wfCell) := by
  intro cs hs
  obtain ⟨a0, b0, rfl, h0, a1, b1, rfl, h1, a2, b2, rfl, h2, a3, b3, rfl, h3, rfl⟩ := hs
  obtain ⟨e0, w0, r0⟩ := op_9 (d + 3) a0 h0
  obtain ⟨e1, w1, r1⟩ := op_90 (d + 0) a1 h1
  obtain ⟨e2, w2, r2⟩ := op_91 (d + 0) a2 h2
  obtain ⟨e3, w3, r3⟩ := op_92 (d + 0) a3 h3
  exact ⟨TCell.mk e0 e1 e2 e3, ⟨w0, w1, w2, w3⟩, rlist_app r0 (rlist_app r1 (rlist_app r2 (rlist_app r3 (trivial))))⟩
theorem op_22 (d : Nat) : Opens T (d + 6) 22 (clL 4 (encCell len gd)) (wfL wfCell) := op_slice (e := 94) (sz := 4) (show T 22 = some d22 from rfl) rfl (show T 94 = some d94 from rfl) rfl (fun x j hj => by match j, hj with | 0, _ => rfl | 1, _ => rfl | 2, _ => rfl | 3, _ => rfl | (j_ + 4), h_ => exact absurd h_ (by omega)) (op_94 d)
def clLibrary (e : TLibrary) : List AC := clL 4 (encCell len gd) e.fCells ++ ([])
def wfLibrary (e : TLibrary) : Prop := wfL wfCell e.fCells
theorem op_24 (d : Nat) : Opens T (d + 7) 24 (clLibrary) (wfLibrary) := by
  intro cs hs
  obtain ⟨a0, b0, rfl, h0, rfl⟩ := hs
  obtain ⟨e0, w0, r0⟩ := op_22 (d + 0) a0 h0
  exact ⟨TLibrary.mk e0, w0, rlist_app r0 (trivial)⟩
theorem open_24 {H : Type} {enc : TypeId × Value → H} {W : World} {spare : Nat → Bool} {held : Bool} {r : Reach} {base : Nat} {v : Value} {x : DataW H} {ps : List MemPlace}
    (hv : Value.okWide Tryz.prog W r base 24 v) (h : DataW.Trod enc Tryz.prog W 0 spare held 24 v x ps) : ∃ e : TLibrary, wfLibrary e ∧ RelV (RelI (fun b => b < W.heap.size) W) (.agg [.bs (len e.fCells) 4 (row gd (encCell len gd) e.fCells)]) v :=
  opened_agg tok (op_24 0) (by kernel_rfl) (tok 24 d24 rfl).1 hv h
theorem open_26 {H : Type} {enc : TypeId × Value → H} {W : World} {spare : Nat → Bool} {held : Bool} {r : Reach} {base : Nat} {v : Value} {x : DataW H} {ps : List MemPlace}
    (hv : Value.okWide Tryz.prog W r base 26 v) (h : DataW.Trod enc Tryz.prog W 0 spare held 26 v x ps) : ∃ e : TRect, wfRect e ∧ RelV (RelI (fun b => b < W.heap.size) W) (.agg [.v (.int .i64 e.fX0), .v (.int .i64 e.fY0), .v (.int .i64 e.fX1), .v (.int .i64 e.fY1)]) v :=
  opened_agg tok (op_26 0) (by kernel_rfl) (tok 26 d26 rfl).1 hv h
end Go.Proofs.YtmdlnjeppemipaaGreat.AM
