/-
  What the functions that the law reaches compute, and that they do. No condition.
-/
import Derived.Test.YtmdlnjeppemipaaAmNX
import Derived.Test.YtmdlnjeppemipaaAmE
namespace Go.Proofs.Ytmdlnjeppemipaa.AM
open Go Go.Proofs Go.RowKit
set_option linter.unusedVariables false
set_option linter.unusedSimpArgs false
set_option maxRecDepth 100000

noncomputable def L_laws_markShapeS_mob_x4 (a0 : List TShape) : (Int × Int × (List TShape)) → Option ((Int × Int × (List TShape)) ⊕ ((Int × (List TShape)))) := fun x4 =>
  letO x4.1 fun v1 =>
  letO x4.2.1 fun v2 =>
  letO x4.2.2 fun v3 =>
  br (std.lt v2 (std.ofN (len a0)))
  (req (std.inR v2 (len a0)) <|
  req (len a0 = len v3) <|
  letO (List.set v3 (std.nadd 0 (std.toN v2)) (TShape.mk v1 (gd v3 (std.nadd 0 (std.toN v2))).fBox)) fun l17 =>
  req (std.inR v2 (len a0)) <|
  req (len a0 = len l17) <|
  letO (List.set l17 (std.nadd 0 (std.toN v2)) (TShape.mk (gd l17 (std.nadd 0 (std.toN v2))).fLayer (TRect.mk (std.add .i64 v1 1) (gd l17 (std.nadd 0 (std.toN v2))).fBox.fY0 (gd l17 (std.nadd 0 (std.toN v2))).fBox.fX1 (gd l17 (std.nadd 0 (std.toN v2))).fBox.fY1))) fun l19 =>
  req (std.inR v2 (len a0)) <|
  req (len a0 = len l19) <|
  letO (List.set l19 (std.nadd 0 (std.toN v2)) (TShape.mk (gd l19 (std.nadd 0 (std.toN v2))).fLayer (TRect.mk (gd l19 (std.nadd 0 (std.toN v2))).fBox.fX0 (std.add .i64 (std.add .i64 v1 1) 1) (gd l19 (std.nadd 0 (std.toN v2))).fBox.fX1 (gd l19 (std.nadd 0 (std.toN v2))).fBox.fY1))) fun l21 =>
  req (std.inR v2 (len a0)) <|
  req (len a0 = len l21) <|
  letO (List.set l21 (std.nadd 0 (std.toN v2)) (TShape.mk (gd l21 (std.nadd 0 (std.toN v2))).fLayer (TRect.mk (gd l21 (std.nadd 0 (std.toN v2))).fBox.fX0 (gd l21 (std.nadd 0 (std.toN v2))).fBox.fY0 (std.add .i64 (std.add .i64 (std.add .i64 v1 1) 1) 1) (gd l21 (std.nadd 0 (std.toN v2))).fBox.fY1))) fun l23 =>
  req (std.inR v2 (len a0)) <|
  req (len a0 = len l23) <|
  letO (List.set l23 (std.nadd 0 (std.toN v2)) (TShape.mk (gd l23 (std.nadd 0 (std.toN v2))).fLayer (TRect.mk (gd l23 (std.nadd 0 (std.toN v2))).fBox.fX0 (gd l23 (std.nadd 0 (std.toN v2))).fBox.fY0 (gd l23 (std.nadd 0 (std.toN v2))).fBox.fX1 (std.add .i64 (std.add .i64 (std.add .i64 (std.add .i64 v1 1) 1) 1) 1)))) fun l25 =>
  some (.inl (std.add .i64 (std.add .i64 (std.add .i64 (std.add .i64 (std.add .i64 v1 1) 1) 1) 1) 1, std.add .i64 v2 1, l25)))
  (some (.inr (v1, v3)))
/-- laws.markShapeS -/
noncomputable def F_laws_markShapeS_mob (a0 : List TShape) (a1 : Int) : Option (Int × (List TShape)) :=
  (whileP (σ := Int × Int × (List TShape)) (ρ := (Int × (List TShape))) (L_laws_markShapeS_mob_x4 a0) (a1, 0, a0)).bind fun y5 =>
  letO y5 fun y5k0 =>
  letO y5k0.1 fun w32 =>
  letO y5k0.2 fun w33 =>
  req (len a0 = len w33) <|
  some (w32, w33)
theorem run_laws_markShapeS_mob (a0 : List TShape) (a1 : Int) (r : Int × (List TShape)) (h : F_laws_markShapeS_mob a0 a1 = some r) : Fun Try.prog 109 [.c (.os 5 0 (len a0)), .c (.v (.int .i64 a1))] [(5, .arr .rw [] (len a0) 5 (row gd (encShape) a0))] (.c (.v (.int .i64 r.1))) [(5, .arr .rw [] (len r.2) 5 (row gd (encShape) r.2))] true := by
  refine Fun.of_wp (oneOf []) tok mixed Try.func109 (by kernel_rfl) rfl Try.ntmps109 rfl ⟨fun i _ j _ k hk => (noref (plain_nil (pl_encShape _ _)) hk).elim, trivial⟩ (fun _ => ⟨trivial, ⟨fun i _ j _ => val_flat (vl_encShape _ _), trivial⟩⟩) ?_
  unfold F_laws_markShapeS_mob at h
  unfold L_laws_markShapeS_mob_x4 at h
  generalize hLEN : @len = LEN at *
  generalize hGD : @gd = GD at *
  generalize hA : std = A at *
  generalize hP : Try.prog = P at *
  cbv
  replace h := of_bind h
  obtain ⟨y5, hr6, hN7⟩ := h
  refine loop_cut hr6 (fun x => (sparse 52 [(0, .c (.os 5 0 (LEN a0))), (1, .c (.v (.int .i64 x.1))), (5, .c (.v (.int .i64 x.2.1)))] [(5, .arr .rw [] (LEN a0) 5 (row GD (encShape) x.2.2))])) ?_ (fun y e s => (fun (w : Int × (List TShape)) => e = .exit 0 ∧ s.le (sparse 52 [(1, .c (.v (.int .i64 w.1)))] [(5, .arr .rw [] (LEN a0) 5 (row GD (encShape) w.2))])) y) ?_ ?_
  · clear hr6 hN7
    show St.le _ _
    exact le_sparse rfl ⟨AV.le_refl _, AV.le_refl _, AV.le_refl _, trivial⟩ ⟨⟨fun hw => hw, fun c hc => (by cases hc), .inl rfl, rfl, rfl, fun i hi j hj => rfl⟩, trivial⟩ rfl
  · clear hr6 hN7
    intro x z11 h K9 hK10 hY8
    obtain ⟨x0_, x1_, x2_⟩ := x
    replace h := of_let h
    obtain ⟨v1, hv1, h⟩ := h
    have hv1 : v1 = x0_ := hv1
    subst hv1
    replace h := of_let h
    obtain ⟨v2, hv2, h⟩ := h
    have hv2 : v2 = x1_ := hv2
    subst hv2
    replace h := of_let h
    obtain ⟨v3, hv3, h⟩ := h
    have hv3 : v3 = x2_ := hv3
    subst hv3
    cbv
    refine fork (fun b31 => ?_) (fun b31 => ?_)
    · replace h := of_br_t b31 h
      cbv
      replace h := of_req h
      obtain ⟨c16, h⟩ := h
      refine ⟨⟨c16, trivial⟩, ?_⟩
      replace h := of_req h
      obtain ⟨c30, h⟩ := h
      replace h := of_let h
      obtain ⟨l17, hl17, h⟩ := h
      refine And.intro (by first | exact (by subst hA; exact idx_lt c16) | (refine And.intro (by subst hA; exact idx_lt c16) ?_; first | trivial | exact ⟨trivial, trivial⟩)) ?_
      refine ⟨_, rfl, _, row GD (encShape) l17, rfl, ?_, ?_⟩
      · subst hGD hLEN hA
        rw [c30] at c16
        refine upd_set hl17 (idx_lt c16) ?_ ?_
        · intro b hb hh
          match b, hb, hh with | 0, _, hh => exact rfl | 1, _, hh => exact (absurd hh (show ¬ (0 ≤ 1 ∧ 1 < 0 + 1) from by decide)) | 2, _, hh => exact (absurd hh (show ¬ (0 ≤ 2 ∧ 2 < 0 + 1) from by decide)) | 3, _, hh => exact (absurd hh (show ¬ (0 ≤ 3 ∧ 3 < 0 + 1) from by decide)) | 4, _, hh => exact (absurd hh (show ¬ (0 ≤ 4 ∧ 4 < 0 + 1) from by decide)) | (b_ + 5), h_, _ => exact absurd h_ (by omega)
        · intro b hb hh
          match b, hb, hh with | 0, _, hh => exact (absurd (show 0 ≤ 0 ∧ 0 < 0 + 1 from by decide) hh) | 1, _, hh => exact rfl | 2, _, hh => exact rfl | 3, _, hh => exact rfl | 4, _, hh => exact rfl | (b_ + 5), h_, _ => exact absurd h_ (by omega)
      cbv
      replace h := of_req h
      obtain ⟨c18, h⟩ := h
      refine ⟨⟨c18, trivial⟩, ?_⟩
      replace h := of_req h
      obtain ⟨c29, h⟩ := h
      replace h := of_let h
      obtain ⟨l19, hl19, h⟩ := h
      refine And.intro (by first | exact (by subst hA; exact idx_lt c18) | (refine And.intro (by subst hA; exact idx_lt c18) ?_; first | trivial | exact ⟨trivial, trivial⟩)) ?_
      refine ⟨_, rfl, _, row GD (encShape) l19, rfl, ?_, ?_⟩
      · subst hGD hLEN hA
        rw [c29] at c18
        refine upd_set hl19 (idx_lt c18) ?_ ?_
        · intro b hb hh
          match b, hb, hh with | 0, _, hh => exact (absurd hh (show ¬ (1 ≤ 0 ∧ 0 < 1 + 1) from by decide)) | 1, _, hh => exact rfl | 2, _, hh => exact (absurd hh (show ¬ (1 ≤ 2 ∧ 2 < 1 + 1) from by decide)) | 3, _, hh => exact (absurd hh (show ¬ (1 ≤ 3 ∧ 3 < 1 + 1) from by decide)) | 4, _, hh => exact (absurd hh (show ¬ (1 ≤ 4 ∧ 4 < 1 + 1) from by decide)) | (b_ + 5), h_, _ => exact absurd h_ (by omega)
        · intro b hb hh
          match b, hb, hh with | 0, _, hh => exact rfl | 1, _, hh => exact (absurd (show 1 ≤ 1 ∧ 1 < 1 + 1 from by decide) hh) | 2, _, hh => exact rfl | 3, _, hh => exact rfl | 4, _, hh => exact rfl | (b_ + 5), h_, _ => exact absurd h_ (by omega)
      cbv
      replace h := of_req h
      obtain ⟨c20, h⟩ := h
      refine ⟨⟨c20, trivial⟩, ?_⟩
      replace h := of_req h
      obtain ⟨c28, h⟩ := h
      replace h := of_let h
      obtain ⟨l21, hl21, h⟩ := h
      refine And.intro (by first | exact (by subst hA; exact idx_lt c20) | (refine And.intro (by subst hA; exact idx_lt c20) ?_; first | trivial | exact ⟨trivial, trivial⟩)) ?_
      refine ⟨_, rfl, _, row GD (encShape) l21, rfl, ?_, ?_⟩
      · subst hGD hLEN hA
        rw [c28] at c20
        refine upd_set hl21 (idx_lt c20) ?_ ?_
        · intro b hb hh
          match b, hb, hh with | 0, _, hh => exact (absurd hh (show ¬ (2 ≤ 0 ∧ 0 < 2 + 1) from by decide)) | 1, _, hh => exact (absurd hh (show ¬ (2 ≤ 1 ∧ 1 < 2 + 1) from by decide)) | 2, _, hh => exact rfl | 3, _, hh => exact (absurd hh (show ¬ (2 ≤ 3 ∧ 3 < 2 + 1) from by decide)) | 4, _, hh => exact (absurd hh (show ¬ (2 ≤ 4 ∧ 4 < 2 + 1) from by decide)) | (b_ + 5), h_, _ => exact absurd h_ (by omega)
        · intro b hb hh
          match b, hb, hh with | 0, _, hh => exact rfl | 1, _, hh => exact rfl | 2, _, hh => exact (absurd (show 2 ≤ 2 ∧ 2 < 2 + 1 from by decide) hh) | 3, _, hh => exact rfl | 4, _, hh => exact rfl | (b_ + 5), h_, _ => exact absurd h_ (by omega)
      cbv
      replace h := of_req h
      obtain ⟨c22, h⟩ := h
      refine ⟨⟨c22, trivial⟩, ?_⟩
      replace h := of_req h
      obtain ⟨c27, h⟩ := h
      replace h := of_let h
      obtain ⟨l23, hl23, h⟩ := h
      refine And.intro (by first | exact (by subst hA; exact idx_lt c22) | (refine And.intro (by subst hA; exact idx_lt c22) ?_; first | trivial | exact ⟨trivial, trivial⟩)) ?_
      refine ⟨_, rfl, _, row GD (encShape) l23, rfl, ?_, ?_⟩
      · subst hGD hLEN hA
        rw [c27] at c22
        refine upd_set hl23 (idx_lt c22) ?_ ?_
        · intro b hb hh
          match b, hb, hh with | 0, _, hh => exact (absurd hh (show ¬ (3 ≤ 0 ∧ 0 < 3 + 1) from by decide)) | 1, _, hh => exact (absurd hh (show ¬ (3 ≤ 1 ∧ 1 < 3 + 1) from by decide)) | 2, _, hh => exact (absurd hh (show ¬ (3 ≤ 2 ∧ 2 < 3 + 1) from by decide)) | 3, _, hh => exact rfl | 4, _, hh => exact (absurd hh (show ¬ (3 ≤ 4 ∧ 4 < 3 + 1) from by decide)) | (b_ + 5), h_, _ => exact absurd h_ (by omega)
        · intro b hb hh
          match b, hb, hh with | 0, _, hh => exact rfl | 1, _, hh => exact rfl | 2, _, hh => exact rfl | 3, _, hh => exact (absurd (show 3 ≤ 3 ∧ 3 < 3 + 1 from by decide) hh) | 4, _, hh => exact rfl | (b_ + 5), h_, _ => exact absurd h_ (by omega)
      cbv
      replace h := of_req h
      obtain ⟨c24, h⟩ := h
      refine ⟨⟨c24, trivial⟩, ?_⟩
      replace h := of_req h
      obtain ⟨c26, h⟩ := h
      replace h := of_let h
      obtain ⟨l25, hl25, h⟩ := h
      refine And.intro (by first | exact (by subst hA; exact idx_lt c24) | (refine And.intro (by subst hA; exact idx_lt c24) ?_; first | trivial | exact ⟨trivial, trivial⟩)) ?_
      refine ⟨_, rfl, _, row GD (encShape) l25, rfl, ?_, ?_⟩
      · subst hGD hLEN hA
        rw [c26] at c24
        refine upd_set hl25 (idx_lt c24) ?_ ?_
        · intro b hb hh
          match b, hb, hh with | 0, _, hh => exact (absurd hh (show ¬ (4 ≤ 0 ∧ 0 < 4 + 1) from by decide)) | 1, _, hh => exact (absurd hh (show ¬ (4 ≤ 1 ∧ 1 < 4 + 1) from by decide)) | 2, _, hh => exact (absurd hh (show ¬ (4 ≤ 2 ∧ 2 < 4 + 1) from by decide)) | 3, _, hh => exact (absurd hh (show ¬ (4 ≤ 3 ∧ 3 < 4 + 1) from by decide)) | 4, _, hh => exact rfl | (b_ + 5), h_, _ => exact absurd h_ (by omega)
        · intro b hb hh
          match b, hb, hh with | 0, _, hh => exact rfl | 1, _, hh => exact rfl | 2, _, hh => exact rfl | 3, _, hh => exact rfl | 4, _, hh => exact (absurd (show 4 ≤ 4 ∧ 4 < 4 + 1 from by decide) hh) | (b_ + 5), h_, _ => exact absurd h_ (by omega)
      cbv
      injection h with h
      refine hK10 _ h.symm _ ?_
      exact le_sparse rfl ⟨AV.le_refl _, AV.le_refl _, AV.le_refl _, trivial⟩ ⟨⟨fun hw => hw, fun c hc => (by cases hc), .inl rfl, rfl, rfl, fun i hi j hj => rfl⟩, trivial⟩ rfl
    · replace h := of_br_f b31 h
      cbv
      injection h with h
      refine hY8 _ h.symm _ _ (And.intro rfl ?_) (by intro hh; cases hh)
      exact le_sparse rfl ⟨AV.le_refl _, trivial⟩ ⟨⟨fun hw => hw, fun c hc => (by cases hc), .inl rfl, rfl, rfl, fun i hi j hj => rfl⟩, trivial⟩ rfl
  · clear hr6
    have h := hN7
    clear hN7
    intro e14 s15 q13 hne
    replace h := of_let h
    obtain ⟨y5k0, hyk, h⟩ := h
    have hyk : y5k0 = y5 := hyk
    subst hyk
    obtain ⟨rfl, q13⟩ := q13
    obtain ⟨y5k0_0, y5k0_1⟩ := y5k0
    replace h := of_let h
    obtain ⟨w32, hw32, h⟩ := h
    have hw32 : w32 = y5k0_0 := hw32
    subst hw32
    replace h := of_let h
    obtain ⟨w33, hw33, h⟩ := h
    have hw33 : w33 = y5k0_1 := hw33
    subst hw33
    cbv
    refine ⟨_, q13, ?_⟩
    cbv
    replace h := of_req h
    obtain ⟨c34, h⟩ := h
    injection h with h
    subst h
    refine ⟨(sparse 52 [(4, .c (.v (.int .i64 w32)))] [(5, .arr .rw [] (LEN w33) 5 (row GD (encShape) w33))]), ?_, ?_⟩
    · rw [c34]
      exact le_sparse rfl ⟨AV.le_refl _, trivial⟩ ⟨⟨fun hw => hw, fun c hc => (by cases hc), .inl rfl, rfl, rfl, fun i hi j hj => rfl⟩, trivial⟩ rfl
    · exact ⟨AV.le_refl _, ⟨⟨fun hw => hw, fun c hc => (by cases hc), .inl rfl, rfl, rfl, fun i hi j hj => rfl⟩, trivial⟩, rfl⟩

noncomputable def L_laws_markLabelS_mob_x4 (a0 : List TLabel) : (Int × Int × (List TLabel)) → Option ((Int × Int × (List TLabel)) ⊕ ((Int × (List TLabel)))) := fun x4 =>
  letO x4.1 fun v1 =>
  letO x4.2.1 fun v2 =>
  letO x4.2.2 fun v3 =>
  br (std.lt v2 (std.ofN (len a0)))
  (req (std.inR v2 (len a0)) <|
  req (len a0 = len v3) <|
  letO (List.set v3 (std.nadd 0 (std.toN v2)) (TLabel.mk v1 (gd v3 (std.nadd 0 (std.toN v2))).fAt (gd v3 (std.nadd 0 (std.toN v2))).fName)) fun l17 =>
  req (std.inR v2 (len a0)) <|
  req (len a0 = len l17) <|
  letO (List.set l17 (std.nadd 0 (std.toN v2)) (TLabel.mk (gd l17 (std.nadd 0 (std.toN v2))).fLayer (TPoint.mk (std.add .i64 v1 1) (gd l17 (std.nadd 0 (std.toN v2))).fAt.fY) (gd l17 (std.nadd 0 (std.toN v2))).fName)) fun l19 =>
  req (std.inR v2 (len a0)) <|
  req (len a0 = len l19) <|
  letO (List.set l19 (std.nadd 0 (std.toN v2)) (TLabel.mk (gd l19 (std.nadd 0 (std.toN v2))).fLayer (TPoint.mk (gd l19 (std.nadd 0 (std.toN v2))).fAt.fX (std.add .i64 (std.add .i64 v1 1) 1)) (gd l19 (std.nadd 0 (std.toN v2))).fName)) fun l21 =>
  (F_laws_markText (std.add .i64 (std.add .i64 (std.add .i64 v1 1) 1) 1)).bind fun y22 =>
  req (std.inR v2 (len a0)) <|
  req (len a0 = len l21) <|
  letO (List.set l21 (std.nadd 0 (std.toN v2)) (TLabel.mk (gd l21 (std.nadd 0 (std.toN v2))).fLayer (gd l21 (std.nadd 0 (std.toN v2))).fAt y22)) fun l25 =>
  some (.inl (std.add .i64 (std.add .i64 (std.add .i64 (std.add .i64 v1 1) 1) 1) 1, std.add .i64 v2 1, l25)))
  (some (.inr (v1, v3)))
/-- laws.markLabelS -/
noncomputable def F_laws_markLabelS_mob (a0 : List TLabel) (a1 : Int) : Option (Int × (List TLabel)) :=
  (whileP (σ := Int × Int × (List TLabel)) (ρ := (Int × (List TLabel))) (L_laws_markLabelS_mob_x4 a0) (a1, 0, a0)).bind fun y5 =>
  letO y5 fun y5k0 =>
  letO y5k0.1 fun w31 =>
  letO y5k0.2 fun w32 =>
  req (len a0 = len w32) <|
  some (w31, w32)
theorem run_laws_markLabelS_mob (a0 : List TLabel) (a1 : Int) (r : Int × (List TLabel)) (h : F_laws_markLabelS_mob a0 a1 = some r) : Fun Try.prog 110 [.c (.os 5 0 (len a0)), .c (.v (.int .i64 a1))] [(5, .arr .rw [] (len a0) 4 (row gd (encLabel) a0))] (.c (.v (.int .i64 r.1))) [(5, .arr .rw [] (len r.2) 4 (row gd (encLabel) r.2))] true := by
  refine Fun.of_wp (oneOf []) tok mixed Try.func110 (by kernel_rfl) rfl Try.ntmps110 rfl ⟨fun i _ j _ k hk => (noref (plain_nil (pl_encLabel _ _)) hk).elim, trivial⟩ (fun _ => ⟨trivial, ⟨fun i _ j _ => val_flat (vl_encLabel _ _), trivial⟩⟩) ?_
  unfold F_laws_markLabelS_mob at h
  unfold L_laws_markLabelS_mob_x4 at h
  have hf_laws_markText := @run_laws_markText
  generalize hLEN : @len = LEN at *
  generalize hGD : @gd = GD at *
  generalize hA : std = A at *
  generalize hP : Try.prog = P at *
  cbv
  replace h := of_bind h
  obtain ⟨y5, hr6, hN7⟩ := h
  refine loop_cut hr6 (fun x => (sparse 44 [(0, .c (.os 5 0 (LEN a0))), (1, .c (.v (.int .i64 x.1))), (5, .c (.v (.int .i64 x.2.1)))] [(5, .arr .rw [] (LEN a0) 4 (row GD (encLabel) x.2.2))])) ?_ (fun y e s => (fun (w : Int × (List TLabel)) => e = .exit 0 ∧ s.le (sparse 44 [(1, .c (.v (.int .i64 w.1)))] [(5, .arr .rw [] (LEN a0) 4 (row GD (encLabel) w.2))])) y) ?_ ?_
  · clear hr6 hN7
    show St.le _ _
    exact le_sparse rfl ⟨AV.le_refl _, AV.le_refl _, AV.le_refl _, trivial⟩ ⟨⟨fun hw => hw, fun c hc => (by cases hc), .inl rfl, rfl, rfl, fun i hi j hj => rfl⟩, trivial⟩ rfl
  · clear hr6 hN7
    intro x z11 h K9 hK10 hY8
    obtain ⟨x0_, x1_, x2_⟩ := x
    replace h := of_let h
    obtain ⟨v1, hv1, h⟩ := h
    have hv1 : v1 = x0_ := hv1
    subst hv1
    replace h := of_let h
    obtain ⟨v2, hv2, h⟩ := h
    have hv2 : v2 = x1_ := hv2
    subst hv2
    replace h := of_let h
    obtain ⟨v3, hv3, h⟩ := h
    have hv3 : v3 = x2_ := hv3
    subst hv3
    cbv
    refine fork (fun b30 => ?_) (fun b30 => ?_)
    · replace h := of_br_t b30 h
      cbv
      replace h := of_req h
      obtain ⟨c16, h⟩ := h
      refine ⟨⟨c16, trivial⟩, ?_⟩
      replace h := of_req h
      obtain ⟨c29, h⟩ := h
      replace h := of_let h
      obtain ⟨l17, hl17, h⟩ := h
      refine And.intro (by first | exact (by subst hA; exact idx_lt c16) | (refine And.intro (by subst hA; exact idx_lt c16) ?_; first | trivial | exact ⟨trivial, trivial⟩)) ?_
      refine ⟨_, rfl, _, row GD (encLabel) l17, rfl, ?_, ?_⟩
      · subst hGD hLEN hA
        rw [c29] at c16
        refine upd_set hl17 (idx_lt c16) ?_ ?_
        · intro b hb hh
          match b, hb, hh with | 0, _, hh => exact rfl | 1, _, hh => exact (absurd hh (show ¬ (0 ≤ 1 ∧ 1 < 0 + 1) from by decide)) | 2, _, hh => exact (absurd hh (show ¬ (0 ≤ 2 ∧ 2 < 0 + 1) from by decide)) | 3, _, hh => exact (absurd hh (show ¬ (0 ≤ 3 ∧ 3 < 0 + 1) from by decide)) | (b_ + 4), h_, _ => exact absurd h_ (by omega)
        · intro b hb hh
          match b, hb, hh with | 0, _, hh => exact (absurd (show 0 ≤ 0 ∧ 0 < 0 + 1 from by decide) hh) | 1, _, hh => exact rfl | 2, _, hh => exact rfl | 3, _, hh => exact rfl | (b_ + 4), h_, _ => exact absurd h_ (by omega)
      cbv
      replace h := of_req h
      obtain ⟨c18, h⟩ := h
      refine ⟨⟨c18, trivial⟩, ?_⟩
      replace h := of_req h
      obtain ⟨c28, h⟩ := h
      replace h := of_let h
      obtain ⟨l19, hl19, h⟩ := h
      refine And.intro (by first | exact (by subst hA; exact idx_lt c18) | (refine And.intro (by subst hA; exact idx_lt c18) ?_; first | trivial | exact ⟨trivial, trivial⟩)) ?_
      refine ⟨_, rfl, _, row GD (encLabel) l19, rfl, ?_, ?_⟩
      · subst hGD hLEN hA
        rw [c28] at c18
        refine upd_set hl19 (idx_lt c18) ?_ ?_
        · intro b hb hh
          match b, hb, hh with | 0, _, hh => exact (absurd hh (show ¬ (1 ≤ 0 ∧ 0 < 1 + 1) from by decide)) | 1, _, hh => exact rfl | 2, _, hh => exact (absurd hh (show ¬ (1 ≤ 2 ∧ 2 < 1 + 1) from by decide)) | 3, _, hh => exact (absurd hh (show ¬ (1 ≤ 3 ∧ 3 < 1 + 1) from by decide)) | (b_ + 4), h_, _ => exact absurd h_ (by omega)
        · intro b hb hh
          match b, hb, hh with | 0, _, hh => exact rfl | 1, _, hh => exact (absurd (show 1 ≤ 1 ∧ 1 < 1 + 1 from by decide) hh) | 2, _, hh => exact rfl | 3, _, hh => exact rfl | (b_ + 4), h_, _ => exact absurd h_ (by omega)
      cbv
      replace h := of_req h
      obtain ⟨c20, h⟩ := h
      refine ⟨⟨c20, trivial⟩, ?_⟩
      replace h := of_req h
      obtain ⟨c27, h⟩ := h
      replace h := of_let h
      obtain ⟨l21, hl21, h⟩ := h
      refine And.intro (by first | exact (by subst hA; exact idx_lt c20) | (refine And.intro (by subst hA; exact idx_lt c20) ?_; first | trivial | exact ⟨trivial, trivial⟩)) ?_
      refine ⟨_, rfl, _, row GD (encLabel) l21, rfl, ?_, ?_⟩
      · subst hGD hLEN hA
        rw [c27] at c20
        refine upd_set hl21 (idx_lt c20) ?_ ?_
        · intro b hb hh
          match b, hb, hh with | 0, _, hh => exact (absurd hh (show ¬ (2 ≤ 0 ∧ 0 < 2 + 1) from by decide)) | 1, _, hh => exact (absurd hh (show ¬ (2 ≤ 1 ∧ 1 < 2 + 1) from by decide)) | 2, _, hh => exact rfl | 3, _, hh => exact (absurd hh (show ¬ (2 ≤ 3 ∧ 3 < 2 + 1) from by decide)) | (b_ + 4), h_, _ => exact absurd h_ (by omega)
        · intro b hb hh
          match b, hb, hh with | 0, _, hh => exact rfl | 1, _, hh => exact rfl | 2, _, hh => exact (absurd (show 2 ≤ 2 ∧ 2 < 2 + 1 from by decide) hh) | 3, _, hh => exact rfl | (b_ + 4), h_, _ => exact absurd h_ (by omega)
      cbv
      replace h := of_bind h
      obtain ⟨y22, hy23, h⟩ := h
      refine ⟨{ args := [.c (.v (.int .i64 (A.add .i64 (A.add .i64 (A.add .i64 v1 1) 1) 1)))], o0 := [], r := .c (.v (.string y22)), o1 := [], fl := true, σ := [], τ := [] }, hf_laws_markText _ _ hy23, ⟨les_cons (AV.le_refl _) (les_nil), trivial, rfl, rfl, rfl, rfl, trivial, rfl⟩, ?_⟩
      cbv
      replace h := of_req h
      obtain ⟨c24, h⟩ := h
      refine ⟨⟨c24, trivial⟩, ?_⟩
      replace h := of_req h
      obtain ⟨c26, h⟩ := h
      replace h := of_let h
      obtain ⟨l25, hl25, h⟩ := h
      refine And.intro (by first | exact (by subst hA; exact idx_lt c24) | (refine And.intro (by subst hA; exact idx_lt c24) ?_; first | trivial | exact ⟨trivial, trivial⟩)) ?_
      refine ⟨_, rfl, _, row GD (encLabel) l25, rfl, ?_, ?_⟩
      · subst hGD hLEN hA
        rw [c26] at c24
        refine upd_set hl25 (idx_lt c24) ?_ ?_
        · intro b hb hh
          match b, hb, hh with | 0, _, hh => exact (absurd hh (show ¬ (3 ≤ 0 ∧ 0 < 3 + 1) from by decide)) | 1, _, hh => exact (absurd hh (show ¬ (3 ≤ 1 ∧ 1 < 3 + 1) from by decide)) | 2, _, hh => exact (absurd hh (show ¬ (3 ≤ 2 ∧ 2 < 3 + 1) from by decide)) | 3, _, hh => exact rfl | (b_ + 4), h_, _ => exact absurd h_ (by omega)
        · intro b hb hh
          match b, hb, hh with | 0, _, hh => exact rfl | 1, _, hh => exact rfl | 2, _, hh => exact rfl | 3, _, hh => exact (absurd (show 3 ≤ 3 ∧ 3 < 3 + 1 from by decide) hh) | (b_ + 4), h_, _ => exact absurd h_ (by omega)
      cbv
      injection h with h
      refine hK10 _ h.symm _ ?_
      exact le_sparse rfl ⟨AV.le_refl _, AV.le_refl _, AV.le_refl _, trivial⟩ ⟨⟨fun hw => hw, fun c hc => (by cases hc), .inl rfl, rfl, rfl, fun i hi j hj => rfl⟩, trivial⟩ rfl
    · replace h := of_br_f b30 h
      cbv
      injection h with h
      refine hY8 _ h.symm _ _ (And.intro rfl ?_) (by intro hh; cases hh)
      exact le_sparse rfl ⟨AV.le_refl _, trivial⟩ ⟨⟨fun hw => hw, fun c hc => (by cases hc), .inl rfl, rfl, rfl, fun i hi j hj => rfl⟩, trivial⟩ rfl
  · clear hr6
    have h := hN7
    clear hN7
    intro e14 s15 q13 hne
    replace h := of_let h
    obtain ⟨y5k0, hyk, h⟩ := h
    have hyk : y5k0 = y5 := hyk
    subst hyk
    obtain ⟨rfl, q13⟩ := q13
    obtain ⟨y5k0_0, y5k0_1⟩ := y5k0
    replace h := of_let h
    obtain ⟨w31, hw31, h⟩ := h
    have hw31 : w31 = y5k0_0 := hw31
    subst hw31
    replace h := of_let h
    obtain ⟨w32, hw32, h⟩ := h
    have hw32 : w32 = y5k0_1 := hw32
    subst hw32
    cbv
    refine ⟨_, q13, ?_⟩
    cbv
    replace h := of_req h
    obtain ⟨c33, h⟩ := h
    injection h with h
    subst h
    refine ⟨(sparse 44 [(4, .c (.v (.int .i64 w31)))] [(5, .arr .rw [] (LEN w32) 4 (row GD (encLabel) w32))]), ?_, ?_⟩
    · rw [c33]
      exact le_sparse rfl ⟨AV.le_refl _, trivial⟩ ⟨⟨fun hw => hw, fun c hc => (by cases hc), .inl rfl, rfl, rfl, fun i hi j hj => rfl⟩, trivial⟩ rfl
    · exact ⟨AV.le_refl _, ⟨⟨fun hw => hw, fun c hc => (by cases hc), .inl rfl, rfl, rfl, fun i hi j hj => rfl⟩, trivial⟩, rfl⟩

noncomputable def L_laws_markInstanceS_mob_x4 (a0 : List TInstance) : (Int × Int × (List TInstance)) → Option ((Int × Int × (List TInstance)) ⊕ ((Int × (List TInstance)))) := fun x4 =>
  letO x4.1 fun v1 =>
  letO x4.2.1 fun v2 =>
  letO x4.2.2 fun v3 =>
  br (std.lt v2 (std.ofN (len a0)))
  (req (std.inR v2 (len a0)) <|
  req (len a0 = len v3) <|
  letO (List.set v3 (std.nadd 0 (std.toN v2)) (TInstance.mk v1 (gd v3 (std.nadd 0 (std.toN v2))).fPlace (gd v3 (std.nadd 0 (std.toN v2))).fColumns (gd v3 (std.nadd 0 (std.toN v2))).fRows (gd v3 (std.nadd 0 (std.toN v2))).fStepX (gd v3 (std.nadd 0 (std.toN v2))).fStepY)) fun l17 =>
  req (std.inR v2 (len a0)) <|
  req (len a0 = len l17) <|
  letO (List.set l17 (std.nadd 0 (std.toN v2)) (TInstance.mk (gd l17 (std.nadd 0 (std.toN v2))).fCell (TTransform.mk (std.add .i64 v1 1) (gd l17 (std.nadd 0 (std.toN v2))).fPlace.fX (gd l17 (std.nadd 0 (std.toN v2))).fPlace.fY) (gd l17 (std.nadd 0 (std.toN v2))).fColumns (gd l17 (std.nadd 0 (std.toN v2))).fRows (gd l17 (std.nadd 0 (std.toN v2))).fStepX (gd l17 (std.nadd 0 (std.toN v2))).fStepY)) fun l19 =>
  req (std.inR v2 (len a0)) <|
  req (len a0 = len l19) <|
  letO (List.set l19 (std.nadd 0 (std.toN v2)) (TInstance.mk (gd l19 (std.nadd 0 (std.toN v2))).fCell (TTransform.mk (gd l19 (std.nadd 0 (std.toN v2))).fPlace.fOrientation (std.add .i64 (std.add .i64 v1 1) 1) (gd l19 (std.nadd 0 (std.toN v2))).fPlace.fY) (gd l19 (std.nadd 0 (std.toN v2))).fColumns (gd l19 (std.nadd 0 (std.toN v2))).fRows (gd l19 (std.nadd 0 (std.toN v2))).fStepX (gd l19 (std.nadd 0 (std.toN v2))).fStepY)) fun l21 =>
  req (std.inR v2 (len a0)) <|
  req (len a0 = len l21) <|
  letO (List.set l21 (std.nadd 0 (std.toN v2)) (TInstance.mk (gd l21 (std.nadd 0 (std.toN v2))).fCell (TTransform.mk (gd l21 (std.nadd 0 (std.toN v2))).fPlace.fOrientation (gd l21 (std.nadd 0 (std.toN v2))).fPlace.fX (std.add .i64 (std.add .i64 (std.add .i64 v1 1) 1) 1)) (gd l21 (std.nadd 0 (std.toN v2))).fColumns (gd l21 (std.nadd 0 (std.toN v2))).fRows (gd l21 (std.nadd 0 (std.toN v2))).fStepX (gd l21 (std.nadd 0 (std.toN v2))).fStepY)) fun l23 =>
  req (std.inR v2 (len a0)) <|
  req (len a0 = len l23) <|
  letO (List.set l23 (std.nadd 0 (std.toN v2)) (TInstance.mk (gd l23 (std.nadd 0 (std.toN v2))).fCell (gd l23 (std.nadd 0 (std.toN v2))).fPlace (std.add .i64 (std.add .i64 (std.add .i64 (std.add .i64 v1 1) 1) 1) 1) (gd l23 (std.nadd 0 (std.toN v2))).fRows (gd l23 (std.nadd 0 (std.toN v2))).fStepX (gd l23 (std.nadd 0 (std.toN v2))).fStepY)) fun l25 =>
  req (std.inR v2 (len a0)) <|
  req (len a0 = len l25) <|
  letO (List.set l25 (std.nadd 0 (std.toN v2)) (TInstance.mk (gd l25 (std.nadd 0 (std.toN v2))).fCell (gd l25 (std.nadd 0 (std.toN v2))).fPlace (gd l25 (std.nadd 0 (std.toN v2))).fColumns (std.add .i64 (std.add .i64 (std.add .i64 (std.add .i64 (std.add .i64 v1 1) 1) 1) 1) 1) (gd l25 (std.nadd 0 (std.toN v2))).fStepX (gd l25 (std.nadd 0 (std.toN v2))).fStepY)) fun l27 =>
  req (std.inR v2 (len a0)) <|
  req (len a0 = len l27) <|
  letO (List.set l27 (std.nadd 0 (std.toN v2)) (TInstance.mk (gd l27 (std.nadd 0 (std.toN v2))).fCell (gd l27 (std.nadd 0 (std.toN v2))).fPlace (gd l27 (std.nadd 0 (std.toN v2))).fColumns (gd l27 (std.nadd 0 (std.toN v2))).fRows (std.add .i64 (std.add .i64 (std.add .i64 (std.add .i64 (std.add .i64 (std.add .i64 v1 1) 1) 1) 1) 1) 1) (gd l27 (std.nadd 0 (std.toN v2))).fStepY)) fun l29 =>
  req (std.inR v2 (len a0)) <|
  req (len a0 = len l29) <|
  letO (List.set l29 (std.nadd 0 (std.toN v2)) (TInstance.mk (gd l29 (std.nadd 0 (std.toN v2))).fCell (gd l29 (std.nadd 0 (std.toN v2))).fPlace (gd l29 (std.nadd 0 (std.toN v2))).fColumns (gd l29 (std.nadd 0 (std.toN v2))).fRows (gd l29 (std.nadd 0 (std.toN v2))).fStepX (std.add .i64 (std.add .i64 (std.add .i64 (std.add .i64 (std.add .i64 (std.add .i64 (std.add .i64 v1 1) 1) 1) 1) 1) 1) 1))) fun l31 =>
  some (.inl (std.add .i64 (std.add .i64 (std.add .i64 (std.add .i64 (std.add .i64 (std.add .i64 (std.add .i64 (std.add .i64 v1 1) 1) 1) 1) 1) 1) 1) 1, std.add .i64 v2 1, l31)))
  (some (.inr (v1, v3)))
/-- laws.markInstanceS -/
noncomputable def F_laws_markInstanceS_mob (a0 : List TInstance) (a1 : Int) : Option (Int × (List TInstance)) :=
  (whileP (σ := Int × Int × (List TInstance)) (ρ := (Int × (List TInstance))) (L_laws_markInstanceS_mob_x4 a0) (a1, 0, a0)).bind fun y5 =>
  letO y5 fun y5k0 =>
  letO y5k0.1 fun w41 =>
  letO y5k0.2 fun w42 =>
  req (len a0 = len w42) <|
  some (w41, w42)
theorem run_laws_markInstanceS_mob (a0 : List TInstance) (a1 : Int) (r : Int × (List TInstance)) (h : F_laws_markInstanceS_mob a0 a1 = some r) : Fun Try.prog 111 [.c (.os 5 0 (len a0)), .c (.v (.int .i64 a1))] [(5, .arr .rw [] (len a0) 8 (row gd (encInstance) a0))] (.c (.v (.int .i64 r.1))) [(5, .arr .rw [] (len r.2) 8 (row gd (encInstance) r.2))] true := by
  refine Fun.of_wp (oneOf []) tok mixed Try.func111 (by kernel_rfl) rfl Try.ntmps111 rfl ⟨fun i _ j _ k hk => (noref (plain_nil (pl_encInstance _ _)) hk).elim, trivial⟩ (fun _ => ⟨trivial, ⟨fun i _ j _ => val_flat (vl_encInstance _ _), trivial⟩⟩) ?_
  unfold F_laws_markInstanceS_mob at h
  unfold L_laws_markInstanceS_mob_x4 at h
  generalize hLEN : @len = LEN at *
  generalize hGD : @gd = GD at *
  generalize hA : std = A at *
  generalize hP : Try.prog = P at *
  cbv
  replace h := of_bind h
  obtain ⟨y5, hr6, hN7⟩ := h
  refine loop_cut hr6 (fun x => (sparse 72 [(0, .c (.os 5 0 (LEN a0))), (1, .c (.v (.int .i64 x.1))), (5, .c (.v (.int .i64 x.2.1)))] [(5, .arr .rw [] (LEN a0) 8 (row GD (encInstance) x.2.2))])) ?_ (fun y e s => (fun (w : Int × (List TInstance)) => e = .exit 0 ∧ s.le (sparse 72 [(1, .c (.v (.int .i64 w.1)))] [(5, .arr .rw [] (LEN a0) 8 (row GD (encInstance) w.2))])) y) ?_ ?_
  · clear hr6 hN7
    show St.le _ _
    exact le_sparse rfl ⟨AV.le_refl _, AV.le_refl _, AV.le_refl _, trivial⟩ ⟨⟨fun hw => hw, fun c hc => (by cases hc), .inl rfl, rfl, rfl, fun i hi j hj => rfl⟩, trivial⟩ rfl
  · clear hr6 hN7
    intro x z11 h K9 hK10 hY8
    obtain ⟨x0_, x1_, x2_⟩ := x
    replace h := of_let h
    obtain ⟨v1, hv1, h⟩ := h
    have hv1 : v1 = x0_ := hv1
    subst hv1
    replace h := of_let h
    obtain ⟨v2, hv2, h⟩ := h
    have hv2 : v2 = x1_ := hv2
    subst hv2
    replace h := of_let h
    obtain ⟨v3, hv3, h⟩ := h
    have hv3 : v3 = x2_ := hv3
    subst hv3
    cbv
    refine fork (fun b40 => ?_) (fun b40 => ?_)
    · replace h := of_br_t b40 h
      cbv
      replace h := of_req h
      obtain ⟨c16, h⟩ := h
      refine ⟨⟨c16, trivial⟩, ?_⟩
      replace h := of_req h
      obtain ⟨c39, h⟩ := h
      replace h := of_let h
      obtain ⟨l17, hl17, h⟩ := h
      refine And.intro (by first | exact (by subst hA; exact idx_lt c16) | (refine And.intro (by subst hA; exact idx_lt c16) ?_; first | trivial | exact ⟨trivial, trivial⟩)) ?_
      refine ⟨_, rfl, _, row GD (encInstance) l17, rfl, ?_, ?_⟩
      · subst hGD hLEN hA
        rw [c39] at c16
        refine upd_set hl17 (idx_lt c16) ?_ ?_
        · intro b hb hh
          match b, hb, hh with | 0, _, hh => exact rfl | 1, _, hh => exact (absurd hh (show ¬ (0 ≤ 1 ∧ 1 < 0 + 1) from by decide)) | 2, _, hh => exact (absurd hh (show ¬ (0 ≤ 2 ∧ 2 < 0 + 1) from by decide)) | 3, _, hh => exact (absurd hh (show ¬ (0 ≤ 3 ∧ 3 < 0 + 1) from by decide)) | 4, _, hh => exact (absurd hh (show ¬ (0 ≤ 4 ∧ 4 < 0 + 1) from by decide)) | 5, _, hh => exact (absurd hh (show ¬ (0 ≤ 5 ∧ 5 < 0 + 1) from by decide)) | 6, _, hh => exact (absurd hh (show ¬ (0 ≤ 6 ∧ 6 < 0 + 1) from by decide)) | 7, _, hh => exact (absurd hh (show ¬ (0 ≤ 7 ∧ 7 < 0 + 1) from by decide)) | (b_ + 8), h_, _ => exact absurd h_ (by omega)
        · intro b hb hh
          match b, hb, hh with | 0, _, hh => exact (absurd (show 0 ≤ 0 ∧ 0 < 0 + 1 from by decide) hh) | 1, _, hh => exact rfl | 2, _, hh => exact rfl | 3, _, hh => exact rfl | 4, _, hh => exact rfl | 5, _, hh => exact rfl | 6, _, hh => exact rfl | 7, _, hh => exact rfl | (b_ + 8), h_, _ => exact absurd h_ (by omega)
      cbv
      replace h := of_req h
      obtain ⟨c18, h⟩ := h
      refine ⟨⟨c18, trivial⟩, ?_⟩
      replace h := of_req h
      obtain ⟨c38, h⟩ := h
      replace h := of_let h
      obtain ⟨l19, hl19, h⟩ := h
      refine And.intro (by first | exact (by subst hA; exact idx_lt c18) | (refine And.intro (by subst hA; exact idx_lt c18) ?_; first | trivial | exact ⟨trivial, trivial⟩)) ?_
      refine ⟨_, rfl, _, row GD (encInstance) l19, rfl, ?_, ?_⟩
      · subst hGD hLEN hA
        rw [c38] at c18
        refine upd_set hl19 (idx_lt c18) ?_ ?_
        · intro b hb hh
          match b, hb, hh with | 0, _, hh => exact (absurd hh (show ¬ (1 ≤ 0 ∧ 0 < 1 + 1) from by decide)) | 1, _, hh => exact rfl | 2, _, hh => exact (absurd hh (show ¬ (1 ≤ 2 ∧ 2 < 1 + 1) from by decide)) | 3, _, hh => exact (absurd hh (show ¬ (1 ≤ 3 ∧ 3 < 1 + 1) from by decide)) | 4, _, hh => exact (absurd hh (show ¬ (1 ≤ 4 ∧ 4 < 1 + 1) from by decide)) | 5, _, hh => exact (absurd hh (show ¬ (1 ≤ 5 ∧ 5 < 1 + 1) from by decide)) | 6, _, hh => exact (absurd hh (show ¬ (1 ≤ 6 ∧ 6 < 1 + 1) from by decide)) | 7, _, hh => exact (absurd hh (show ¬ (1 ≤ 7 ∧ 7 < 1 + 1) from by decide)) | (b_ + 8), h_, _ => exact absurd h_ (by omega)
        · intro b hb hh
          match b, hb, hh with | 0, _, hh => exact rfl | 1, _, hh => exact (absurd (show 1 ≤ 1 ∧ 1 < 1 + 1 from by decide) hh) | 2, _, hh => exact rfl | 3, _, hh => exact rfl | 4, _, hh => exact rfl | 5, _, hh => exact rfl | 6, _, hh => exact rfl | 7, _, hh => exact rfl | (b_ + 8), h_, _ => exact absurd h_ (by omega)
      cbv
      replace h := of_req h
      obtain ⟨c20, h⟩ := h
      refine ⟨⟨c20, trivial⟩, ?_⟩
      replace h := of_req h
      obtain ⟨c37, h⟩ := h
      replace h := of_let h
      obtain ⟨l21, hl21, h⟩ := h
      refine And.intro (by first | exact (by subst hA; exact idx_lt c20) | (refine And.intro (by subst hA; exact idx_lt c20) ?_; first | trivial | exact ⟨trivial, trivial⟩)) ?_
      refine ⟨_, rfl, _, row GD (encInstance) l21, rfl, ?_, ?_⟩
      · subst hGD hLEN hA
        rw [c37] at c20
        refine upd_set hl21 (idx_lt c20) ?_ ?_
        · intro b hb hh
          match b, hb, hh with | 0, _, hh => exact (absurd hh (show ¬ (2 ≤ 0 ∧ 0 < 2 + 1) from by decide)) | 1, _, hh => exact (absurd hh (show ¬ (2 ≤ 1 ∧ 1 < 2 + 1) from by decide)) | 2, _, hh => exact rfl | 3, _, hh => exact (absurd hh (show ¬ (2 ≤ 3 ∧ 3 < 2 + 1) from by decide)) | 4, _, hh => exact (absurd hh (show ¬ (2 ≤ 4 ∧ 4 < 2 + 1) from by decide)) | 5, _, hh => exact (absurd hh (show ¬ (2 ≤ 5 ∧ 5 < 2 + 1) from by decide)) | 6, _, hh => exact (absurd hh (show ¬ (2 ≤ 6 ∧ 6 < 2 + 1) from by decide)) | 7, _, hh => exact (absurd hh (show ¬ (2 ≤ 7 ∧ 7 < 2 + 1) from by decide)) | (b_ + 8), h_, _ => exact absurd h_ (by omega)
        · intro b hb hh
          match b, hb, hh with | 0, _, hh => exact rfl | 1, _, hh => exact rfl | 2, _, hh => exact (absurd (show 2 ≤ 2 ∧ 2 < 2 + 1 from by decide) hh) | 3, _, hh => exact rfl | 4, _, hh => exact rfl | 5, _, hh => exact rfl | 6, _, hh => exact rfl | 7, _, hh => exact rfl | (b_ + 8), h_, _ => exact absurd h_ (by omega)
      cbv
      replace h := of_req h
      obtain ⟨c22, h⟩ := h
      refine ⟨⟨c22, trivial⟩, ?_⟩
      replace h := of_req h
      obtain ⟨c36, h⟩ := h
      replace h := of_let h
      obtain ⟨l23, hl23, h⟩ := h
      refine And.intro (by first | exact (by subst hA; exact idx_lt c22) | (refine And.intro (by subst hA; exact idx_lt c22) ?_; first | trivial | exact ⟨trivial, trivial⟩)) ?_
      refine ⟨_, rfl, _, row GD (encInstance) l23, rfl, ?_, ?_⟩
      · subst hGD hLEN hA
        rw [c36] at c22
        refine upd_set hl23 (idx_lt c22) ?_ ?_
        · intro b hb hh
          match b, hb, hh with | 0, _, hh => exact (absurd hh (show ¬ (3 ≤ 0 ∧ 0 < 3 + 1) from by decide)) | 1, _, hh => exact (absurd hh (show ¬ (3 ≤ 1 ∧ 1 < 3 + 1) from by decide)) | 2, _, hh => exact (absurd hh (show ¬ (3 ≤ 2 ∧ 2 < 3 + 1) from by decide)) | 3, _, hh => exact rfl | 4, _, hh => exact (absurd hh (show ¬ (3 ≤ 4 ∧ 4 < 3 + 1) from by decide)) | 5, _, hh => exact (absurd hh (show ¬ (3 ≤ 5 ∧ 5 < 3 + 1) from by decide)) | 6, _, hh => exact (absurd hh (show ¬ (3 ≤ 6 ∧ 6 < 3 + 1) from by decide)) | 7, _, hh => exact (absurd hh (show ¬ (3 ≤ 7 ∧ 7 < 3 + 1) from by decide)) | (b_ + 8), h_, _ => exact absurd h_ (by omega)
        · intro b hb hh
          match b, hb, hh with | 0, _, hh => exact rfl | 1, _, hh => exact rfl | 2, _, hh => exact rfl | 3, _, hh => exact (absurd (show 3 ≤ 3 ∧ 3 < 3 + 1 from by decide) hh) | 4, _, hh => exact rfl | 5, _, hh => exact rfl | 6, _, hh => exact rfl | 7, _, hh => exact rfl | (b_ + 8), h_, _ => exact absurd h_ (by omega)
      cbv
      replace h := of_req h
      obtain ⟨c24, h⟩ := h
      refine ⟨⟨c24, trivial⟩, ?_⟩
      replace h := of_req h
      obtain ⟨c35, h⟩ := h
      replace h := of_let h
      obtain ⟨l25, hl25, h⟩ := h
      refine And.intro (by first | exact (by subst hA; exact idx_lt c24) | (refine And.intro (by subst hA; exact idx_lt c24) ?_; first | trivial | exact ⟨trivial, trivial⟩)) ?_
      refine ⟨_, rfl, _, row GD (encInstance) l25, rfl, ?_, ?_⟩
      · subst hGD hLEN hA
        rw [c35] at c24
        refine upd_set hl25 (idx_lt c24) ?_ ?_
        · intro b hb hh
          match b, hb, hh with | 0, _, hh => exact (absurd hh (show ¬ (4 ≤ 0 ∧ 0 < 4 + 1) from by decide)) | 1, _, hh => exact (absurd hh (show ¬ (4 ≤ 1 ∧ 1 < 4 + 1) from by decide)) | 2, _, hh => exact (absurd hh (show ¬ (4 ≤ 2 ∧ 2 < 4 + 1) from by decide)) | 3, _, hh => exact (absurd hh (show ¬ (4 ≤ 3 ∧ 3 < 4 + 1) from by decide)) | 4, _, hh => exact rfl | 5, _, hh => exact (absurd hh (show ¬ (4 ≤ 5 ∧ 5 < 4 + 1) from by decide)) | 6, _, hh => exact (absurd hh (show ¬ (4 ≤ 6 ∧ 6 < 4 + 1) from by decide)) | 7, _, hh => exact (absurd hh (show ¬ (4 ≤ 7 ∧ 7 < 4 + 1) from by decide)) | (b_ + 8), h_, _ => exact absurd h_ (by omega)
        · intro b hb hh
          match b, hb, hh with | 0, _, hh => exact rfl | 1, _, hh => exact rfl | 2, _, hh => exact rfl | 3, _, hh => exact rfl | 4, _, hh => exact (absurd (show 4 ≤ 4 ∧ 4 < 4 + 1 from by decide) hh) | 5, _, hh => exact rfl | 6, _, hh => exact rfl | 7, _, hh => exact rfl | (b_ + 8), h_, _ => exact absurd h_ (by omega)
      cbv
      replace h := of_req h
      obtain ⟨c26, h⟩ := h
      refine ⟨⟨c26, trivial⟩, ?_⟩
      replace h := of_req h
      obtain ⟨c34, h⟩ := h
      replace h := of_let h
      obtain ⟨l27, hl27, h⟩ := h
      refine And.intro (by first | exact (by subst hA; exact idx_lt c26) | (refine And.intro (by subst hA; exact idx_lt c26) ?_; first | trivial | exact ⟨trivial, trivial⟩)) ?_
      refine ⟨_, rfl, _, row GD (encInstance) l27, rfl, ?_, ?_⟩
      · subst hGD hLEN hA
        rw [c34] at c26
        refine upd_set hl27 (idx_lt c26) ?_ ?_
        · intro b hb hh
          match b, hb, hh with | 0, _, hh => exact (absurd hh (show ¬ (5 ≤ 0 ∧ 0 < 5 + 1) from by decide)) | 1, _, hh => exact (absurd hh (show ¬ (5 ≤ 1 ∧ 1 < 5 + 1) from by decide)) | 2, _, hh => exact (absurd hh (show ¬ (5 ≤ 2 ∧ 2 < 5 + 1) from by decide)) | 3, _, hh => exact (absurd hh (show ¬ (5 ≤ 3 ∧ 3 < 5 + 1) from by decide)) | 4, _, hh => exact (absurd hh (show ¬ (5 ≤ 4 ∧ 4 < 5 + 1) from by decide)) | 5, _, hh => exact rfl | 6, _, hh => exact (absurd hh (show ¬ (5 ≤ 6 ∧ 6 < 5 + 1) from by decide)) | 7, _, hh => exact (absurd hh (show ¬ (5 ≤ 7 ∧ 7 < 5 + 1) from by decide)) | (b_ + 8), h_, _ => exact absurd h_ (by omega)
        · intro b hb hh
          match b, hb, hh with | 0, _, hh => exact rfl | 1, _, hh => exact rfl | 2, _, hh => exact rfl | 3, _, hh => exact rfl | 4, _, hh => exact rfl | 5, _, hh => exact (absurd (show 5 ≤ 5 ∧ 5 < 5 + 1 from by decide) hh) | 6, _, hh => exact rfl | 7, _, hh => exact rfl | (b_ + 8), h_, _ => exact absurd h_ (by omega)
      cbv
      replace h := of_req h
      obtain ⟨c28, h⟩ := h
      refine ⟨⟨c28, trivial⟩, ?_⟩
      replace h := of_req h
      obtain ⟨c33, h⟩ := h
      replace h := of_let h
      obtain ⟨l29, hl29, h⟩ := h
      refine And.intro (by first | exact (by subst hA; exact idx_lt c28) | (refine And.intro (by subst hA; exact idx_lt c28) ?_; first | trivial | exact ⟨trivial, trivial⟩)) ?_
      refine ⟨_, rfl, _, row GD (encInstance) l29, rfl, ?_, ?_⟩
      · subst hGD hLEN hA
        rw [c33] at c28
        refine upd_set hl29 (idx_lt c28) ?_ ?_
        · intro b hb hh
          match b, hb, hh with | 0, _, hh => exact (absurd hh (show ¬ (6 ≤ 0 ∧ 0 < 6 + 1) from by decide)) | 1, _, hh => exact (absurd hh (show ¬ (6 ≤ 1 ∧ 1 < 6 + 1) from by decide)) | 2, _, hh => exact (absurd hh (show ¬ (6 ≤ 2 ∧ 2 < 6 + 1) from by decide)) | 3, _, hh => exact (absurd hh (show ¬ (6 ≤ 3 ∧ 3 < 6 + 1) from by decide)) | 4, _, hh => exact (absurd hh (show ¬ (6 ≤ 4 ∧ 4 < 6 + 1) from by decide)) | 5, _, hh => exact (absurd hh (show ¬ (6 ≤ 5 ∧ 5 < 6 + 1) from by decide)) | 6, _, hh => exact rfl | 7, _, hh => exact (absurd hh (show ¬ (6 ≤ 7 ∧ 7 < 6 + 1) from by decide)) | (b_ + 8), h_, _ => exact absurd h_ (by omega)
        · intro b hb hh
          match b, hb, hh with | 0, _, hh => exact rfl | 1, _, hh => exact rfl | 2, _, hh => exact rfl | 3, _, hh => exact rfl | 4, _, hh => exact rfl | 5, _, hh => exact rfl | 6, _, hh => exact (absurd (show 6 ≤ 6 ∧ 6 < 6 + 1 from by decide) hh) | 7, _, hh => exact rfl | (b_ + 8), h_, _ => exact absurd h_ (by omega)
      cbv
      replace h := of_req h
      obtain ⟨c30, h⟩ := h
      refine ⟨⟨c30, trivial⟩, ?_⟩
      replace h := of_req h
      obtain ⟨c32, h⟩ := h
      replace h := of_let h
      obtain ⟨l31, hl31, h⟩ := h
      refine And.intro (by first | exact (by subst hA; exact idx_lt c30) | (refine And.intro (by subst hA; exact idx_lt c30) ?_; first | trivial | exact ⟨trivial, trivial⟩)) ?_
      refine ⟨_, rfl, _, row GD (encInstance) l31, rfl, ?_, ?_⟩
      · subst hGD hLEN hA
        rw [c32] at c30
        refine upd_set hl31 (idx_lt c30) ?_ ?_
        · intro b hb hh
          match b, hb, hh with | 0, _, hh => exact (absurd hh (show ¬ (7 ≤ 0 ∧ 0 < 7 + 1) from by decide)) | 1, _, hh => exact (absurd hh (show ¬ (7 ≤ 1 ∧ 1 < 7 + 1) from by decide)) | 2, _, hh => exact (absurd hh (show ¬ (7 ≤ 2 ∧ 2 < 7 + 1) from by decide)) | 3, _, hh => exact (absurd hh (show ¬ (7 ≤ 3 ∧ 3 < 7 + 1) from by decide)) | 4, _, hh => exact (absurd hh (show ¬ (7 ≤ 4 ∧ 4 < 7 + 1) from by decide)) | 5, _, hh => exact (absurd hh (show ¬ (7 ≤ 5 ∧ 5 < 7 + 1) from by decide)) | 6, _, hh => exact (absurd hh (show ¬ (7 ≤ 6 ∧ 6 < 7 + 1) from by decide)) | 7, _, hh => exact rfl | (b_ + 8), h_, _ => exact absurd h_ (by omega)
        · intro b hb hh
          match b, hb, hh with | 0, _, hh => exact rfl | 1, _, hh => exact rfl | 2, _, hh => exact rfl | 3, _, hh => exact rfl | 4, _, hh => exact rfl | 5, _, hh => exact rfl | 6, _, hh => exact rfl | 7, _, hh => exact (absurd (show 7 ≤ 7 ∧ 7 < 7 + 1 from by decide) hh) | (b_ + 8), h_, _ => exact absurd h_ (by omega)
      cbv
      injection h with h
      refine hK10 _ h.symm _ ?_
      exact le_sparse rfl ⟨AV.le_refl _, AV.le_refl _, AV.le_refl _, trivial⟩ ⟨⟨fun hw => hw, fun c hc => (by cases hc), .inl rfl, rfl, rfl, fun i hi j hj => rfl⟩, trivial⟩ rfl
    · replace h := of_br_f b40 h
      cbv
      injection h with h
      refine hY8 _ h.symm _ _ (And.intro rfl ?_) (by intro hh; cases hh)
      exact le_sparse rfl ⟨AV.le_refl _, trivial⟩ ⟨⟨fun hw => hw, fun c hc => (by cases hc), .inl rfl, rfl, rfl, fun i hi j hj => rfl⟩, trivial⟩ rfl
  · clear hr6
    have h := hN7
    clear hN7
    intro e14 s15 q13 hne
    replace h := of_let h
    obtain ⟨y5k0, hyk, h⟩ := h
    have hyk : y5k0 = y5 := hyk
    subst hyk
    obtain ⟨rfl, q13⟩ := q13
    obtain ⟨y5k0_0, y5k0_1⟩ := y5k0
    replace h := of_let h
    obtain ⟨w41, hw41, h⟩ := h
    have hw41 : w41 = y5k0_0 := hw41
    subst hw41
    replace h := of_let h
    obtain ⟨w42, hw42, h⟩ := h
    have hw42 : w42 = y5k0_1 := hw42
    subst hw42
    cbv
    refine ⟨_, q13, ?_⟩
    cbv
    replace h := of_req h
    obtain ⟨c43, h⟩ := h
    injection h with h
    subst h
    refine ⟨(sparse 72 [(4, .c (.v (.int .i64 w41)))] [(5, .arr .rw [] (LEN w42) 8 (row GD (encInstance) w42))]), ?_, ?_⟩
    · rw [c43]
      exact le_sparse rfl ⟨AV.le_refl _, trivial⟩ ⟨⟨fun hw => hw, fun c hc => (by cases hc), .inl rfl, rfl, rfl, fun i hi j hj => rfl⟩, trivial⟩ rfl
    · exact ⟨AV.le_refl _, ⟨⟨fun hw => hw, fun c hc => (by cases hc), .inl rfl, rfl, rfl, fun i hi j hj => rfl⟩, trivial⟩, rfl⟩

noncomputable def L_laws_markCellS_mob_x4 (a0 : List TCell) : (Int × Int × (List TCell)) → Option ((Int × Int × (List TCell)) ⊕ ((Int × (List TCell)))) := fun x4 =>
  letO x4.1 fun v1 =>
  letO x4.2.1 fun v2 =>
  letO x4.2.2 fun v3 =>
  br (std.lt v2 (std.ofN (len a0)))
  (((
        (F_laws_markText v1).bind fun y23 =>
        req (std.inR v2 (len a0)) <|
        req (len a0 = len v3) <|
        letO (List.set v3 (std.nadd 0 (std.toN v2)) (TCell.mk y23 (gd v3 (std.nadd 0 (std.toN v2))).fShapes (gd v3 (std.nadd 0 (std.toN v2))).fLabels (gd v3 (std.nadd 0 (std.toN v2))).fInstances)) fun l26 =>
        some l26
    ) : Option ((List TCell))).bind fun y16 =>
  letO y16 fun w22 =>
  ((
        req (std.inR v2 (len a0)) <|
        (F_laws_markShapeS_mob (gd w22 (std.nadd 0 (std.toN v2))).fShapes (std.add .i64 v1 1)).bind fun y37 =>
        req (len y37.2 = len (gd w22 (std.nadd 0 (std.toN v2))).fShapes) <|
        req (len a0 = len w22) <|
        letO (List.set w22 (std.nadd 0 (std.toN v2)) (TCell.mk (gd w22 (std.nadd 0 (std.toN v2))).fName y37.2 (gd w22 (std.nadd 0 (std.toN v2))).fLabels (gd w22 (std.nadd 0 (std.toN v2))).fInstances)) fun l39 =>
        some (y37.1, l39)
    ) : Option (Int × (List TCell))).bind fun y28 =>
  letO y28.1 fun w34 =>
  letO y28.2 fun w35 =>
  ((
        req (std.inR v2 (len a0)) <|
        (F_laws_markLabelS_mob (gd w35 (std.nadd 0 (std.toN v2))).fLabels w34).bind fun y51 =>
        req (len y51.2 = len (gd w35 (std.nadd 0 (std.toN v2))).fLabels) <|
        req (len a0 = len w35) <|
        letO (List.set w35 (std.nadd 0 (std.toN v2)) (TCell.mk (gd w35 (std.nadd 0 (std.toN v2))).fName (gd w35 (std.nadd 0 (std.toN v2))).fShapes y51.2 (gd w35 (std.nadd 0 (std.toN v2))).fInstances)) fun l53 =>
        some (y51.1, l53)
    ) : Option (Int × (List TCell))).bind fun y42 =>
  letO y42.1 fun w48 =>
  letO y42.2 fun w49 =>
  ((
        req (std.inR v2 (len a0)) <|
        (F_laws_markInstanceS_mob (gd w49 (std.nadd 0 (std.toN v2))).fInstances w48).bind fun y65 =>
        req (len y65.2 = len (gd w49 (std.nadd 0 (std.toN v2))).fInstances) <|
        req (len a0 = len w49) <|
        letO (List.set w49 (std.nadd 0 (std.toN v2)) (TCell.mk (gd w49 (std.nadd 0 (std.toN v2))).fName (gd w49 (std.nadd 0 (std.toN v2))).fShapes (gd w49 (std.nadd 0 (std.toN v2))).fLabels y65.2)) fun l67 =>
        some (y65.1, l67)
    ) : Option (Int × (List TCell))).bind fun y56 =>
  letO y56.1 fun w62 =>
  letO y56.2 fun w63 =>
  some (.inl (w62, std.add .i64 v2 1, w63)))
  (some (.inr (v1, v3)))
/-- laws.markCellS -/
noncomputable def F_laws_markCellS_mob (a0 : List TCell) (a1 : Int) : Option (Int × (List TCell)) :=
  (whileP (σ := Int × Int × (List TCell)) (ρ := (Int × (List TCell))) (L_laws_markCellS_mob_x4 a0) (a1, 0, a0)).bind fun y5 =>
  letO y5 fun y5k0 =>
  letO y5k0.1 fun w71 =>
  letO y5k0.2 fun w72 =>
  req (len a0 = len w72) <|
  some (w71, w72)
theorem run_laws_markCellS_mob (a0 : List TCell) (a1 : Int) (r : Int × (List TCell)) (h : F_laws_markCellS_mob a0 a1 = some r) : Fun Try.prog 68 [.c (.os 5 0 (len a0)), .c (.v (.int .i64 a1))] [(5, .arr .rw [] (len a0) 4 (row gd (oncCell len gd) a0))] (.c (.v (.int .i64 r.1))) [(5, .arr .rw [] (len r.2) 4 (row gd (oncCell len gd) r.2))] true := by
  refine Fun.of_wp (oneOf [4, 6, 7, 8]) tok mixed Try.func68 (by kernel_rfl) rfl Try.ntmps68 rfl ⟨fun i _ j _ k hk => (noref (rf_oncCell _ _) hk).elim, trivial⟩ (fun _ => ⟨trivial, ⟨fun i _ j _ => fl_oncCell _ _, trivial⟩⟩) ?_
  unfold F_laws_markCellS_mob at h
  unfold L_laws_markCellS_mob_x4 at h
  have hf_laws_markInstanceS_mob := @run_laws_markInstanceS_mob
  have hf_laws_markLabelS_mob := @run_laws_markLabelS_mob
  have hf_laws_markShapeS_mob := @run_laws_markShapeS_mob
  have hf_laws_markText := @run_laws_markText
  generalize hLEN : @len = LEN at *
  generalize hGD : @gd = GD at *
  generalize hA : std = A at *
  generalize hP : Try.prog = P at *
  cbv
  replace h := of_bind h
  obtain ⟨y5, hr6, hN7⟩ := h
  refine loop_cut hr6 (fun x => (sparse 42 [(0, .c (.os 5 0 (LEN a0))), (1, .c (.v (.int .i64 x.1))), (5, .c (.v (.int .i64 x.2.1)))] [(5, .arr .rw [] (LEN a0) 4 (row GD (oncCell LEN GD) x.2.2))])) ?_ (fun y e s => (fun (w : Int × (List TCell)) => e = .exit 0 ∧ s.le (sparse 42 [(1, .c (.v (.int .i64 w.1)))] [(5, .arr .rw [] (LEN a0) 4 (row GD (oncCell LEN GD) w.2))])) y) ?_ ?_
  · clear hr6 hN7
    show St.le _ _
    exact le_sparse rfl ⟨AV.le_refl _, AV.le_refl _, AV.le_refl _, trivial⟩ ⟨⟨fun hw => hw, fun c hc => (by cases hc), .inl rfl, rfl, rfl, fun i hi j hj => rfl⟩, trivial⟩ rfl
  · clear hr6 hN7
    intro x z11 h K9 hK10 hY8
    obtain ⟨x0_, x1_, x2_⟩ := x
    replace h := of_let h
    obtain ⟨v1, hv1, h⟩ := h
    have hv1 : v1 = x0_ := hv1
    subst hv1
    replace h := of_let h
    obtain ⟨v2, hv2, h⟩ := h
    have hv2 : v2 = x1_ := hv2
    subst hv2
    replace h := of_let h
    obtain ⟨v3, hv3, h⟩ := h
    have hv3 : v3 = x2_ := hv3
    subst hv3
    cbv
    refine fork (fun b70 => ?_) (fun b70 => ?_)
    · replace h := of_br_t b70 h
      cbv
      replace h := of_bind h
      obtain ⟨y16, hy17, h⟩ := h
      obtain ⟨S20, hS21⟩ : ∃ S, S = (sparse 42 [(0, .c (.os 5 0 (LEN a0))), (1, .c (.v (.int .i64 v1))), (5, .c (.v (.int .i64 v2)))] [(5, .arr .rw [] (LEN a0) 4 (row GD (oncCell LEN GD) y16))]) := ⟨_, rfl⟩
      refine ⟨S20, ?_, ?_⟩
      · clear h
        have h := hy17
        clear hy17
        cbv
        replace h := of_bind h
        obtain ⟨y23, hy24, h⟩ := h
        refine ⟨{ args := [.c (.v (.int .i64 v1))], o0 := [], r := .c (.v (.string y23)), o1 := [], fl := true, σ := [], τ := [] }, hf_laws_markText _ _ hy24, ⟨les_cons (AV.le_refl _) (les_nil), trivial, rfl, rfl, rfl, rfl, trivial, rfl⟩, ?_⟩
        cbv
        replace h := of_req h
        obtain ⟨c25, h⟩ := h
        refine ⟨⟨c25, trivial⟩, ?_⟩
        refine And.intro (by first | exact (by subst hA; exact idx_lt c25) | (refine And.intro (by subst hA; exact idx_lt c25) ?_; first | trivial | exact ⟨trivial, trivial⟩)) ?_
        refine ⟨_, rfl, _, (patchC (row GD (oncCell LEN GD) v3) (A.nadd 0 (A.toN v2)) [.v (.string y23), .ow (LEN (GD v3 (A.nadd 0 (A.toN v2))).fShapes) 5 (row GD (encShape) (GD v3 (A.nadd 0 (A.toN v2))).fShapes), .ow (LEN (GD v3 (A.nadd 0 (A.toN v2))).fLabels) 4 (row GD (encLabel) (GD v3 (A.nadd 0 (A.toN v2))).fLabels), .ow (LEN (GD v3 (A.nadd 0 (A.toN v2))).fInstances) 8 (row GD (encInstance) (GD v3 (A.nadd 0 (A.toN v2))).fInstances)]), rfl, ?_, ?_⟩
        · refine patch_of ?_
          intro j hj
          match j, hj with | 0, _ => (rfl) | 1, _ => (rfl) | 2, _ => (rfl) | 3, _ => (rfl) | (j_ + 4), h_ => exact absurd h_ (by omega)
        cbv
        replace h := of_req h
        obtain ⟨c27, h⟩ := h
        replace h := of_let h
        obtain ⟨l26, hl26, h⟩ := h
        injection h with h
        subst h
        subst hS21
        show St.le _ _
        exact le_sparse rfl ⟨AV.le_refl _, AV.le_refl _, AV.le_refl _, trivial⟩ ⟨⟨fun hw => hw, fun c hc => (by cases hc), .inr (fun i _ j _ z hz => (noref (rf_oncCell _ _) hz).elim), rfl, rfl, (by subst hGD hLEN hA; exact patch_set hl26 (idx_lt (by rw [← c27]; exact c25)) (by intro j hj; match j, hj with | 0, _ => rfl | 1, _ => rfl | 2, _ => rfl | 3, _ => rfl | (j_ + 4), h_ => exact absurd h_ (by omega)))⟩, trivial⟩ rfl
      · clear hy17
        subst hS21
        replace h := of_let h
        obtain ⟨w22, hw22, h⟩ := h
        have hw22 : w22 = y16 := hw22
        subst hw22
        cbv
        replace h := of_bind h
        obtain ⟨y28, hy29, h⟩ := h
        obtain ⟨S32, hS33⟩ : ∃ S, S = (sparse 42 [(0, .c (.os 5 0 (LEN a0))), (1, .c (.v (.int .i64 y28.1))), (5, .c (.v (.int .i64 v2)))] [(5, .arr .rw [] (LEN a0) 4 (row GD (oncCell LEN GD) y28.2))]) := ⟨_, rfl⟩
        refine ⟨S32, ?_, ?_⟩
        · clear h
          have h := hy29
          clear hy29
          cbv
          replace h := of_req h
          obtain ⟨c36, h⟩ := h
          refine ⟨⟨c36, trivial⟩, ?_⟩
          refine And.intro (by first | exact (by subst hA; exact idx_lt c36) | (refine And.intro (by subst hA; exact idx_lt c36) ?_; first | trivial | exact ⟨trivial, trivial⟩)) ?_
          refine ⟨_, rfl, _, (patchC (row GD (oncCell LEN GD) w22) (A.nadd 0 (A.toN v2)) [.v (.string (GD w22 (A.nadd 0 (A.toN v2))).fName), .os 1538 0 (LEN (GD w22 (A.nadd 0 (A.toN v2))).fShapes), .ow (LEN (GD w22 (A.nadd 0 (A.toN v2))).fLabels) 4 (row GD (encLabel) (GD w22 (A.nadd 0 (A.toN v2))).fLabels), .ow (LEN (GD w22 (A.nadd 0 (A.toN v2))).fInstances) 8 (row GD (encInstance) (GD w22 (A.nadd 0 (A.toN v2))).fInstances)]), rfl, ?_, ?_⟩
          · refine patch_of ?_
            intro j hj
            match j, hj with | 0, _ => (rfl) | 1, _ => (rfl) | 2, _ => (rfl) | 3, _ => (rfl) | (j_ + 4), h_ => exact absurd h_ (by omega)
          refine ⟨_, row GD (encShape) (GD w22 (A.nadd 0 (A.toN v2))).fShapes, rfl, ?_, ?_⟩
          · exact fun i _ j _ => plain_cp (pl_encShape _ _)
          cbv
          replace h := of_bind h
          obtain ⟨y37, hy38, h⟩ := h
          replace h := of_req h
          obtain ⟨c41, h⟩ := h
          refine ⟨{ args := [.c (.os 5 0 (LEN (GD w22 (A.nadd 0 (A.toN v2))).fShapes)), .c (.v (.int .i64 (A.add .i64 v1 1)))], o0 := [(5, .arr .rw [] (LEN (GD w22 (A.nadd 0 (A.toN v2))).fShapes) 5 (row GD (encShape) (GD w22 (A.nadd 0 (A.toN v2))).fShapes))], r := .c (.v (.int .i64 y37.1)), o1 := [(5, .arr .rw [] (LEN y37.2) 5 (row GD (encShape) y37.2))], fl := true, σ := [(5, 1538)], τ := [(5, 1538)] }, hf_laws_markShapeS_mob _ _ _ hy38, ⟨les_cons (AV.le_refl _) (les_cons (AV.le_refl _) (les_nil)), ⟨⟨fun hw => hw, fun c hc => (by cases hc), .inl rfl, rfl, rfl, fun i hi j hj => rfl⟩, trivial⟩, rfl, rfl, rfl, rfl, ⟨fun _ => ⟨c41.symm, rfl, fun c h => h⟩, trivial⟩, rfl⟩, _, rfl, LEN (GD w22 (A.nadd 0 (A.toN v2))).fShapes, _, c41, fun _ _ _ _ => rfl, ?_⟩
          cbv
          replace h := of_req h
          obtain ⟨c40, h⟩ := h
          replace h := of_let h
          obtain ⟨l39, hl39, h⟩ := h
          injection h with h
          subst h
          subst hS33
          show St.le _ _
          refine St.le_trans (le_foldP 5 1 1538 rfl rfl rfl (by decide) (by subst hA; exact idx_lt c36) (by decide) rfl (fun _ _ => rf_oncCell _ _)) ?_
          exact le_sparse rfl ⟨AV.le_refl _, AV.le_refl _, AV.le_refl _, trivial⟩ ⟨⟨fun hw => hw, fun c hc => (by cases hc), .inr (fun i _ j _ z hz => (noref (rf_oncCell _ _) hz).elim), rfl, rfl, (by subst hGD hLEN hA; exact patch_set hl39 (idx_lt (by rw [← c40]; exact c36)) (by intro j hj; match j, hj with | 0, _ => rfl | 1, _ => exact (by first | rfl | exact congrArg (fun n => AC.ow n _ _) (Eq.symm (by assumption))) | 2, _ => rfl | 3, _ => rfl | (j_ + 4), h_ => exact absurd h_ (by omega)))⟩, trivial⟩ rfl
        · clear hy29
          subst hS33
          obtain ⟨y28_0, y28_1⟩ := y28
          replace h := of_let h
          obtain ⟨w34, hw34, h⟩ := h
          have hw34 : w34 = y28_0 := hw34
          subst hw34
          replace h := of_let h
          obtain ⟨w35, hw35, h⟩ := h
          have hw35 : w35 = y28_1 := hw35
          subst hw35
          cbv
          replace h := of_bind h
          obtain ⟨y42, hy43, h⟩ := h
          obtain ⟨S46, hS47⟩ : ∃ S, S = (sparse 42 [(0, .c (.os 5 0 (LEN a0))), (1, .c (.v (.int .i64 y42.1))), (5, .c (.v (.int .i64 v2)))] [(5, .arr .rw [] (LEN a0) 4 (row GD (oncCell LEN GD) y42.2))]) := ⟨_, rfl⟩
          refine ⟨S46, ?_, ?_⟩
          · clear h
            have h := hy43
            clear hy43
            cbv
            replace h := of_req h
            obtain ⟨c50, h⟩ := h
            refine ⟨⟨c50, trivial⟩, ?_⟩
            refine And.intro (by first | exact (by subst hA; exact idx_lt c50) | (refine And.intro (by subst hA; exact idx_lt c50) ?_; first | trivial | exact ⟨trivial, trivial⟩)) ?_
            refine ⟨_, rfl, _, (patchC (row GD (oncCell LEN GD) w35) (A.nadd 0 (A.toN v2)) [.v (.string (GD w35 (A.nadd 0 (A.toN v2))).fName), .ow (LEN (GD w35 (A.nadd 0 (A.toN v2))).fShapes) 5 (row GD (encShape) (GD w35 (A.nadd 0 (A.toN v2))).fShapes), .os 1986 0 (LEN (GD w35 (A.nadd 0 (A.toN v2))).fLabels), .ow (LEN (GD w35 (A.nadd 0 (A.toN v2))).fInstances) 8 (row GD (encInstance) (GD w35 (A.nadd 0 (A.toN v2))).fInstances)]), rfl, ?_, ?_⟩
            · refine patch_of ?_
              intro j hj
              match j, hj with | 0, _ => (rfl) | 1, _ => (rfl) | 2, _ => (rfl) | 3, _ => (rfl) | (j_ + 4), h_ => exact absurd h_ (by omega)
            refine ⟨_, row GD (encLabel) (GD w35 (A.nadd 0 (A.toN v2))).fLabels, rfl, ?_, ?_⟩
            · exact fun i _ j _ => plain_cp (pl_encLabel _ _)
            cbv
            replace h := of_bind h
            obtain ⟨y51, hy52, h⟩ := h
            replace h := of_req h
            obtain ⟨c55, h⟩ := h
            refine ⟨{ args := [.c (.os 5 0 (LEN (GD w35 (A.nadd 0 (A.toN v2))).fLabels)), .c (.v (.int .i64 w34))], o0 := [(5, .arr .rw [] (LEN (GD w35 (A.nadd 0 (A.toN v2))).fLabels) 4 (row GD (encLabel) (GD w35 (A.nadd 0 (A.toN v2))).fLabels))], r := .c (.v (.int .i64 y51.1)), o1 := [(5, .arr .rw [] (LEN y51.2) 4 (row GD (encLabel) y51.2))], fl := true, σ := [(5, 1986)], τ := [(5, 1986)] }, hf_laws_markLabelS_mob _ _ _ hy52, ⟨les_cons (AV.le_refl _) (les_cons (AV.le_refl _) (les_nil)), ⟨⟨fun hw => hw, fun c hc => (by cases hc), .inl rfl, rfl, rfl, fun i hi j hj => rfl⟩, trivial⟩, rfl, rfl, rfl, rfl, ⟨fun _ => ⟨c55.symm, rfl, fun c h => h⟩, trivial⟩, rfl⟩, _, rfl, LEN (GD w35 (A.nadd 0 (A.toN v2))).fLabels, _, c55, fun _ _ _ _ => rfl, ?_⟩
            cbv
            replace h := of_req h
            obtain ⟨c54, h⟩ := h
            replace h := of_let h
            obtain ⟨l53, hl53, h⟩ := h
            injection h with h
            subst h
            subst hS47
            show St.le _ _
            refine St.le_trans (le_foldP 5 2 1986 rfl rfl rfl (by decide) (by subst hA; exact idx_lt c50) (by decide) rfl (fun _ _ => rf_oncCell _ _)) ?_
            exact le_sparse rfl ⟨AV.le_refl _, AV.le_refl _, AV.le_refl _, trivial⟩ ⟨⟨fun hw => hw, fun c hc => (by cases hc), .inr (fun i _ j _ z hz => (noref (rf_oncCell _ _) hz).elim), rfl, rfl, (by subst hGD hLEN hA; exact patch_set hl53 (idx_lt (by rw [← c54]; exact c50)) (by intro j hj; match j, hj with | 0, _ => rfl | 1, _ => rfl | 2, _ => exact (by first | rfl | exact congrArg (fun n => AC.ow n _ _) (Eq.symm (by assumption))) | 3, _ => rfl | (j_ + 4), h_ => exact absurd h_ (by omega)))⟩, trivial⟩ rfl
          · clear hy43
            subst hS47
            obtain ⟨y42_0, y42_1⟩ := y42
            replace h := of_let h
            obtain ⟨w48, hw48, h⟩ := h
            have hw48 : w48 = y42_0 := hw48
            subst hw48
            replace h := of_let h
            obtain ⟨w49, hw49, h⟩ := h
            have hw49 : w49 = y42_1 := hw49
            subst hw49
            cbv
            replace h := of_bind h
            obtain ⟨y56, hy57, h⟩ := h
            obtain ⟨S60, hS61⟩ : ∃ S, S = (sparse 42 [(0, .c (.os 5 0 (LEN a0))), (1, .c (.v (.int .i64 y56.1))), (5, .c (.v (.int .i64 v2)))] [(5, .arr .rw [] (LEN a0) 4 (row GD (oncCell LEN GD) y56.2))]) := ⟨_, rfl⟩
            refine ⟨S60, ?_, ?_⟩
            · clear h
              have h := hy57
              clear hy57
              cbv
              replace h := of_req h
              obtain ⟨c64, h⟩ := h
              refine ⟨⟨c64, trivial⟩, ?_⟩
              refine And.intro (by first | exact (by subst hA; exact idx_lt c64) | (refine And.intro (by subst hA; exact idx_lt c64) ?_; first | trivial | exact ⟨trivial, trivial⟩)) ?_
              refine ⟨_, rfl, _, (patchC (row GD (oncCell LEN GD) w49) (A.nadd 0 (A.toN v2)) [.v (.string (GD w49 (A.nadd 0 (A.toN v2))).fName), .ow (LEN (GD w49 (A.nadd 0 (A.toN v2))).fShapes) 5 (row GD (encShape) (GD w49 (A.nadd 0 (A.toN v2))).fShapes), .ow (LEN (GD w49 (A.nadd 0 (A.toN v2))).fLabels) 4 (row GD (encLabel) (GD w49 (A.nadd 0 (A.toN v2))).fLabels), .os 2434 0 (LEN (GD w49 (A.nadd 0 (A.toN v2))).fInstances)]), rfl, ?_, ?_⟩
              · refine patch_of ?_
                intro j hj
                match j, hj with | 0, _ => (rfl) | 1, _ => (rfl) | 2, _ => (rfl) | 3, _ => (rfl) | (j_ + 4), h_ => exact absurd h_ (by omega)
              refine ⟨_, row GD (encInstance) (GD w49 (A.nadd 0 (A.toN v2))).fInstances, rfl, ?_, ?_⟩
              · exact fun i _ j _ => plain_cp (pl_encInstance _ _)
              cbv
              replace h := of_bind h
              obtain ⟨y65, hy66, h⟩ := h
              replace h := of_req h
              obtain ⟨c69, h⟩ := h
              refine ⟨{ args := [.c (.os 5 0 (LEN (GD w49 (A.nadd 0 (A.toN v2))).fInstances)), .c (.v (.int .i64 w48))], o0 := [(5, .arr .rw [] (LEN (GD w49 (A.nadd 0 (A.toN v2))).fInstances) 8 (row GD (encInstance) (GD w49 (A.nadd 0 (A.toN v2))).fInstances))], r := .c (.v (.int .i64 y65.1)), o1 := [(5, .arr .rw [] (LEN y65.2) 8 (row GD (encInstance) y65.2))], fl := true, σ := [(5, 2434)], τ := [(5, 2434)] }, hf_laws_markInstanceS_mob _ _ _ hy66, ⟨les_cons (AV.le_refl _) (les_cons (AV.le_refl _) (les_nil)), ⟨⟨fun hw => hw, fun c hc => (by cases hc), .inl rfl, rfl, rfl, fun i hi j hj => rfl⟩, trivial⟩, rfl, rfl, rfl, rfl, ⟨fun _ => ⟨c69.symm, rfl, fun c h => h⟩, trivial⟩, rfl⟩, _, rfl, LEN (GD w49 (A.nadd 0 (A.toN v2))).fInstances, _, c69, fun _ _ _ _ => rfl, ?_⟩
              cbv
              replace h := of_req h
              obtain ⟨c68, h⟩ := h
              replace h := of_let h
              obtain ⟨l67, hl67, h⟩ := h
              injection h with h
              subst h
              subst hS61
              show St.le _ _
              refine St.le_trans (le_foldP 5 3 2434 rfl rfl rfl (by decide) (by subst hA; exact idx_lt c64) (by decide) rfl (fun _ _ => rf_oncCell _ _)) ?_
              exact le_sparse rfl ⟨AV.le_refl _, AV.le_refl _, AV.le_refl _, trivial⟩ ⟨⟨fun hw => hw, fun c hc => (by cases hc), .inr (fun i _ j _ z hz => (noref (rf_oncCell _ _) hz).elim), rfl, rfl, (by subst hGD hLEN hA; exact patch_set hl67 (idx_lt (by rw [← c68]; exact c64)) (by intro j hj; match j, hj with | 0, _ => rfl | 1, _ => rfl | 2, _ => rfl | 3, _ => exact (by first | rfl | exact congrArg (fun n => AC.ow n _ _) (Eq.symm (by assumption))) | (j_ + 4), h_ => exact absurd h_ (by omega)))⟩, trivial⟩ rfl
            · clear hy57
              subst hS61
              obtain ⟨y56_0, y56_1⟩ := y56
              replace h := of_let h
              obtain ⟨w62, hw62, h⟩ := h
              have hw62 : w62 = y56_0 := hw62
              subst hw62
              replace h := of_let h
              obtain ⟨w63, hw63, h⟩ := h
              have hw63 : w63 = y56_1 := hw63
              subst hw63
              cbv
              injection h with h
              refine hK10 _ h.symm _ ?_
              exact le_sparse rfl ⟨AV.le_refl _, AV.le_refl _, AV.le_refl _, trivial⟩ ⟨⟨fun hw => hw, fun c hc => (by cases hc), .inl rfl, rfl, rfl, fun i hi j hj => rfl⟩, trivial⟩ rfl
    · replace h := of_br_f b70 h
      cbv
      injection h with h
      refine hY8 _ h.symm _ _ (And.intro rfl ?_) (by intro hh; cases hh)
      exact le_sparse rfl ⟨AV.le_refl _, trivial⟩ ⟨⟨fun hw => hw, fun c hc => (by cases hc), .inl rfl, rfl, rfl, fun i hi j hj => rfl⟩, trivial⟩ rfl
  · clear hr6
    have h := hN7
    clear hN7
    intro e14 s15 q13 hne
    replace h := of_let h
    obtain ⟨y5k0, hyk, h⟩ := h
    have hyk : y5k0 = y5 := hyk
    subst hyk
    obtain ⟨rfl, q13⟩ := q13
    obtain ⟨y5k0_0, y5k0_1⟩ := y5k0
    replace h := of_let h
    obtain ⟨w71, hw71, h⟩ := h
    have hw71 : w71 = y5k0_0 := hw71
    subst hw71
    replace h := of_let h
    obtain ⟨w72, hw72, h⟩ := h
    have hw72 : w72 = y5k0_1 := hw72
    subst hw72
    cbv
    refine ⟨_, q13, ?_⟩
    cbv
    replace h := of_req h
    obtain ⟨c73, h⟩ := h
    injection h with h
    subst h
    refine ⟨(sparse 42 [(4, .c (.v (.int .i64 w71)))] [(5, .arr .rw [] (LEN w72) 4 (row GD (oncCell LEN GD) w72))]), ?_, ?_⟩
    · rw [c73]
      exact le_sparse rfl ⟨AV.le_refl _, trivial⟩ ⟨⟨fun hw => hw, fun c hc => (by cases hc), .inl rfl, rfl, rfl, fun i hi j hj => rfl⟩, trivial⟩ rfl
    · exact ⟨AV.le_refl _, ⟨⟨fun hw => hw, fun c hc => (by cases hc), .inl rfl, rfl, rfl, fun i hi j hj => rfl⟩, trivial⟩, rfl⟩

/-- laws.markLibrary -/
noncomputable def F_laws_markLibrary_mob (a0 : TLibrary) (a1 : Int) : Option (Int × (List TCell)) :=
  (F_laws_markCellS_mob a0.fCells a1).bind fun y1 =>
  req (len y1.2 = len a0.fCells) <|
  req (len a0.fCells = len y1.2) <|
  some (y1.1, y1.2)
theorem run_laws_markLibrary_mob (a0 : TLibrary) (a1 : Int) (r : Int × (List TCell)) (h : F_laws_markLibrary_mob a0 a1 = some r) : Fun Try.prog 30 [.agg [.os 5 0 (len a0.fCells)], .c (.v (.int .i64 a1))] [(5, .arr .rw [] (len a0.fCells) 4 (row gd (oncCell len gd) a0.fCells))] (.c (.v (.int .i64 r.1))) [(5, .arr .rw [] (len r.2) 4 (row gd (oncCell len gd) r.2))] true := by
  refine Fun.of_wp (oneOf []) tok mixed Try.func30 (by kernel_rfl) rfl Try.ntmps30 rfl ⟨fun i _ j _ k hk => (noref (rf_oncCell _ _) hk).elim, trivial⟩ (fun _ => ⟨trivial, ⟨fun i _ j _ => fl_oncCell _ _, trivial⟩⟩) ?_
  unfold F_laws_markLibrary_mob at h
  have hf_laws_markCellS_mob := @run_laws_markCellS_mob
  generalize hLEN : @len = LEN at *
  generalize hGD : @gd = GD at *
  generalize hA : std = A at *
  generalize hP : Try.prog = P at *
  cbv
  replace h := of_bind h
  obtain ⟨y1, hy2, h⟩ := h
  replace h := of_req h
  obtain ⟨c4, h⟩ := h
  refine ⟨{ args := [.c (.os 5 0 (LEN a0.fCells)), .c (.v (.int .i64 a1))], o0 := [(5, .arr .rw [] (LEN a0.fCells) 4 (row GD (oncCell LEN GD) a0.fCells))], r := .c (.v (.int .i64 y1.1)), o1 := [(5, .arr .rw [] (LEN y1.2) 4 (row GD (oncCell LEN GD) y1.2))], fl := true, σ := [(5, 5)], τ := [(5, 5)] }, hf_laws_markCellS_mob _ _ _ hy2, ⟨les_cons (AV.le_refl _) (les_cons (AV.le_refl _) (les_nil)), ⟨⟨fun hw => hw, fun c hc => (by cases hc), .inl rfl, rfl, rfl, fun i hi j hj => rfl⟩, trivial⟩, rfl, rfl, rfl, rfl, ⟨fun _ => ⟨c4.symm, rfl, fun c h => h⟩, trivial⟩, rfl⟩, _, rfl, LEN a0.fCells, _, c4, fun _ _ _ _ => rfl, ?_⟩
  cbv
  replace h := of_req h
  obtain ⟨c3, h⟩ := h
  injection h with h
  subst h
  refine ⟨(sparse 10 [(4, .c (.v (.int .i64 y1.1)))] [(5, .arr .rw [] (LEN y1.2) 4 (row GD (oncCell LEN GD) y1.2))]), ?_, ?_⟩
  · rw [c3]
    exact le_sparse rfl ⟨AV.le_refl _, trivial⟩ ⟨⟨fun hw => hw, fun c hc => (by cases hc), .inl rfl, rfl, rfl, fun i hi j hj => rfl⟩, trivial⟩ rfl
  · exact ⟨AV.le_refl _, ⟨⟨fun hw => hw, fun c hc => (by cases hc), .inl rfl, rfl, rfl, fun i hi j hj => rfl⟩, trivial⟩, rfl⟩

noncomputable def L_laws_markEditSS_mnb_x1  : (Unit) → Option ((Unit) ⊕ ((Unit))) := fun x1 =>
  br (std.lt 0 (std.ofN 0))
  (none)
  (some (.inr ()))
/-- laws.markEditSS -/
noncomputable def F_laws_markEditSS_mnb (a0 : List (List TEdit)) (a1 : Int) : Option (Int) :=
  (whileP (σ := Unit) (ρ := (Unit)) L_laws_markEditSS_mnb_x1 ()).bind fun y2 =>
  some a1
theorem run_laws_markEditSS_mnb (a0 : List (List TEdit)) (a1 : Int) (r : Int) (h : F_laws_markEditSS_mnb a0 a1 = some r) : Fun Try.prog 88 [.c (.v (.slice none 0 0)), .c (.v (.int .i64 a1))] [] (.c (.v (.int .i64 r))) [] true := by
  refine Fun.of_wp (oneOf []) tok mixed Try.func88 (by kernel_rfl) rfl Try.ntmps88 rfl trivial (fun _ => ⟨trivial, trivial⟩) ?_
  unfold F_laws_markEditSS_mnb at h
  unfold L_laws_markEditSS_mnb_x1 at h
  generalize hLEN : @len = LEN at *
  generalize hGD : @gd = GD at *
  generalize hA : std = A at *
  generalize hP : Try.prog = P at *
  cbv
  replace h := of_bind h
  obtain ⟨y2, hr3, hN4⟩ := h
  refine loop_cut hr3 (fun x => (sparse 19 [(0, .c (.v (.slice none 0 0))), (1, .c (.v (.int .i64 a1))), (5, .c (.v (.int .i64 0)))] [])) ?_ (fun y e s => (fun (w : Unit) => e = .exit 0 ∧ s.le (sparse 19 [(1, .c (.v (.int .i64 a1)))] [])) y) ?_ ?_
  · clear hr3 hN4
    show St.le _ _
    exact le_sparse rfl ⟨AV.le_refl _, AV.le_refl _, AV.le_refl _, trivial⟩ trivial rfl
  · clear hr3 hN4
    intro x z8 h K6 hK7 hY5
    cbv
    refine fork (fun b13 => ?_) (fun b13 => ?_)
    · replace h := of_br_t b13 h
      cases h
    · replace h := of_br_f b13 h
      cbv
      injection h with h
      refine hY5 _ h.symm _ _ (And.intro rfl ?_) (by intro hh; cases hh)
      exact le_sparse rfl ⟨AV.le_refl _, trivial⟩ trivial rfl
  · clear hr3
    have h := hN4
    clear hN4
    intro e11 s12 q10 hne
    obtain ⟨rfl, q10⟩ := q10
    cbv
    refine ⟨_, q10, ?_⟩
    cbv
    injection h with h
    subst h
    refine ⟨(sparse 19 [(4, .c (.v (.int .i64 a1)))] []), ?_, ?_⟩
    · exact le_sparse rfl ⟨AV.le_refl _, trivial⟩ trivial rfl
    · exact ⟨AV.le_refl _, trivial, rfl⟩
/-- laws.markEditor -/
noncomputable def F_laws_markEditor_monnb (a0 : TEditor) (a1 : Int) : Option (Int × (List TCell)) :=
  (F_laws_markLibrary_mob a0.fCurrent a1).bind fun y1 =>
  req (len y1.2 = len a0.fCurrent.fCells) <|
  (F_laws_markEditSS_mnb ([] : List (List TEdit)) y1.1).bind fun y3 =>
  (F_laws_markEditSS_mnb ([] : List (List TEdit)) y3).bind fun y5 =>
  req (len a0.fCurrent.fCells = len y1.2) <|
  some (y5, y1.2)
theorem run_laws_markEditor_monnb (a0 : TEditor) (a1 : Int) (r : Int × (List TCell)) (h : F_laws_markEditor_monnb a0 a1 = some r) : Fun Try.prog 46 [.agg [.os 5 0 (len a0.fCurrent.fCells), .v (.slice none 0 0), .v (.slice none 0 0)], .c (.v (.int .i64 a1))] [(5, .arr .rw [] (len a0.fCurrent.fCells) 4 (row gd (oncCell len gd) a0.fCurrent.fCells))] (.c (.v (.int .i64 r.1))) [(5, .arr .rw [] (len r.2) 4 (row gd (oncCell len gd) r.2))] true := by
  refine Fun.of_wp (oneOf []) tok mixed Try.func46 (by kernel_rfl) rfl Try.ntmps46 rfl ⟨fun i _ j _ k hk => (noref (rf_oncCell _ _) hk).elim, trivial⟩ (fun _ => ⟨trivial, ⟨fun i _ j _ => fl_oncCell _ _, trivial⟩⟩) ?_
  unfold F_laws_markEditor_monnb at h
  have hf_laws_markEditSS_mnb := @run_laws_markEditSS_mnb
  have hf_laws_markLibrary_mob := @run_laws_markLibrary_mob
  generalize hLEN : @len = LEN at *
  generalize hGD : @gd = GD at *
  generalize hA : std = A at *
  generalize hP : Try.prog = P at *
  cbv
  replace h := of_bind h
  obtain ⟨y1, hy2, h⟩ := h
  replace h := of_req h
  obtain ⟨c8, h⟩ := h
  refine ⟨{ args := [.agg [.os 5 0 (LEN a0.fCurrent.fCells)], .c (.v (.int .i64 a1))], o0 := [(5, .arr .rw [] (LEN a0.fCurrent.fCells) 4 (row GD (oncCell LEN GD) a0.fCurrent.fCells))], r := .c (.v (.int .i64 y1.1)), o1 := [(5, .arr .rw [] (LEN y1.2) 4 (row GD (oncCell LEN GD) y1.2))], fl := true, σ := [(5, 5)], τ := [(5, 5)] }, hf_laws_markLibrary_mob _ _ _ hy2, ⟨les_cons (AV.le_refl _) (les_cons (AV.le_refl _) (les_nil)), ⟨⟨fun hw => hw, fun c hc => (by cases hc), .inl rfl, rfl, rfl, fun i hi j hj => rfl⟩, trivial⟩, rfl, rfl, rfl, rfl, ⟨fun _ => ⟨c8.symm, rfl, fun c h => h⟩, trivial⟩, rfl⟩, _, rfl, LEN a0.fCurrent.fCells, _, c8, fun _ _ _ _ => rfl, ?_⟩
  cbv
  replace h := of_bind h
  obtain ⟨y3, hy4, h⟩ := h
  refine ⟨{ args := [.c (.v (.slice none 0 0)), .c (.v (.int .i64 y1.1))], o0 := [], r := .c (.v (.int .i64 y3)), o1 := [], fl := true, σ := [], τ := [] }, hf_laws_markEditSS_mnb _ _ _ hy4, ⟨les_cons (AV.le_refl _) (les_cons (AV.le_refl _) (les_nil)), trivial, rfl, rfl, rfl, rfl, trivial, rfl⟩, ?_⟩
  cbv
  replace h := of_bind h
  obtain ⟨y5, hy6, h⟩ := h
  refine ⟨{ args := [.c (.v (.slice none 0 0)), .c (.v (.int .i64 y3))], o0 := [], r := .c (.v (.int .i64 y5)), o1 := [], fl := true, σ := [], τ := [] }, hf_laws_markEditSS_mnb _ _ _ hy6, ⟨les_cons (AV.le_refl _) (les_cons (AV.le_refl _) (les_nil)), trivial, rfl, rfl, rfl, rfl, trivial, rfl⟩, ?_⟩
  cbv
  replace h := of_req h
  obtain ⟨c7, h⟩ := h
  injection h with h
  subst h
  refine ⟨(sparse 18 [(4, .c (.v (.int .i64 y5)))] [(5, .arr .rw [] (LEN y1.2) 4 (row GD (oncCell LEN GD) y1.2))]), ?_, ?_⟩
  · rw [c7]
    exact le_sparse rfl ⟨AV.le_refl _, trivial⟩ ⟨⟨fun hw => hw, fun c hc => (by cases hc), .inl rfl, rfl, rfl, fun i hi j hj => rfl⟩, trivial⟩ rfl
  · exact ⟨AV.le_refl _, ⟨⟨fun hw => hw, fun c hc => (by cases hc), .inl rfl, rfl, rfl, fun i hi j hj => rfl⟩, trivial⟩, rfl⟩

noncomputable def L_laws_heldShapeS_x3 (a0 : List TShape) : (Int × Int) → Option ((Int × Int) ⊕ ((Int) ⊕ (Int))) := fun x3 =>
  letO x3.1 fun v1 =>
  letO x3.2 fun v2 =>
  br (std.lt v2 (std.ofN (len a0)))
  (req (std.inR v2 (len a0)) <|
  br (std.not (std.eq (gd a0 (std.toN v2)).fLayer v1))
  (some (.inr (.inl (-1))))
  (req (std.inR v2 (len a0)) <|
  br (std.not (std.eq (gd a0 (std.toN v2)).fBox.fX0 (std.add .i64 v1 1)))
  (some (.inr (.inl (-1))))
  (req (std.inR v2 (len a0)) <|
  br (std.not (std.eq (gd a0 (std.toN v2)).fBox.fY0 (std.add .i64 (std.add .i64 v1 1) 1)))
  (some (.inr (.inl (-1))))
  (req (std.inR v2 (len a0)) <|
  br (std.not (std.eq (gd a0 (std.toN v2)).fBox.fX1 (std.add .i64 (std.add .i64 (std.add .i64 v1 1) 1) 1)))
  (some (.inr (.inl (-1))))
  (req (std.inR v2 (len a0)) <|
  br (std.not (std.eq (gd a0 (std.toN v2)).fBox.fY1 (std.add .i64 (std.add .i64 (std.add .i64 (std.add .i64 v1 1) 1) 1) 1)))
  (some (.inr (.inl (-1))))
  (some (.inl (std.add .i64 (std.add .i64 (std.add .i64 (std.add .i64 (std.add .i64 v1 1) 1) 1) 1) 1, std.add .i64 v2 1))))))))
  (some (.inr (.inr v1)))
/-- laws.heldShapeS -/
noncomputable def F_laws_heldShapeS (a0 : List TShape) (a1 : Int) : Option (Int) :=
  (whileP (σ := Int × Int) (ρ := (Int) ⊕ (Int)) (L_laws_heldShapeS_x3 a0) (a1, 0)).bind fun y4 =>
  (match y4 with
    | .inl y4k0 => (
        letO y4k0 fun w26 =>
        some w26)
    | .inr y4m0 =>
        letO y4m0 fun y4k1 =>
        letO y4k1 fun w27 =>
        some w27)
theorem run_laws_heldShapeS (a0 : List TShape) (a1 : Int) (r : Int) (h : F_laws_heldShapeS a0 a1 = some r) : Fun Try.prog 128 [.c (.bs (len a0) 5 (row gd (encShape) a0)), .c (.v (.int .i64 a1))] [] (.c (.v (.int .i64 r))) [] true := by
  refine Fun.of_wp (oneOf []) tok mixed Try.func128 (by kernel_rfl) rfl Try.ntmps128 rfl trivial (fun _ => ⟨trivial, trivial⟩) ?_
  unfold F_laws_heldShapeS at h
  unfold L_laws_heldShapeS_x3 at h
  generalize hLEN : @len = LEN at *
  generalize hGD : @gd = GD at *
  generalize hA : std = A at *
  generalize hP : Try.prog = P at *
  cbv
  replace h := of_bind h
  obtain ⟨y4, hr5, hN6⟩ := h
  refine loop_cut hr5 (fun x => (sparse 62 [(0, .c (.bs (LEN a0) 5 (row GD (encShape) a0))), (1, .c (.v (.int .i64 x.1))), (5, .c (.v (.int .i64 x.2)))] [])) ?_ (fun y e s => (match y with | .inl w => e = .ret ∧ s.le (sparse 62 [(4, .c (.v (.int .i64 w)))] []) | .inr w0 => (fun (w : Int) => e = .exit 0 ∧ s.le (sparse 62 [(1, .c (.v (.int .i64 w)))] [])) w0)) ?_ ?_
  · clear hr5 hN6
    show St.le _ _
    exact le_sparse rfl ⟨AV.le_refl _, AV.le_refl _, AV.le_refl _, trivial⟩ trivial rfl
  · clear hr5 hN6
    intro x z10 h K8 hK9 hY7
    obtain ⟨x0_, x1_⟩ := x
    replace h := of_let h
    obtain ⟨v1, hv1, h⟩ := h
    have hv1 : v1 = x0_ := hv1
    subst hv1
    replace h := of_let h
    obtain ⟨v2, hv2, h⟩ := h
    have hv2 : v2 = x1_ := hv2
    subst hv2
    cbv
    refine fork (fun b25 => ?_) (fun b25 => ?_)
    · replace h := of_br_t b25 h
      cbv
      replace h := of_req h
      obtain ⟨c15, h⟩ := h
      refine ⟨⟨c15, trivial⟩, ?_⟩
      refine fork (fun b24 => ?_) (fun b24 => ?_)
      · replace h := of_br_t b24 h
        cbv
        injection h with h
        refine hY7 _ h.symm _ _ (And.intro rfl ?_) (by intro hh; cases hh)
        exact le_sparse rfl ⟨AV.le_refl _, trivial⟩ trivial rfl
      · replace h := of_br_f b24 h
        cbv
        replace h := of_req h
        obtain ⟨c16, h⟩ := h
        refine ⟨⟨c16, trivial⟩, ?_⟩
        refine fork (fun b23 => ?_) (fun b23 => ?_)
        · replace h := of_br_t b23 h
          cbv
          injection h with h
          refine hY7 _ h.symm _ _ (And.intro rfl ?_) (by intro hh; cases hh)
          exact le_sparse rfl ⟨AV.le_refl _, trivial⟩ trivial rfl
        · replace h := of_br_f b23 h
          cbv
          replace h := of_req h
          obtain ⟨c17, h⟩ := h
          refine ⟨⟨c17, trivial⟩, ?_⟩
          refine fork (fun b22 => ?_) (fun b22 => ?_)
          · replace h := of_br_t b22 h
            cbv
            injection h with h
            refine hY7 _ h.symm _ _ (And.intro rfl ?_) (by intro hh; cases hh)
            exact le_sparse rfl ⟨AV.le_refl _, trivial⟩ trivial rfl
          · replace h := of_br_f b22 h
            cbv
            replace h := of_req h
            obtain ⟨c18, h⟩ := h
            refine ⟨⟨c18, trivial⟩, ?_⟩
            refine fork (fun b21 => ?_) (fun b21 => ?_)
            · replace h := of_br_t b21 h
              cbv
              injection h with h
              refine hY7 _ h.symm _ _ (And.intro rfl ?_) (by intro hh; cases hh)
              exact le_sparse rfl ⟨AV.le_refl _, trivial⟩ trivial rfl
            · replace h := of_br_f b21 h
              cbv
              replace h := of_req h
              obtain ⟨c19, h⟩ := h
              refine ⟨⟨c19, trivial⟩, ?_⟩
              refine fork (fun b20 => ?_) (fun b20 => ?_)
              · replace h := of_br_t b20 h
                cbv
                injection h with h
                refine hY7 _ h.symm _ _ (And.intro rfl ?_) (by intro hh; cases hh)
                exact le_sparse rfl ⟨AV.le_refl _, trivial⟩ trivial rfl
              · replace h := of_br_f b20 h
                cbv
                injection h with h
                refine hK9 _ h.symm _ ?_
                exact le_sparse rfl ⟨AV.le_refl _, AV.le_refl _, AV.le_refl _, trivial⟩ trivial rfl
    · replace h := of_br_f b25 h
      cbv
      injection h with h
      refine hY7 _ h.symm _ _ (And.intro rfl ?_) (by intro hh; cases hh)
      exact le_sparse rfl ⟨AV.le_refl _, trivial⟩ trivial rfl
  · clear hr5
    have h := hN6
    clear hN6
    intro e13 s14 q12 hne
    rcases y4 with y4k0 | y4m0
    · replace h := h
      obtain ⟨rfl, q12⟩ := q12
      replace h := of_let h
      obtain ⟨w26, hw26, h⟩ := h
      have hw26 : w26 = y4k0 := hw26
      subst hw26
      cbv
      injection h with h
      subst h
      refine ⟨(sparse 62 [(4, .c (.v (.int .i64 w26)))] []), ?_, ?_⟩
      · refine St.le_trans q12 ?_
        exact le_sparse rfl ⟨AV.le_refl _, trivial⟩ trivial rfl
      · exact ⟨AV.le_refl _, trivial, rfl⟩
    · replace h := of_let h
      obtain ⟨y4k1, hyk, h⟩ := h
      have hyk : y4k1 = y4m0 := hyk
      subst hyk
      obtain ⟨rfl, q12⟩ := q12
      replace h := of_let h
      obtain ⟨w27, hw27, h⟩ := h
      have hw27 : w27 = y4k1 := hw27
      subst hw27
      cbv
      refine ⟨_, q12, ?_⟩
      cbv
      injection h with h
      subst h
      refine ⟨(sparse 62 [(4, .c (.v (.int .i64 w27)))] []), ?_, ?_⟩
      · exact le_sparse rfl ⟨AV.le_refl _, trivial⟩ trivial rfl
      · exact ⟨AV.le_refl _, trivial, rfl⟩

noncomputable def L_laws_heldLabelS_x3 (a0 : List TLabel) : (Int × Int) → Option ((Int × Int) ⊕ ((Int) ⊕ (Int))) := fun x3 =>
  letO x3.1 fun v1 =>
  letO x3.2 fun v2 =>
  br (std.lt v2 (std.ofN (len a0)))
  (req (std.inR v2 (len a0)) <|
  br (std.not (std.eq (gd a0 (std.toN v2)).fLayer v1))
  (some (.inr (.inl (-1))))
  (req (std.inR v2 (len a0)) <|
  br (std.not (std.eq (gd a0 (std.toN v2)).fAt.fX (std.add .i64 v1 1)))
  (some (.inr (.inl (-1))))
  (req (std.inR v2 (len a0)) <|
  br (std.not (std.eq (gd a0 (std.toN v2)).fAt.fY (std.add .i64 (std.add .i64 v1 1) 1)))
  (some (.inr (.inl (-1))))
  (req (std.inR v2 (len a0)) <|
  (F_laws_markText (std.add .i64 (std.add .i64 (std.add .i64 v1 1) 1) 1)).bind fun y19 =>
  br (std.not (std.seq (gd a0 (std.toN v2)).fName y19))
  (some (.inr (.inl (-1))))
  (some (.inl (std.add .i64 (std.add .i64 (std.add .i64 (std.add .i64 v1 1) 1) 1) 1, std.add .i64 v2 1)))))))
  (some (.inr (.inr v1)))
/-- laws.heldLabelS -/
noncomputable def F_laws_heldLabelS (a0 : List TLabel) (a1 : Int) : Option (Int) :=
  (whileP (σ := Int × Int) (ρ := (Int) ⊕ (Int)) (L_laws_heldLabelS_x3 a0) (a1, 0)).bind fun y4 =>
  (match y4 with
    | .inl y4k0 => (
        letO y4k0 fun w26 =>
        some w26)
    | .inr y4m0 =>
        letO y4m0 fun y4k1 =>
        letO y4k1 fun w27 =>
        some w27)
theorem run_laws_heldLabelS (a0 : List TLabel) (a1 : Int) (r : Int) (h : F_laws_heldLabelS a0 a1 = some r) : Fun Try.prog 129 [.c (.bs (len a0) 4 (row gd (encLabel) a0)), .c (.v (.int .i64 a1))] [] (.c (.v (.int .i64 r))) [] true := by
  refine Fun.of_wp (oneOf []) tok mixed Try.func129 (by kernel_rfl) rfl Try.ntmps129 rfl trivial (fun _ => ⟨trivial, trivial⟩) ?_
  unfold F_laws_heldLabelS at h
  unfold L_laws_heldLabelS_x3 at h
  have hf_laws_markText := @run_laws_markText
  generalize hLEN : @len = LEN at *
  generalize hGD : @gd = GD at *
  generalize hA : std = A at *
  generalize hP : Try.prog = P at *
  cbv
  replace h := of_bind h
  obtain ⟨y4, hr5, hN6⟩ := h
  refine loop_cut hr5 (fun x => (sparse 52 [(0, .c (.bs (LEN a0) 4 (row GD (encLabel) a0))), (1, .c (.v (.int .i64 x.1))), (5, .c (.v (.int .i64 x.2)))] [])) ?_ (fun y e s => (match y with | .inl w => e = .ret ∧ s.le (sparse 52 [(4, .c (.v (.int .i64 w)))] []) | .inr w0 => (fun (w : Int) => e = .exit 0 ∧ s.le (sparse 52 [(1, .c (.v (.int .i64 w)))] [])) w0)) ?_ ?_
  · clear hr5 hN6
    show St.le _ _
    exact le_sparse rfl ⟨AV.le_refl _, AV.le_refl _, AV.le_refl _, trivial⟩ trivial rfl
  · clear hr5 hN6
    intro x z10 h K8 hK9 hY7
    obtain ⟨x0_, x1_⟩ := x
    replace h := of_let h
    obtain ⟨v1, hv1, h⟩ := h
    have hv1 : v1 = x0_ := hv1
    subst hv1
    replace h := of_let h
    obtain ⟨v2, hv2, h⟩ := h
    have hv2 : v2 = x1_ := hv2
    subst hv2
    cbv
    refine fork (fun b25 => ?_) (fun b25 => ?_)
    · replace h := of_br_t b25 h
      cbv
      replace h := of_req h
      obtain ⟨c15, h⟩ := h
      refine ⟨⟨c15, trivial⟩, ?_⟩
      refine fork (fun b24 => ?_) (fun b24 => ?_)
      · replace h := of_br_t b24 h
        cbv
        injection h with h
        refine hY7 _ h.symm _ _ (And.intro rfl ?_) (by intro hh; cases hh)
        exact le_sparse rfl ⟨AV.le_refl _, trivial⟩ trivial rfl
      · replace h := of_br_f b24 h
        cbv
        replace h := of_req h
        obtain ⟨c16, h⟩ := h
        refine ⟨⟨c16, trivial⟩, ?_⟩
        refine fork (fun b23 => ?_) (fun b23 => ?_)
        · replace h := of_br_t b23 h
          cbv
          injection h with h
          refine hY7 _ h.symm _ _ (And.intro rfl ?_) (by intro hh; cases hh)
          exact le_sparse rfl ⟨AV.le_refl _, trivial⟩ trivial rfl
        · replace h := of_br_f b23 h
          cbv
          replace h := of_req h
          obtain ⟨c17, h⟩ := h
          refine ⟨⟨c17, trivial⟩, ?_⟩
          refine fork (fun b22 => ?_) (fun b22 => ?_)
          · replace h := of_br_t b22 h
            cbv
            injection h with h
            refine hY7 _ h.symm _ _ (And.intro rfl ?_) (by intro hh; cases hh)
            exact le_sparse rfl ⟨AV.le_refl _, trivial⟩ trivial rfl
          · replace h := of_br_f b22 h
            cbv
            replace h := of_req h
            obtain ⟨c18, h⟩ := h
            refine ⟨⟨c18, trivial⟩, ?_⟩
            replace h := of_bind h
            obtain ⟨y19, hy20, h⟩ := h
            refine ⟨{ args := [.c (.v (.int .i64 (A.add .i64 (A.add .i64 (A.add .i64 v1 1) 1) 1)))], o0 := [], r := .c (.v (.string y19)), o1 := [], fl := true, σ := [], τ := [] }, hf_laws_markText _ _ hy20, ⟨les_cons (AV.le_refl _) (les_nil), trivial, rfl, rfl, rfl, rfl, trivial, rfl⟩, ?_⟩
            cbv
            refine fork (fun b21 => ?_) (fun b21 => ?_)
            · replace h := of_br_t b21 h
              cbv
              injection h with h
              refine hY7 _ h.symm _ _ (And.intro rfl ?_) (by intro hh; cases hh)
              exact le_sparse rfl ⟨AV.le_refl _, trivial⟩ trivial rfl
            · replace h := of_br_f b21 h
              cbv
              injection h with h
              refine hK9 _ h.symm _ ?_
              exact le_sparse rfl ⟨AV.le_refl _, AV.le_refl _, AV.le_refl _, trivial⟩ trivial rfl
    · replace h := of_br_f b25 h
      cbv
      injection h with h
      refine hY7 _ h.symm _ _ (And.intro rfl ?_) (by intro hh; cases hh)
      exact le_sparse rfl ⟨AV.le_refl _, trivial⟩ trivial rfl
  · clear hr5
    have h := hN6
    clear hN6
    intro e13 s14 q12 hne
    rcases y4 with y4k0 | y4m0
    · replace h := h
      obtain ⟨rfl, q12⟩ := q12
      replace h := of_let h
      obtain ⟨w26, hw26, h⟩ := h
      have hw26 : w26 = y4k0 := hw26
      subst hw26
      cbv
      injection h with h
      subst h
      refine ⟨(sparse 52 [(4, .c (.v (.int .i64 w26)))] []), ?_, ?_⟩
      · refine St.le_trans q12 ?_
        exact le_sparse rfl ⟨AV.le_refl _, trivial⟩ trivial rfl
      · exact ⟨AV.le_refl _, trivial, rfl⟩
    · replace h := of_let h
      obtain ⟨y4k1, hyk, h⟩ := h
      have hyk : y4k1 = y4m0 := hyk
      subst hyk
      obtain ⟨rfl, q12⟩ := q12
      replace h := of_let h
      obtain ⟨w27, hw27, h⟩ := h
      have hw27 : w27 = y4k1 := hw27
      subst hw27
      cbv
      refine ⟨_, q12, ?_⟩
      cbv
      injection h with h
      subst h
      refine ⟨(sparse 52 [(4, .c (.v (.int .i64 w27)))] []), ?_, ?_⟩
      · exact le_sparse rfl ⟨AV.le_refl _, trivial⟩ trivial rfl
      · exact ⟨AV.le_refl _, trivial, rfl⟩

noncomputable def L_laws_heldInstanceS_x3 (a0 : List TInstance) : (Int × Int) → Option ((Int × Int) ⊕ ((Int) ⊕ (Int))) := fun x3 =>
  letO x3.1 fun v1 =>
  letO x3.2 fun v2 =>
  br (std.lt v2 (std.ofN (len a0)))
  (req (std.inR v2 (len a0)) <|
  br (std.not (std.eq (gd a0 (std.toN v2)).fCell v1))
  (some (.inr (.inl (-1))))
  (req (std.inR v2 (len a0)) <|
  br (std.not (std.eq (gd a0 (std.toN v2)).fPlace.fOrientation (std.add .i64 v1 1)))
  (some (.inr (.inl (-1))))
  (req (std.inR v2 (len a0)) <|
  br (std.not (std.eq (gd a0 (std.toN v2)).fPlace.fX (std.add .i64 (std.add .i64 v1 1) 1)))
  (some (.inr (.inl (-1))))
  (req (std.inR v2 (len a0)) <|
  br (std.not (std.eq (gd a0 (std.toN v2)).fPlace.fY (std.add .i64 (std.add .i64 (std.add .i64 v1 1) 1) 1)))
  (some (.inr (.inl (-1))))
  (req (std.inR v2 (len a0)) <|
  br (std.not (std.eq (gd a0 (std.toN v2)).fColumns (std.add .i64 (std.add .i64 (std.add .i64 (std.add .i64 v1 1) 1) 1) 1)))
  (some (.inr (.inl (-1))))
  (req (std.inR v2 (len a0)) <|
  br (std.not (std.eq (gd a0 (std.toN v2)).fRows (std.add .i64 (std.add .i64 (std.add .i64 (std.add .i64 (std.add .i64 v1 1) 1) 1) 1) 1)))
  (some (.inr (.inl (-1))))
  (req (std.inR v2 (len a0)) <|
  br (std.not (std.eq (gd a0 (std.toN v2)).fStepX (std.add .i64 (std.add .i64 (std.add .i64 (std.add .i64 (std.add .i64 (std.add .i64 v1 1) 1) 1) 1) 1) 1)))
  (some (.inr (.inl (-1))))
  (req (std.inR v2 (len a0)) <|
  br (std.not (std.eq (gd a0 (std.toN v2)).fStepY (std.add .i64 (std.add .i64 (std.add .i64 (std.add .i64 (std.add .i64 (std.add .i64 (std.add .i64 v1 1) 1) 1) 1) 1) 1) 1)))
  (some (.inr (.inl (-1))))
  (some (.inl (std.add .i64 (std.add .i64 (std.add .i64 (std.add .i64 (std.add .i64 (std.add .i64 (std.add .i64 (std.add .i64 v1 1) 1) 1) 1) 1) 1) 1) 1, std.add .i64 v2 1)))))))))))
  (some (.inr (.inr v1)))
/-- laws.heldInstanceS -/
noncomputable def F_laws_heldInstanceS (a0 : List TInstance) (a1 : Int) : Option (Int) :=
  (whileP (σ := Int × Int) (ρ := (Int) ⊕ (Int)) (L_laws_heldInstanceS_x3 a0) (a1, 0)).bind fun y4 =>
  (match y4 with
    | .inl y4k0 => (
        letO y4k0 fun w32 =>
        some w32)
    | .inr y4m0 =>
        letO y4m0 fun y4k1 =>
        letO y4k1 fun w33 =>
        some w33)
theorem run_laws_heldInstanceS (a0 : List TInstance) (a1 : Int) (r : Int) (h : F_laws_heldInstanceS a0 a1 = some r) : Fun Try.prog 130 [.c (.bs (len a0) 8 (row gd (encInstance) a0)), .c (.v (.int .i64 a1))] [] (.c (.v (.int .i64 r))) [] true := by
  refine Fun.of_wp (oneOf []) tok mixed Try.func130 (by kernel_rfl) rfl Try.ntmps130 rfl trivial (fun _ => ⟨trivial, trivial⟩) ?_
  unfold F_laws_heldInstanceS at h
  unfold L_laws_heldInstanceS_x3 at h
  generalize hLEN : @len = LEN at *
  generalize hGD : @gd = GD at *
  generalize hA : std = A at *
  generalize hP : Try.prog = P at *
  cbv
  replace h := of_bind h
  obtain ⟨y4, hr5, hN6⟩ := h
  refine loop_cut hr5 (fun x => (sparse 88 [(0, .c (.bs (LEN a0) 8 (row GD (encInstance) a0))), (1, .c (.v (.int .i64 x.1))), (5, .c (.v (.int .i64 x.2)))] [])) ?_ (fun y e s => (match y with | .inl w => e = .ret ∧ s.le (sparse 88 [(4, .c (.v (.int .i64 w)))] []) | .inr w0 => (fun (w : Int) => e = .exit 0 ∧ s.le (sparse 88 [(1, .c (.v (.int .i64 w)))] [])) w0)) ?_ ?_
  · clear hr5 hN6
    show St.le _ _
    exact le_sparse rfl ⟨AV.le_refl _, AV.le_refl _, AV.le_refl _, trivial⟩ trivial rfl
  · clear hr5 hN6
    intro x z10 h K8 hK9 hY7
    obtain ⟨x0_, x1_⟩ := x
    replace h := of_let h
    obtain ⟨v1, hv1, h⟩ := h
    have hv1 : v1 = x0_ := hv1
    subst hv1
    replace h := of_let h
    obtain ⟨v2, hv2, h⟩ := h
    have hv2 : v2 = x1_ := hv2
    subst hv2
    cbv
    refine fork (fun b31 => ?_) (fun b31 => ?_)
    · replace h := of_br_t b31 h
      cbv
      replace h := of_req h
      obtain ⟨c15, h⟩ := h
      refine ⟨⟨c15, trivial⟩, ?_⟩
      refine fork (fun b30 => ?_) (fun b30 => ?_)
      · replace h := of_br_t b30 h
        cbv
        injection h with h
        refine hY7 _ h.symm _ _ (And.intro rfl ?_) (by intro hh; cases hh)
        exact le_sparse rfl ⟨AV.le_refl _, trivial⟩ trivial rfl
      · replace h := of_br_f b30 h
        cbv
        replace h := of_req h
        obtain ⟨c16, h⟩ := h
        refine ⟨⟨c16, trivial⟩, ?_⟩
        refine fork (fun b29 => ?_) (fun b29 => ?_)
        · replace h := of_br_t b29 h
          cbv
          injection h with h
          refine hY7 _ h.symm _ _ (And.intro rfl ?_) (by intro hh; cases hh)
          exact le_sparse rfl ⟨AV.le_refl _, trivial⟩ trivial rfl
        · replace h := of_br_f b29 h
          cbv
          replace h := of_req h
          obtain ⟨c17, h⟩ := h
          refine ⟨⟨c17, trivial⟩, ?_⟩
          refine fork (fun b28 => ?_) (fun b28 => ?_)
          · replace h := of_br_t b28 h
            cbv
            injection h with h
            refine hY7 _ h.symm _ _ (And.intro rfl ?_) (by intro hh; cases hh)
            exact le_sparse rfl ⟨AV.le_refl _, trivial⟩ trivial rfl
          · replace h := of_br_f b28 h
            cbv
            replace h := of_req h
            obtain ⟨c18, h⟩ := h
            refine ⟨⟨c18, trivial⟩, ?_⟩
            refine fork (fun b27 => ?_) (fun b27 => ?_)
            · replace h := of_br_t b27 h
              cbv
              injection h with h
              refine hY7 _ h.symm _ _ (And.intro rfl ?_) (by intro hh; cases hh)
              exact le_sparse rfl ⟨AV.le_refl _, trivial⟩ trivial rfl
            · replace h := of_br_f b27 h
              cbv
              replace h := of_req h
              obtain ⟨c19, h⟩ := h
              refine ⟨⟨c19, trivial⟩, ?_⟩
              refine fork (fun b26 => ?_) (fun b26 => ?_)
              · replace h := of_br_t b26 h
                cbv
                injection h with h
                refine hY7 _ h.symm _ _ (And.intro rfl ?_) (by intro hh; cases hh)
                exact le_sparse rfl ⟨AV.le_refl _, trivial⟩ trivial rfl
              · replace h := of_br_f b26 h
                cbv
                replace h := of_req h
                obtain ⟨c20, h⟩ := h
                refine ⟨⟨c20, trivial⟩, ?_⟩
                refine fork (fun b25 => ?_) (fun b25 => ?_)
                · replace h := of_br_t b25 h
                  cbv
                  injection h with h
                  refine hY7 _ h.symm _ _ (And.intro rfl ?_) (by intro hh; cases hh)
                  exact le_sparse rfl ⟨AV.le_refl _, trivial⟩ trivial rfl
                · replace h := of_br_f b25 h
                  cbv
                  replace h := of_req h
                  obtain ⟨c21, h⟩ := h
                  refine ⟨⟨c21, trivial⟩, ?_⟩
                  refine fork (fun b24 => ?_) (fun b24 => ?_)
                  · replace h := of_br_t b24 h
                    cbv
                    injection h with h
                    refine hY7 _ h.symm _ _ (And.intro rfl ?_) (by intro hh; cases hh)
                    exact le_sparse rfl ⟨AV.le_refl _, trivial⟩ trivial rfl
                  · replace h := of_br_f b24 h
                    cbv
                    replace h := of_req h
                    obtain ⟨c22, h⟩ := h
                    refine ⟨⟨c22, trivial⟩, ?_⟩
                    refine fork (fun b23 => ?_) (fun b23 => ?_)
                    · replace h := of_br_t b23 h
                      cbv
                      injection h with h
                      refine hY7 _ h.symm _ _ (And.intro rfl ?_) (by intro hh; cases hh)
                      exact le_sparse rfl ⟨AV.le_refl _, trivial⟩ trivial rfl
                    · replace h := of_br_f b23 h
                      cbv
                      injection h with h
                      refine hK9 _ h.symm _ ?_
                      exact le_sparse rfl ⟨AV.le_refl _, AV.le_refl _, AV.le_refl _, trivial⟩ trivial rfl
    · replace h := of_br_f b31 h
      cbv
      injection h with h
      refine hY7 _ h.symm _ _ (And.intro rfl ?_) (by intro hh; cases hh)
      exact le_sparse rfl ⟨AV.le_refl _, trivial⟩ trivial rfl
  · clear hr5
    have h := hN6
    clear hN6
    intro e13 s14 q12 hne
    rcases y4 with y4k0 | y4m0
    · replace h := h
      obtain ⟨rfl, q12⟩ := q12
      replace h := of_let h
      obtain ⟨w32, hw32, h⟩ := h
      have hw32 : w32 = y4k0 := hw32
      subst hw32
      cbv
      injection h with h
      subst h
      refine ⟨(sparse 88 [(4, .c (.v (.int .i64 w32)))] []), ?_, ?_⟩
      · refine St.le_trans q12 ?_
        exact le_sparse rfl ⟨AV.le_refl _, trivial⟩ trivial rfl
      · exact ⟨AV.le_refl _, trivial, rfl⟩
    · replace h := of_let h
      obtain ⟨y4k1, hyk, h⟩ := h
      have hyk : y4k1 = y4m0 := hyk
      subst hyk
      obtain ⟨rfl, q12⟩ := q12
      replace h := of_let h
      obtain ⟨w33, hw33, h⟩ := h
      have hw33 : w33 = y4k1 := hw33
      subst hw33
      cbv
      refine ⟨_, q12, ?_⟩
      cbv
      injection h with h
      subst h
      refine ⟨(sparse 88 [(4, .c (.v (.int .i64 w33)))] []), ?_, ?_⟩
      · exact le_sparse rfl ⟨AV.le_refl _, trivial⟩ trivial rfl
      · exact ⟨AV.le_refl _, trivial, rfl⟩

noncomputable def L_laws_heldCellS_x3 (a0 : List TCell) : (Int × Int) → Option ((Int × Int) ⊕ ((Int) ⊕ (Int))) := fun x3 =>
  letO x3.1 fun v1 =>
  letO x3.2 fun v2 =>
  br (std.lt v2 (std.ofN (len a0)))
  (req (std.inR v2 (len a0)) <|
  (F_laws_markText v1).bind fun y16 =>
  br (std.not (std.seq (gd a0 (std.toN v2)).fName y16))
  (some (.inr (.inl (-1))))
  (req (std.inR v2 (len a0)) <|
  (F_laws_heldShapeS (gd a0 (std.toN v2)).fShapes (std.add .i64 v1 1)).bind fun y19 =>
  br (std.lt y19 0)
  (some (.inr (.inl (-1))))
  (req (std.inR v2 (len a0)) <|
  (F_laws_heldLabelS (gd a0 (std.toN v2)).fLabels y19).bind fun y22 =>
  br (std.lt y22 0)
  (some (.inr (.inl (-1))))
  (req (std.inR v2 (len a0)) <|
  (F_laws_heldInstanceS (gd a0 (std.toN v2)).fInstances y22).bind fun y25 =>
  br (std.lt y25 0)
  (some (.inr (.inl (-1))))
  (some (.inl (y25, std.add .i64 v2 1)))))))
  (some (.inr (.inr v1)))
/-- laws.heldCellS -/
noncomputable def F_laws_heldCellS (a0 : List TCell) (a1 : Int) : Option (Int) :=
  (whileP (σ := Int × Int) (ρ := (Int) ⊕ (Int)) (L_laws_heldCellS_x3 a0) (a1, 0)).bind fun y4 =>
  (match y4 with
    | .inl y4k0 => (
        letO y4k0 fun w32 =>
        some w32)
    | .inr y4m0 =>
        letO y4m0 fun y4k1 =>
        letO y4k1 fun w33 =>
        some w33)
theorem run_laws_heldCellS (a0 : List TCell) (a1 : Int) (r : Int) (h : F_laws_heldCellS a0 a1 = some r) : Fun Try.prog 82 [.c (.bs (len a0) 4 (row gd (encCell len gd) a0)), .c (.v (.int .i64 a1))] [] (.c (.v (.int .i64 r))) [] true := by
  refine Fun.of_wp (oneOf []) tok mixed Try.func82 (by kernel_rfl) rfl Try.ntmps82 rfl trivial (fun _ => ⟨trivial, trivial⟩) ?_
  unfold F_laws_heldCellS at h
  unfold L_laws_heldCellS_x3 at h
  have hf_laws_heldInstanceS := @run_laws_heldInstanceS
  have hf_laws_heldLabelS := @run_laws_heldLabelS
  have hf_laws_heldShapeS := @run_laws_heldShapeS
  have hf_laws_markText := @run_laws_markText
  generalize hLEN : @len = LEN at *
  generalize hGD : @gd = GD at *
  generalize hA : std = A at *
  generalize hP : Try.prog = P at *
  cbv
  replace h := of_bind h
  obtain ⟨y4, hr5, hN6⟩ := h
  refine loop_cut hr5 (fun x => (sparse 50 [(0, .c (.bs (LEN a0) 4 (row GD (encCell LEN GD) a0))), (1, .c (.v (.int .i64 x.1))), (5, .c (.v (.int .i64 x.2)))] [])) ?_ (fun y e s => (match y with | .inl w => e = .ret ∧ s.le (sparse 50 [(4, .c (.v (.int .i64 w)))] []) | .inr w0 => (fun (w : Int) => e = .exit 0 ∧ s.le (sparse 50 [(1, .c (.v (.int .i64 w)))] [])) w0)) ?_ ?_
  · clear hr5 hN6
    show St.le _ _
    exact le_sparse rfl ⟨AV.le_refl _, AV.le_refl _, AV.le_refl _, trivial⟩ trivial rfl
  · clear hr5 hN6
    intro x z10 h K8 hK9 hY7
    obtain ⟨x0_, x1_⟩ := x
    replace h := of_let h
    obtain ⟨v1, hv1, h⟩ := h
    have hv1 : v1 = x0_ := hv1
    subst hv1
    replace h := of_let h
    obtain ⟨v2, hv2, h⟩ := h
    have hv2 : v2 = x1_ := hv2
    subst hv2
    cbv
    refine fork (fun b31 => ?_) (fun b31 => ?_)
    · replace h := of_br_t b31 h
      cbv
      replace h := of_req h
      obtain ⟨c15, h⟩ := h
      refine ⟨⟨c15, trivial⟩, ?_⟩
      replace h := of_bind h
      obtain ⟨y16, hy17, h⟩ := h
      refine ⟨{ args := [.c (.v (.int .i64 v1))], o0 := [], r := .c (.v (.string y16)), o1 := [], fl := true, σ := [], τ := [] }, hf_laws_markText _ _ hy17, ⟨les_cons (AV.le_refl _) (les_nil), trivial, rfl, rfl, rfl, rfl, trivial, rfl⟩, ?_⟩
      cbv
      refine fork (fun b30 => ?_) (fun b30 => ?_)
      · replace h := of_br_t b30 h
        cbv
        injection h with h
        refine hY7 _ h.symm _ _ (And.intro rfl ?_) (by intro hh; cases hh)
        exact le_sparse rfl ⟨AV.le_refl _, trivial⟩ trivial rfl
      · replace h := of_br_f b30 h
        cbv
        replace h := of_req h
        obtain ⟨c18, h⟩ := h
        refine ⟨⟨c18, trivial⟩, ?_⟩
        replace h := of_bind h
        obtain ⟨y19, hy20, h⟩ := h
        refine ⟨{ args := [.c (.bs (LEN (GD a0 (A.toN v2)).fShapes) 5 (row GD (encShape) (GD a0 (A.toN v2)).fShapes)), .c (.v (.int .i64 (A.add .i64 v1 1)))], o0 := [], r := .c (.v (.int .i64 y19)), o1 := [], fl := true, σ := [], τ := [] }, hf_laws_heldShapeS _ _ _ hy20, ⟨les_cons (AV.le_refl _) (les_cons (AV.le_refl _) (les_nil)), trivial, rfl, rfl, rfl, rfl, trivial, rfl⟩, ?_⟩
        cbv
        refine fork (fun b29 => ?_) (fun b29 => ?_)
        · replace h := of_br_t b29 h
          cbv
          injection h with h
          refine hY7 _ h.symm _ _ (And.intro rfl ?_) (by intro hh; cases hh)
          exact le_sparse rfl ⟨AV.le_refl _, trivial⟩ trivial rfl
        · replace h := of_br_f b29 h
          cbv
          replace h := of_req h
          obtain ⟨c21, h⟩ := h
          refine ⟨⟨c21, trivial⟩, ?_⟩
          replace h := of_bind h
          obtain ⟨y22, hy23, h⟩ := h
          refine ⟨{ args := [.c (.bs (LEN (GD a0 (A.toN v2)).fLabels) 4 (row GD (encLabel) (GD a0 (A.toN v2)).fLabels)), .c (.v (.int .i64 y19))], o0 := [], r := .c (.v (.int .i64 y22)), o1 := [], fl := true, σ := [], τ := [] }, hf_laws_heldLabelS _ _ _ hy23, ⟨les_cons (AV.le_refl _) (les_cons (AV.le_refl _) (les_nil)), trivial, rfl, rfl, rfl, rfl, trivial, rfl⟩, ?_⟩
          cbv
          refine fork (fun b28 => ?_) (fun b28 => ?_)
          · replace h := of_br_t b28 h
            cbv
            injection h with h
            refine hY7 _ h.symm _ _ (And.intro rfl ?_) (by intro hh; cases hh)
            exact le_sparse rfl ⟨AV.le_refl _, trivial⟩ trivial rfl
          · replace h := of_br_f b28 h
            cbv
            replace h := of_req h
            obtain ⟨c24, h⟩ := h
            refine ⟨⟨c24, trivial⟩, ?_⟩
            replace h := of_bind h
            obtain ⟨y25, hy26, h⟩ := h
            refine ⟨{ args := [.c (.bs (LEN (GD a0 (A.toN v2)).fInstances) 8 (row GD (encInstance) (GD a0 (A.toN v2)).fInstances)), .c (.v (.int .i64 y22))], o0 := [], r := .c (.v (.int .i64 y25)), o1 := [], fl := true, σ := [], τ := [] }, hf_laws_heldInstanceS _ _ _ hy26, ⟨les_cons (AV.le_refl _) (les_cons (AV.le_refl _) (les_nil)), trivial, rfl, rfl, rfl, rfl, trivial, rfl⟩, ?_⟩
            cbv
            refine fork (fun b27 => ?_) (fun b27 => ?_)
            · replace h := of_br_t b27 h
              cbv
              injection h with h
              refine hY7 _ h.symm _ _ (And.intro rfl ?_) (by intro hh; cases hh)
              exact le_sparse rfl ⟨AV.le_refl _, trivial⟩ trivial rfl
            · replace h := of_br_f b27 h
              cbv
              injection h with h
              refine hK9 _ h.symm _ ?_
              exact le_sparse rfl ⟨AV.le_refl _, AV.le_refl _, AV.le_refl _, trivial⟩ trivial rfl
    · replace h := of_br_f b31 h
      cbv
      injection h with h
      refine hY7 _ h.symm _ _ (And.intro rfl ?_) (by intro hh; cases hh)
      exact le_sparse rfl ⟨AV.le_refl _, trivial⟩ trivial rfl
  · clear hr5
    have h := hN6
    clear hN6
    intro e13 s14 q12 hne
    rcases y4 with y4k0 | y4m0
    · replace h := h
      obtain ⟨rfl, q12⟩ := q12
      replace h := of_let h
      obtain ⟨w32, hw32, h⟩ := h
      have hw32 : w32 = y4k0 := hw32
      subst hw32
      cbv
      injection h with h
      subst h
      refine ⟨(sparse 50 [(4, .c (.v (.int .i64 w32)))] []), ?_, ?_⟩
      · refine St.le_trans q12 ?_
        exact le_sparse rfl ⟨AV.le_refl _, trivial⟩ trivial rfl
      · exact ⟨AV.le_refl _, trivial, rfl⟩
    · replace h := of_let h
      obtain ⟨y4k1, hyk, h⟩ := h
      have hyk : y4k1 = y4m0 := hyk
      subst hyk
      obtain ⟨rfl, q12⟩ := q12
      replace h := of_let h
      obtain ⟨w33, hw33, h⟩ := h
      have hw33 : w33 = y4k1 := hw33
      subst hw33
      cbv
      refine ⟨_, q12, ?_⟩
      cbv
      injection h with h
      subst h
      refine ⟨(sparse 50 [(4, .c (.v (.int .i64 w33)))] []), ?_, ?_⟩
      · exact le_sparse rfl ⟨AV.le_refl _, trivial⟩ trivial rfl
      · exact ⟨AV.le_refl _, trivial, rfl⟩

/-- laws.heldLibrary -/
noncomputable def F_laws_heldLibrary (a0 : TLibrary) (a1 : Int) : Option (Int) :=
  (F_laws_heldCellS a0.fCells a1).bind fun y1 =>
  br (std.lt y1 0)
  (some (-1))
  (some y1)
theorem run_laws_heldLibrary (a0 : TLibrary) (a1 : Int) (r : Int) (h : F_laws_heldLibrary a0 a1 = some r) : Fun Try.prog 40 [.agg [.bs (len a0.fCells) 4 (row gd (encCell len gd) a0.fCells)], .c (.v (.int .i64 a1))] [] (.c (.v (.int .i64 r))) [] true := by
  refine Fun.of_wp (oneOf []) tok mixed Try.func40 (by kernel_rfl) rfl Try.ntmps40 rfl trivial (fun _ => ⟨trivial, trivial⟩) ?_
  unfold F_laws_heldLibrary at h
  have hf_laws_heldCellS := @run_laws_heldCellS
  generalize hLEN : @len = LEN at *
  generalize hGD : @gd = GD at *
  generalize hA : std = A at *
  generalize hP : Try.prog = P at *
  cbv
  replace h := of_bind h
  obtain ⟨y1, hy2, h⟩ := h
  refine ⟨{ args := [.c (.bs (LEN a0.fCells) 4 (row GD (encCell LEN GD) a0.fCells)), .c (.v (.int .i64 a1))], o0 := [], r := .c (.v (.int .i64 y1)), o1 := [], fl := true, σ := [], τ := [] }, hf_laws_heldCellS _ _ _ hy2, ⟨les_cons (AV.le_refl _) (les_cons (AV.le_refl _) (les_nil)), trivial, rfl, rfl, rfl, rfl, trivial, rfl⟩, ?_⟩
  cbv
  refine fork (fun b3 => ?_) (fun b3 => ?_)
  · replace h := of_br_t b3 h
    cbv
    injection h with h
    subst h
    refine ⟨(sparse 12 [(4, .c (.v (.int .i64 (-1))))] []), ?_, ?_⟩
    · exact le_sparse rfl ⟨AV.le_refl _, trivial⟩ trivial rfl
    · exact ⟨AV.le_refl _, trivial, rfl⟩
  · replace h := of_br_f b3 h
    cbv
    injection h with h
    subst h
    refine ⟨(sparse 12 [(4, .c (.v (.int .i64 y1)))] []), ?_, ?_⟩
    · exact le_sparse rfl ⟨AV.le_refl _, trivial⟩ trivial rfl
    · exact ⟨AV.le_refl _, trivial, rfl⟩
noncomputable def L_laws_heldEditS_x3 (a0 : List TEdit) : (Int × Int) → Option ((Int × Int) ⊕ ((Int) ⊕ (Int))) := fun x3 =>
  letO x3.1 fun v1 =>
  letO x3.2 fun v2 =>
  br (std.lt v2 (std.ofN (len a0)))
  (req (std.inR v2 (len a0)) <|
  br (std.not (std.eq (gd a0 (std.toN v2)).fKind v1))
  (some (.inr (.inl (-1))))
  (req (std.inR v2 (len a0)) <|
  br (std.not (std.eq (gd a0 (std.toN v2)).fCell (std.add .i64 v1 1)))
  (some (.inr (.inl (-1))))
  (req (std.inR v2 (len a0)) <|
  br (std.not (std.eq (gd a0 (std.toN v2)).fIndex (std.add .i64 (std.add .i64 v1 1) 1)))
  (some (.inr (.inl (-1))))
  (req (std.inR v2 (len a0)) <|
  (F_laws_markText (std.add .i64 (std.add .i64 (std.add .i64 v1 1) 1) 1)).bind fun y19 =>
  br (std.not (std.seq (gd a0 (std.toN v2)).fName y19))
  (some (.inr (.inl (-1))))
  (req (std.inR v2 (len a0)) <|
  br (std.not (std.eq (gd a0 (std.toN v2)).fShape.fLayer (std.add .i64 (std.add .i64 (std.add .i64 (std.add .i64 v1 1) 1) 1) 1)))
  (some (.inr (.inl (-1))))
  (req (std.inR v2 (len a0)) <|
  br (std.not (std.eq (gd a0 (std.toN v2)).fShape.fBox.fX0 (std.add .i64 (std.add .i64 (std.add .i64 (std.add .i64 (std.add .i64 v1 1) 1) 1) 1) 1)))
  (some (.inr (.inl (-1))))
  (req (std.inR v2 (len a0)) <|
  br (std.not (std.eq (gd a0 (std.toN v2)).fShape.fBox.fY0 (std.add .i64 (std.add .i64 (std.add .i64 (std.add .i64 (std.add .i64 (std.add .i64 v1 1) 1) 1) 1) 1) 1)))
  (some (.inr (.inl (-1))))
  (req (std.inR v2 (len a0)) <|
  br (std.not (std.eq (gd a0 (std.toN v2)).fShape.fBox.fX1 (std.add .i64 (std.add .i64 (std.add .i64 (std.add .i64 (std.add .i64 (std.add .i64 (std.add .i64 v1 1) 1) 1) 1) 1) 1) 1)))
  (some (.inr (.inl (-1))))
  (req (std.inR v2 (len a0)) <|
  br (std.not (std.eq (gd a0 (std.toN v2)).fShape.fBox.fY1 (std.add .i64 (std.add .i64 (std.add .i64 (std.add .i64 (std.add .i64 (std.add .i64 (std.add .i64 (std.add .i64 v1 1) 1) 1) 1) 1) 1) 1) 1)))
  (some (.inr (.inl (-1))))
  (req (std.inR v2 (len a0)) <|
  br (std.not (std.eq (gd a0 (std.toN v2)).fLabel.fLayer (std.add .i64 (std.add .i64 (std.add .i64 (std.add .i64 (std.add .i64 (std.add .i64 (std.add .i64 (std.add .i64 (std.add .i64 v1 1) 1) 1) 1) 1) 1) 1) 1) 1)))
  (some (.inr (.inl (-1))))
  (req (std.inR v2 (len a0)) <|
  br (std.not (std.eq (gd a0 (std.toN v2)).fLabel.fAt.fX (std.add .i64 (std.add .i64 (std.add .i64 (std.add .i64 (std.add .i64 (std.add .i64 (std.add .i64 (std.add .i64 (std.add .i64 (std.add .i64 v1 1) 1) 1) 1) 1) 1) 1) 1) 1) 1)))
  (some (.inr (.inl (-1))))
  (req (std.inR v2 (len a0)) <|
  br (std.not (std.eq (gd a0 (std.toN v2)).fLabel.fAt.fY (std.add .i64 (std.add .i64 (std.add .i64 (std.add .i64 (std.add .i64 (std.add .i64 (std.add .i64 (std.add .i64 (std.add .i64 (std.add .i64 (std.add .i64 v1 1) 1) 1) 1) 1) 1) 1) 1) 1) 1) 1)))
  (some (.inr (.inl (-1))))
  (req (std.inR v2 (len a0)) <|
  (F_laws_markText (std.add .i64 (std.add .i64 (std.add .i64 (std.add .i64 (std.add .i64 (std.add .i64 (std.add .i64 (std.add .i64 (std.add .i64 (std.add .i64 (std.add .i64 (std.add .i64 v1 1) 1) 1) 1) 1) 1) 1) 1) 1) 1) 1) 1)).bind fun y30 =>
  br (std.not (std.seq (gd a0 (std.toN v2)).fLabel.fName y30))
  (some (.inr (.inl (-1))))
  (req (std.inR v2 (len a0)) <|
  br (std.not (std.eq (gd a0 (std.toN v2)).fInstance.fCell (std.add .i64 (std.add .i64 (std.add .i64 (std.add .i64 (std.add .i64 (std.add .i64 (std.add .i64 (std.add .i64 (std.add .i64 (std.add .i64 (std.add .i64 (std.add .i64 (std.add .i64 v1 1) 1) 1) 1) 1) 1) 1) 1) 1) 1) 1) 1) 1)))
  (some (.inr (.inl (-1))))
  (req (std.inR v2 (len a0)) <|
  br (std.not (std.eq (gd a0 (std.toN v2)).fInstance.fPlace.fOrientation (std.add .i64 (std.add .i64 (std.add .i64 (std.add .i64 (std.add .i64 (std.add .i64 (std.add .i64 (std.add .i64 (std.add .i64 (std.add .i64 (std.add .i64 (std.add .i64 (std.add .i64 (std.add .i64 v1 1) 1) 1) 1) 1) 1) 1) 1) 1) 1) 1) 1) 1) 1)))
  (some (.inr (.inl (-1))))
  (req (std.inR v2 (len a0)) <|
  br (std.not (std.eq (gd a0 (std.toN v2)).fInstance.fPlace.fX (std.add .i64 (std.add .i64 (std.add .i64 (std.add .i64 (std.add .i64 (std.add .i64 (std.add .i64 (std.add .i64 (std.add .i64 (std.add .i64 (std.add .i64 (std.add .i64 (std.add .i64 (std.add .i64 (std.add .i64 v1 1) 1) 1) 1) 1) 1) 1) 1) 1) 1) 1) 1) 1) 1) 1)))
  (some (.inr (.inl (-1))))
  (req (std.inR v2 (len a0)) <|
  br (std.not (std.eq (gd a0 (std.toN v2)).fInstance.fPlace.fY (std.add .i64 (std.add .i64 (std.add .i64 (std.add .i64 (std.add .i64 (std.add .i64 (std.add .i64 (std.add .i64 (std.add .i64 (std.add .i64 (std.add .i64 (std.add .i64 (std.add .i64 (std.add .i64 (std.add .i64 (std.add .i64 v1 1) 1) 1) 1) 1) 1) 1) 1) 1) 1) 1) 1) 1) 1) 1) 1)))
  (some (.inr (.inl (-1))))
  (req (std.inR v2 (len a0)) <|
  br (std.not (std.eq (gd a0 (std.toN v2)).fInstance.fColumns (std.add .i64 (std.add .i64 (std.add .i64 (std.add .i64 (std.add .i64 (std.add .i64 (std.add .i64 (std.add .i64 (std.add .i64 (std.add .i64 (std.add .i64 (std.add .i64 (std.add .i64 (std.add .i64 (std.add .i64 (std.add .i64 (std.add .i64 v1 1) 1) 1) 1) 1) 1) 1) 1) 1) 1) 1) 1) 1) 1) 1) 1) 1)))
  (some (.inr (.inl (-1))))
  (req (std.inR v2 (len a0)) <|
  br (std.not (std.eq (gd a0 (std.toN v2)).fInstance.fRows (std.add .i64 (std.add .i64 (std.add .i64 (std.add .i64 (std.add .i64 (std.add .i64 (std.add .i64 (std.add .i64 (std.add .i64 (std.add .i64 (std.add .i64 (std.add .i64 (std.add .i64 (std.add .i64 (std.add .i64 (std.add .i64 (std.add .i64 (std.add .i64 v1 1) 1) 1) 1) 1) 1) 1) 1) 1) 1) 1) 1) 1) 1) 1) 1) 1) 1)))
  (some (.inr (.inl (-1))))
  (req (std.inR v2 (len a0)) <|
  br (std.not (std.eq (gd a0 (std.toN v2)).fInstance.fStepX (std.add .i64 (std.add .i64 (std.add .i64 (std.add .i64 (std.add .i64 (std.add .i64 (std.add .i64 (std.add .i64 (std.add .i64 (std.add .i64 (std.add .i64 (std.add .i64 (std.add .i64 (std.add .i64 (std.add .i64 (std.add .i64 (std.add .i64 (std.add .i64 (std.add .i64 v1 1) 1) 1) 1) 1) 1) 1) 1) 1) 1) 1) 1) 1) 1) 1) 1) 1) 1) 1)))
  (some (.inr (.inl (-1))))
  (req (std.inR v2 (len a0)) <|
  br (std.not (std.eq (gd a0 (std.toN v2)).fInstance.fStepY (std.add .i64 (std.add .i64 (std.add .i64 (std.add .i64 (std.add .i64 (std.add .i64 (std.add .i64 (std.add .i64 (std.add .i64 (std.add .i64 (std.add .i64 (std.add .i64 (std.add .i64 (std.add .i64 (std.add .i64 (std.add .i64 (std.add .i64 (std.add .i64 (std.add .i64 (std.add .i64 v1 1) 1) 1) 1) 1) 1) 1) 1) 1) 1) 1) 1) 1) 1) 1) 1) 1) 1) 1) 1)))
  (some (.inr (.inl (-1))))
  (some (.inl (std.add .i64 (std.add .i64 (std.add .i64 (std.add .i64 (std.add .i64 (std.add .i64 (std.add .i64 (std.add .i64 (std.add .i64 (std.add .i64 (std.add .i64 (std.add .i64 (std.add .i64 (std.add .i64 (std.add .i64 (std.add .i64 (std.add .i64 (std.add .i64 (std.add .i64 (std.add .i64 (std.add .i64 v1 1) 1) 1) 1) 1) 1) 1) 1) 1) 1) 1) 1) 1) 1) 1) 1) 1) 1) 1) 1) 1, std.add .i64 v2 1))))))))))))))))))))))))
  (some (.inr (.inr v1)))
/-- laws.heldEditS -/
noncomputable def F_laws_heldEditS (a0 : List TEdit) (a1 : Int) : Option (Int) :=
  (whileP (σ := Int × Int) (ρ := (Int) ⊕ (Int)) (L_laws_heldEditS_x3 a0) (a1, 0)).bind fun y4 =>
  (match y4 with
    | .inl y4k0 => (
        letO y4k0 fun w62 =>
        some w62)
    | .inr y4m0 =>
        letO y4m0 fun y4k1 =>
        letO y4k1 fun w63 =>
        some w63)
theorem run_laws_heldEditS (a0 : List TEdit) (a1 : Int) (r : Int) (h : F_laws_heldEditS a0 a1 = some r) : Fun Try.prog 137 [.c (.bs (len a0) 21 (row gd (encEdit) a0)), .c (.v (.int .i64 a1))] [] (.c (.v (.int .i64 r))) [] true := by
  refine Fun.of_wp (oneOf []) tok mixed Try.func137 (by kernel_rfl) rfl Try.ntmps137 rfl trivial (fun _ => ⟨trivial, trivial⟩) ?_
  unfold F_laws_heldEditS at h
  unfold L_laws_heldEditS_x3 at h
  have hf_laws_markText := @run_laws_markText
  generalize hLEN : @len = LEN at *
  generalize hGD : @gd = GD at *
  generalize hA : std = A at *
  generalize hP : Try.prog = P at *
  cbv
  replace h := of_bind h
  obtain ⟨y4, hr5, hN6⟩ := h
  refine loop_cut hr5 (fun x => (sparse 230 [(0, .c (.bs (LEN a0) 21 (row GD (encEdit) a0))), (1, .c (.v (.int .i64 x.1))), (5, .c (.v (.int .i64 x.2)))] [])) ?_ (fun y e s => (match y with | .inl w => e = .ret ∧ s.le (sparse 230 [(4, .c (.v (.int .i64 w)))] []) | .inr w0 => (fun (w : Int) => e = .exit 0 ∧ s.le (sparse 230 [(1, .c (.v (.int .i64 w)))] [])) w0)) ?_ ?_
  · clear hr5 hN6
    show St.le _ _
    exact le_sparse rfl ⟨AV.le_refl _, AV.le_refl _, AV.le_refl _, trivial⟩ trivial rfl
  · clear hr5 hN6
    intro x z10 h K8 hK9 hY7
    obtain ⟨x0_, x1_⟩ := x
    replace h := of_let h
    obtain ⟨v1, hv1, h⟩ := h
    have hv1 : v1 = x0_ := hv1
    subst hv1
    replace h := of_let h
    obtain ⟨v2, hv2, h⟩ := h
    have hv2 : v2 = x1_ := hv2
    subst hv2
    cbv
    refine fork (fun b61 => ?_) (fun b61 => ?_)
    · replace h := of_br_t b61 h
      cbv
      replace h := of_req h
      obtain ⟨c15, h⟩ := h
      refine ⟨⟨c15, trivial⟩, ?_⟩
      refine fork (fun b60 => ?_) (fun b60 => ?_)
      · replace h := of_br_t b60 h
        cbv
        injection h with h
        refine hY7 _ h.symm _ _ (And.intro rfl ?_) (by intro hh; cases hh)
        exact le_sparse rfl ⟨AV.le_refl _, trivial⟩ trivial rfl
      · replace h := of_br_f b60 h
        cbv
        replace h := of_req h
        obtain ⟨c16, h⟩ := h
        refine ⟨⟨c16, trivial⟩, ?_⟩
        refine fork (fun b59 => ?_) (fun b59 => ?_)
        · replace h := of_br_t b59 h
          cbv
          injection h with h
          refine hY7 _ h.symm _ _ (And.intro rfl ?_) (by intro hh; cases hh)
          exact le_sparse rfl ⟨AV.le_refl _, trivial⟩ trivial rfl
        · replace h := of_br_f b59 h
          cbv
          replace h := of_req h
          obtain ⟨c17, h⟩ := h
          refine ⟨⟨c17, trivial⟩, ?_⟩
          refine fork (fun b58 => ?_) (fun b58 => ?_)
          · replace h := of_br_t b58 h
            cbv
            injection h with h
            refine hY7 _ h.symm _ _ (And.intro rfl ?_) (by intro hh; cases hh)
            exact le_sparse rfl ⟨AV.le_refl _, trivial⟩ trivial rfl
          · replace h := of_br_f b58 h
            cbv
            replace h := of_req h
            obtain ⟨c18, h⟩ := h
            refine ⟨⟨c18, trivial⟩, ?_⟩
            replace h := of_bind h
            obtain ⟨y19, hy20, h⟩ := h
            refine ⟨{ args := [.c (.v (.int .i64 (A.add .i64 (A.add .i64 (A.add .i64 v1 1) 1) 1)))], o0 := [], r := .c (.v (.string y19)), o1 := [], fl := true, σ := [], τ := [] }, hf_laws_markText _ _ hy20, ⟨les_cons (AV.le_refl _) (les_nil), trivial, rfl, rfl, rfl, rfl, trivial, rfl⟩, ?_⟩
            cbv
            refine fork (fun b57 => ?_) (fun b57 => ?_)
            · replace h := of_br_t b57 h
              cbv
              injection h with h
              refine hY7 _ h.symm _ _ (And.intro rfl ?_) (by intro hh; cases hh)
              exact le_sparse rfl ⟨AV.le_refl _, trivial⟩ trivial rfl
            · replace h := of_br_f b57 h
              cbv
              replace h := of_req h
              obtain ⟨c21, h⟩ := h
              refine ⟨⟨c21, trivial⟩, ?_⟩
              refine fork (fun b56 => ?_) (fun b56 => ?_)
              · replace h := of_br_t b56 h
                cbv
                injection h with h
                refine hY7 _ h.symm _ _ (And.intro rfl ?_) (by intro hh; cases hh)
                exact le_sparse rfl ⟨AV.le_refl _, trivial⟩ trivial rfl
              · replace h := of_br_f b56 h
                cbv
                replace h := of_req h
                obtain ⟨c22, h⟩ := h
                refine ⟨⟨c22, trivial⟩, ?_⟩
                refine fork (fun b55 => ?_) (fun b55 => ?_)
                · replace h := of_br_t b55 h
                  cbv
                  injection h with h
                  refine hY7 _ h.symm _ _ (And.intro rfl ?_) (by intro hh; cases hh)
                  exact le_sparse rfl ⟨AV.le_refl _, trivial⟩ trivial rfl
                · replace h := of_br_f b55 h
                  cbv
                  replace h := of_req h
                  obtain ⟨c23, h⟩ := h
                  refine ⟨⟨c23, trivial⟩, ?_⟩
                  refine fork (fun b54 => ?_) (fun b54 => ?_)
                  · replace h := of_br_t b54 h
                    cbv
                    injection h with h
                    refine hY7 _ h.symm _ _ (And.intro rfl ?_) (by intro hh; cases hh)
                    exact le_sparse rfl ⟨AV.le_refl _, trivial⟩ trivial rfl
                  · replace h := of_br_f b54 h
                    cbv
                    replace h := of_req h
                    obtain ⟨c24, h⟩ := h
                    refine ⟨⟨c24, trivial⟩, ?_⟩
                    refine fork (fun b53 => ?_) (fun b53 => ?_)
                    · replace h := of_br_t b53 h
                      cbv
                      injection h with h
                      refine hY7 _ h.symm _ _ (And.intro rfl ?_) (by intro hh; cases hh)
                      exact le_sparse rfl ⟨AV.le_refl _, trivial⟩ trivial rfl
                    · replace h := of_br_f b53 h
                      cbv
                      replace h := of_req h
                      obtain ⟨c25, h⟩ := h
                      refine ⟨⟨c25, trivial⟩, ?_⟩
                      refine fork (fun b52 => ?_) (fun b52 => ?_)
                      · replace h := of_br_t b52 h
                        cbv
                        injection h with h
                        refine hY7 _ h.symm _ _ (And.intro rfl ?_) (by intro hh; cases hh)
                        exact le_sparse rfl ⟨AV.le_refl _, trivial⟩ trivial rfl
                      · replace h := of_br_f b52 h
                        cbv
                        replace h := of_req h
                        obtain ⟨c26, h⟩ := h
                        refine ⟨⟨c26, trivial⟩, ?_⟩
                        refine fork (fun b51 => ?_) (fun b51 => ?_)
                        · replace h := of_br_t b51 h
                          cbv
                          injection h with h
                          refine hY7 _ h.symm _ _ (And.intro rfl ?_) (by intro hh; cases hh)
                          exact le_sparse rfl ⟨AV.le_refl _, trivial⟩ trivial rfl
                        · replace h := of_br_f b51 h
                          cbv
                          replace h := of_req h
                          obtain ⟨c27, h⟩ := h
                          refine ⟨⟨c27, trivial⟩, ?_⟩
                          refine fork (fun b50 => ?_) (fun b50 => ?_)
                          · replace h := of_br_t b50 h
                            cbv
                            injection h with h
                            refine hY7 _ h.symm _ _ (And.intro rfl ?_) (by intro hh; cases hh)
                            exact le_sparse rfl ⟨AV.le_refl _, trivial⟩ trivial rfl
                          · replace h := of_br_f b50 h
                            cbv
                            replace h := of_req h
                            obtain ⟨c28, h⟩ := h
                            refine ⟨⟨c28, trivial⟩, ?_⟩
                            refine fork (fun b49 => ?_) (fun b49 => ?_)
                            · replace h := of_br_t b49 h
                              cbv
                              injection h with h
                              refine hY7 _ h.symm _ _ (And.intro rfl ?_) (by intro hh; cases hh)
                              exact le_sparse rfl ⟨AV.le_refl _, trivial⟩ trivial rfl
                            · replace h := of_br_f b49 h
                              cbv
                              replace h := of_req h
                              obtain ⟨c29, h⟩ := h
                              refine ⟨⟨c29, trivial⟩, ?_⟩
                              replace h := of_bind h
                              obtain ⟨y30, hy31, h⟩ := h
                              refine ⟨{ args := [.c (.v (.int .i64 (A.add .i64 (A.add .i64 (A.add .i64 (A.add .i64 (A.add .i64 (A.add .i64 (A.add .i64 (A.add .i64 (A.add .i64 (A.add .i64 (A.add .i64 (A.add .i64 v1 1) 1) 1) 1) 1) 1) 1) 1) 1) 1) 1) 1)))], o0 := [], r := .c (.v (.string y30)), o1 := [], fl := true, σ := [], τ := [] }, hf_laws_markText _ _ hy31, ⟨les_cons (AV.le_refl _) (les_nil), trivial, rfl, rfl, rfl, rfl, trivial, rfl⟩, ?_⟩
                              cbv
                              refine fork (fun b48 => ?_) (fun b48 => ?_)
                              · replace h := of_br_t b48 h
                                cbv
                                injection h with h
                                refine hY7 _ h.symm _ _ (And.intro rfl ?_) (by intro hh; cases hh)
                                exact le_sparse rfl ⟨AV.le_refl _, trivial⟩ trivial rfl
                              · replace h := of_br_f b48 h
                                cbv
                                replace h := of_req h
                                obtain ⟨c32, h⟩ := h
                                refine ⟨⟨c32, trivial⟩, ?_⟩
                                refine fork (fun b47 => ?_) (fun b47 => ?_)
                                · replace h := of_br_t b47 h
                                  cbv
                                  injection h with h
                                  refine hY7 _ h.symm _ _ (And.intro rfl ?_) (by intro hh; cases hh)
                                  exact le_sparse rfl ⟨AV.le_refl _, trivial⟩ trivial rfl
                                · replace h := of_br_f b47 h
                                  cbv
                                  replace h := of_req h
                                  obtain ⟨c33, h⟩ := h
                                  refine ⟨⟨c33, trivial⟩, ?_⟩
                                  refine fork (fun b46 => ?_) (fun b46 => ?_)
                                  · replace h := of_br_t b46 h
                                    cbv
                                    injection h with h
                                    refine hY7 _ h.symm _ _ (And.intro rfl ?_) (by intro hh; cases hh)
                                    exact le_sparse rfl ⟨AV.le_refl _, trivial⟩ trivial rfl
                                  · replace h := of_br_f b46 h
                                    cbv
                                    replace h := of_req h
                                    obtain ⟨c34, h⟩ := h
                                    refine ⟨⟨c34, trivial⟩, ?_⟩
                                    refine fork (fun b45 => ?_) (fun b45 => ?_)
                                    · replace h := of_br_t b45 h
                                      cbv
                                      injection h with h
                                      refine hY7 _ h.symm _ _ (And.intro rfl ?_) (by intro hh; cases hh)
                                      exact le_sparse rfl ⟨AV.le_refl _, trivial⟩ trivial rfl
                                    · replace h := of_br_f b45 h
                                      cbv
                                      replace h := of_req h
                                      obtain ⟨c35, h⟩ := h
                                      refine ⟨⟨c35, trivial⟩, ?_⟩
                                      refine fork (fun b44 => ?_) (fun b44 => ?_)
                                      · replace h := of_br_t b44 h
                                        cbv
                                        injection h with h
                                        refine hY7 _ h.symm _ _ (And.intro rfl ?_) (by intro hh; cases hh)
                                        exact le_sparse rfl ⟨AV.le_refl _, trivial⟩ trivial rfl
                                      · replace h := of_br_f b44 h
                                        cbv
                                        replace h := of_req h
                                        obtain ⟨c36, h⟩ := h
                                        refine ⟨⟨c36, trivial⟩, ?_⟩
                                        refine fork (fun b43 => ?_) (fun b43 => ?_)
                                        · replace h := of_br_t b43 h
                                          cbv
                                          injection h with h
                                          refine hY7 _ h.symm _ _ (And.intro rfl ?_) (by intro hh; cases hh)
                                          exact le_sparse rfl ⟨AV.le_refl _, trivial⟩ trivial rfl
                                        · replace h := of_br_f b43 h
                                          cbv
                                          replace h := of_req h
                                          obtain ⟨c37, h⟩ := h
                                          refine ⟨⟨c37, trivial⟩, ?_⟩
                                          refine fork (fun b42 => ?_) (fun b42 => ?_)
                                          · replace h := of_br_t b42 h
                                            cbv
                                            injection h with h
                                            refine hY7 _ h.symm _ _ (And.intro rfl ?_) (by intro hh; cases hh)
                                            exact le_sparse rfl ⟨AV.le_refl _, trivial⟩ trivial rfl
                                          · replace h := of_br_f b42 h
                                            cbv
                                            replace h := of_req h
                                            obtain ⟨c38, h⟩ := h
                                            refine ⟨⟨c38, trivial⟩, ?_⟩
                                            refine fork (fun b41 => ?_) (fun b41 => ?_)
                                            · replace h := of_br_t b41 h
                                              cbv
                                              injection h with h
                                              refine hY7 _ h.symm _ _ (And.intro rfl ?_) (by intro hh; cases hh)
                                              exact le_sparse rfl ⟨AV.le_refl _, trivial⟩ trivial rfl
                                            · replace h := of_br_f b41 h
                                              cbv
                                              replace h := of_req h
                                              obtain ⟨c39, h⟩ := h
                                              refine ⟨⟨c39, trivial⟩, ?_⟩
                                              refine fork (fun b40 => ?_) (fun b40 => ?_)
                                              · replace h := of_br_t b40 h
                                                cbv
                                                injection h with h
                                                refine hY7 _ h.symm _ _ (And.intro rfl ?_) (by intro hh; cases hh)
                                                exact le_sparse rfl ⟨AV.le_refl _, trivial⟩ trivial rfl
                                              · replace h := of_br_f b40 h
                                                cbv
                                                injection h with h
                                                refine hK9 _ h.symm _ ?_
                                                exact le_sparse rfl ⟨AV.le_refl _, AV.le_refl _, AV.le_refl _, trivial⟩ trivial rfl
    · replace h := of_br_f b61 h
      cbv
      injection h with h
      refine hY7 _ h.symm _ _ (And.intro rfl ?_) (by intro hh; cases hh)
      exact le_sparse rfl ⟨AV.le_refl _, trivial⟩ trivial rfl
  · clear hr5
    have h := hN6
    clear hN6
    intro e13 s14 q12 hne
    rcases y4 with y4k0 | y4m0
    · replace h := h
      obtain ⟨rfl, q12⟩ := q12
      replace h := of_let h
      obtain ⟨w62, hw62, h⟩ := h
      have hw62 : w62 = y4k0 := hw62
      subst hw62
      cbv
      injection h with h
      subst h
      refine ⟨(sparse 230 [(4, .c (.v (.int .i64 w62)))] []), ?_, ?_⟩
      · refine St.le_trans q12 ?_
        exact le_sparse rfl ⟨AV.le_refl _, trivial⟩ trivial rfl
      · exact ⟨AV.le_refl _, trivial, rfl⟩
    · replace h := of_let h
      obtain ⟨y4k1, hyk, h⟩ := h
      have hyk : y4k1 = y4m0 := hyk
      subst hyk
      obtain ⟨rfl, q12⟩ := q12
      replace h := of_let h
      obtain ⟨w63, hw63, h⟩ := h
      have hw63 : w63 = y4k1 := hw63
      subst hw63
      cbv
      refine ⟨_, q12, ?_⟩
      cbv
      injection h with h
      subst h
      refine ⟨(sparse 230 [(4, .c (.v (.int .i64 w63)))] []), ?_, ?_⟩
      · exact le_sparse rfl ⟨AV.le_refl _, trivial⟩ trivial rfl
      · exact ⟨AV.le_refl _, trivial, rfl⟩

noncomputable def L_laws_heldEditSS_x3 (a0 : List (List TEdit)) : (Int × Int) → Option ((Int × Int) ⊕ ((Int) ⊕ (Int))) := fun x3 =>
  letO x3.1 fun v1 =>
  letO x3.2 fun v2 =>
  br (std.lt v2 (std.ofN (len a0)))
  (req (std.inR v2 (len a0)) <|
  (F_laws_heldEditS (gd a0 (std.toN v2)) v1).bind fun y16 =>
  br (std.lt y16 0)
  (some (.inr (.inl (-1))))
  (some (.inl (y16, std.add .i64 v2 1))))
  (some (.inr (.inr v1)))
/-- laws.heldEditSS -/
noncomputable def F_laws_heldEditSS (a0 : List (List TEdit)) (a1 : Int) : Option (Int) :=
  (whileP (σ := Int × Int) (ρ := (Int) ⊕ (Int)) (L_laws_heldEditSS_x3 a0) (a1, 0)).bind fun y4 =>
  (match y4 with
    | .inl y4k0 => (
        letO y4k0 fun w20 =>
        some w20)
    | .inr y4m0 =>
        letO y4m0 fun y4k1 =>
        letO y4k1 fun w21 =>
        some w21)
theorem run_laws_heldEditSS (a0 : List (List TEdit)) (a1 : Int) (r : Int) (h : F_laws_heldEditSS a0 a1 = some r) : Fun Try.prog 89 [.c (.bs (len a0) 1 (row gd (encL len gd 21 (encEdit)) a0)), .c (.v (.int .i64 a1))] [] (.c (.v (.int .i64 r))) [] true := by
  refine Fun.of_wp (oneOf []) tok mixed Try.func89 (by kernel_rfl) rfl Try.ntmps89 rfl trivial (fun _ => ⟨trivial, trivial⟩) ?_
  unfold F_laws_heldEditSS at h
  unfold L_laws_heldEditSS_x3 at h
  have hf_laws_heldEditS := @run_laws_heldEditS
  generalize hLEN : @len = LEN at *
  generalize hGD : @gd = GD at *
  generalize hA : std = A at *
  generalize hP : Try.prog = P at *
  cbv
  replace h := of_bind h
  obtain ⟨y4, hr5, hN6⟩ := h
  refine loop_cut hr5 (fun x => (sparse 21 [(0, .c (.bs (LEN a0) 1 (row GD (encL LEN GD 21 (encEdit)) a0))), (1, .c (.v (.int .i64 x.1))), (5, .c (.v (.int .i64 x.2)))] [])) ?_ (fun y e s => (match y with | .inl w => e = .ret ∧ s.le (sparse 21 [(4, .c (.v (.int .i64 w)))] []) | .inr w0 => (fun (w : Int) => e = .exit 0 ∧ s.le (sparse 21 [(1, .c (.v (.int .i64 w)))] [])) w0)) ?_ ?_
  · clear hr5 hN6
    show St.le _ _
    exact le_sparse rfl ⟨AV.le_refl _, AV.le_refl _, AV.le_refl _, trivial⟩ trivial rfl
  · clear hr5 hN6
    intro x z10 h K8 hK9 hY7
    obtain ⟨x0_, x1_⟩ := x
    replace h := of_let h
    obtain ⟨v1, hv1, h⟩ := h
    have hv1 : v1 = x0_ := hv1
    subst hv1
    replace h := of_let h
    obtain ⟨v2, hv2, h⟩ := h
    have hv2 : v2 = x1_ := hv2
    subst hv2
    cbv
    refine fork (fun b19 => ?_) (fun b19 => ?_)
    · replace h := of_br_t b19 h
      cbv
      replace h := of_req h
      obtain ⟨c15, h⟩ := h
      refine ⟨⟨c15, trivial⟩, ?_⟩
      replace h := of_bind h
      obtain ⟨y16, hy17, h⟩ := h
      refine ⟨{ args := [.c (.bs (LEN (GD a0 (A.toN v2))) 21 (row GD (encEdit) (GD a0 (A.toN v2)))), .c (.v (.int .i64 v1))], o0 := [], r := .c (.v (.int .i64 y16)), o1 := [], fl := true, σ := [], τ := [] }, hf_laws_heldEditS _ _ _ hy17, ⟨les_cons (AV.le_refl _) (les_cons (AV.le_refl _) (les_nil)), trivial, rfl, rfl, rfl, rfl, trivial, rfl⟩, ?_⟩
      cbv
      refine fork (fun b18 => ?_) (fun b18 => ?_)
      · replace h := of_br_t b18 h
        cbv
        injection h with h
        refine hY7 _ h.symm _ _ (And.intro rfl ?_) (by intro hh; cases hh)
        exact le_sparse rfl ⟨AV.le_refl _, trivial⟩ trivial rfl
      · replace h := of_br_f b18 h
        cbv
        injection h with h
        refine hK9 _ h.symm _ ?_
        exact le_sparse rfl ⟨AV.le_refl _, AV.le_refl _, AV.le_refl _, trivial⟩ trivial rfl
    · replace h := of_br_f b19 h
      cbv
      injection h with h
      refine hY7 _ h.symm _ _ (And.intro rfl ?_) (by intro hh; cases hh)
      exact le_sparse rfl ⟨AV.le_refl _, trivial⟩ trivial rfl
  · clear hr5
    have h := hN6
    clear hN6
    intro e13 s14 q12 hne
    rcases y4 with y4k0 | y4m0
    · replace h := h
      obtain ⟨rfl, q12⟩ := q12
      replace h := of_let h
      obtain ⟨w20, hw20, h⟩ := h
      have hw20 : w20 = y4k0 := hw20
      subst hw20
      cbv
      injection h with h
      subst h
      refine ⟨(sparse 21 [(4, .c (.v (.int .i64 w20)))] []), ?_, ?_⟩
      · refine St.le_trans q12 ?_
        exact le_sparse rfl ⟨AV.le_refl _, trivial⟩ trivial rfl
      · exact ⟨AV.le_refl _, trivial, rfl⟩
    · replace h := of_let h
      obtain ⟨y4k1, hyk, h⟩ := h
      have hyk : y4k1 = y4m0 := hyk
      subst hyk
      obtain ⟨rfl, q12⟩ := q12
      replace h := of_let h
      obtain ⟨w21, hw21, h⟩ := h
      have hw21 : w21 = y4k1 := hw21
      subst hw21
      cbv
      refine ⟨_, q12, ?_⟩
      cbv
      injection h with h
      subst h
      refine ⟨(sparse 21 [(4, .c (.v (.int .i64 w21)))] []), ?_, ?_⟩
      · exact le_sparse rfl ⟨AV.le_refl _, trivial⟩ trivial rfl
      · exact ⟨AV.le_refl _, trivial, rfl⟩

/-- laws.heldEditor -/
noncomputable def F_laws_heldEditor (a0 : TEditor) (a1 : Int) : Option (Int) :=
  (F_laws_heldLibrary a0.fCurrent a1).bind fun y1 =>
  br (std.lt y1 0)
  (some (-1))
  ((F_laws_heldEditSS a0.fUndos y1).bind fun y3 =>
  br (std.lt y3 0)
  (some (-1))
  ((F_laws_heldEditSS a0.fRedos y3).bind fun y5 =>
  br (std.lt y5 0)
  (some (-1))
  (some y5)))
theorem run_laws_heldEditor (a0 : TEditor) (a1 : Int) (r : Int) (h : F_laws_heldEditor a0 a1 = some r) : Fun Try.prog 47 [.agg [.bs (len a0.fCurrent.fCells) 4 (row gd (encCell len gd) a0.fCurrent.fCells), .bs (len a0.fUndos) 1 (row gd (encL len gd 21 (encEdit)) a0.fUndos), .bs (len a0.fRedos) 1 (row gd (encL len gd 21 (encEdit)) a0.fRedos)], .c (.v (.int .i64 a1))] [] (.c (.v (.int .i64 r))) [] true := by
  refine Fun.of_wp (oneOf []) tok mixed Try.func47 (by kernel_rfl) rfl Try.ntmps47 rfl trivial (fun _ => ⟨trivial, trivial⟩) ?_
  unfold F_laws_heldEditor at h
  have hf_laws_heldEditSS := @run_laws_heldEditSS
  have hf_laws_heldLibrary := @run_laws_heldLibrary
  generalize hLEN : @len = LEN at *
  generalize hGD : @gd = GD at *
  generalize hA : std = A at *
  generalize hP : Try.prog = P at *
  cbv
  replace h := of_bind h
  obtain ⟨y1, hy2, h⟩ := h
  refine ⟨{ args := [.agg [.bs (LEN a0.fCurrent.fCells) 4 (row GD (encCell LEN GD) a0.fCurrent.fCells)], .c (.v (.int .i64 a1))], o0 := [], r := .c (.v (.int .i64 y1)), o1 := [], fl := true, σ := [], τ := [] }, hf_laws_heldLibrary _ _ _ hy2, ⟨les_cons (AV.le_refl _) (les_cons (AV.le_refl _) (les_nil)), trivial, rfl, rfl, rfl, rfl, trivial, rfl⟩, ?_⟩
  cbv
  refine fork (fun b9 => ?_) (fun b9 => ?_)
  · replace h := of_br_t b9 h
    cbv
    injection h with h
    subst h
    refine ⟨(sparse 24 [(4, .c (.v (.int .i64 (-1))))] []), ?_, ?_⟩
    · exact le_sparse rfl ⟨AV.le_refl _, trivial⟩ trivial rfl
    · exact ⟨AV.le_refl _, trivial, rfl⟩
  · replace h := of_br_f b9 h
    cbv
    replace h := of_bind h
    obtain ⟨y3, hy4, h⟩ := h
    refine ⟨{ args := [.c (.bs (LEN a0.fUndos) 1 (row GD (encL LEN GD 21 (encEdit)) a0.fUndos)), .c (.v (.int .i64 y1))], o0 := [], r := .c (.v (.int .i64 y3)), o1 := [], fl := true, σ := [], τ := [] }, hf_laws_heldEditSS _ _ _ hy4, ⟨les_cons (AV.le_refl _) (les_cons (AV.le_refl _) (les_nil)), trivial, rfl, rfl, rfl, rfl, trivial, rfl⟩, ?_⟩
    cbv
    refine fork (fun b8 => ?_) (fun b8 => ?_)
    · replace h := of_br_t b8 h
      cbv
      injection h with h
      subst h
      refine ⟨(sparse 24 [(4, .c (.v (.int .i64 (-1))))] []), ?_, ?_⟩
      · exact le_sparse rfl ⟨AV.le_refl _, trivial⟩ trivial rfl
      · exact ⟨AV.le_refl _, trivial, rfl⟩
    · replace h := of_br_f b8 h
      cbv
      replace h := of_bind h
      obtain ⟨y5, hy6, h⟩ := h
      refine ⟨{ args := [.c (.bs (LEN a0.fRedos) 1 (row GD (encL LEN GD 21 (encEdit)) a0.fRedos)), .c (.v (.int .i64 y3))], o0 := [], r := .c (.v (.int .i64 y5)), o1 := [], fl := true, σ := [], τ := [] }, hf_laws_heldEditSS _ _ _ hy6, ⟨les_cons (AV.le_refl _) (les_cons (AV.le_refl _) (les_nil)), trivial, rfl, rfl, rfl, rfl, trivial, rfl⟩, ?_⟩
      cbv
      refine fork (fun b7 => ?_) (fun b7 => ?_)
      · replace h := of_br_t b7 h
        cbv
        injection h with h
        subst h
        refine ⟨(sparse 24 [(4, .c (.v (.int .i64 (-1))))] []), ?_, ?_⟩
        · exact le_sparse rfl ⟨AV.le_refl _, trivial⟩ trivial rfl
        · exact ⟨AV.le_refl _, trivial, rfl⟩
      · replace h := of_br_f b7 h
        cbv
        injection h with h
        subst h
        refine ⟨(sparse 24 [(4, .c (.v (.int .i64 y5)))] []), ?_, ?_⟩
        · exact le_sparse rfl ⟨AV.le_refl _, trivial⟩ trivial rfl
        · exact ⟨AV.le_refl _, trivial, rfl⟩

/-- laws.FnExactNewEditor -/
noncomputable def F_laws_FnExactNewEditor (a0 : TLibrary) : Option (Bool) :=
  (F_laws_szLibrary a0 1048576).bind fun y1 =>
  br (std.lt y1 0)
  (some true)
  ((F_laws_toLibrary a0).bind fun y3 =>
  (F_spec_NewEditor y3).bind fun y5 =>
  (F_laws_toLibrary a0).bind fun y7 =>
  (F_impl_NewEditor y7).bind fun y9 =>
  ((
        (F_laws_eqEditor (TEditor.mk y9.1.fCurrent ([] : List (List TEdit)) ([] : List (List TEdit))) (TEditor.mk y5.1.fCurrent ([] : List (List TEdit)) ([] : List (List TEdit)))).bind fun y18 =>
        br (!(y18))
        (some true)
        (some (std.not (std.beq y9.2 y5.2)))
    ) : Option (Bool)).bind fun y11 =>
  letO y11 fun w17 =>
  br w17
  (some false)
  ((F_laws_toLibrary a0).bind fun y21 =>
  (F_laws_eqLibrary y7 y21).bind fun y23 =>
  br (!(y23))
  (some false)
  ((F_laws_markLibrary_mob y7 1).bind fun y25 =>
  req (len y25.2 = len y7.fCells) <|
  ((
        br (std.lt y25.1 0)
        (some true)
        ((F_laws_eqEditor (TEditor.mk y9.1.fCurrent ([] : List (List TEdit)) ([] : List (List TEdit))) (TEditor.mk y5.1.fCurrent ([] : List (List TEdit)) ([] : List (List TEdit)))).bind fun y34 =>
        br (!(y34))
        (some true)
        (some (std.not (std.beq y9.2 y5.2))))
    ) : Option (Bool)).bind fun y27 =>
  letO y27 fun w33 =>
  br w33
  (some false)
  ((F_laws_markEditor_monnb (TEditor.mk y9.1.fCurrent ([] : List (List TEdit)) ([] : List (List TEdit))) 1).bind fun y38 =>
  req (len y38.2 = len y9.1.fCurrent.fCells) <|
  (F_laws_heldEditor (TEditor.mk (TLibrary.mk y38.2) ([] : List (List TEdit)) ([] : List (List TEdit))) 1).bind fun y40 =>
  req (len y9.1.fCurrent.fCells = len y38.2) <|
  br (std.lt y40 0)
  (some false)
  (br (std.not (std.eq y40 y38.1))
  (some false)
  ((F_laws_toLibrary a0).bind fun y42 =>
  (F_impl_NewEditor y42).bind fun y44 =>
  ((
        (F_laws_eqEditor (TEditor.mk y44.1.fCurrent ([] : List (List TEdit)) ([] : List (List TEdit))) (TEditor.mk y5.1.fCurrent ([] : List (List TEdit)) ([] : List (List TEdit)))).bind fun y53 =>
        br (!(y53))
        (some true)
        (some (std.not (std.beq y44.2 y5.2)))
    ) : Option (Bool)).bind fun y46 =>
  letO y46 fun w52 =>
  br w52
  (some false)
  ((F_laws_heldEditor (TEditor.mk (TLibrary.mk y38.2) ([] : List (List TEdit)) ([] : List (List TEdit))) 1).bind fun y56 =>
  req (len y9.1.fCurrent.fCells = len y38.2) <|
  br (std.lt y56 0)
  (some false)
  (br (std.not (std.eq y56 y38.1))
  (some false)
  (some true)))))))))
theorem run_laws_FnExactNewEditor (a0 : TLibrary) (r : Bool) (h : F_laws_FnExactNewEditor a0 = some r) : Fun Try.prog 11 [.agg [.bs (len a0.fCells) 4 (row gd (encCell len gd) a0.fCells)]] [] (.c (.v (.bool r))) [] true := by
  refine Fun.of_wp (oneOf [8, 14, 25]) tok mixed Try.func11 (by kernel_rfl) rfl Try.ntmps11 rfl trivial (fun _ => ⟨trivial, trivial⟩) ?_
  unfold F_laws_FnExactNewEditor at h
  have hf_impl_NewEditor := @run_impl_NewEditor
  have hf_laws_eqEditor := @run_laws_eqEditor
  have hf_laws_eqLibrary := @run_laws_eqLibrary
  have hf_laws_heldEditor := @run_laws_heldEditor
  have hf_laws_markEditor_monnb := @run_laws_markEditor_monnb
  have hf_laws_markLibrary_mob := @run_laws_markLibrary_mob
  have hf_laws_szLibrary := @run_laws_szLibrary
  have hf_laws_toLibrary := @run_laws_toLibrary
  have hf_spec_NewEditor := @run_spec_NewEditor
  generalize hLEN : @len = LEN at *
  generalize hGD : @gd = GD at *
  generalize hA : std = A at *
  generalize hP : Try.prog = P at *
  cbv
  replace h := of_bind h
  obtain ⟨y1, hy2, h⟩ := h
  refine ⟨{ args := [.agg [.bs (LEN a0.fCells) 4 (row GD (encCell LEN GD) a0.fCells)], .c (.v (.int .i64 1048576))], o0 := [], r := .c (.v (.int .i64 y1)), o1 := [], fl := true, σ := [], τ := [] }, hf_laws_szLibrary _ _ _ hy2, ⟨les_cons (AV.le_refl _) (les_cons (AV.le_refl _) (les_nil)), trivial, rfl, rfl, rfl, rfl, trivial, rfl⟩, ?_⟩
  cbv
  refine fork (fun b70 => ?_) (fun b70 => ?_)
  · replace h := of_br_t b70 h
    cbv
    injection h with h
    subst h
    refine ⟨(sparse 96 [(2, .c (.v (.bool true)))] []), ?_, ?_⟩
    · exact le_sparse rfl ⟨AV.le_refl _, trivial⟩ trivial rfl
    · exact ⟨AV.le_refl _, trivial, rfl⟩
  · replace h := of_br_f b70 h
    cbv
    replace h := of_bind h
    obtain ⟨y3, hy4, h⟩ := h
    refine ⟨{ args := [.agg [.bs (LEN a0.fCells) 4 (row GD (encCell LEN GD) a0.fCells)]], o0 := [], r := .agg [.os 64000 0 (LEN y3.fCells)], o1 := [(64000, .arr .rw [] (LEN y3.fCells) 4 (row GD (oncCell LEN GD) y3.fCells))], fl := true, σ := [], τ := [(64000, 1344)] }, hf_laws_toLibrary _ _ hy4, ⟨les_cons (AV.le_refl _) (les_nil), trivial, rfl, rfl, rfl, rfl, ⟨fun h => absurd (show (64000 : Nat) % 2 = 1 from h) (by decide), trivial⟩, rfl⟩, _, rfl, _, _, rfl, fun _ _ _ _ => rfl, ?_⟩
    cbv
    replace h := of_bind h
    obtain ⟨y5, hy6, h⟩ := h
    refine ⟨{ args := [.agg [.bs (LEN y3.fCells) 4 (row GD (encCell LEN GD) y3.fCells)]], o0 := [], r := .tup [.agg [.os 64000 0 (LEN y5.1.fCurrent.fCells), .v (.slice none 0 0), .v (.slice none 0 0)], .c (.v (.bool y5.2))], o1 := [(64000, .arr .rw [] (LEN y5.1.fCurrent.fCells) 4 (row GD (oncCell LEN GD) y5.1.fCurrent.fCells))], fl := true, σ := [], τ := [(64000, 1408)] }, hf_spec_NewEditor _ _ hy6, ⟨les_cons (le_agg ⟨give_osD (rf_oncCell) (ln_oncCell) rfl rfl rfl, trivial⟩) (les_nil), trivial, rfl, rfl, rfl, rfl, ⟨fun h => absurd (show (64000 : Nat) % 2 = 1 from h) (by decide), trivial⟩, rfl⟩, _, rfl, _, _, rfl, fun _ _ _ _ => rfl, ?_⟩
    cbv
    replace h := of_bind h
    obtain ⟨y7, hy8, h⟩ := h
    refine ⟨{ args := [.agg [.bs (LEN a0.fCells) 4 (row GD (encCell LEN GD) a0.fCells)]], o0 := [], r := .agg [.os 64000 0 (LEN y7.fCells)], o1 := [(64000, .arr .rw [] (LEN y7.fCells) 4 (row GD (oncCell LEN GD) y7.fCells))], fl := true, σ := [], τ := [(64000, 1664)] }, hf_laws_toLibrary _ _ hy8, ⟨les_cons (AV.le_refl _) (les_nil), trivial, rfl, rfl, rfl, rfl, ⟨fun h => absurd (show (64000 : Nat) % 2 = 1 from h) (by decide), trivial⟩, rfl⟩, _, rfl, _, _, rfl, fun _ _ _ _ => rfl, ?_⟩
    cbv
    replace h := of_bind h
    obtain ⟨y9, hy10, h⟩ := h
    refine ⟨{ args := [.agg [.bs (LEN y7.fCells) 4 (row GD (encCell LEN GD) y7.fCells)]], o0 := [], r := .tup [.agg [.os 64000 0 (LEN y9.1.fCurrent.fCells), .v (.slice none 0 0), .v (.slice none 0 0)], .c (.v (.bool y9.2))], o1 := [(64000, .arr .rw [] (LEN y9.1.fCurrent.fCells) 4 (row GD (oncCell LEN GD) y9.1.fCurrent.fCells))], fl := true, σ := [], τ := [(64000, 1856)] }, hf_impl_NewEditor _ _ hy10, ⟨les_cons (le_agg ⟨give_osD (rf_oncCell) (ln_oncCell) rfl rfl rfl, trivial⟩) (les_nil), trivial, rfl, rfl, rfl, rfl, ⟨fun h => absurd (show (64000 : Nat) % 2 = 1 from h) (by decide), trivial⟩, rfl⟩, _, rfl, _, _, rfl, fun _ _ _ _ => rfl, ?_⟩
    cbv
    replace h := of_bind h
    obtain ⟨y11, hy12, h⟩ := h
    obtain ⟨S15, hS16⟩ : ∃ S, S = (sparse 96 [(1, .c (.ptr 64 0)), (4, .c (.ptr 256 0)), (5, .c (.v (.bool y5.2))), (6, .c (.ptr 384 0)), (7, .c (.ptr 448 0)), (8, .c (.v (.bool y9.2))), (40, .c (.v (.bool y11)))] [(64, .var [.bs (LEN a0.fCells) 4 (row GD (encCell LEN GD) a0.fCells)]), (256, .var [.os 1408 0 (LEN y5.1.fCurrent.fCells), .v (.slice none 0 0), .v (.slice none 0 0)]), (384, .var [.os 1664 0 (LEN y7.fCells)]), (448, .var [.os 1856 0 (LEN y9.1.fCurrent.fCells), .v (.slice none 0 0), .v (.slice none 0 0)]), (1408, .arr .rw [] (LEN y5.1.fCurrent.fCells) 4 (row GD (oncCell LEN GD) y5.1.fCurrent.fCells)), (1664, .arr .rw [] (LEN y7.fCells) 4 (row GD (oncCell LEN GD) y7.fCells)), (1856, .arr .rw [] (LEN y9.1.fCurrent.fCells) 4 (row GD (oncCell LEN GD) y9.1.fCurrent.fCells))]) := ⟨_, rfl⟩
    refine ⟨S15, ?_, ?_⟩
    · clear h
      have h := hy12
      clear hy12
      cbv
      replace h := of_bind h
      obtain ⟨y18, hy19, h⟩ := h
      refine ⟨{ args := [.agg [.bs (LEN y9.1.fCurrent.fCells) 4 (row GD (encCell LEN GD) y9.1.fCurrent.fCells), .bs (LEN ([] : List (List TEdit))) 1 (row GD (encL LEN GD 21 (encEdit)) ([] : List (List TEdit))), .bs (LEN ([] : List (List TEdit))) 1 (row GD (encL LEN GD 21 (encEdit)) ([] : List (List TEdit)))], .agg [.bs (LEN y5.1.fCurrent.fCells) 4 (row GD (encCell LEN GD) y5.1.fCurrent.fCells), .bs (LEN ([] : List (List TEdit))) 1 (row GD (encL LEN GD 21 (encEdit)) ([] : List (List TEdit))), .bs (LEN ([] : List (List TEdit))) 1 (row GD (encL LEN GD 21 (encEdit)) ([] : List (List TEdit)))]], o0 := [], r := .c (.v (.bool y18)), o1 := [], fl := true, σ := [], τ := [] }, hf_laws_eqEditor _ _ _ hy19, ⟨les_cons (le_agg ⟨give_osD (rf_oncCell) (ln_oncCell) rfl rfl rfl, (by subst hLEN; exact le_nil_bs), (by subst hLEN; exact le_nil_bs), trivial⟩) (les_cons (le_agg ⟨give_osD (rf_oncCell) (ln_oncCell) rfl rfl rfl, (by subst hLEN; exact le_nil_bs), (by subst hLEN; exact le_nil_bs), trivial⟩) (les_nil)), trivial, rfl, rfl, rfl, rfl, trivial, rfl⟩, ?_⟩
      cbv
      refine fork (fun b20 => ?_) (fun b20 => ?_)
      · replace h := of_br_t b20 h
        cbv
        injection h with h
        subst h
        subst hS16
        show St.le _ _
        exact le_sparse rfl ⟨AV.le_refl _, AV.le_refl _, AV.le_refl _, AV.le_refl _, AV.le_refl _, AV.le_refl _, AV.le_refl _, trivial⟩ ⟨rfl, rfl, rfl, rfl, ⟨fun hw => hw, fun c hc => (by cases hc), .inl rfl, rfl, rfl, fun i hi j hj => rfl⟩, ⟨fun hw => hw, fun c hc => (by cases hc), .inl rfl, rfl, rfl, fun i hi j hj => rfl⟩, ⟨fun hw => hw, fun c hc => (by cases hc), .inl rfl, rfl, rfl, fun i hi j hj => rfl⟩, trivial⟩ rfl
      · replace h := of_br_f b20 h
        cbv
        injection h with h
        subst h
        subst hS16
        show St.le _ _
        exact le_sparse rfl ⟨AV.le_refl _, AV.le_refl _, AV.le_refl _, AV.le_refl _, AV.le_refl _, AV.le_refl _, AV.le_refl _, trivial⟩ ⟨rfl, rfl, rfl, rfl, ⟨fun hw => hw, fun c hc => (by cases hc), .inl rfl, rfl, rfl, fun i hi j hj => rfl⟩, ⟨fun hw => hw, fun c hc => (by cases hc), .inl rfl, rfl, rfl, fun i hi j hj => rfl⟩, ⟨fun hw => hw, fun c hc => (by cases hc), .inl rfl, rfl, rfl, fun i hi j hj => rfl⟩, trivial⟩ rfl
    · clear hy12
      subst hS16
      replace h := of_let h
      obtain ⟨w17, hw17, h⟩ := h
      have hw17 : w17 = y11 := hw17
      subst hw17
      cbv
      refine fork (fun b69 => ?_) (fun b69 => ?_)
      · replace h := of_br_t b69 h
        cbv
        injection h with h
        subst h
        refine ⟨(sparse 96 [(2, .c (.v (.bool false)))] []), ?_, ?_⟩
        · exact le_sparse rfl ⟨AV.le_refl _, trivial⟩ trivial rfl
        · exact ⟨AV.le_refl _, trivial, rfl⟩
      · replace h := of_br_f b69 h
        cbv
        replace h := of_bind h
        obtain ⟨y21, hy22, h⟩ := h
        refine ⟨{ args := [.agg [.bs (LEN a0.fCells) 4 (row GD (encCell LEN GD) a0.fCells)]], o0 := [], r := .agg [.os 64000 0 (LEN y21.fCells)], o1 := [(64000, .arr .rw [] (LEN y21.fCells) 4 (row GD (oncCell LEN GD) y21.fCells))], fl := true, σ := [], τ := [(64000, 2752)] }, hf_laws_toLibrary _ _ hy22, ⟨les_cons (AV.le_refl _) (les_nil), trivial, rfl, rfl, rfl, rfl, ⟨fun h => absurd (show (64000 : Nat) % 2 = 1 from h) (by decide), trivial⟩, rfl⟩, _, rfl, _, _, rfl, fun _ _ _ _ => rfl, ?_⟩
        cbv
        replace h := of_bind h
        obtain ⟨y23, hy24, h⟩ := h
        refine ⟨{ args := [.agg [.bs (LEN y7.fCells) 4 (row GD (encCell LEN GD) y7.fCells)], .agg [.bs (LEN y21.fCells) 4 (row GD (encCell LEN GD) y21.fCells)]], o0 := [], r := .c (.v (.bool y23)), o1 := [], fl := true, σ := [], τ := [] }, hf_laws_eqLibrary _ _ _ hy24, ⟨les_cons (le_agg ⟨give_osD (rf_oncCell) (ln_oncCell) rfl rfl rfl, trivial⟩) (les_cons (le_agg ⟨give_osD (rf_oncCell) (ln_oncCell) rfl rfl rfl, trivial⟩) (les_nil)), trivial, rfl, rfl, rfl, rfl, trivial, rfl⟩, ?_⟩
        cbv
        refine fork (fun b68 => ?_) (fun b68 => ?_)
        · replace h := of_br_t b68 h
          cbv
          injection h with h
          subst h
          refine ⟨(sparse 96 [(2, .c (.v (.bool false)))] []), ?_, ?_⟩
          · exact le_sparse rfl ⟨AV.le_refl _, trivial⟩ trivial rfl
          · exact ⟨AV.le_refl _, trivial, rfl⟩
        · replace h := of_br_f b68 h
          cbv
          replace h := of_bind h
          obtain ⟨y25, hy26, h⟩ := h
          replace h := of_req h
          obtain ⟨c67, h⟩ := h
          refine ⟨{ args := [.agg [.os 5 0 (LEN y7.fCells)], .c (.v (.int .i64 1))], o0 := [(5, .arr .rw [] (LEN y7.fCells) 4 (row GD (oncCell LEN GD) y7.fCells))], r := .c (.v (.int .i64 y25.1)), o1 := [(5, .arr .rw [] (LEN y25.2) 4 (row GD (oncCell LEN GD) y25.2))], fl := true, σ := [(5, 1664)], τ := [(5, 1664)] }, hf_laws_markLibrary_mob _ _ _ hy26, ⟨les_cons (AV.le_refl _) (les_cons (AV.le_refl _) (les_nil)), ⟨⟨fun hw => hw, fun c hc => (by cases hc), .inl rfl, rfl, rfl, fun i hi j hj => rfl⟩, trivial⟩, rfl, rfl, rfl, rfl, ⟨fun _ => ⟨c67.symm, rfl, fun c h => h⟩, trivial⟩, rfl⟩, _, rfl, LEN y7.fCells, _, c67, fun _ _ _ _ => rfl, ?_⟩
          cbv
          replace h := of_bind h
          obtain ⟨y27, hy28, h⟩ := h
          obtain ⟨S31, hS32⟩ : ∃ S, S = (sparse 96 [(1, .c (.ptr 64 0)), (4, .c (.ptr 256 0)), (5, .c (.v (.bool y5.2))), (7, .c (.ptr 448 0)), (61, .c (.v (.bool y27)))] [(64, .var [.bs (LEN a0.fCells) 4 (row GD (encCell LEN GD) a0.fCells)]), (256, .var [.os 1408 0 (LEN y5.1.fCurrent.fCells), .v (.slice none 0 0), .v (.slice none 0 0)]), (448, .var [.os 1856 0 (LEN y9.1.fCurrent.fCells), .v (.slice none 0 0), .v (.slice none 0 0)]), (1408, .arr .rw [] (LEN y5.1.fCurrent.fCells) 4 (row GD (oncCell LEN GD) y5.1.fCurrent.fCells)), (1856, .arr .rw [] (LEN y9.1.fCurrent.fCells) 4 (row GD (oncCell LEN GD) y9.1.fCurrent.fCells))]) := ⟨_, rfl⟩
          refine ⟨S31, ?_, ?_⟩
          · clear h
            have h := hy28
            clear hy28
            cbv
            refine fork (fun b37 => ?_) (fun b37 => ?_)
            · replace h := of_br_t b37 h
              cbv
              injection h with h
              subst h
              subst hS32
              show St.le _ _
              exact le_sparse rfl ⟨AV.le_refl _, AV.le_refl _, AV.le_refl _, AV.le_refl _, AV.le_refl _, trivial⟩ ⟨rfl, rfl, rfl, ⟨fun hw => hw, fun c hc => (by cases hc), .inl rfl, rfl, rfl, fun i hi j hj => rfl⟩, ⟨fun hw => hw, fun c hc => (by cases hc), .inl rfl, rfl, rfl, fun i hi j hj => rfl⟩, trivial⟩ rfl
            · replace h := of_br_f b37 h
              cbv
              replace h := of_bind h
              obtain ⟨y34, hy35, h⟩ := h
              refine ⟨{ args := [.agg [.bs (LEN y9.1.fCurrent.fCells) 4 (row GD (encCell LEN GD) y9.1.fCurrent.fCells), .bs (LEN ([] : List (List TEdit))) 1 (row GD (encL LEN GD 21 (encEdit)) ([] : List (List TEdit))), .bs (LEN ([] : List (List TEdit))) 1 (row GD (encL LEN GD 21 (encEdit)) ([] : List (List TEdit)))], .agg [.bs (LEN y5.1.fCurrent.fCells) 4 (row GD (encCell LEN GD) y5.1.fCurrent.fCells), .bs (LEN ([] : List (List TEdit))) 1 (row GD (encL LEN GD 21 (encEdit)) ([] : List (List TEdit))), .bs (LEN ([] : List (List TEdit))) 1 (row GD (encL LEN GD 21 (encEdit)) ([] : List (List TEdit)))]], o0 := [], r := .c (.v (.bool y34)), o1 := [], fl := true, σ := [], τ := [] }, hf_laws_eqEditor _ _ _ hy35, ⟨les_cons (le_agg ⟨give_osD (rf_oncCell) (ln_oncCell) rfl rfl rfl, (by subst hLEN; exact le_nil_bs), (by subst hLEN; exact le_nil_bs), trivial⟩) (les_cons (le_agg ⟨give_osD (rf_oncCell) (ln_oncCell) rfl rfl rfl, (by subst hLEN; exact le_nil_bs), (by subst hLEN; exact le_nil_bs), trivial⟩) (les_nil)), trivial, rfl, rfl, rfl, rfl, trivial, rfl⟩, ?_⟩
              cbv
              refine fork (fun b36 => ?_) (fun b36 => ?_)
              · replace h := of_br_t b36 h
                cbv
                injection h with h
                subst h
                subst hS32
                show St.le _ _
                exact le_sparse rfl ⟨AV.le_refl _, AV.le_refl _, AV.le_refl _, AV.le_refl _, AV.le_refl _, trivial⟩ ⟨rfl, rfl, rfl, ⟨fun hw => hw, fun c hc => (by cases hc), .inl rfl, rfl, rfl, fun i hi j hj => rfl⟩, ⟨fun hw => hw, fun c hc => (by cases hc), .inl rfl, rfl, rfl, fun i hi j hj => rfl⟩, trivial⟩ rfl
              · replace h := of_br_f b36 h
                cbv
                injection h with h
                subst h
                subst hS32
                show St.le _ _
                exact le_sparse rfl ⟨AV.le_refl _, AV.le_refl _, AV.le_refl _, AV.le_refl _, AV.le_refl _, trivial⟩ ⟨rfl, rfl, rfl, ⟨fun hw => hw, fun c hc => (by cases hc), .inl rfl, rfl, rfl, fun i hi j hj => rfl⟩, ⟨fun hw => hw, fun c hc => (by cases hc), .inl rfl, rfl, rfl, fun i hi j hj => rfl⟩, trivial⟩ rfl
          · clear hy28
            subst hS32
            replace h := of_let h
            obtain ⟨w33, hw33, h⟩ := h
            have hw33 : w33 = y27 := hw33
            subst hw33
            cbv
            refine fork (fun b66 => ?_) (fun b66 => ?_)
            · replace h := of_br_t b66 h
              cbv
              injection h with h
              subst h
              refine ⟨(sparse 96 [(2, .c (.v (.bool false)))] []), ?_, ?_⟩
              · exact le_sparse rfl ⟨AV.le_refl _, trivial⟩ trivial rfl
              · exact ⟨AV.le_refl _, trivial, rfl⟩
            · replace h := of_br_f b66 h
              cbv
              replace h := of_bind h
              obtain ⟨y38, hy39, h⟩ := h
              replace h := of_req h
              obtain ⟨c65, h⟩ := h
              refine ⟨{ args := [.agg [.os 5 0 (LEN y9.1.fCurrent.fCells), .v (.slice none 0 0), .v (.slice none 0 0)], .c (.v (.int .i64 1))], o0 := [(5, .arr .rw [] (LEN y9.1.fCurrent.fCells) 4 (row GD (oncCell LEN GD) y9.1.fCurrent.fCells))], r := .c (.v (.int .i64 y38.1)), o1 := [(5, .arr .rw [] (LEN y38.2) 4 (row GD (oncCell LEN GD) y38.2))], fl := true, σ := [(5, 1856)], τ := [(5, 1856)] }, hf_laws_markEditor_monnb _ _ _ hy39, ⟨les_cons (AV.le_refl _) (les_cons (AV.le_refl _) (les_nil)), ⟨⟨fun hw => hw, fun c hc => (by cases hc), .inl rfl, rfl, rfl, fun i hi j hj => rfl⟩, trivial⟩, rfl, rfl, rfl, rfl, ⟨fun _ => ⟨c65.symm, rfl, fun c h => h⟩, trivial⟩, rfl⟩, _, rfl, LEN y9.1.fCurrent.fCells, _, c65, fun _ _ _ _ => rfl, ?_⟩
              cbv
              replace h := of_bind h
              obtain ⟨y40, hy41, h⟩ := h
              replace h := of_req h
              obtain ⟨c64, h⟩ := h
              refine ⟨{ args := [.agg [.bs (LEN y38.2) 4 (row GD (encCell LEN GD) y38.2), .bs (LEN ([] : List (List TEdit))) 1 (row GD (encL LEN GD 21 (encEdit)) ([] : List (List TEdit))), .bs (LEN ([] : List (List TEdit))) 1 (row GD (encL LEN GD 21 (encEdit)) ([] : List (List TEdit)))], .c (.v (.int .i64 1))], o0 := [], r := .c (.v (.int .i64 y40)), o1 := [], fl := true, σ := [], τ := [] }, hf_laws_heldEditor _ _ _ hy41, ⟨les_cons (le_agg ⟨give_osD (rf_oncCell) (ln_oncCell) rfl rfl c64, (by subst hLEN; exact le_nil_bs), (by subst hLEN; exact le_nil_bs), trivial⟩) (les_cons (AV.le_refl _) (les_nil)), trivial, rfl, rfl, rfl, rfl, trivial, rfl⟩, ?_⟩
              cbv
              refine fork (fun b63 => ?_) (fun b63 => ?_)
              · replace h := of_br_t b63 h
                cbv
                injection h with h
                subst h
                refine ⟨(sparse 96 [(2, .c (.v (.bool false)))] []), ?_, ?_⟩
                · exact le_sparse rfl ⟨AV.le_refl _, trivial⟩ trivial rfl
                · exact ⟨AV.le_refl _, trivial, rfl⟩
              · replace h := of_br_f b63 h
                cbv
                refine fork (fun b62 => ?_) (fun b62 => ?_)
                · replace h := of_br_t b62 h
                  cbv
                  injection h with h
                  subst h
                  refine ⟨(sparse 96 [(2, .c (.v (.bool false)))] []), ?_, ?_⟩
                  · exact le_sparse rfl ⟨AV.le_refl _, trivial⟩ trivial rfl
                  · exact ⟨AV.le_refl _, trivial, rfl⟩
                · replace h := of_br_f b62 h
                  cbv
                  replace h := of_bind h
                  obtain ⟨y42, hy43, h⟩ := h
                  refine ⟨{ args := [.agg [.bs (LEN a0.fCells) 4 (row GD (encCell LEN GD) a0.fCells)]], o0 := [], r := .agg [.os 64000 0 (LEN y42.fCells)], o1 := [(64000, .arr .rw [] (LEN y42.fCells) 4 (row GD (oncCell LEN GD) y42.fCells))], fl := true, σ := [], τ := [(64000, 4800)] }, hf_laws_toLibrary _ _ hy43, ⟨les_cons (AV.le_refl _) (les_nil), trivial, rfl, rfl, rfl, rfl, ⟨fun h => absurd (show (64000 : Nat) % 2 = 1 from h) (by decide), trivial⟩, rfl⟩, _, rfl, _, _, rfl, fun _ _ _ _ => rfl, ?_⟩
                  cbv
                  replace h := of_bind h
                  obtain ⟨y44, hy45, h⟩ := h
                  refine ⟨{ args := [.agg [.bs (LEN y42.fCells) 4 (row GD (encCell LEN GD) y42.fCells)]], o0 := [], r := .tup [.agg [.os 64000 0 (LEN y44.1.fCurrent.fCells), .v (.slice none 0 0), .v (.slice none 0 0)], .c (.v (.bool y44.2))], o1 := [(64000, .arr .rw [] (LEN y44.1.fCurrent.fCells) 4 (row GD (oncCell LEN GD) y44.1.fCurrent.fCells))], fl := true, σ := [], τ := [(64000, 4864)] }, hf_impl_NewEditor _ _ hy45, ⟨les_cons (le_agg ⟨give_osD (rf_oncCell) (ln_oncCell) rfl rfl rfl, trivial⟩) (les_nil), trivial, rfl, rfl, rfl, rfl, ⟨fun h => absurd (show (64000 : Nat) % 2 = 1 from h) (by decide), trivial⟩, rfl⟩, _, rfl, _, _, rfl, fun _ _ _ _ => rfl, ?_⟩
                  cbv
                  replace h := of_bind h
                  obtain ⟨y46, hy47, h⟩ := h
                  obtain ⟨S50, hS51⟩ : ∃ S, S = (sparse 96 [(7, .c (.ptr 448 0)), (10, .c (.v (.int .i64 y38.1))), (87, .c (.v (.bool y46)))] [(448, .var [.os 1856 0 (LEN y9.1.fCurrent.fCells), .v (.slice none 0 0), .v (.slice none 0 0)]), (1856, .arr .rw [] (LEN y9.1.fCurrent.fCells) 4 (row GD (oncCell LEN GD) y38.2))]) := ⟨_, rfl⟩
                  refine ⟨S50, ?_, ?_⟩
                  · clear h
                    have h := hy47
                    clear hy47
                    cbv
                    replace h := of_bind h
                    obtain ⟨y53, hy54, h⟩ := h
                    refine ⟨{ args := [.agg [.bs (LEN y44.1.fCurrent.fCells) 4 (row GD (encCell LEN GD) y44.1.fCurrent.fCells), .bs (LEN ([] : List (List TEdit))) 1 (row GD (encL LEN GD 21 (encEdit)) ([] : List (List TEdit))), .bs (LEN ([] : List (List TEdit))) 1 (row GD (encL LEN GD 21 (encEdit)) ([] : List (List TEdit)))], .agg [.bs (LEN y5.1.fCurrent.fCells) 4 (row GD (encCell LEN GD) y5.1.fCurrent.fCells), .bs (LEN ([] : List (List TEdit))) 1 (row GD (encL LEN GD 21 (encEdit)) ([] : List (List TEdit))), .bs (LEN ([] : List (List TEdit))) 1 (row GD (encL LEN GD 21 (encEdit)) ([] : List (List TEdit)))]], o0 := [], r := .c (.v (.bool y53)), o1 := [], fl := true, σ := [], τ := [] }, hf_laws_eqEditor _ _ _ hy54, ⟨les_cons (le_agg ⟨give_osD (rf_oncCell) (ln_oncCell) rfl rfl rfl, (by subst hLEN; exact le_nil_bs), (by subst hLEN; exact le_nil_bs), trivial⟩) (les_cons (le_agg ⟨give_osD (rf_oncCell) (ln_oncCell) rfl rfl rfl, (by subst hLEN; exact le_nil_bs), (by subst hLEN; exact le_nil_bs), trivial⟩) (les_nil)), trivial, rfl, rfl, rfl, rfl, trivial, rfl⟩, ?_⟩
                    cbv
                    refine fork (fun b55 => ?_) (fun b55 => ?_)
                    · replace h := of_br_t b55 h
                      cbv
                      injection h with h
                      subst h
                      subst hS51
                      show St.le _ _
                      exact le_sparse rfl ⟨AV.le_refl _, AV.le_refl _, AV.le_refl _, trivial⟩ ⟨rfl, ⟨fun hw => hw, fun c hc => (by cases hc), .inl rfl, rfl, rfl, fun i hi j hj => rfl⟩, trivial⟩ rfl
                    · replace h := of_br_f b55 h
                      cbv
                      injection h with h
                      subst h
                      subst hS51
                      show St.le _ _
                      exact le_sparse rfl ⟨AV.le_refl _, AV.le_refl _, AV.le_refl _, trivial⟩ ⟨rfl, ⟨fun hw => hw, fun c hc => (by cases hc), .inl rfl, rfl, rfl, fun i hi j hj => rfl⟩, trivial⟩ rfl
                  · clear hy47
                    subst hS51
                    replace h := of_let h
                    obtain ⟨w52, hw52, h⟩ := h
                    have hw52 : w52 = y46 := hw52
                    subst hw52
                    cbv
                    refine fork (fun b61 => ?_) (fun b61 => ?_)
                    · replace h := of_br_t b61 h
                      cbv
                      injection h with h
                      subst h
                      refine ⟨(sparse 96 [(2, .c (.v (.bool false)))] []), ?_, ?_⟩
                      · exact le_sparse rfl ⟨AV.le_refl _, trivial⟩ trivial rfl
                      · exact ⟨AV.le_refl _, trivial, rfl⟩
                    · replace h := of_br_f b61 h
                      cbv
                      replace h := of_bind h
                      obtain ⟨y56, hy57, h⟩ := h
                      replace h := of_req h
                      obtain ⟨c60, h⟩ := h
                      refine ⟨{ args := [.agg [.bs (LEN y38.2) 4 (row GD (encCell LEN GD) y38.2), .bs (LEN ([] : List (List TEdit))) 1 (row GD (encL LEN GD 21 (encEdit)) ([] : List (List TEdit))), .bs (LEN ([] : List (List TEdit))) 1 (row GD (encL LEN GD 21 (encEdit)) ([] : List (List TEdit)))], .c (.v (.int .i64 1))], o0 := [], r := .c (.v (.int .i64 y56)), o1 := [], fl := true, σ := [], τ := [] }, hf_laws_heldEditor _ _ _ hy57, ⟨les_cons (le_agg ⟨give_osD (rf_oncCell) (ln_oncCell) rfl rfl c60, (by subst hLEN; exact le_nil_bs), (by subst hLEN; exact le_nil_bs), trivial⟩) (les_cons (AV.le_refl _) (les_nil)), trivial, rfl, rfl, rfl, rfl, trivial, rfl⟩, ?_⟩
                      cbv
                      refine fork (fun b59 => ?_) (fun b59 => ?_)
                      · replace h := of_br_t b59 h
                        cbv
                        injection h with h
                        subst h
                        refine ⟨(sparse 96 [(2, .c (.v (.bool false)))] []), ?_, ?_⟩
                        · exact le_sparse rfl ⟨AV.le_refl _, trivial⟩ trivial rfl
                        · exact ⟨AV.le_refl _, trivial, rfl⟩
                      · replace h := of_br_f b59 h
                        cbv
                        refine fork (fun b58 => ?_) (fun b58 => ?_)
                        · replace h := of_br_t b58 h
                          cbv
                          injection h with h
                          subst h
                          refine ⟨(sparse 96 [(2, .c (.v (.bool false)))] []), ?_, ?_⟩
                          · exact le_sparse rfl ⟨AV.le_refl _, trivial⟩ trivial rfl
                          · exact ⟨AV.le_refl _, trivial, rfl⟩
                        · replace h := of_br_f b58 h
                          cbv
                          injection h with h
                          subst h
                          refine ⟨(sparse 96 [(2, .c (.v (.bool true)))] []), ?_, ?_⟩
                          · exact le_sparse rfl ⟨AV.le_refl _, trivial⟩ trivial rfl
                          · exact ⟨AV.le_refl _, trivial, rfl⟩
theorem op_9 (d : Nat) : Opens T (d + 1) 9 (clS) (wfS) := op_str (show T 9 = some d9 from rfl) rfl
theorem op_2 (d : Nat) : Opens T (d + 1) 2 (clI .i64) (wfI .i64) := op_int .i64 (show T 2 = some d2 from rfl) rfl
def clRect (e : TRect) : List AC := clI .i64 e.fX0 ++ (clI .i64 e.fY0 ++ (clI .i64 e.fX1 ++ (clI .i64 e.fY1 ++ ([]))))
def wfRect (e : TRect) : Prop := wfI .i64 e.fX0 ∧ wfI .i64 e.fY0 ∧ wfI .i64 e.fX1 ∧ wfI .i64 e.fY1
theorem op_46 (d : Nat) : Opens T (d + 2) 46 (clRect) (wfRect) := by
  intro cs hs
  obtain ⟨a0, b0, rfl, h0, a1, b1, rfl, h1, a2, b2, rfl, h2, a3, b3, rfl, h3, rfl⟩ := hs
  obtain ⟨e0, w0, r0⟩ := op_2 (d + 0) a0 h0
  obtain ⟨e1, w1, r1⟩ := op_2 (d + 0) a1 h1
  obtain ⟨e2, w2, r2⟩ := op_2 (d + 0) a2 h2
  obtain ⟨e3, w3, r3⟩ := op_2 (d + 0) a3 h3
  exact ⟨TRect.mk e0 e1 e2 e3, ⟨w0, w1, w2, w3⟩, rlist_app r0 (rlist_app r1 (rlist_app r2 (rlist_app r3 (trivial))))⟩
def clShape (e : TShape) : List AC := clI .i64 e.fLayer ++ (clRect e.fBox ++ ([]))
def wfShape (e : TShape) : Prop := wfI .i64 e.fLayer ∧ wfRect e.fBox
theorem op_55 (d : Nat) : Opens T (d + 3) 55 (clShape) (wfShape) := by
  intro cs hs
  obtain ⟨a0, b0, rfl, h0, a1, b1, rfl, h1, rfl⟩ := hs
  obtain ⟨e0, w0, r0⟩ := op_2 (d + 1) a0 h0
  obtain ⟨e1, w1, r1⟩ := op_46 (d + 0) a1 h1
  exact ⟨TShape.mk e0 e1, ⟨w0, w1⟩, rlist_app r0 (rlist_app r1 (trivial))⟩
theorem op_138 (d : Nat) : Opens T (d + 4) 138 (clL 5 (encShape)) (wfL wfShape) := op_slice (e := 55) (sz := 5) (show T 138 = some d138 from rfl) rfl (show T 55 = some d55 from rfl) rfl (fun x j hj => by match j, hj with | 0, _ => rfl | 1, _ => rfl | 2, _ => rfl | 3, _ => rfl | 4, _ => rfl | (j_ + 5), h_ => exact absurd h_ (by omega)) (op_55 d)
def clPoint (e : TPoint) : List AC := clI .i64 e.fX ++ (clI .i64 e.fY ++ ([]))
def wfPoint (e : TPoint) : Prop := wfI .i64 e.fX ∧ wfI .i64 e.fY
theorem op_57 (d : Nat) : Opens T (d + 2) 57 (clPoint) (wfPoint) := by
  intro cs hs
  obtain ⟨a0, b0, rfl, h0, a1, b1, rfl, h1, rfl⟩ := hs
  obtain ⟨e0, w0, r0⟩ := op_2 (d + 0) a0 h0
  obtain ⟨e1, w1, r1⟩ := op_2 (d + 0) a1 h1
  exact ⟨TPoint.mk e0 e1, ⟨w0, w1⟩, rlist_app r0 (rlist_app r1 (trivial))⟩
def clLabel (e : TLabel) : List AC := clI .i64 e.fLayer ++ (clPoint e.fAt ++ (clS e.fName ++ ([])))
def wfLabel (e : TLabel) : Prop := wfI .i64 e.fLayer ∧ wfPoint e.fAt ∧ wfS e.fName
theorem op_59 (d : Nat) : Opens T (d + 3) 59 (clLabel) (wfLabel) := by
  intro cs hs
  obtain ⟨a0, b0, rfl, h0, a1, b1, rfl, h1, a2, b2, rfl, h2, rfl⟩ := hs
  obtain ⟨e0, w0, r0⟩ := op_2 (d + 1) a0 h0
  obtain ⟨e1, w1, r1⟩ := op_57 (d + 0) a1 h1
  obtain ⟨e2, w2, r2⟩ := op_9 (d + 1) a2 h2
  exact ⟨TLabel.mk e0 e1 e2, ⟨w0, w1, w2⟩, rlist_app r0 (rlist_app r1 (rlist_app r2 (trivial)))⟩
theorem op_139 (d : Nat) : Opens T (d + 4) 139 (clL 4 (encLabel)) (wfL wfLabel) := op_slice (e := 59) (sz := 4) (show T 139 = some d139 from rfl) rfl (show T 59 = some d59 from rfl) rfl (fun x j hj => by match j, hj with | 0, _ => rfl | 1, _ => rfl | 2, _ => rfl | 3, _ => rfl | (j_ + 4), h_ => exact absurd h_ (by omega)) (op_59 d)
def clTransform (e : TTransform) : List AC := clI .i64 e.fOrientation ++ (clI .i64 e.fX ++ (clI .i64 e.fY ++ ([])))
def wfTransform (e : TTransform) : Prop := wfI .i64 e.fOrientation ∧ wfI .i64 e.fX ∧ wfI .i64 e.fY
theorem op_61 (d : Nat) : Opens T (d + 2) 61 (clTransform) (wfTransform) := by
  intro cs hs
  obtain ⟨a0, b0, rfl, h0, a1, b1, rfl, h1, a2, b2, rfl, h2, rfl⟩ := hs
  obtain ⟨e0, w0, r0⟩ := op_2 (d + 0) a0 h0
  obtain ⟨e1, w1, r1⟩ := op_2 (d + 0) a1 h1
  obtain ⟨e2, w2, r2⟩ := op_2 (d + 0) a2 h2
  exact ⟨TTransform.mk e0 e1 e2, ⟨w0, w1, w2⟩, rlist_app r0 (rlist_app r1 (rlist_app r2 (trivial)))⟩
def clInstance (e : TInstance) : List AC := clI .i64 e.fCell ++ (clTransform e.fPlace ++ (clI .i64 e.fColumns ++ (clI .i64 e.fRows ++ (clI .i64 e.fStepX ++ (clI .i64 e.fStepY ++ ([]))))))
def wfInstance (e : TInstance) : Prop := wfI .i64 e.fCell ∧ wfTransform e.fPlace ∧ wfI .i64 e.fColumns ∧ wfI .i64 e.fRows ∧ wfI .i64 e.fStepX ∧ wfI .i64 e.fStepY
theorem op_63 (d : Nat) : Opens T (d + 3) 63 (clInstance) (wfInstance) := by
  intro cs hs
  obtain ⟨a0, b0, rfl, h0, a1, b1, rfl, h1, a2, b2, rfl, h2, a3, b3, rfl, h3, a4, b4, rfl, h4, a5, b5, rfl, h5, rfl⟩ := hs
  obtain ⟨e0, w0, r0⟩ := op_2 (d + 1) a0 h0
  obtain ⟨e1, w1, r1⟩ := op_61 (d + 0) a1 h1
  obtain ⟨e2, w2, r2⟩ := op_2 (d + 1) a2 h2
  obtain ⟨e3, w3, r3⟩ := op_2 (d + 1) a3 h3
  obtain ⟨e4, w4, r4⟩ := op_2 (d + 1) a4 h4
  obtain ⟨e5, w5, r5⟩ := op_2 (d + 1) a5 h5
  exact ⟨TInstance.mk e0 e1 e2 e3 e4 e5, ⟨w0, w1, w2, w3, w4, w5⟩, rlist_app r0 (rlist_app r1 (rlist_app r2 (rlist_app r3 (rlist_app r4 (rlist_app r5 (trivial))))))⟩
theorem op_140 (d : Nat) : Opens T (d + 4) 140 (clL 8 (encInstance)) (wfL wfInstance) := op_slice (e := 63) (sz := 8) (show T 140 = some d140 from rfl) rfl (show T 63 = some d63 from rfl) rfl (fun x j hj => by match j, hj with | 0, _ => rfl | 1, _ => rfl | 2, _ => rfl | 3, _ => rfl | 4, _ => rfl | 5, _ => rfl | 6, _ => rfl | 7, _ => rfl | (j_ + 8), h_ => exact absurd h_ (by omega)) (op_63 d)
def clCell (e : TCell) : List AC := clS e.fName ++ (clL 5 (encShape) e.fShapes ++ (clL 4 (encLabel) e.fLabels ++ (clL 8 (encInstance) e.fInstances ++ ([]))))
def wfCell (e : TCell) : Prop := wfS e.fName ∧ wfL wfShape e.fShapes ∧ wfL wfLabel e.fLabels ∧ wfL wfInstance e.fInstances
theorem op_142 (d : Nat) : Opens T (d + 5) 142 (clCell) (wfCell) := by
  intro cs hs
  obtain ⟨a0, b0, rfl, h0, a1, b1, rfl, h1, a2, b2, rfl, h2, a3, b3, rfl, h3, rfl⟩ := hs
  obtain ⟨e0, w0, r0⟩ := op_9 (d + 3) a0 h0
  obtain ⟨e1, w1, r1⟩ := op_138 (d + 0) a1 h1
  obtain ⟨e2, w2, r2⟩ := op_139 (d + 0) a2 h2
  obtain ⟨e3, w3, r3⟩ := op_140 (d + 0) a3 h3
  exact ⟨TCell.mk e0 e1 e2 e3, ⟨w0, w1, w2, w3⟩, rlist_app r0 (rlist_app r1 (rlist_app r2 (rlist_app r3 (trivial))))⟩
theorem op_34 (d : Nat) : Opens T (d + 6) 34 (clL 4 (encCell len gd)) (wfL wfCell) := op_slice (e := 142) (sz := 4) (show T 34 = some d34 from rfl) rfl (show T 142 = some d142 from rfl) rfl (fun x j hj => by match j, hj with | 0, _ => rfl | 1, _ => rfl | 2, _ => rfl | 3, _ => rfl | (j_ + 4), h_ => exact absurd h_ (by omega)) (op_142 d)
def clLibrary (e : TLibrary) : List AC := clL 4 (encCell len gd) e.fCells ++ ([])
def wfLibrary (e : TLibrary) : Prop := wfL wfCell e.fCells
theorem op_36 (d : Nat) : Opens T (d + 7) 36 (clLibrary) (wfLibrary) := by
  intro cs hs
  obtain ⟨a0, b0, rfl, h0, rfl⟩ := hs
  obtain ⟨e0, w0, r0⟩ := op_34 (d + 0) a0 h0
  exact ⟨TLibrary.mk e0, w0, rlist_app r0 (trivial)⟩
theorem open_36 {H : Type} {enc : TypeId × Value → H} {W : World} {spare : Nat → Bool} {held : Bool} {r : Reach} {base : Nat} {v : Value} {x : DataW H} {ps : List MemPlace}
    (hv : Value.okWide Try.prog W r base 36 v) (h : DataW.Trod enc Try.prog W 0 spare held 36 v x ps) : ∃ e : TLibrary, wfLibrary e ∧ RelV (RelI (fun b => b < W.heap.size) W) (.agg [.bs (len e.fCells) 4 (row gd (encCell len gd) e.fCells)]) v :=
  opened_agg tok (op_36 0) (by kernel_rfl) (tok 36 d36 rfl).1 hv h
end Go.Proofs.Ytmdlnjeppemipaa.AM
