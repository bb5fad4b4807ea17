/-
  What the functions that the law reaches compute, and that they do. No condition.
-/
import Derived.Test.YtmdlnjeppemipaaGreatAmPY
import Derived.Test.YtmdlnjeppemipaaGreatAmE
namespace Go.Proofs.YtmdlnjeppemipaaGreat.AM
open Go Go.Proofs Go.RowKit
set_option linter.unusedVariables false
set_option linter.unusedSimpArgs false
set_option maxRecDepth 100000

/-- laws.eqLibrary -/
noncomputable def F_laws_eqLibrary (a0 : TLibrary) (a1 : TLibrary) : Option (Bool) :=
 (F_laws_eqCellS a0.fCells a1.fCells).bind fun y1 =>
 br (!(y1))
 (some false)
 (some true)
theorem run_laws_eqLibrary (a0 : TLibrary) (a1 : TLibrary) (r : Bool) (h : F_laws_eqLibrary a0 a1 = some r) : Fun Tryz.prog 12 [.agg [.bs (len a0.fCells) 4 (row gd (encCell len gd) a0.fCells)], .agg [.bs (len a1.fCells) 4 (row gd (encCell len gd) a1.fCells)]] [] (.c (.v (.bool r))) [] true := by
 refine Fun.of_wp (oneOf []) tok mixed Tryz.func12 (by kernel_rfl) rfl Tryz.ntmps12 rfl trivial (fun _ => ⟨trivial, trivial⟩) ?_
 unfold F_laws_eqLibrary at h
 have hf_laws_eqCellS := @run_laws_eqCellS
 generalize hLEN : @len = LEN at *
 generalize hGD : @gd = GD at *
 generalize hA : std = A at *
 generalize hP : Tryz.prog = P at *
 cbv
 replace h := of_bind h
 obtain ⟨y1, hy2, h⟩ := h
 refine ⟨{ args := [.c (.bs (LEN a0.fCells) 4 (row GD (encCell LEN GD) a0.fCells)), .c (.bs (LEN a1.fCells) 4 (row GD (encCell LEN GD) a1.fCells))], o0 := [], r := .c (.v (.bool y1)), o1 := [], fl := true, σ := [], τ := [] }, hf_laws_eqCellS _ _ _ hy2, ⟨les_cons (lR _) (les_cons (lR _) (les_nil)), trivial, rfl, rfl, rfl, rfl, trivial, rfl⟩, ?_⟩
 cbv
 refine fork (fun b3 => ?_) (fun b3 => ?_)
 ·replace h := of_br_t b3 h
  cbv
  injection h with h
  subst h
  refine ⟨(sparse 11 [(4, .c (.v (.bool false)))] []), ?_, ?_⟩
  ·exact le_sparse rfl ⟨lR _, trivial⟩ trivial rfl
  ·exact ⟨lR _, trivial, rfl⟩
 ·replace h := of_br_f b3 h
  cbv
  injection h with h
  subst h
  refine ⟨(sparse 11 [(4, .c (.v (.bool true)))] []), ?_, ?_⟩
  ·exact le_sparse rfl ⟨lR _, trivial⟩ trivial rfl
  ·exact ⟨lR _, trivial, rfl⟩

noncomputable def L_laws_markText_x3  : (Int × ByteArray) → Option ((Int × ByteArray) ⊕ ((ByteArray))) := fun x3 =>
 letO x3.1 fun v1 =>
 letO x3.2 fun v2 =>
 br (std.lt 0 v1)
 (req (std.nz 10) <|
 letO ([std.conv .u8 (std.add .i64 48 (std.rem v1 10))] : List Int) fun l16 =>
 req (std.room (std.nadd (std.slen (std.ofBytes (len l16) (fun i => gd l16 (0 + i)))) (std.slen v2)) 1) <|
 req (std.nz 10) <|
 some (.inl (std.quo .i64 v1 10, std.scat (std.ofBytes (len l16) (fun i => gd l16 (0 + i))) v2)))
 (some (.inr v2))
/-- laws.markText -/
noncomputable def F_laws_markText (a0 : Int) : Option (ByteArray) :=
 br (std.le a0 0)
 (some (ByteArray.mk #[109, 48]))
 ((whileP (σ := Int × ByteArray) (ρ := (ByteArray)) L_laws_markText_x3 (a0, (ByteArray.mk #[]))).bind fun y4 =>
 letO y4 fun y4k0 =>
 letO y4k0 fun w21 =>
 req (std.room (std.nadd (std.slen (ByteArray.mk #[109])) (std.slen w21)) 1) <|
 some (std.scat (ByteArray.mk #[109]) w21))
theorem run_laws_markText (a0 : Int) (r : ByteArray) (h : F_laws_markText a0 = some r) : Fun Tryz.prog 41 [.c (.v (.int .i64 a0))] [] (.c (.v (.string r))) [] true := by
 refine Fun.of_wp (oneOf []) tok mixed Tryz.func41 (by kernel_rfl) rfl Tryz.ntmps41 rfl trivial (fun _ => ⟨trivial, trivial⟩) ?_
 unfold F_laws_markText at h
 unfold L_laws_markText_x3 at h
 generalize hLEN : @len = LEN at *
 generalize hGD : @gd = GD at *
 generalize hA : std = A at *
 generalize hP : Tryz.prog = P at *
 cbv
 refine fork (fun b23 => ?_) (fun b23 => ?_)
 ·replace h := of_br_t b23 h
  cbv
  injection h with h
  subst h
  refine ⟨(sparse 20 [(2, .c (.v (.string (ByteArray.mk #[109, 48]))))] []), ?_, ?_⟩
  ·exact le_sparse rfl ⟨lR _, trivial⟩ trivial rfl
  ·exact ⟨lR _, trivial, rfl⟩
 ·replace h := of_br_f b23 h
  cbv
  replace h := of_bind h
  obtain ⟨y4, hr5, hN6⟩ := h
  refine loop_cut hr5 (fun x => (sparse 20 [(0, .c (.v (.int .i64 x.1))), (3, .c (.v (.string x.2)))] [])) ?_ (fun y e s => (fun (w : ByteArray) => e = .exit 0 ∧ s.le (sparse 20 [(3, .c (.v (.string w)))] [])) y) ?_ ?_
  ·clear hr5 hN6
   show St.le _ _
   exact le_sparse rfl ⟨lR _, lR _, trivial⟩ trivial rfl
  ·clear hr5 hN6
   intro x z10 h K8 hK9 hY7
   obtain ⟨x0_, x1_⟩ := x
   replace h := of_let h
   obtain ⟨v1, hv1, h⟩ := h
   have hv1 : v1 = x0_ := hv1
   subst hv1
   replace h := of_let h
   obtain ⟨v2, hv2, h⟩ := h
   have hv2 : v2 = x1_ := hv2
   subst hv2
   cbv
   refine fork (fun b20 => ?_) (fun b20 => ?_)
   ·replace h := of_br_t b20 h
    cbv
    replace h := of_req h
    obtain ⟨c15, h⟩ := h
    refine ⟨c15, ?_⟩
    replace h := of_let h
    obtain ⟨l16, hl16, h⟩ := h
    have e17 : 1 = LEN l16 := by subst hl16 hLEN; rfl
    refine ⟨_, congrArg (fun n => AV.c (AC.os 768 0 n)) e17, _, row GD (encI .u8) l16, e17, ?_, ?_⟩
    ·intro i hi j hj
     rw [← e17] at hi
     subst hl16
     subst hGD
     obtain rfl : i = 0 := (by omega)
     all_goals obtain rfl : j = 0 := by omega
     all_goals rfl
    cbv
    refine ⟨fun _ _ => rfl, ?_⟩
    replace h := of_req h
    obtain ⟨c18, h⟩ := h
    refine ⟨c18, ?_⟩
    replace h := of_req h
    obtain ⟨c19, h⟩ := h
    refine ⟨c19, ?_⟩
    injection h with h
    refine hK9 _ h.symm _ ?_
    exact le_sparse rfl ⟨lR _, lR _, trivial⟩ trivial rfl
   ·replace h := of_br_f b20 h
    cbv
    injection h with h
    refine hY7 _ h.symm _ _ (And.intro rfl ?_) (by intro hh; cases hh)
    exact le_sparse rfl ⟨lR _, trivial⟩ trivial rfl
  ·clear hr5
   have h := hN6
   clear hN6
   intro e13 s14 q12 hne
   replace h := of_let h
   obtain ⟨y4k0, hyk, h⟩ := h
   have hyk : y4k0 = y4 := hyk
   subst hyk
   obtain ⟨rfl, q12⟩ := q12
   replace h := of_let h
   obtain ⟨w21, hw21, h⟩ := h
   have hw21 : w21 = y4k0 := hw21
   subst hw21
   cbv
   refine ⟨_, q12, ?_⟩
   cbv
   replace h := of_req h
   obtain ⟨c22, h⟩ := h
   refine ⟨c22, ?_⟩
   injection h with h
   subst h
   refine ⟨(sparse 20 [(2, .c (.v (.string (A.scat (ByteArray.mk #[109]) w21))))] []), ?_, ?_⟩
   ·exact le_sparse rfl ⟨lR _, trivial⟩ trivial rfl
   ·exact ⟨lR _, trivial, rfl⟩

noncomputable def L_laws_markShapeS_mob_x4 (a0 : List TShape) : (Int × Int × (List TShape)) → Option ((Int × Int × (List TShape)) ⊕ ((Int × (List TShape)))) := fun x4 =>
 letO x4.1 fun v1 =>
 letO x4.2.1 fun v2 =>
 letO x4.2.2 fun v3 =>
 br (std.lt v2 (std.ofN (len a0)))
 (req (std.inR v2 (len a0)) <|
 req (len a0 = len v3) <|
 letO (List.set v3 (std.nadd 0 (std.toN v2)) (TShape.mk v1 (gd v3 (std.nadd 0 (std.toN v2))).fBox)) fun l17 =>
 req (std.inR v2 (len a0)) <|
 req (len a0 = len l17) <|
 letO (List.set l17 (std.nadd 0 (std.toN v2)) (TShape.mk (gd l17 (std.nadd 0 (std.toN v2))).fLayer (TRect.mk (std.add .i64 v1 1) (gd l17 (std.nadd 0 (std.toN v2))).fBox.fY0 (gd l17 (std.nadd 0 (std.toN v2))).fBox.fX1 (gd l17 (std.nadd 0 (std.toN v2))).fBox.fY1))) fun l19 =>
 req (std.inR v2 (len a0)) <|
 req (len a0 = len l19) <|
 letO (List.set l19 (std.nadd 0 (std.toN v2)) (TShape.mk (gd l19 (std.nadd 0 (std.toN v2))).fLayer (TRect.mk (gd l19 (std.nadd 0 (std.toN v2))).fBox.fX0 (std.add .i64 (std.add .i64 v1 1) 1) (gd l19 (std.nadd 0 (std.toN v2))).fBox.fX1 (gd l19 (std.nadd 0 (std.toN v2))).fBox.fY1))) fun l21 =>
 req (std.inR v2 (len a0)) <|
 req (len a0 = len l21) <|
 letO (List.set l21 (std.nadd 0 (std.toN v2)) (TShape.mk (gd l21 (std.nadd 0 (std.toN v2))).fLayer (TRect.mk (gd l21 (std.nadd 0 (std.toN v2))).fBox.fX0 (gd l21 (std.nadd 0 (std.toN v2))).fBox.fY0 (std.add .i64 (std.add .i64 (std.add .i64 v1 1) 1) 1) (gd l21 (std.nadd 0 (std.toN v2))).fBox.fY1))) fun l23 =>
 req (std.inR v2 (len a0)) <|
 req (len a0 = len l23) <|
 letO (List.set l23 (std.nadd 0 (std.toN v2)) (TShape.mk (gd l23 (std.nadd 0 (std.toN v2))).fLayer (TRect.mk (gd l23 (std.nadd 0 (std.toN v2))).fBox.fX0 (gd l23 (std.nadd 0 (std.toN v2))).fBox.fY0 (gd l23 (std.nadd 0 (std.toN v2))).fBox.fX1 (std.add .i64 (std.add .i64 (std.add .i64 (std.add .i64 v1 1) 1) 1) 1)))) fun l25 =>
 some (.inl (std.add .i64 (std.add .i64 (std.add .i64 (std.add .i64 (std.add .i64 v1 1) 1) 1) 1) 1, std.add .i64 v2 1, l25)))
 (some (.inr (v1, v3)))
/-- laws.markShapeS -/
noncomputable def F_laws_markShapeS_mob (a0 : List TShape) (a1 : Int) : Option (Int × (List TShape)) :=
 (whileP (σ := Int × Int × (List TShape)) (ρ := (Int × (List TShape))) (L_laws_markShapeS_mob_x4 a0) (a1, 0, a0)).bind fun y5 =>
 letO y5 fun y5k0 =>
 letO y5k0.1 fun w32 =>
 letO y5k0.2 fun w33 =>
 req (len a0 = len w33) <|
 some (w32, w33)
theorem run_laws_markShapeS_mob (a0 : List TShape) (a1 : Int) (r : Int × (List TShape)) (h : F_laws_markShapeS_mob a0 a1 = some r) : Fun Tryz.prog 67 [.c (.os 5 0 (len a0)), .c (.v (.int .i64 a1))] [(5, .arr .rw [] (len a0) 5 (row gd (encShape) a0))] (.c (.v (.int .i64 r.1))) [(5, .arr .rw [] (len r.2) 5 (row gd (encShape) r.2))] true := by
 refine Fun.of_wp (oneOf []) tok mixed Tryz.func67 (by kernel_rfl) rfl Tryz.ntmps67 rfl ⟨fun i _ j _ k hk => (noref (plain_nil (pl_encShape _ _)) hk).elim, trivial⟩ (fun _ => ⟨trivial, ⟨fun i _ j _ => val_flat (vl_encShape _ _), trivial⟩⟩) ?_
 unfold F_laws_markShapeS_mob at h
 unfold L_laws_markShapeS_mob_x4 at h
 generalize hLEN : @len = LEN at *
 generalize hGD : @gd = GD at *
 generalize hA : std = A at *
 generalize hP : Tryz.prog = P at *
 cbv
 replace h := of_bind h
 obtain ⟨y5, hr6, hN7⟩ := h
 refine loop_cut hr6 (fun x => (sparse 52 [(0, .c (.os 5 0 (LEN a0))), (1, .c (.v (.int .i64 x.1))), (5, .c (.v (.int .i64 x.2.1)))] [(5, .arr .rw [] (LEN a0) 5 (row GD (encShape) x.2.2))])) ?_ (fun y e s => (fun (w : Int × (List TShape)) => e = .exit 0 ∧ s.le (sparse 52 [(1, .c (.v (.int .i64 w.1)))] [(5, .arr .rw [] (LEN a0) 5 (row GD (encShape) w.2))])) y) ?_ ?_
 ·clear hr6 hN7
  show St.le _ _
  exact le_sparse rfl ⟨lR _, lR _, lR _, trivial⟩ ⟨oS, trivial⟩ rfl
 ·clear hr6 hN7
  intro x z11 h K9 hK10 hY8
  obtain ⟨x0_, x1_, x2_⟩ := x
  replace h := of_let h
  obtain ⟨v1, hv1, h⟩ := h
  have hv1 : v1 = x0_ := hv1
  subst hv1
  replace h := of_let h
  obtain ⟨v2, hv2, h⟩ := h
  have hv2 : v2 = x1_ := hv2
  subst hv2
  replace h := of_let h
  obtain ⟨v3, hv3, h⟩ := h
  have hv3 : v3 = x2_ := hv3
  subst hv3
  cbv
  refine fork (fun b31 => ?_) (fun b31 => ?_)
  ·replace h := of_br_t b31 h
   cbv
   replace h := of_req h
   obtain ⟨c16, h⟩ := h
   refine ⟨⟨c16, trivial⟩, ?_⟩
   replace h := of_req h
   obtain ⟨c30, h⟩ := h
   replace h := of_let h
   obtain ⟨l17, hl17, h⟩ := h
   refine And.intro (by first | exact (by subst hA; exact idx_lt c16) | (refine And.intro (by subst hA; exact idx_lt c16) ?_; first | trivial | exact ⟨trivial, trivial⟩)) ?_
   refine ⟨_, rfl, _, row GD (encShape) l17, rfl, ?_, ?_⟩
   ·subst hGD hLEN hA
    rw [c30] at c16
    refine upd_set hl17 (idx_lt c16) ?_ ?_
    ·intro b hb hh
     match b, hb, hh with | 0, _, hh => exact rfl | 1, _, hh => exact (absurd hh (show ¬ (0 ≤ 1 ∧ 1 < 0 + 1) from by decide)) | 2, _, hh => exact (absurd hh (show ¬ (0 ≤ 2 ∧ 2 < 0 + 1) from by decide)) | 3, _, hh => exact (absurd hh (show ¬ (0 ≤ 3 ∧ 3 < 0 + 1) from by decide)) | 4, _, hh => exact (absurd hh (show ¬ (0 ≤ 4 ∧ 4 < 0 + 1) from by decide)) | (b_ + 5), h_, _ => exact absurd h_ (by omega)
    ·intro b hb hh
     match b, hb, hh with | 0, _, hh => exact (absurd (show 0 ≤ 0 ∧ 0 < 0 + 1 from by decide) hh) | 1, _, hh => exact rfl | 2, _, hh => exact rfl | 3, _, hh => exact rfl | 4, _, hh => exact rfl | (b_ + 5), h_, _ => exact absurd h_ (by omega)
   cbv
   replace h := of_req h
   obtain ⟨c18, h⟩ := h
   refine ⟨⟨c18, trivial⟩, ?_⟩
   replace h := of_req h
   obtain ⟨c29, h⟩ := h
   replace h := of_let h
   obtain ⟨l19, hl19, h⟩ := h
   refine And.intro (by first | exact (by subst hA; exact idx_lt c18) | (refine And.intro (by subst hA; exact idx_lt c18) ?_; first | trivial | exact ⟨trivial, trivial⟩)) ?_
   refine ⟨_, rfl, _, row GD (encShape) l19, rfl, ?_, ?_⟩
   ·subst hGD hLEN hA
    rw [c29] at c18
    refine upd_set hl19 (idx_lt c18) ?_ ?_
    ·intro b hb hh
     match b, hb, hh with | 0, _, hh => exact (absurd hh (show ¬ (1 ≤ 0 ∧ 0 < 1 + 1) from by decide)) | 1, _, hh => exact rfl | 2, _, hh => exact (absurd hh (show ¬ (1 ≤ 2 ∧ 2 < 1 + 1) from by decide)) | 3, _, hh => exact (absurd hh (show ¬ (1 ≤ 3 ∧ 3 < 1 + 1) from by decide)) | 4, _, hh => exact (absurd hh (show ¬ (1 ≤ 4 ∧ 4 < 1 + 1) from by decide)) | (b_ + 5), h_, _ => exact absurd h_ (by omega)
    ·intro b hb hh
     match b, hb, hh with | 0, _, hh => exact rfl | 1, _, hh => exact (absurd (show 1 ≤ 1 ∧ 1 < 1 + 1 from by decide) hh) | 2, _, hh => exact rfl | 3, _, hh => exact rfl | 4, _, hh => exact rfl | (b_ + 5), h_, _ => exact absurd h_ (by omega)
   cbv
   replace h := of_req h
   obtain ⟨c20, h⟩ := h
   refine ⟨⟨c20, trivial⟩, ?_⟩
   replace h := of_req h
   obtain ⟨c28, h⟩ := h
   replace h := of_let h
   obtain ⟨l21, hl21, h⟩ := h
   refine And.intro (by first | exact (by subst hA; exact idx_lt c20) | (refine And.intro (by subst hA; exact idx_lt c20) ?_; first | trivial | exact ⟨trivial, trivial⟩)) ?_
   refine ⟨_, rfl, _, row GD (encShape) l21, rfl, ?_, ?_⟩
   ·subst hGD hLEN hA
    rw [c28] at c20
    refine upd_set hl21 (idx_lt c20) ?_ ?_
    ·intro b hb hh
     match b, hb, hh with | 0, _, hh => exact (absurd hh (show ¬ (2 ≤ 0 ∧ 0 < 2 + 1) from by decide)) | 1, _, hh => exact (absurd hh (show ¬ (2 ≤ 1 ∧ 1 < 2 + 1) from by decide)) | 2, _, hh => exact rfl | 3, _, hh => exact (absurd hh (show ¬ (2 ≤ 3 ∧ 3 < 2 + 1) from by decide)) | 4, _, hh => exact (absurd hh (show ¬ (2 ≤ 4 ∧ 4 < 2 + 1) from by decide)) | (b_ + 5), h_, _ => exact absurd h_ (by omega)
    ·intro b hb hh
     match b, hb, hh with | 0, _, hh => exact rfl | 1, _, hh => exact rfl | 2, _, hh => exact (absurd (show 2 ≤ 2 ∧ 2 < 2 + 1 from by decide) hh) | 3, _, hh => exact rfl | 4, _, hh => exact rfl | (b_ + 5), h_, _ => exact absurd h_ (by omega)
   cbv
   replace h := of_req h
   obtain ⟨c22, h⟩ := h
   refine ⟨⟨c22, trivial⟩, ?_⟩
   replace h := of_req h
   obtain ⟨c27, h⟩ := h
   replace h := of_let h
   obtain ⟨l23, hl23, h⟩ := h
   refine And.intro (by first | exact (by subst hA; exact idx_lt c22) | (refine And.intro (by subst hA; exact idx_lt c22) ?_; first | trivial | exact ⟨trivial, trivial⟩)) ?_
   refine ⟨_, rfl, _, row GD (encShape) l23, rfl, ?_, ?_⟩
   ·subst hGD hLEN hA
    rw [c27] at c22
    refine upd_set hl23 (idx_lt c22) ?_ ?_
    ·intro b hb hh
     match b, hb, hh with | 0, _, hh => exact (absurd hh (show ¬ (3 ≤ 0 ∧ 0 < 3 + 1) from by decide)) | 1, _, hh => exact (absurd hh (show ¬ (3 ≤ 1 ∧ 1 < 3 + 1) from by decide)) | 2, _, hh => exact (absurd hh (show ¬ (3 ≤ 2 ∧ 2 < 3 + 1) from by decide)) | 3, _, hh => exact rfl | 4, _, hh => exact (absurd hh (show ¬ (3 ≤ 4 ∧ 4 < 3 + 1) from by decide)) | (b_ + 5), h_, _ => exact absurd h_ (by omega)
    ·intro b hb hh
     match b, hb, hh with | 0, _, hh => exact rfl | 1, _, hh => exact rfl | 2, _, hh => exact rfl | 3, _, hh => exact (absurd (show 3 ≤ 3 ∧ 3 < 3 + 1 from by decide) hh) | 4, _, hh => exact rfl | (b_ + 5), h_, _ => exact absurd h_ (by omega)
   cbv
   replace h := of_req h
   obtain ⟨c24, h⟩ := h
   refine ⟨⟨c24, trivial⟩, ?_⟩
   replace h := of_req h
   obtain ⟨c26, h⟩ := h
   replace h := of_let h
   obtain ⟨l25, hl25, h⟩ := h
   refine And.intro (by first | exact (by subst hA; exact idx_lt c24) | (refine And.intro (by subst hA; exact idx_lt c24) ?_; first | trivial | exact ⟨trivial, trivial⟩)) ?_
   refine ⟨_, rfl, _, row GD (encShape) l25, rfl, ?_, ?_⟩
   ·subst hGD hLEN hA
    rw [c26] at c24
    refine upd_set hl25 (idx_lt c24) ?_ ?_
    ·intro b hb hh
     match b, hb, hh with | 0, _, hh => exact (absurd hh (show ¬ (4 ≤ 0 ∧ 0 < 4 + 1) from by decide)) | 1, _, hh => exact (absurd hh (show ¬ (4 ≤ 1 ∧ 1 < 4 + 1) from by decide)) | 2, _, hh => exact (absurd hh (show ¬ (4 ≤ 2 ∧ 2 < 4 + 1) from by decide)) | 3, _, hh => exact (absurd hh (show ¬ (4 ≤ 3 ∧ 3 < 4 + 1) from by decide)) | 4, _, hh => exact rfl | (b_ + 5), h_, _ => exact absurd h_ (by omega)
    ·intro b hb hh
     match b, hb, hh with | 0, _, hh => exact rfl | 1, _, hh => exact rfl | 2, _, hh => exact rfl | 3, _, hh => exact rfl | 4, _, hh => exact (absurd (show 4 ≤ 4 ∧ 4 < 4 + 1 from by decide) hh) | (b_ + 5), h_, _ => exact absurd h_ (by omega)
   cbv
   injection h with h
   refine hK10 _ h.symm _ ?_
   exact le_sparse rfl ⟨lR _, lR _, lR _, trivial⟩ ⟨oS, trivial⟩ rfl
  ·replace h := of_br_f b31 h
   cbv
   injection h with h
   refine hY8 _ h.symm _ _ (And.intro rfl ?_) (by intro hh; cases hh)
   exact le_sparse rfl ⟨lR _, trivial⟩ ⟨oS, trivial⟩ rfl
 ·clear hr6
  have h := hN7
  clear hN7
  intro e14 s15 q13 hne
  replace h := of_let h
  obtain ⟨y5k0, hyk, h⟩ := h
  have hyk : y5k0 = y5 := hyk
  subst hyk
  obtain ⟨rfl, q13⟩ := q13
  obtain ⟨y5k0_0, y5k0_1⟩ := y5k0
  replace h := of_let h
  obtain ⟨w32, hw32, h⟩ := h
  have hw32 : w32 = y5k0_0 := hw32
  subst hw32
  replace h := of_let h
  obtain ⟨w33, hw33, h⟩ := h
  have hw33 : w33 = y5k0_1 := hw33
  subst hw33
  cbv
  refine ⟨_, q13, ?_⟩
  cbv
  replace h := of_req h
  obtain ⟨c34, h⟩ := h
  injection h with h
  subst h
  refine ⟨(sparse 52 [(4, .c (.v (.int .i64 w32)))] [(5, .arr .rw [] (LEN w33) 5 (row GD (encShape) w33))]), ?_, ?_⟩
  ·rw [c34]
   exact le_sparse rfl ⟨lR _, trivial⟩ ⟨oS, trivial⟩ rfl
  ·exact ⟨lR _, ⟨oS, trivial⟩, rfl⟩

noncomputable def L_laws_markLabelS_mob_x4 (a0 : List TLabel) : (Int × Int × (List TLabel)) → Option ((Int × Int × (List TLabel)) ⊕ ((Int × (List TLabel)))) := fun x4 =>
 letO x4.1 fun v1 =>
 letO x4.2.1 fun v2 =>
 letO x4.2.2 fun v3 =>
 br (std.lt v2 (std.ofN (len a0)))
 (req (std.inR v2 (len a0)) <|
 req (len a0 = len v3) <|
 letO (List.set v3 (std.nadd 0 (std.toN v2)) (TLabel.mk v1 (gd v3 (std.nadd 0 (std.toN v2))).fAt (gd v3 (std.nadd 0 (std.toN v2))).fName)) fun l17 =>
 req (std.inR v2 (len a0)) <|
 req (len a0 = len l17) <|
 letO (List.set l17 (std.nadd 0 (std.toN v2)) (TLabel.mk (gd l17 (std.nadd 0 (std.toN v2))).fLayer (TPoint.mk (std.add .i64 v1 1) (gd l17 (std.nadd 0 (std.toN v2))).fAt.fY) (gd l17 (std.nadd 0 (std.toN v2))).fName)) fun l19 =>
 req (std.inR v2 (len a0)) <|
 req (len a0 = len l19) <|
 letO (List.set l19 (std.nadd 0 (std.toN v2)) (TLabel.mk (gd l19 (std.nadd 0 (std.toN v2))).fLayer (TPoint.mk (gd l19 (std.nadd 0 (std.toN v2))).fAt.fX (std.add .i64 (std.add .i64 v1 1) 1)) (gd l19 (std.nadd 0 (std.toN v2))).fName)) fun l21 =>
 (F_laws_markText (std.add .i64 (std.add .i64 (std.add .i64 v1 1) 1) 1)).bind fun y22 =>
 req (std.inR v2 (len a0)) <|
 req (len a0 = len l21) <|
 letO (List.set l21 (std.nadd 0 (std.toN v2)) (TLabel.mk (gd l21 (std.nadd 0 (std.toN v2))).fLayer (gd l21 (std.nadd 0 (std.toN v2))).fAt y22)) fun l25 =>
 some (.inl (std.add .i64 (std.add .i64 (std.add .i64 (std.add .i64 v1 1) 1) 1) 1, std.add .i64 v2 1, l25)))
 (some (.inr (v1, v3)))
/-- laws.markLabelS -/
noncomputable def F_laws_markLabelS_mob (a0 : List TLabel) (a1 : Int) : Option (Int × (List TLabel)) :=
 (whileP (σ := Int × Int × (List TLabel)) (ρ := (Int × (List TLabel))) (L_laws_markLabelS_mob_x4 a0) (a1, 0, a0)).bind fun y5 =>
 letO y5 fun y5k0 =>
 letO y5k0.1 fun w31 =>
 letO y5k0.2 fun w32 =>
 req (len a0 = len w32) <|
 some (w31, w32)
theorem run_laws_markLabelS_mob (a0 : List TLabel) (a1 : Int) (r : Int × (List TLabel)) (h : F_laws_markLabelS_mob a0 a1 = some r) : Fun Tryz.prog 14 [.c (.os 5 0 (len a0)), .c (.v (.int .i64 a1))] [(5, .arr .rw [] (len a0) 4 (row gd (encLabel) a0))] (.c (.v (.int .i64 r.1))) [(5, .arr .rw [] (len r.2) 4 (row gd (encLabel) r.2))] true := by
 refine Fun.of_wp (oneOf []) tok mixed Tryz.func14 (by kernel_rfl) rfl Tryz.ntmps14 rfl ⟨fun i _ j _ k hk => (noref (plain_nil (pl_encLabel _ _)) hk).elim, trivial⟩ (fun _ => ⟨trivial, ⟨fun i _ j _ => val_flat (vl_encLabel _ _), trivial⟩⟩) ?_
 unfold F_laws_markLabelS_mob at h
 unfold L_laws_markLabelS_mob_x4 at h
 have hf_laws_markText := @run_laws_markText
 generalize hLEN : @len = LEN at *
 generalize hGD : @gd = GD at *
 generalize hA : std = A at *
 generalize hP : Tryz.prog = P at *
 cbv
 replace h := of_bind h
 obtain ⟨y5, hr6, hN7⟩ := h
 refine loop_cut hr6 (fun x => (sparse 44 [(0, .c (.os 5 0 (LEN a0))), (1, .c (.v (.int .i64 x.1))), (5, .c (.v (.int .i64 x.2.1)))] [(5, .arr .rw [] (LEN a0) 4 (row GD (encLabel) x.2.2))])) ?_ (fun y e s => (fun (w : Int × (List TLabel)) => e = .exit 0 ∧ s.le (sparse 44 [(1, .c (.v (.int .i64 w.1)))] [(5, .arr .rw [] (LEN a0) 4 (row GD (encLabel) w.2))])) y) ?_ ?_
 ·clear hr6 hN7
  show St.le _ _
  exact le_sparse rfl ⟨lR _, lR _, lR _, trivial⟩ ⟨oS, trivial⟩ rfl
 ·clear hr6 hN7
  intro x z11 h K9 hK10 hY8
  obtain ⟨x0_, x1_, x2_⟩ := x
  replace h := of_let h
  obtain ⟨v1, hv1, h⟩ := h
  have hv1 : v1 = x0_ := hv1
  subst hv1
  replace h := of_let h
  obtain ⟨v2, hv2, h⟩ := h
  have hv2 : v2 = x1_ := hv2
  subst hv2
  replace h := of_let h
  obtain ⟨v3, hv3, h⟩ := h
  have hv3 : v3 = x2_ := hv3
  subst hv3
  cbv
  refine fork (fun b30 => ?_) (fun b30 => ?_)
  ·replace h := of_br_t b30 h
   cbv
   replace h := of_req h
   obtain ⟨c16, h⟩ := h
   refine ⟨⟨c16, trivial⟩, ?_⟩
   replace h := of_req h
   obtain ⟨c29, h⟩ := h
   replace h := of_let h
   obtain ⟨l17, hl17, h⟩ := h
   refine And.intro (by first | exact (by subst hA; exact idx_lt c16) | (refine And.intro (by subst hA; exact idx_lt c16) ?_; first | trivial | exact ⟨trivial, trivial⟩)) ?_
   refine ⟨_, rfl, _, row GD (encLabel) l17, rfl, ?_, ?_⟩
   ·subst hGD hLEN hA
    rw [c29] at c16
    refine upd_set hl17 (idx_lt c16) ?_ ?_
    ·intro b hb hh
     match b, hb, hh with | 0, _, hh => exact rfl | 1, _, hh => exact (absurd hh (show ¬ (0 ≤ 1 ∧ 1 < 0 + 1) from by decide)) | 2, _, hh => exact (absurd hh (show ¬ (0 ≤ 2 ∧ 2 < 0 + 1) from by decide)) | 3, _, hh => exact (absurd hh (show ¬ (0 ≤ 3 ∧ 3 < 0 + 1) from by decide)) | (b_ + 4), h_, _ => exact absurd h_ (by omega)
    ·intro b hb hh
     match b, hb, hh with | 0, _, hh => exact (absurd (show 0 ≤ 0 ∧ 0 < 0 + 1 from by decide) hh) | 1, _, hh => exact rfl | 2, _, hh => exact rfl | 3, _, hh => exact rfl | (b_ + 4), h_, _ => exact absurd h_ (by omega)
   cbv
   replace h := of_req h
   obtain ⟨c18, h⟩ := h
   refine ⟨⟨c18, trivial⟩, ?_⟩
   replace h := of_req h
   obtain ⟨c28, h⟩ := h
   replace h := of_let h
   obtain ⟨l19, hl19, h⟩ := h
   refine And.intro (by first | exact (by subst hA; exact idx_lt c18) | (refine And.intro (by subst hA; exact idx_lt c18) ?_; first | trivial | exact ⟨trivial, trivial⟩)) ?_
   refine ⟨_, rfl, _, row GD (encLabel) l19, rfl, ?_, ?_⟩
   ·subst hGD hLEN hA
    rw [c28] at c18
    refine upd_set hl19 (idx_lt c18) ?_ ?_
    ·intro b hb hh
     match b, hb, hh with | 0, _, hh => exact (absurd hh (show ¬ (1 ≤ 0 ∧ 0 < 1 + 1) from by decide)) | 1, _, hh => exact rfl | 2, _, hh => exact (absurd hh (show ¬ (1 ≤ 2 ∧ 2 < 1 + 1) from by decide)) | 3, _, hh => exact (absurd hh (show ¬ (1 ≤ 3 ∧ 3 < 1 + 1) from by decide)) | (b_ + 4), h_, _ => exact absurd h_ (by omega)
    ·intro b hb hh
     match b, hb, hh with | 0, _, hh => exact rfl | 1, _, hh => exact (absurd (show 1 ≤ 1 ∧ 1 < 1 + 1 from by decide) hh) | 2, _, hh => exact rfl | 3, _, hh => exact rfl | (b_ + 4), h_, _ => exact absurd h_ (by omega)
   cbv
   replace h := of_req h
   obtain ⟨c20, h⟩ := h
   refine ⟨⟨c20, trivial⟩, ?_⟩
   replace h := of_req h
   obtain ⟨c27, h⟩ := h
   replace h := of_let h
   obtain ⟨l21, hl21, h⟩ := h
   refine And.intro (by first | exact (by subst hA; exact idx_lt c20) | (refine And.intro (by subst hA; exact idx_lt c20) ?_; first | trivial | exact ⟨trivial, trivial⟩)) ?_
   refine ⟨_, rfl, _, row GD (encLabel) l21, rfl, ?_, ?_⟩
   ·subst hGD hLEN hA
    rw [c27] at c20
    refine upd_set hl21 (idx_lt c20) ?_ ?_
    ·intro b hb hh
     match b, hb, hh with | 0, _, hh => exact (absurd hh (show ¬ (2 ≤ 0 ∧ 0 < 2 + 1) from by decide)) | 1, _, hh => exact (absurd hh (show ¬ (2 ≤ 1 ∧ 1 < 2 + 1) from by decide)) | 2, _, hh => exact rfl | 3, _, hh => exact (absurd hh (show ¬ (2 ≤ 3 ∧ 3 < 2 + 1) from by decide)) | (b_ + 4), h_, _ => exact absurd h_ (by omega)
    ·intro b hb hh
     match b, hb, hh with | 0, _, hh => exact rfl | 1, _, hh => exact rfl | 2, _, hh => exact (absurd (show 2 ≤ 2 ∧ 2 < 2 + 1 from by decide) hh) | 3, _, hh => exact rfl | (b_ + 4), h_, _ => exact absurd h_ (by omega)
   cbv
   replace h := of_bind h
   obtain ⟨y22, hy23, h⟩ := h
   refine ⟨{ args := [.c (.v (.int .i64 (A.add .i64 (A.add .i64 (A.add .i64 v1 1) 1) 1)))], o0 := [], r := .c (.v (.string y22)), o1 := [], fl := true, σ := [], τ := [] }, hf_laws_markText _ _ hy23, ⟨les_cons (lR _) (les_nil), trivial, rfl, rfl, rfl, rfl, trivial, rfl⟩, ?_⟩
   cbv
   replace h := of_req h
   obtain ⟨c24, h⟩ := h
   refine ⟨⟨c24, trivial⟩, ?_⟩
   replace h := of_req h
   obtain ⟨c26, h⟩ := h
   replace h := of_let h
   obtain ⟨l25, hl25, h⟩ := h
   refine And.intro (by first | exact (by subst hA; exact idx_lt c24) | (refine And.intro (by subst hA; exact idx_lt c24) ?_; first | trivial | exact ⟨trivial, trivial⟩)) ?_
   refine ⟨_, rfl, _, row GD (encLabel) l25, rfl, ?_, ?_⟩
   ·subst hGD hLEN hA
    rw [c26] at c24
    refine upd_set hl25 (idx_lt c24) ?_ ?_
    ·intro b hb hh
     match b, hb, hh with | 0, _, hh => exact (absurd hh (show ¬ (3 ≤ 0 ∧ 0 < 3 + 1) from by decide)) | 1, _, hh => exact (absurd hh (show ¬ (3 ≤ 1 ∧ 1 < 3 + 1) from by decide)) | 2, _, hh => exact (absurd hh (show ¬ (3 ≤ 2 ∧ 2 < 3 + 1) from by decide)) | 3, _, hh => exact rfl | (b_ + 4), h_, _ => exact absurd h_ (by omega)
    ·intro b hb hh
     match b, hb, hh with | 0, _, hh => exact rfl | 1, _, hh => exact rfl | 2, _, hh => exact rfl | 3, _, hh => exact (absurd (show 3 ≤ 3 ∧ 3 < 3 + 1 from by decide) hh) | (b_ + 4), h_, _ => exact absurd h_ (by omega)
   cbv
   injection h with h
   refine hK10 _ h.symm _ ?_
   exact le_sparse rfl ⟨lR _, lR _, lR _, trivial⟩ ⟨oS, trivial⟩ rfl
  ·replace h := of_br_f b30 h
   cbv
   injection h with h
   refine hY8 _ h.symm _ _ (And.intro rfl ?_) (by intro hh; cases hh)
   exact le_sparse rfl ⟨lR _, trivial⟩ ⟨oS, trivial⟩ rfl
 ·clear hr6
  have h := hN7
  clear hN7
  intro e14 s15 q13 hne
  replace h := of_let h
  obtain ⟨y5k0, hyk, h⟩ := h
  have hyk : y5k0 = y5 := hyk
  subst hyk
  obtain ⟨rfl, q13⟩ := q13
  obtain ⟨y5k0_0, y5k0_1⟩ := y5k0
  replace h := of_let h
  obtain ⟨w31, hw31, h⟩ := h
  have hw31 : w31 = y5k0_0 := hw31
  subst hw31
  replace h := of_let h
  obtain ⟨w32, hw32, h⟩ := h
  have hw32 : w32 = y5k0_1 := hw32
  subst hw32
  cbv
  refine ⟨_, q13, ?_⟩
  cbv
  replace h := of_req h
  obtain ⟨c33, h⟩ := h
  injection h with h
  subst h
  refine ⟨(sparse 44 [(4, .c (.v (.int .i64 w31)))] [(5, .arr .rw [] (LEN w32) 4 (row GD (encLabel) w32))]), ?_, ?_⟩
  ·rw [c33]
   exact le_sparse rfl ⟨lR _, trivial⟩ ⟨oS, trivial⟩ rfl
  ·exact ⟨lR _, ⟨oS, trivial⟩, rfl⟩

noncomputable def L_laws_markInstanceS_mob_x4 (a0 : List TInstance) : (Int × Int × (List TInstance)) → Option ((Int × Int × (List TInstance)) ⊕ ((Int × (List TInstance)))) := fun x4 =>
 letO x4.1 fun v1 =>
 letO x4.2.1 fun v2 =>
 letO x4.2.2 fun v3 =>
 br (std.lt v2 (std.ofN (len a0)))
 (req (std.inR v2 (len a0)) <|
 req (len a0 = len v3) <|
 letO (List.set v3 (std.nadd 0 (std.toN v2)) (TInstance.mk v1 (gd v3 (std.nadd 0 (std.toN v2))).fPlace (gd v3 (std.nadd 0 (std.toN v2))).fColumns (gd v3 (std.nadd 0 (std.toN v2))).fRows (gd v3 (std.nadd 0 (std.toN v2))).fStepX (gd v3 (std.nadd 0 (std.toN v2))).fStepY)) fun l17 =>
 req (std.inR v2 (len a0)) <|
 req (len a0 = len l17) <|
 letO (List.set l17 (std.nadd 0 (std.toN v2)) (TInstance.mk (gd l17 (std.nadd 0 (std.toN v2))).fCell (TTransform.mk (std.add .i64 v1 1) (gd l17 (std.nadd 0 (std.toN v2))).fPlace.fX (gd l17 (std.nadd 0 (std.toN v2))).fPlace.fY) (gd l17 (std.nadd 0 (std.toN v2))).fColumns (gd l17 (std.nadd 0 (std.toN v2))).fRows (gd l17 (std.nadd 0 (std.toN v2))).fStepX (gd l17 (std.nadd 0 (std.toN v2))).fStepY)) fun l19 =>
 req (std.inR v2 (len a0)) <|
 req (len a0 = len l19) <|
 letO (List.set l19 (std.nadd 0 (std.toN v2)) (TInstance.mk (gd l19 (std.nadd 0 (std.toN v2))).fCell (TTransform.mk (gd l19 (std.nadd 0 (std.toN v2))).fPlace.fOrientation (std.add .i64 (std.add .i64 v1 1) 1) (gd l19 (std.nadd 0 (std.toN v2))).fPlace.fY) (gd l19 (std.nadd 0 (std.toN v2))).fColumns (gd l19 (std.nadd 0 (std.toN v2))).fRows (gd l19 (std.nadd 0 (std.toN v2))).fStepX (gd l19 (std.nadd 0 (std.toN v2))).fStepY)) fun l21 =>
 req (std.inR v2 (len a0)) <|
 req (len a0 = len l21) <|
 letO (List.set l21 (std.nadd 0 (std.toN v2)) (TInstance.mk (gd l21 (std.nadd 0 (std.toN v2))).fCell (TTransform.mk (gd l21 (std.nadd 0 (std.toN v2))).fPlace.fOrientation (gd l21 (std.nadd 0 (std.toN v2))).fPlace.fX (std.add .i64 (std.add .i64 (std.add .i64 v1 1) 1) 1)) (gd l21 (std.nadd 0 (std.toN v2))).fColumns (gd l21 (std.nadd 0 (std.toN v2))).fRows (gd l21 (std.nadd 0 (std.toN v2))).fStepX (gd l21 (std.nadd 0 (std.toN v2))).fStepY)) fun l23 =>
 req (std.inR v2 (len a0)) <|
 req (len a0 = len l23) <|
 letO (List.set l23 (std.nadd 0 (std.toN v2)) (TInstance.mk (gd l23 (std.nadd 0 (std.toN v2))).fCell (gd l23 (std.nadd 0 (std.toN v2))).fPlace (std.add .i64 (std.add .i64 (std.add .i64 (std.add .i64 v1 1) 1) 1) 1) (gd l23 (std.nadd 0 (std.toN v2))).fRows (gd l23 (std.nadd 0 (std.toN v2))).fStepX (gd l23 (std.nadd 0 (std.toN v2))).fStepY)) fun l25 =>
 req (std.inR v2 (len a0)) <|
 req (len a0 = len l25) <|
 letO (List.set l25 (std.nadd 0 (std.toN v2)) (TInstance.mk (gd l25 (std.nadd 0 (std.toN v2))).fCell (gd l25 (std.nadd 0 (std.toN v2))).fPlace (gd l25 (std.nadd 0 (std.toN v2))).fColumns (std.add .i64 (std.add .i64 (std.add .i64 (std.add .i64 (std.add .i64 v1 1) 1) 1) 1) 1) (gd l25 (std.nadd 0 (std.toN v2))).fStepX (gd l25 (std.nadd 0 (std.toN v2))).fStepY)) fun l27 =>
 req (std.inR v2 (len a0)) <|
 req (len a0 = len l27) <|
 letO (List.set l27 (std.nadd 0 (std.toN v2)) (TInstance.mk (gd l27 (std.nadd 0 (std.toN v2))).fCell (gd l27 (std.nadd 0 (std.toN v2))).fPlace (gd l27 (std.nadd 0 (std.toN v2))).fColumns (gd l27 (std.nadd 0 (std.toN v2))).fRows (std.add .i64 (std.add .i64 (std.add .i64 (std.add .i64 (std.add .i64 (std.add .i64 v1 1) 1) 1) 1) 1) 1) (gd l27 (std.nadd 0 (std.toN v2))).fStepY)) fun l29 =>
 req (std.inR v2 (len a0)) <|
 req (len a0 = len l29) <|
 letO (List.set l29 (std.nadd 0 (std.toN v2)) (TInstance.mk (gd l29 (std.nadd 0 (std.toN v2))).fCell (gd l29 (std.nadd 0 (std.toN v2))).fPlace (gd l29 (std.nadd 0 (std.toN v2))).fColumns (gd l29 (std.nadd 0 (std.toN v2))).fRows (gd l29 (std.nadd 0 (std.toN v2))).fStepX (std.add .i64 (std.add .i64 (std.add .i64 (std.add .i64 (std.add .i64 (std.add .i64 (std.add .i64 v1 1) 1) 1) 1) 1) 1) 1))) fun l31 =>
 some (.inl (std.add .i64 (std.add .i64 (std.add .i64 (std.add .i64 (std.add .i64 (std.add .i64 (std.add .i64 (std.add .i64 v1 1) 1) 1) 1) 1) 1) 1) 1, std.add .i64 v2 1, l31)))
 (some (.inr (v1, v3)))
/-- laws.markInstanceS -/
noncomputable def F_laws_markInstanceS_mob (a0 : List TInstance) (a1 : Int) : Option (Int × (List TInstance)) :=
 (whileP (σ := Int × Int × (List TInstance)) (ρ := (Int × (List TInstance))) (L_laws_markInstanceS_mob_x4 a0) (a1, 0, a0)).bind fun y5 =>
 letO y5 fun y5k0 =>
 letO y5k0.1 fun w41 =>
 letO y5k0.2 fun w42 =>
 req (len a0 = len w42) <|
 some (w41, w42)
theorem run_laws_markInstanceS_mob (a0 : List TInstance) (a1 : Int) (r : Int × (List TInstance)) (h : F_laws_markInstanceS_mob a0 a1 = some r) : Fun Tryz.prog 68 [.c (.os 5 0 (len a0)), .c (.v (.int .i64 a1))] [(5, .arr .rw [] (len a0) 8 (row gd (encInstance) a0))] (.c (.v (.int .i64 r.1))) [(5, .arr .rw [] (len r.2) 8 (row gd (encInstance) r.2))] true := by
 refine Fun.of_wp (oneOf []) tok mixed Tryz.func68 (by kernel_rfl) rfl Tryz.ntmps68 rfl ⟨fun i _ j _ k hk => (noref (plain_nil (pl_encInstance _ _)) hk).elim, trivial⟩ (fun _ => ⟨trivial, ⟨fun i _ j _ => val_flat (vl_encInstance _ _), trivial⟩⟩) ?_
 unfold F_laws_markInstanceS_mob at h
 unfold L_laws_markInstanceS_mob_x4 at h
 generalize hLEN : @len = LEN at *
 generalize hGD : @gd = GD at *
 generalize hA : std = A at *
 generalize hP : Tryz.prog = P at *
 cbv
 replace h := of_bind h
 obtain ⟨y5, hr6, hN7⟩ := h
 refine loop_cut hr6 (fun x => (sparse 72 [(0, .c (.os 5 0 (LEN a0))), (1, .c (.v (.int .i64 x.1))), (5, .c (.v (.int .i64 x.2.1)))] [(5, .arr .rw [] (LEN a0) 8 (row GD (encInstance) x.2.2))])) ?_ (fun y e s => (fun (w : Int × (List TInstance)) => e = .exit 0 ∧ s.le (sparse 72 [(1, .c (.v (.int .i64 w.1)))] [(5, .arr .rw [] (LEN a0) 8 (row GD (encInstance) w.2))])) y) ?_ ?_
 ·clear hr6 hN7
  show St.le _ _
  exact le_sparse rfl ⟨lR _, lR _, lR _, trivial⟩ ⟨oS, trivial⟩ rfl
 ·clear hr6 hN7
  intro x z11 h K9 hK10 hY8
  obtain ⟨x0_, x1_, x2_⟩ := x
  replace h := of_let h
  obtain ⟨v1, hv1, h⟩ := h
  have hv1 : v1 = x0_ := hv1
  subst hv1
  replace h := of_let h
  obtain ⟨v2, hv2, h⟩ := h
  have hv2 : v2 = x1_ := hv2
  subst hv2
  replace h := of_let h
  obtain ⟨v3, hv3, h⟩ := h
  have hv3 : v3 = x2_ := hv3
  subst hv3
  cbv
  refine fork (fun b40 => ?_) (fun b40 => ?_)
  ·replace h := of_br_t b40 h
   cbv
   replace h := of_req h
   obtain ⟨c16, h⟩ := h
   refine ⟨⟨c16, trivial⟩, ?_⟩
   replace h := of_req h
   obtain ⟨c39, h⟩ := h
   replace h := of_let h
   obtain ⟨l17, hl17, h⟩ := h
   refine And.intro (by first | exact (by subst hA; exact idx_lt c16) | (refine And.intro (by subst hA; exact idx_lt c16) ?_; first | trivial | exact ⟨trivial, trivial⟩)) ?_
   refine ⟨_, rfl, _, row GD (encInstance) l17, rfl, ?_, ?_⟩
   ·subst hGD hLEN hA
    rw [c39] at c16
    refine upd_set hl17 (idx_lt c16) ?_ ?_
    ·intro b hb hh
     match b, hb, hh with | 0, _, hh => exact rfl | 1, _, hh => exact (absurd hh (show ¬ (0 ≤ 1 ∧ 1 < 0 + 1) from by decide)) | 2, _, hh => exact (absurd hh (show ¬ (0 ≤ 2 ∧ 2 < 0 + 1) from by decide)) | 3, _, hh => exact (absurd hh (show ¬ (0 ≤ 3 ∧ 3 < 0 + 1) from by decide)) | 4, _, hh => exact (absurd hh (show ¬ (0 ≤ 4 ∧ 4 < 0 + 1) from by decide)) | 5, _, hh => exact (absurd hh (show ¬ (0 ≤ 5 ∧ 5 < 0 + 1) from by decide)) | 6, _, hh => exact (absurd hh (show ¬ (0 ≤ 6 ∧ 6 < 0 + 1) from by decide)) | 7, _, hh => exact (absurd hh (show ¬ (0 ≤ 7 ∧ 7 < 0 + 1) from by decide)) | (b_ + 8), h_, _ => exact absurd h_ (by omega)
    ·intro b hb hh
     match b, hb, hh with | 0, _, hh => exact (absurd (show 0 ≤ 0 ∧ 0 < 0 + 1 from by decide) hh) | 1, _, hh => exact rfl | 2, _, hh => exact rfl | 3, _, hh => exact rfl | 4, _, hh => exact rfl | 5, _, hh => exact rfl | 6, _, hh => exact rfl | 7, _, hh => exact rfl | (b_ + 8), h_, _ => exact absurd h_ (by omega)
   cbv
   replace h := of_req h
   obtain ⟨c18, h⟩ := h
   refine ⟨⟨c18, trivial⟩, ?_⟩
   replace h := of_req h
   obtain ⟨c38, h⟩ := h
   replace h := of_let h
   obtain ⟨l19, hl19, h⟩ := h
   refine And.intro (by first | exact (by subst hA; exact idx_lt c18) | (refine And.intro (by subst hA; exact idx_lt c18) ?_; first | trivial | exact ⟨trivial, trivial⟩)) ?_
   refine ⟨_, rfl, _, row GD (encInstance) l19, rfl, ?_, ?_⟩
   ·subst hGD hLEN hA
    rw [c38] at c18
    refine upd_set hl19 (idx_lt c18) ?_ ?_
    ·intro b hb hh
     match b, hb, hh with | 0, _, hh => exact (absurd hh (show ¬ (1 ≤ 0 ∧ 0 < 1 + 1) from by decide)) | 1, _, hh => exact rfl | 2, _, hh => exact (absurd hh (show ¬ (1 ≤ 2 ∧ 2 < 1 + 1) from by decide)) | 3, _, hh => exact (absurd hh (show ¬ (1 ≤ 3 ∧ 3 < 1 + 1) from by decide)) | 4, _, hh => exact (absurd hh (show ¬ (1 ≤ 4 ∧ 4 < 1 + 1) from by decide)) | 5, _, hh => exact (absurd hh (show ¬ (1 ≤ 5 ∧ 5 < 1 + 1) from by decide)) | 6, _, hh => exact (absurd hh (show ¬ (1 ≤ 6 ∧ 6 < 1 + 1) from by decide)) | 7, _, hh => exact (absurd hh (show ¬ (1 ≤ 7 ∧ 7 < 1 + 1) from by decide)) | (b_ + 8), h_, _ => exact absurd h_ (by omega)
    ·intro b hb hh
     match b, hb, hh with | 0, _, hh => exact rfl | 1, _, hh => exact (absurd (show 1 ≤ 1 ∧ 1 < 1 + 1 from by decide) hh) | 2, _, hh => exact rfl | 3, _, hh => exact rfl | 4, _, hh => exact rfl | 5, _, hh => exact rfl | 6, _, hh => exact rfl | 7, _, hh => exact rfl | (b_ + 8), h_, _ => exact absurd h_ (by omega)
   cbv
   replace h := of_req h
   obtain ⟨c20, h⟩ := h
   refine ⟨⟨c20, trivial⟩, ?_⟩
   replace h := of_req h
   obtain ⟨c37, h⟩ := h
   replace h := of_let h
   obtain ⟨l21, hl21, h⟩ := h
   refine And.intro (by first | exact (by subst hA; exact idx_lt c20) | (refine And.intro (by subst hA; exact idx_lt c20) ?_; first | trivial | exact ⟨trivial, trivial⟩)) ?_
   refine ⟨_, rfl, _, row GD (encInstance) l21, rfl, ?_, ?_⟩
   ·subst hGD hLEN hA
    rw [c37] at c20
    refine upd_set hl21 (idx_lt c20) ?_ ?_
    ·intro b hb hh
     match b, hb, hh with | 0, _, hh => exact (absurd hh (show ¬ (2 ≤ 0 ∧ 0 < 2 + 1) from by decide)) | 1, _, hh => exact (absurd hh (show ¬ (2 ≤ 1 ∧ 1 < 2 + 1) from by decide)) | 2, _, hh => exact rfl | 3, _, hh => exact (absurd hh (show ¬ (2 ≤ 3 ∧ 3 < 2 + 1) from by decide)) | 4, _, hh => exact (absurd hh (show ¬ (2 ≤ 4 ∧ 4 < 2 + 1) from by decide)) | 5, _, hh => exact (absurd hh (show ¬ (2 ≤ 5 ∧ 5 < 2 + 1) from by decide)) | 6, _, hh => exact (absurd hh (show ¬ (2 ≤ 6 ∧ 6 < 2 + 1) from by decide)) | 7, _, hh => exact (absurd hh (show ¬ (2 ≤ 7 ∧ 7 < 2 + 1) from by decide)) | (b_ + 8), h_, _ => exact absurd h_ (by omega)
    ·intro b hb hh
     match b, hb, hh with | 0, _, hh => exact rfl | 1, _, hh => exact rfl | 2, _, hh => exact (absurd (show 2 ≤ 2 ∧ 2 < 2 + 1 from by decide) hh) | 3, _, hh => exact rfl | 4, _, hh => exact rfl | 5, _, hh => exact rfl | 6, _, hh => exact rfl | 7, _, hh => exact rfl | (b_ + 8), h_, _ => exact absurd h_ (by omega)
   cbv
   replace h := of_req h
   obtain ⟨c22, h⟩ := h
   refine ⟨⟨c22, trivial⟩, ?_⟩
   replace h := of_req h
   obtain ⟨c36, h⟩ := h
   replace h := of_let h
   obtain ⟨l23, hl23, h⟩ := h
   refine And.intro (by first | exact (by subst hA; exact idx_lt c22) | (refine And.intro (by subst hA; exact idx_lt c22) ?_; first | trivial | exact ⟨trivial, trivial⟩)) ?_
   refine ⟨_, rfl, _, row GD (encInstance) l23, rfl, ?_, ?_⟩
   ·subst hGD hLEN hA
    rw [c36] at c22
    refine upd_set hl23 (idx_lt c22) ?_ ?_
    ·intro b hb hh
     match b, hb, hh with | 0, _, hh => exact (absurd hh (show ¬ (3 ≤ 0 ∧ 0 < 3 + 1) from by decide)) | 1, _, hh => exact (absurd hh (show ¬ (3 ≤ 1 ∧ 1 < 3 + 1) from by decide)) | 2, _, hh => exact (absurd hh (show ¬ (3 ≤ 2 ∧ 2 < 3 + 1) from by decide)) | 3, _, hh => exact rfl | 4, _, hh => exact (absurd hh (show ¬ (3 ≤ 4 ∧ 4 < 3 + 1) from by decide)) | 5, _, hh => exact (absurd hh (show ¬ (3 ≤ 5 ∧ 5 < 3 + 1) from by decide)) | 6, _, hh => exact (absurd hh (show ¬ (3 ≤ 6 ∧ 6 < 3 + 1) from by decide)) | 7, _, hh => exact (absurd hh (show ¬ (3 ≤ 7 ∧ 7 < 3 + 1) from by decide)) | (b_ + 8), h_, _ => exact absurd h_ (by omega)
    ·intro b hb hh
     match b, hb, hh with | 0, _, hh => exact rfl | 1, _, hh => exact rfl | 2, _, hh => exact rfl | 3, _, hh => exact (absurd (show 3 ≤ 3 ∧ 3 < 3 + 1 from by decide) hh) | 4, _, hh => exact rfl | 5, _, hh => exact rfl | 6, _, hh => exact rfl | 7, _, hh => exact rfl | (b_ + 8), h_, _ => exact absurd h_ (by omega)
   cbv
   replace h := of_req h
   obtain ⟨c24, h⟩ := h
   refine ⟨⟨c24, trivial⟩, ?_⟩
   replace h := of_req h
   obtain ⟨c35, h⟩ := h
   replace h := of_let h
   obtain ⟨l25, hl25, h⟩ := h
   refine And.intro (by first | exact (by subst hA; exact idx_lt c24) | (refine And.intro (by subst hA; exact idx_lt c24) ?_; first | trivial | exact ⟨trivial, trivial⟩)) ?_
   refine ⟨_, rfl, _, row GD (encInstance) l25, rfl, ?_, ?_⟩
   ·subst hGD hLEN hA
    rw [c35] at c24
    refine upd_set hl25 (idx_lt c24) ?_ ?_
    ·intro b hb hh
     match b, hb, hh with | 0, _, hh => exact (absurd hh (show ¬ (4 ≤ 0 ∧ 0 < 4 + 1) from by decide)) | 1, _, hh => exact (absurd hh (show ¬ (4 ≤ 1 ∧ 1 < 4 + 1) from by decide)) | 2, _, hh => exact (absurd hh (show ¬ (4 ≤ 2 ∧ 2 < 4 + 1) from by decide)) | 3, _, hh => exact (absurd hh (show ¬ (4 ≤ 3 ∧ 3 < 4 + 1) from by decide)) | 4, _, hh => exact rfl | 5, _, hh => exact (absurd hh (show ¬ (4 ≤ 5 ∧ 5 < 4 + 1) from by decide)) | 6, _, hh => exact (absurd hh (show ¬ (4 ≤ 6 ∧ 6 < 4 + 1) from by decide)) | 7, _, hh => exact (absurd hh (show ¬ (4 ≤ 7 ∧ 7 < 4 + 1) from by decide)) | (b_ + 8), h_, _ => exact absurd h_ (by omega)
    ·intro b hb hh
     match b, hb, hh with | 0, _, hh => exact rfl | 1, _, hh => exact rfl | 2, _, hh => exact rfl | 3, _, hh => exact rfl | 4, _, hh => exact (absurd (show 4 ≤ 4 ∧ 4 < 4 + 1 from by decide) hh) | 5, _, hh => exact rfl | 6, _, hh => exact rfl | 7, _, hh => exact rfl | (b_ + 8), h_, _ => exact absurd h_ (by omega)
   cbv
   replace h := of_req h
   obtain ⟨c26, h⟩ := h
   refine ⟨⟨c26, trivial⟩, ?_⟩
   replace h := of_req h
   obtain ⟨c34, h⟩ := h
   replace h := of_let h
   obtain ⟨l27, hl27, h⟩ := h
   refine And.intro (by first | exact (by subst hA; exact idx_lt c26) | (refine And.intro (by subst hA; exact idx_lt c26) ?_; first | trivial | exact ⟨trivial, trivial⟩)) ?_
   refine ⟨_, rfl, _, row GD (encInstance) l27, rfl, ?_, ?_⟩
   ·subst hGD hLEN hA
    rw [c34] at c26
    refine upd_set hl27 (idx_lt c26) ?_ ?_
    ·intro b hb hh
     match b, hb, hh with | 0, _, hh => exact (absurd hh (show ¬ (5 ≤ 0 ∧ 0 < 5 + 1) from by decide)) | 1, _, hh => exact (absurd hh (show ¬ (5 ≤ 1 ∧ 1 < 5 + 1) from by decide)) | 2, _, hh => exact (absurd hh (show ¬ (5 ≤ 2 ∧ 2 < 5 + 1) from by decide)) | 3, _, hh => exact (absurd hh (show ¬ (5 ≤ 3 ∧ 3 < 5 + 1) from by decide)) | 4, _, hh => exact (absurd hh (show ¬ (5 ≤ 4 ∧ 4 < 5 + 1) from by decide)) | 5, _, hh => exact rfl | 6, _, hh => exact (absurd hh (show ¬ (5 ≤ 6 ∧ 6 < 5 + 1) from by decide)) | 7, _, hh => exact (absurd hh (show ¬ (5 ≤ 7 ∧ 7 < 5 + 1) from by decide)) | (b_ + 8), h_, _ => exact absurd h_ (by omega)
    ·intro b hb hh
     match b, hb, hh with | 0, _, hh => exact rfl | 1, _, hh => exact rfl | 2, _, hh => exact rfl | 3, _, hh => exact rfl | 4, _, hh => exact rfl | 5, _, hh => exact (absurd (show 5 ≤ 5 ∧ 5 < 5 + 1 from by decide) hh) | 6, _, hh => exact rfl | 7, _, hh => exact rfl | (b_ + 8), h_, _ => exact absurd h_ (by omega)
   cbv
   replace h := of_req h
   obtain ⟨c28, h⟩ := h
   refine ⟨⟨c28, trivial⟩, ?_⟩
   replace h := of_req h
   obtain ⟨c33, h⟩ := h
   replace h := of_let h
   obtain ⟨l29, hl29, h⟩ := h
   refine And.intro (by first | exact (by subst hA; exact idx_lt c28) | (refine And.intro (by subst hA; exact idx_lt c28) ?_; first | trivial | exact ⟨trivial, trivial⟩)) ?_
   refine ⟨_, rfl, _, row GD (encInstance) l29, rfl, ?_, ?_⟩
   ·subst hGD hLEN hA
    rw [c33] at c28
    refine upd_set hl29 (idx_lt c28) ?_ ?_
    ·intro b hb hh
     match b, hb, hh with | 0, _, hh => exact (absurd hh (show ¬ (6 ≤ 0 ∧ 0 < 6 + 1) from by decide)) | 1, _, hh => exact (absurd hh (show ¬ (6 ≤ 1 ∧ 1 < 6 + 1) from by decide)) | 2, _, hh => exact (absurd hh (show ¬ (6 ≤ 2 ∧ 2 < 6 + 1) from by decide)) | 3, _, hh => exact (absurd hh (show ¬ (6 ≤ 3 ∧ 3 < 6 + 1) from by decide)) | 4, _, hh => exact (absurd hh (show ¬ (6 ≤ 4 ∧ 4 < 6 + 1) from by decide)) | 5, _, hh => exact (absurd hh (show ¬ (6 ≤ 5 ∧ 5 < 6 + 1) from by decide)) | 6, _, hh => exact rfl | 7, _, hh => exact (absurd hh (show ¬ (6 ≤ 7 ∧ 7 < 6 + 1) from by decide)) | (b_ + 8), h_, _ => exact absurd h_ (by omega)
    ·intro b hb hh
     match b, hb, hh with | 0, _, hh => exact rfl | 1, _, hh => exact rfl | 2, _, hh => exact rfl | 3, _, hh => exact rfl | 4, _, hh => exact rfl | 5, _, hh => exact rfl | 6, _, hh => exact (absurd (show 6 ≤ 6 ∧ 6 < 6 + 1 from by decide) hh) | 7, _, hh => exact rfl | (b_ + 8), h_, _ => exact absurd h_ (by omega)
   cbv
   replace h := of_req h
   obtain ⟨c30, h⟩ := h
   refine ⟨⟨c30, trivial⟩, ?_⟩
   replace h := of_req h
   obtain ⟨c32, h⟩ := h
   replace h := of_let h
   obtain ⟨l31, hl31, h⟩ := h
   refine And.intro (by first | exact (by subst hA; exact idx_lt c30) | (refine And.intro (by subst hA; exact idx_lt c30) ?_; first | trivial | exact ⟨trivial, trivial⟩)) ?_
   refine ⟨_, rfl, _, row GD (encInstance) l31, rfl, ?_, ?_⟩
   ·subst hGD hLEN hA
    rw [c32] at c30
    refine upd_set hl31 (idx_lt c30) ?_ ?_
    ·intro b hb hh
     match b, hb, hh with | 0, _, hh => exact (absurd hh (show ¬ (7 ≤ 0 ∧ 0 < 7 + 1) from by decide)) | 1, _, hh => exact (absurd hh (show ¬ (7 ≤ 1 ∧ 1 < 7 + 1) from by decide)) | 2, _, hh => exact (absurd hh (show ¬ (7 ≤ 2 ∧ 2 < 7 + 1) from by decide)) | 3, _, hh => exact (absurd hh (show ¬ (7 ≤ 3 ∧ 3 < 7 + 1) from by decide)) | 4, _, hh => exact (absurd hh (show ¬ (7 ≤ 4 ∧ 4 < 7 + 1) from by decide)) | 5, _, hh => exact (absurd hh (show ¬ (7 ≤ 5 ∧ 5 < 7 + 1) from by decide)) | 6, _, hh => exact (absurd hh (show ¬ (7 ≤ 6 ∧ 6 < 7 + 1) from by decide)) | 7, _, hh => exact rfl | (b_ + 8), h_, _ => exact absurd h_ (by omega)
    ·intro b hb hh
     match b, hb, hh with | 0, _, hh => exact rfl | 1, _, hh => exact rfl | 2, _, hh => exact rfl | 3, _, hh => exact rfl | 4, _, hh => exact rfl | 5, _, hh => exact rfl | 6, _, hh => exact rfl | 7, _, hh => exact (absurd (show 7 ≤ 7 ∧ 7 < 7 + 1 from by decide) hh) | (b_ + 8), h_, _ => exact absurd h_ (by omega)
   cbv
   injection h with h
   refine hK10 _ h.symm _ ?_
   exact le_sparse rfl ⟨lR _, lR _, lR _, trivial⟩ ⟨oS, trivial⟩ rfl
  ·replace h := of_br_f b40 h
   cbv
   injection h with h
   refine hY8 _ h.symm _ _ (And.intro rfl ?_) (by intro hh; cases hh)
   exact le_sparse rfl ⟨lR _, trivial⟩ ⟨oS, trivial⟩ rfl
 ·clear hr6
  have h := hN7
  clear hN7
  intro e14 s15 q13 hne
  replace h := of_let h
  obtain ⟨y5k0, hyk, h⟩ := h
  have hyk : y5k0 = y5 := hyk
  subst hyk
  obtain ⟨rfl, q13⟩ := q13
  obtain ⟨y5k0_0, y5k0_1⟩ := y5k0
  replace h := of_let h
  obtain ⟨w41, hw41, h⟩ := h
  have hw41 : w41 = y5k0_0 := hw41
  subst hw41
  replace h := of_let h
  obtain ⟨w42, hw42, h⟩ := h
  have hw42 : w42 = y5k0_1 := hw42
  subst hw42
  cbv
  refine ⟨_, q13, ?_⟩
  cbv
  replace h := of_req h
  obtain ⟨c43, h⟩ := h
  injection h with h
  subst h
  refine ⟨(sparse 72 [(4, .c (.v (.int .i64 w41)))] [(5, .arr .rw [] (LEN w42) 8 (row GD (encInstance) w42))]), ?_, ?_⟩
  ·rw [c43]
   exact le_sparse rfl ⟨lR _, trivial⟩ ⟨oS, trivial⟩ rfl
  ·exact ⟨lR _, ⟨oS, trivial⟩, rfl⟩

noncomputable def L_laws_markCellS_mob_x4 (a0 : List TCell) : (Int × Int × (List TCell)) → Option ((Int × Int × (List TCell)) ⊕ ((Int × (List TCell)))) := fun x4 =>
 letO x4.1 fun v1 =>
 letO x4.2.1 fun v2 =>
 letO x4.2.2 fun v3 =>
 br (std.lt v2 (std.ofN (len a0)))
 (((
    (F_laws_markText v1).bind fun y23 =>
    req (std.inR v2 (len a0)) <|
    req (len a0 = len v3) <|
    letO (List.set v3 (std.nadd 0 (std.toN v2)) (TCell.mk y23 (gd v3 (std.nadd 0 (std.toN v2))).fShapes (gd v3 (std.nadd 0 (std.toN v2))).fLabels (gd v3 (std.nadd 0 (std.toN v2))).fInstances)) fun l26 =>
    some l26
  ) : Option ((List TCell))).bind fun y16 =>
 letO y16 fun w22 =>
 ((
    req (std.inR v2 (len a0)) <|
    (F_laws_markShapeS_mob (gd w22 (std.nadd 0 (std.toN v2))).fShapes (std.add .i64 v1 1)).bind fun y37 =>
    req (len y37.2 = len (gd w22 (std.nadd 0 (std.toN v2))).fShapes) <|
    req (len a0 = len w22) <|
    letO (List.set w22 (std.nadd 0 (std.toN v2)) (TCell.mk (gd w22 (std.nadd 0 (std.toN v2))).fName y37.2 (gd w22 (std.nadd 0 (std.toN v2))).fLabels (gd w22 (std.nadd 0 (std.toN v2))).fInstances)) fun l39 =>
    some (y37.1, l39)
  ) : Option (Int × (List TCell))).bind fun y28 =>
 letO y28.1 fun w34 =>
 letO y28.2 fun w35 =>
 ((
    req (std.inR v2 (len a0)) <|
    (F_laws_markLabelS_mob (gd w35 (std.nadd 0 (std.toN v2))).fLabels w34).bind fun y51 =>
    req (len y51.2 = len (gd w35 (std.nadd 0 (std.toN v2))).fLabels) <|
    req (len a0 = len w35) <|
    letO (List.set w35 (std.nadd 0 (std.toN v2)) (TCell.mk (gd w35 (std.nadd 0 (std.toN v2))).fName (gd w35 (std.nadd 0 (std.toN v2))).fShapes y51.2 (gd w35 (std.nadd 0 (std.toN v2))).fInstances)) fun l53 =>
    some (y51.1, l53)
  ) : Option (Int × (List TCell))).bind fun y42 =>
 letO y42.1 fun w48 =>
 letO y42.2 fun w49 =>
 ((
    req (std.inR v2 (len a0)) <|
    (F_laws_markInstanceS_mob (gd w49 (std.nadd 0 (std.toN v2))).fInstances w48).bind fun y65 =>
    req (len y65.2 = len (gd w49 (std.nadd 0 (std.toN v2))).fInstances) <|
    req (len a0 = len w49) <|
    letO (List.set w49 (std.nadd 0 (std.toN v2)) (TCell.mk (gd w49 (std.nadd 0 (std.toN v2))).fName (gd w49 (std.nadd 0 (std.toN v2))).fShapes (gd w49 (std.nadd 0 (std.toN v2))).fLabels y65.2)) fun l67 =>
    some (y65.1, l67)
  ) : Option (Int × (List TCell))).bind fun y56 =>
 letO y56.1 fun w62 =>
 letO y56.2 fun w63 =>
 some (.inl (w62, std.add .i64 v2 1, w63)))
 (some (.inr (v1, v3)))
/-- laws.markCellS -/
noncomputable def F_laws_markCellS_mob (a0 : List TCell) (a1 : Int) : Option (Int × (List TCell)) :=
 (whileP (σ := Int × Int × (List TCell)) (ρ := (Int × (List TCell))) (L_laws_markCellS_mob_x4 a0) (a1, 0, a0)).bind fun y5 =>
 letO y5 fun y5k0 =>
 letO y5k0.1 fun w71 =>
 letO y5k0.2 fun w72 =>
 req (len a0 = len w72) <|
 some (w71, w72)
theorem run_laws_markCellS_mob (a0 : List TCell) (a1 : Int) (r : Int × (List TCell)) (h : F_laws_markCellS_mob a0 a1 = some r) : Fun Tryz.prog 40 [.c (.os 5 0 (len a0)), .c (.v (.int .i64 a1))] [(5, .arr .rw [] (len a0) 4 (row gd (oncCell len gd) a0))] (.c (.v (.int .i64 r.1))) [(5, .arr .rw [] (len r.2) 4 (row gd (oncCell len gd) r.2))] true := by
 refine Fun.of_wp (oneOf [4, 6, 7, 8]) tok mixed Tryz.func40 (by kernel_rfl) rfl Tryz.ntmps40 rfl ⟨fun i _ j _ k hk => (noref (rf_oncCell _ _) hk).elim, trivial⟩ (fun _ => ⟨trivial, ⟨fun i _ j _ => fl_oncCell _ _, trivial⟩⟩) ?_
 unfold F_laws_markCellS_mob at h
 unfold L_laws_markCellS_mob_x4 at h
 have hf_laws_markInstanceS_mob := @run_laws_markInstanceS_mob
 have hf_laws_markLabelS_mob := @run_laws_markLabelS_mob
 have hf_laws_markShapeS_mob := @run_laws_markShapeS_mob
 have hf_laws_markText := @run_laws_markText
 generalize hLEN : @len = LEN at *
 generalize hGD : @gd = GD at *
 generalize hA : std = A at *
 generalize hP : Tryz.prog = P at *
 cbv
 replace h := of_bind h
 obtain ⟨y5, hr6, hN7⟩ := h
 refine loop_cut hr6 (fun x => (sparse 42 [(0, .c (.os 5 0 (LEN a0))), (1, .c (.v (.int .i64 x.1))), (5, .c (.v (.int .i64 x.2.1)))] [(5, .arr .rw [] (LEN a0) 4 (row GD (oncCell LEN GD) x.2.2))])) ?_ (fun y e s => (fun (w : Int × (List TCell)) => e = .exit 0 ∧ s.le (sparse 42 [(1, .c (.v (.int .i64 w.1)))] [(5, .arr .rw [] (LEN a0) 4 (row GD (oncCell LEN GD) w.2))])) y) ?_ ?_
 ·clear hr6 hN7
  show St.le _ _
  exact le_sparse rfl ⟨lR _, lR _, lR _, trivial⟩ ⟨oS, trivial⟩ rfl
 ·clear hr6 hN7
  intro x z11 h K9 hK10 hY8
  obtain ⟨x0_, x1_, x2_⟩ := x
  replace h := of_let h
  obtain ⟨v1, hv1, h⟩ := h
  have hv1 : v1 = x0_ := hv1
  subst hv1
  replace h := of_let h
  obtain ⟨v2, hv2, h⟩ := h
  have hv2 : v2 = x1_ := hv2
  subst hv2
  replace h := of_let h
  obtain ⟨v3, hv3, h⟩ := h
  have hv3 : v3 = x2_ := hv3
  subst hv3
  cbv
  refine fork (fun b70 => ?_) (fun b70 => ?_)
  ·replace h := of_br_t b70 h
   cbv
   replace h := of_bind h
   obtain ⟨y16, hy17, h⟩ := h
   obtain ⟨S20, hS21⟩ : ∃ S, S = (sparse 42 [(0, .c (.os 5 0 (LEN a0))), (1, .c (.v (.int .i64 v1))), (5, .c (.v (.int .i64 v2)))] [(5, .arr .rw [] (LEN a0) 4 (row GD (oncCell LEN GD) y16))]) := ⟨_, rfl⟩
   refine ⟨S20, ?_, ?_⟩
   ·clear h
    have h := hy17
    clear hy17
    cbv
    replace h := of_bind h
    obtain ⟨y23, hy24, h⟩ := h
    refine ⟨{ args := [.c (.v (.int .i64 v1))], o0 := [], r := .c (.v (.string y23)), o1 := [], fl := true, σ := [], τ := [] }, hf_laws_markText _ _ hy24, ⟨les_cons (lR _) (les_nil), trivial, rfl, rfl, rfl, rfl, trivial, rfl⟩, ?_⟩
    cbv
    replace h := of_req h
    obtain ⟨c25, h⟩ := h
    refine ⟨⟨c25, trivial⟩, ?_⟩
    refine And.intro (by first | exact (by subst hA; exact idx_lt c25) | (refine And.intro (by subst hA; exact idx_lt c25) ?_; first | trivial | exact ⟨trivial, trivial⟩)) ?_
    refine ⟨_, rfl, _, (patchC (row GD (oncCell LEN GD) v3) (A.nadd 0 (A.toN v2)) [.v (.string y23), .ow (LEN (GD v3 (A.nadd 0 (A.toN v2))).fShapes) 5 (row GD (encShape) (GD v3 (A.nadd 0 (A.toN v2))).fShapes), .ow (LEN (GD v3 (A.nadd 0 (A.toN v2))).fLabels) 4 (row GD (encLabel) (GD v3 (A.nadd 0 (A.toN v2))).fLabels), .ow (LEN (GD v3 (A.nadd 0 (A.toN v2))).fInstances) 8 (row GD (encInstance) (GD v3 (A.nadd 0 (A.toN v2))).fInstances)]), rfl, ?_, ?_⟩
    ·refine patch_of ?_
     intro j hj
     match j, hj with | 0, _ => (rfl) | 1, _ => (rfl) | 2, _ => (rfl) | 3, _ => (rfl) | (j_ + 4), h_ => exact absurd h_ (by omega)
    cbv
    replace h := of_req h
    obtain ⟨c27, h⟩ := h
    replace h := of_let h
    obtain ⟨l26, hl26, h⟩ := h
    injection h with h
    subst h
    subst hS21
    show St.le _ _
    exact le_sparse rfl ⟨lR _, lR _, lR _, trivial⟩ ⟨⟨fun hw => hw, fun c hc => (by cases hc), .inr (fun i _ j _ z hz => (noref (rf_oncCell _ _) hz).elim), rfl, rfl, (by subst hGD hLEN hA; exact patch_set hl26 (idx_lt (by rw [← c27]; exact c25)) (by intro j hj; match j, hj with | 0, _ => rfl | 1, _ => rfl | 2, _ => rfl | 3, _ => rfl | (j_ + 4), h_ => exact absurd h_ (by omega)))⟩, trivial⟩ rfl
   ·clear hy17
    subst hS21
    replace h := of_let h
    obtain ⟨w22, hw22, h⟩ := h
    have hw22 : w22 = y16 := hw22
    subst hw22
    cbv
    replace h := of_bind h
    obtain ⟨y28, hy29, h⟩ := h
    obtain ⟨S32, hS33⟩ : ∃ S, S = (sparse 42 [(0, .c (.os 5 0 (LEN a0))), (1, .c (.v (.int .i64 y28.1))), (5, .c (.v (.int .i64 v2)))] [(5, .arr .rw [] (LEN a0) 4 (row GD (oncCell LEN GD) y28.2))]) := ⟨_, rfl⟩
    refine ⟨S32, ?_, ?_⟩
    ·clear h
     have h := hy29
     clear hy29
     cbv
     replace h := of_req h
     obtain ⟨c36, h⟩ := h
     refine ⟨⟨c36, trivial⟩, ?_⟩
     refine And.intro (by first | exact (by subst hA; exact idx_lt c36) | (refine And.intro (by subst hA; exact idx_lt c36) ?_; first | trivial | exact ⟨trivial, trivial⟩)) ?_
     refine ⟨_, rfl, _, (patchC (row GD (oncCell LEN GD) w22) (A.nadd 0 (A.toN v2)) [.v (.string (GD w22 (A.nadd 0 (A.toN v2))).fName), .os 1538 0 (LEN (GD w22 (A.nadd 0 (A.toN v2))).fShapes), .ow (LEN (GD w22 (A.nadd 0 (A.toN v2))).fLabels) 4 (row GD (encLabel) (GD w22 (A.nadd 0 (A.toN v2))).fLabels), .ow (LEN (GD w22 (A.nadd 0 (A.toN v2))).fInstances) 8 (row GD (encInstance) (GD w22 (A.nadd 0 (A.toN v2))).fInstances)]), rfl, ?_, ?_⟩
     ·refine patch_of ?_
      intro j hj
      match j, hj with | 0, _ => (rfl) | 1, _ => (rfl) | 2, _ => (rfl) | 3, _ => (rfl) | (j_ + 4), h_ => exact absurd h_ (by omega)
     refine ⟨_, row GD (encShape) (GD w22 (A.nadd 0 (A.toN v2))).fShapes, rfl, ?_, ?_⟩
     ·exact fun i _ j _ => plain_cp (pl_encShape _ _)
     cbv
     replace h := of_bind h
     obtain ⟨y37, hy38, h⟩ := h
     replace h := of_req h
     obtain ⟨c41, h⟩ := h
     refine ⟨{ args := [.c (.os 5 0 (LEN (GD w22 (A.nadd 0 (A.toN v2))).fShapes)), .c (.v (.int .i64 (A.add .i64 v1 1)))], o0 := [(5, .arr .rw [] (LEN (GD w22 (A.nadd 0 (A.toN v2))).fShapes) 5 (row GD (encShape) (GD w22 (A.nadd 0 (A.toN v2))).fShapes))], r := .c (.v (.int .i64 y37.1)), o1 := [(5, .arr .rw [] (LEN y37.2) 5 (row GD (encShape) y37.2))], fl := true, σ := [(5, 1538)], τ := [(5, 1538)] }, hf_laws_markShapeS_mob _ _ _ hy38, ⟨les_cons (lR _) (les_cons (lR _) (les_nil)), ⟨oS, trivial⟩, rfl, rfl, rfl, rfl, ⟨fun _ => ⟨c41.symm, rfl, fun c h => h⟩, trivial⟩, rfl⟩, _, rfl, LEN (GD w22 (A.nadd 0 (A.toN v2))).fShapes, _, c41, fun _ _ _ _ => rfl, ?_⟩
     cbv
     replace h := of_req h
     obtain ⟨c40, h⟩ := h
     replace h := of_let h
     obtain ⟨l39, hl39, h⟩ := h
     injection h with h
     subst h
     subst hS33
     show St.le _ _
     refine St.le_trans (le_foldP 5 1 1538 rfl rfl rfl (by decide) (by subst hA; exact idx_lt c36) (by decide) rfl (fun _ _ => rf_oncCell _ _)) ?_
     exact le_sparse rfl ⟨lR _, lR _, lR _, trivial⟩ ⟨⟨fun hw => hw, fun c hc => (by cases hc), .inr (fun i _ j _ z hz => (noref (rf_oncCell _ _) hz).elim), rfl, rfl, (by subst hGD hLEN hA; exact patch_set hl39 (idx_lt (by rw [← c40]; exact c36)) (by intro j hj; match j, hj with | 0, _ => rfl | 1, _ => exact (by first | rfl | exact congrArg (fun n => AC.ow n _ _) (Eq.symm (by assumption))) | 2, _ => rfl | 3, _ => rfl | (j_ + 4), h_ => exact absurd h_ (by omega)))⟩, trivial⟩ rfl
    ·clear hy29
     subst hS33
     obtain ⟨y28_0, y28_1⟩ := y28
     replace h := of_let h
     obtain ⟨w34, hw34, h⟩ := h
     have hw34 : w34 = y28_0 := hw34
     subst hw34
     replace h := of_let h
     obtain ⟨w35, hw35, h⟩ := h
     have hw35 : w35 = y28_1 := hw35
     subst hw35
     cbv
     replace h := of_bind h
     obtain ⟨y42, hy43, h⟩ := h
     obtain ⟨S46, hS47⟩ : ∃ S, S = (sparse 42 [(0, .c (.os 5 0 (LEN a0))), (1, .c (.v (.int .i64 y42.1))), (5, .c (.v (.int .i64 v2)))] [(5, .arr .rw [] (LEN a0) 4 (row GD (oncCell LEN GD) y42.2))]) := ⟨_, rfl⟩
     refine ⟨S46, ?_, ?_⟩
     ·clear h
      have h := hy43
      clear hy43
      cbv
      replace h := of_req h
      obtain ⟨c50, h⟩ := h
      refine ⟨⟨c50, trivial⟩, ?_⟩
      refine And.intro (by first | exact (by subst hA; exact idx_lt c50) | (refine And.intro (by subst hA; exact idx_lt c50) ?_; first | trivial | exact ⟨trivial, trivial⟩)) ?_
      refine ⟨_, rfl, _, (patchC (row GD (oncCell LEN GD) w35) (A.nadd 0 (A.toN v2)) [.v (.string (GD w35 (A.nadd 0 (A.toN v2))).fName), .ow (LEN (GD w35 (A.nadd 0 (A.toN v2))).fShapes) 5 (row GD (encShape) (GD w35 (A.nadd 0 (A.toN v2))).fShapes), .os 1986 0 (LEN (GD w35 (A.nadd 0 (A.toN v2))).fLabels), .ow (LEN (GD w35 (A.nadd 0 (A.toN v2))).fInstances) 8 (row GD (encInstance) (GD w35 (A.nadd 0 (A.toN v2))).fInstances)]), rfl, ?_, ?_⟩
      ·refine patch_of ?_
       intro j hj
       match j, hj with | 0, _ => (rfl) | 1, _ => (rfl) | 2, _ => (rfl) | 3, _ => (rfl) | (j_ + 4), h_ => exact absurd h_ (by omega)
      refine ⟨_, row GD (encLabel) (GD w35 (A.nadd 0 (A.toN v2))).fLabels, rfl, ?_, ?_⟩
      ·exact fun i _ j _ => plain_cp (pl_encLabel _ _)
      cbv
      replace h := of_bind h
      obtain ⟨y51, hy52, h⟩ := h
      replace h := of_req h
      obtain ⟨c55, h⟩ := h
      refine ⟨{ args := [.c (.os 5 0 (LEN (GD w35 (A.nadd 0 (A.toN v2))).fLabels)), .c (.v (.int .i64 w34))], o0 := [(5, .arr .rw [] (LEN (GD w35 (A.nadd 0 (A.toN v2))).fLabels) 4 (row GD (encLabel) (GD w35 (A.nadd 0 (A.toN v2))).fLabels))], r := .c (.v (.int .i64 y51.1)), o1 := [(5, .arr .rw [] (LEN y51.2) 4 (row GD (encLabel) y51.2))], fl := true, σ := [(5, 1986)], τ := [(5, 1986)] }, hf_laws_markLabelS_mob _ _ _ hy52, ⟨les_cons (lR _) (les_cons (lR _) (les_nil)), ⟨oS, trivial⟩, rfl, rfl, rfl, rfl, ⟨fun _ => ⟨c55.symm, rfl, fun c h => h⟩, trivial⟩, rfl⟩, _, rfl, LEN (GD w35 (A.nadd 0 (A.toN v2))).fLabels, _, c55, fun _ _ _ _ => rfl, ?_⟩
      cbv
      replace h := of_req h
      obtain ⟨c54, h⟩ := h
      replace h := of_let h
      obtain ⟨l53, hl53, h⟩ := h
      injection h with h
      subst h
      subst hS47
      show St.le _ _
      refine St.le_trans (le_foldP 5 2 1986 rfl rfl rfl (by decide) (by subst hA; exact idx_lt c50) (by decide) rfl (fun _ _ => rf_oncCell _ _)) ?_
      exact le_sparse rfl ⟨lR _, lR _, lR _, trivial⟩ ⟨⟨fun hw => hw, fun c hc => (by cases hc), .inr (fun i _ j _ z hz => (noref (rf_oncCell _ _) hz).elim), rfl, rfl, (by subst hGD hLEN hA; exact patch_set hl53 (idx_lt (by rw [← c54]; exact c50)) (by intro j hj; match j, hj with | 0, _ => rfl | 1, _ => rfl | 2, _ => exact (by first | rfl | exact congrArg (fun n => AC.ow n _ _) (Eq.symm (by assumption))) | 3, _ => rfl | (j_ + 4), h_ => exact absurd h_ (by omega)))⟩, trivial⟩ rfl
     ·clear hy43
      subst hS47
      obtain ⟨y42_0, y42_1⟩ := y42
      replace h := of_let h
      obtain ⟨w48, hw48, h⟩ := h
      have hw48 : w48 = y42_0 := hw48
      subst hw48
      replace h := of_let h
      obtain ⟨w49, hw49, h⟩ := h
      have hw49 : w49 = y42_1 := hw49
      subst hw49
      cbv
      replace h := of_bind h
      obtain ⟨y56, hy57, h⟩ := h
      obtain ⟨S60, hS61⟩ : ∃ S, S = (sparse 42 [(0, .c (.os 5 0 (LEN a0))), (1, .c (.v (.int .i64 y56.1))), (5, .c (.v (.int .i64 v2)))] [(5, .arr .rw [] (LEN a0) 4 (row GD (oncCell LEN GD) y56.2))]) := ⟨_, rfl⟩
      refine ⟨S60, ?_, ?_⟩
      ·clear h
       have h := hy57
       clear hy57
       cbv
       replace h := of_req h
       obtain ⟨c64, h⟩ := h
       refine ⟨⟨c64, trivial⟩, ?_⟩
       refine And.intro (by first | exact (by subst hA; exact idx_lt c64) | (refine And.intro (by subst hA; exact idx_lt c64) ?_; first | trivial | exact ⟨trivial, trivial⟩)) ?_
       refine ⟨_, rfl, _, (patchC (row GD (oncCell LEN GD) w49) (A.nadd 0 (A.toN v2)) [.v (.string (GD w49 (A.nadd 0 (A.toN v2))).fName), .ow (LEN (GD w49 (A.nadd 0 (A.toN v2))).fShapes) 5 (row GD (encShape) (GD w49 (A.nadd 0 (A.toN v2))).fShapes), .ow (LEN (GD w49 (A.nadd 0 (A.toN v2))).fLabels) 4 (row GD (encLabel) (GD w49 (A.nadd 0 (A.toN v2))).fLabels), .os 2434 0 (LEN (GD w49 (A.nadd 0 (A.toN v2))).fInstances)]), rfl, ?_, ?_⟩
       ·refine patch_of ?_
        intro j hj
        match j, hj with | 0, _ => (rfl) | 1, _ => (rfl) | 2, _ => (rfl) | 3, _ => (rfl) | (j_ + 4), h_ => exact absurd h_ (by omega)
       refine ⟨_, row GD (encInstance) (GD w49 (A.nadd 0 (A.toN v2))).fInstances, rfl, ?_, ?_⟩
       ·exact fun i _ j _ => plain_cp (pl_encInstance _ _)
       cbv
       replace h := of_bind h
       obtain ⟨y65, hy66, h⟩ := h
       replace h := of_req h
       obtain ⟨c69, h⟩ := h
       refine ⟨{ args := [.c (.os 5 0 (LEN (GD w49 (A.nadd 0 (A.toN v2))).fInstances)), .c (.v (.int .i64 w48))], o0 := [(5, .arr .rw [] (LEN (GD w49 (A.nadd 0 (A.toN v2))).fInstances) 8 (row GD (encInstance) (GD w49 (A.nadd 0 (A.toN v2))).fInstances))], r := .c (.v (.int .i64 y65.1)), o1 := [(5, .arr .rw [] (LEN y65.2) 8 (row GD (encInstance) y65.2))], fl := true, σ := [(5, 2434)], τ := [(5, 2434)] }, hf_laws_markInstanceS_mob _ _ _ hy66, ⟨les_cons (lR _) (les_cons (lR _) (les_nil)), ⟨oS, trivial⟩, rfl, rfl, rfl, rfl, ⟨fun _ => ⟨c69.symm, rfl, fun c h => h⟩, trivial⟩, rfl⟩, _, rfl, LEN (GD w49 (A.nadd 0 (A.toN v2))).fInstances, _, c69, fun _ _ _ _ => rfl, ?_⟩
       cbv
       replace h := of_req h
       obtain ⟨c68, h⟩ := h
       replace h := of_let h
       obtain ⟨l67, hl67, h⟩ := h
       injection h with h
       subst h
       subst hS61
       show St.le _ _
       refine St.le_trans (le_foldP 5 3 2434 rfl rfl rfl (by decide) (by subst hA; exact idx_lt c64) (by decide) rfl (fun _ _ => rf_oncCell _ _)) ?_
       exact le_sparse rfl ⟨lR _, lR _, lR _, trivial⟩ ⟨⟨fun hw => hw, fun c hc => (by cases hc), .inr (fun i _ j _ z hz => (noref (rf_oncCell _ _) hz).elim), rfl, rfl, (by subst hGD hLEN hA; exact patch_set hl67 (idx_lt (by rw [← c68]; exact c64)) (by intro j hj; match j, hj with | 0, _ => rfl | 1, _ => rfl | 2, _ => rfl | 3, _ => exact (by first | rfl | exact congrArg (fun n => AC.ow n _ _) (Eq.symm (by assumption))) | (j_ + 4), h_ => exact absurd h_ (by omega)))⟩, trivial⟩ rfl
      ·clear hy57
       subst hS61
       obtain ⟨y56_0, y56_1⟩ := y56
       replace h := of_let h
       obtain ⟨w62, hw62, h⟩ := h
       have hw62 : w62 = y56_0 := hw62
       subst hw62
       replace h := of_let h
       obtain ⟨w63, hw63, h⟩ := h
       have hw63 : w63 = y56_1 := hw63
       subst hw63
       cbv
       injection h with h
       refine hK10 _ h.symm _ ?_
       exact le_sparse rfl ⟨lR _, lR _, lR _, trivial⟩ ⟨oS, trivial⟩ rfl
  ·replace h := of_br_f b70 h
   cbv
   injection h with h
   refine hY8 _ h.symm _ _ (And.intro rfl ?_) (by intro hh; cases hh)
   exact le_sparse rfl ⟨lR _, trivial⟩ ⟨oS, trivial⟩ rfl
 ·clear hr6
  have h := hN7
  clear hN7
  intro e14 s15 q13 hne
  replace h := of_let h
  obtain ⟨y5k0, hyk, h⟩ := h
  have hyk : y5k0 = y5 := hyk
  subst hyk
  obtain ⟨rfl, q13⟩ := q13
  obtain ⟨y5k0_0, y5k0_1⟩ := y5k0
  replace h := of_let h
  obtain ⟨w71, hw71, h⟩ := h
  have hw71 : w71 = y5k0_0 := hw71
  subst hw71
  replace h := of_let h
  obtain ⟨w72, hw72, h⟩ := h
  have hw72 : w72 = y5k0_1 := hw72
  subst hw72
  cbv
  refine ⟨_, q13, ?_⟩
  cbv
  replace h := of_req h
  obtain ⟨c73, h⟩ := h
  injection h with h
  subst h
  refine ⟨(sparse 42 [(4, .c (.v (.int .i64 w71)))] [(5, .arr .rw [] (LEN w72) 4 (row GD (oncCell LEN GD) w72))]), ?_, ?_⟩
  ·rw [c73]
   exact le_sparse rfl ⟨lR _, trivial⟩ ⟨oS, trivial⟩ rfl
  ·exact ⟨lR _, ⟨oS, trivial⟩, rfl⟩
/-- laws.markLibrary -/
noncomputable def F_laws_markLibrary_mob (a0 : TLibrary) (a1 : Int) : Option (Int × (List TCell)) :=
 (F_laws_markCellS_mob a0.fCells a1).bind fun y1 =>
 req (len y1.2 = len a0.fCells) <|
 req (len a0.fCells = len y1.2) <|
 some (y1.1, y1.2)
theorem run_laws_markLibrary_mob (a0 : TLibrary) (a1 : Int) (r : Int × (List TCell)) (h : F_laws_markLibrary_mob a0 a1 = some r) : Fun Tryz.prog 13 [.agg [.os 5 0 (len a0.fCells)], .c (.v (.int .i64 a1))] [(5, .arr .rw [] (len a0.fCells) 4 (row gd (oncCell len gd) a0.fCells))] (.c (.v (.int .i64 r.1))) [(5, .arr .rw [] (len r.2) 4 (row gd (oncCell len gd) r.2))] true := by
 refine Fun.of_wp (oneOf []) tok mixed Tryz.func13 (by kernel_rfl) rfl Tryz.ntmps13 rfl ⟨fun i _ j _ k hk => (noref (rf_oncCell _ _) hk).elim, trivial⟩ (fun _ => ⟨trivial, ⟨fun i _ j _ => fl_oncCell _ _, trivial⟩⟩) ?_
 unfold F_laws_markLibrary_mob at h
 have hf_laws_markCellS_mob := @run_laws_markCellS_mob
 generalize hLEN : @len = LEN at *
 generalize hGD : @gd = GD at *
 generalize hA : std = A at *
 generalize hP : Tryz.prog = P at *
 cbv
 replace h := of_bind h
 obtain ⟨y1, hy2, h⟩ := h
 replace h := of_req h
 obtain ⟨c4, h⟩ := h
 refine ⟨{ args := [.c (.os 5 0 (LEN a0.fCells)), .c (.v (.int .i64 a1))], o0 := [(5, .arr .rw [] (LEN a0.fCells) 4 (row GD (oncCell LEN GD) a0.fCells))], r := .c (.v (.int .i64 y1.1)), o1 := [(5, .arr .rw [] (LEN y1.2) 4 (row GD (oncCell LEN GD) y1.2))], fl := true, σ := [(5, 5)], τ := [(5, 5)] }, hf_laws_markCellS_mob _ _ _ hy2, ⟨les_cons (lR _) (les_cons (lR _) (les_nil)), ⟨oS, trivial⟩, rfl, rfl, rfl, rfl, ⟨fun _ => ⟨c4.symm, rfl, fun c h => h⟩, trivial⟩, rfl⟩, _, rfl, LEN a0.fCells, _, c4, fun _ _ _ _ => rfl, ?_⟩
 cbv
 replace h := of_req h
 obtain ⟨c3, h⟩ := h
 injection h with h
 subst h
 refine ⟨(sparse 10 [(4, .c (.v (.int .i64 y1.1)))] [(5, .arr .rw [] (LEN y1.2) 4 (row GD (oncCell LEN GD) y1.2))]), ?_, ?_⟩
 ·rw [c3]
  exact le_sparse rfl ⟨lR _, trivial⟩ ⟨oS, trivial⟩ rfl
 ·exact ⟨lR _, ⟨oS, trivial⟩, rfl⟩

noncomputable def L_laws_markInt64S_mob_x4 (a0 : List Int) : (Int × Int × (List Int)) → Option ((Int × Int × (List Int)) ⊕ ((Int × (List Int)))) := fun x4 =>
 letO x4.1 fun v1 =>
 letO x4.2.1 fun v2 =>
 letO x4.2.2 fun v3 =>
 br (std.lt v2 (std.ofN (len a0)))
 (req (std.inR v2 (len a0)) <|
 req (len a0 = len v3) <|
 letO (List.set v3 (std.nadd 0 (std.toN v2)) v1) fun l17 =>
 some (.inl (std.add .i64 v1 1, std.add .i64 v2 1, l17)))
 (some (.inr (v1, v3)))
/-- laws.markInt64S -/
noncomputable def F_laws_markInt64S_mob (a0 : List Int) (a1 : Int) : Option (Int × (List Int)) :=
 (whileP (σ := Int × Int × (List Int)) (ρ := (Int × (List Int))) (L_laws_markInt64S_mob_x4 a0) (a1, 0, a0)).bind fun y5 =>
 letO y5 fun y5k0 =>
 letO y5k0.1 fun w20 =>
 letO y5k0.2 fun w21 =>
 req (len a0 = len w21) <|
 some (w20, w21)
theorem run_laws_markInt64S_mob (a0 : List Int) (a1 : Int) (r : Int × (List Int)) (h : F_laws_markInt64S_mob a0 a1 = some r) : Fun Tryz.prog 46 [.c (.os 5 0 (len a0)), .c (.v (.int .i64 a1))] [(5, .arr .rw [] (len a0) 1 (row gd (encI .i64) a0))] (.c (.v (.int .i64 r.1))) [(5, .arr .rw [] (len r.2) 1 (row gd (encI .i64) r.2))] true := by
 refine Fun.of_wp (oneOf []) tok mixed Tryz.func46 (by kernel_rfl) rfl Tryz.ntmps46 rfl ⟨fun i _ j _ k hk => (noref (plain_nil (rfl)) hk).elim, trivial⟩ (fun _ => ⟨trivial, ⟨fun i _ j _ => val_flat (rfl), trivial⟩⟩) ?_
 unfold F_laws_markInt64S_mob at h
 unfold L_laws_markInt64S_mob_x4 at h
 generalize hLEN : @len = LEN at *
 generalize hGD : @gd = GD at *
 generalize hA : std = A at *
 generalize hP : Tryz.prog = P at *
 cbv
 replace h := of_bind h
 obtain ⟨y5, hr6, hN7⟩ := h
 refine loop_cut hr6 (fun x => (sparse 19 [(0, .c (.os 5 0 (LEN a0))), (1, .c (.v (.int .i64 x.1))), (5, .c (.v (.int .i64 x.2.1)))] [(5, .arr .rw [] (LEN a0) 1 (row GD (encI .i64) x.2.2))])) ?_ (fun y e s => (fun (w : Int × (List Int)) => e = .exit 0 ∧ s.le (sparse 19 [(1, .c (.v (.int .i64 w.1)))] [(5, .arr .rw [] (LEN a0) 1 (row GD (encI .i64) w.2))])) y) ?_ ?_
 ·clear hr6 hN7
  show St.le _ _
  exact le_sparse rfl ⟨lR _, lR _, lR _, trivial⟩ ⟨oS, trivial⟩ rfl
 ·clear hr6 hN7
  intro x z11 h K9 hK10 hY8
  obtain ⟨x0_, x1_, x2_⟩ := x
  replace h := of_let h
  obtain ⟨v1, hv1, h⟩ := h
  have hv1 : v1 = x0_ := hv1
  subst hv1
  replace h := of_let h
  obtain ⟨v2, hv2, h⟩ := h
  have hv2 : v2 = x1_ := hv2
  subst hv2
  replace h := of_let h
  obtain ⟨v3, hv3, h⟩ := h
  have hv3 : v3 = x2_ := hv3
  subst hv3
  cbv
  refine fork (fun b19 => ?_) (fun b19 => ?_)
  ·replace h := of_br_t b19 h
   cbv
   replace h := of_req h
   obtain ⟨c16, h⟩ := h
   refine ⟨⟨c16, trivial⟩, ?_⟩
   replace h := of_req h
   obtain ⟨c18, h⟩ := h
   replace h := of_let h
   obtain ⟨l17, hl17, h⟩ := h
   refine And.intro (by first | exact (by subst hA; exact idx_lt c16) | (refine And.intro (by subst hA; exact idx_lt c16) ?_; first | trivial | exact ⟨trivial, trivial⟩)) ?_
   refine ⟨_, rfl, _, row GD (encI .i64) l17, rfl, ?_, ?_⟩
   ·subst hGD hLEN hA
    rw [c18] at c16
    refine upd_set hl17 (idx_lt c16) ?_ ?_
    ·intro b hb hh
     match b, hb, hh with | 0, _, hh => exact rfl | (b_ + 1), h_, _ => exact absurd h_ (by omega)
    ·intro b hb hh
     match b, hb, hh with | 0, _, hh => exact (absurd (show 0 ≤ 0 ∧ 0 < 0 + 1 from by decide) hh) | (b_ + 1), h_, _ => exact absurd h_ (by omega)
   cbv
   injection h with h
   refine hK10 _ h.symm _ ?_
   exact le_sparse rfl ⟨lR _, lR _, lR _, trivial⟩ ⟨oS, trivial⟩ rfl
  ·replace h := of_br_f b19 h
   cbv
   injection h with h
   refine hY8 _ h.symm _ _ (And.intro rfl ?_) (by intro hh; cases hh)
   exact le_sparse rfl ⟨lR _, trivial⟩ ⟨oS, trivial⟩ rfl
 ·clear hr6
  have h := hN7
  clear hN7
  intro e14 s15 q13 hne
  replace h := of_let h
  obtain ⟨y5k0, hyk, h⟩ := h
  have hyk : y5k0 = y5 := hyk
  subst hyk
  obtain ⟨rfl, q13⟩ := q13
  obtain ⟨y5k0_0, y5k0_1⟩ := y5k0
  replace h := of_let h
  obtain ⟨w20, hw20, h⟩ := h
  have hw20 : w20 = y5k0_0 := hw20
  subst hw20
  replace h := of_let h
  obtain ⟨w21, hw21, h⟩ := h
  have hw21 : w21 = y5k0_1 := hw21
  subst hw21
  cbv
  refine ⟨_, q13, ?_⟩
  cbv
  replace h := of_req h
  obtain ⟨c22, h⟩ := h
  injection h with h
  subst h
  refine ⟨(sparse 19 [(4, .c (.v (.int .i64 w20)))] [(5, .arr .rw [] (LEN w21) 1 (row GD (encI .i64) w21))]), ?_, ?_⟩
  ·rw [c22]
   exact le_sparse rfl ⟨lR _, trivial⟩ ⟨oS, trivial⟩ rfl
  ·exact ⟨lR _, ⟨oS, trivial⟩, rfl⟩

noncomputable def L_laws_markWindowHitS_mob_x4 (a0 : List TWindowHit) : (Int × Int × (List TWindowHit)) → Option ((Int × Int × (List TWindowHit)) ⊕ ((Int × (List TWindowHit)))) := fun x4 =>
 letO x4.1 fun v1 =>
 letO x4.2.1 fun v2 =>
 letO x4.2.2 fun v3 =>
 br (std.lt v2 (std.ofN (len a0)))
 (((
    req (std.inR v2 (len a0)) <|
    req (len a0 = len v3) <|
    letO (List.set v3 (std.nadd 0 (std.toN v2)) (TWindowHit.mk v1 (gd v3 (std.nadd 0 (std.toN v2))).fShape (gd v3 (std.nadd 0 (std.toN v2))).fLayer (gd v3 (std.nadd 0 (std.toN v2))).fBox (gd v3 (std.nadd 0 (std.toN v2))).fPath)) fun l24 =>
    some l24
  ) : Option ((List TWindowHit))).bind fun y16 =>
 letO y16 fun w22 =>
 ((
    req (std.inR v2 (len a0)) <|
    req (len a0 = len w22) <|
    letO (List.set w22 (std.nadd 0 (std.toN v2)) (TWindowHit.mk (gd w22 (std.nadd 0 (std.toN v2))).fCell (std.add .i64 v1 1) (gd w22 (std.nadd 0 (std.toN v2))).fLayer (gd w22 (std.nadd 0 (std.toN v2))).fBox (gd w22 (std.nadd 0 (std.toN v2))).fPath)) fun l34 =>
    some l34
  ) : Option ((List TWindowHit))).bind fun y26 =>
 letO y26 fun w32 =>
 ((
    req (std.inR v2 (len a0)) <|
    req (len a0 = len w32) <|
    letO (List.set w32 (std.nadd 0 (std.toN v2)) (TWindowHit.mk (gd w32 (std.nadd 0 (std.toN v2))).fCell (gd w32 (std.nadd 0 (std.toN v2))).fShape (std.add .i64 (std.add .i64 v1 1) 1) (gd w32 (std.nadd 0 (std.toN v2))).fBox (gd w32 (std.nadd 0 (std.toN v2))).fPath)) fun l44 =>
    some l44
  ) : Option ((List TWindowHit))).bind fun y36 =>
 letO y36 fun w42 =>
 ((
    req (std.inR v2 (len a0)) <|
    req (len a0 = len w42) <|
    letO (List.set w42 (std.nadd 0 (std.toN v2)) (TWindowHit.mk (gd w42 (std.nadd 0 (std.toN v2))).fCell (gd w42 (std.nadd 0 (std.toN v2))).fShape (gd w42 (std.nadd 0 (std.toN v2))).fLayer (TRect.mk (std.add .i64 (std.add .i64 (std.add .i64 v1 1) 1) 1) (gd w42 (std.nadd 0 (std.toN v2))).fBox.fY0 (gd w42 (std.nadd 0 (std.toN v2))).fBox.fX1 (gd w42 (std.nadd 0 (std.toN v2))).fBox.fY1) (gd w42 (std.nadd 0 (std.toN v2))).fPath)) fun l54 =>
    some l54
  ) : Option ((List TWindowHit))).bind fun y46 =>
 letO y46 fun w52 =>
 ((
    req (std.inR v2 (len a0)) <|
    req (len a0 = len w52) <|
    letO (List.set w52 (std.nadd 0 (std.toN v2)) (TWindowHit.mk (gd w52 (std.nadd 0 (std.toN v2))).fCell (gd w52 (std.nadd 0 (std.toN v2))).fShape (gd w52 (std.nadd 0 (std.toN v2))).fLayer (TRect.mk (gd w52 (std.nadd 0 (std.toN v2))).fBox.fX0 (std.add .i64 (std.add .i64 (std.add .i64 (std.add .i64 v1 1) 1) 1) 1) (gd w52 (std.nadd 0 (std.toN v2))).fBox.fX1 (gd w52 (std.nadd 0 (std.toN v2))).fBox.fY1) (gd w52 (std.nadd 0 (std.toN v2))).fPath)) fun l64 =>
    some l64
  ) : Option ((List TWindowHit))).bind fun y56 =>
 letO y56 fun w62 =>
 ((
    req (std.inR v2 (len a0)) <|
    req (len a0 = len w62) <|
    letO (List.set w62 (std.nadd 0 (std.toN v2)) (TWindowHit.mk (gd w62 (std.nadd 0 (std.toN v2))).fCell (gd w62 (std.nadd 0 (std.toN v2))).fShape (gd w62 (std.nadd 0 (std.toN v2))).fLayer (TRect.mk (gd w62 (std.nadd 0 (std.toN v2))).fBox.fX0 (gd w62 (std.nadd 0 (std.toN v2))).fBox.fY0 (std.add .i64 (std.add .i64 (std.add .i64 (std.add .i64 (std.add .i64 v1 1) 1) 1) 1) 1) (gd w62 (std.nadd 0 (std.toN v2))).fBox.fY1) (gd w62 (std.nadd 0 (std.toN v2))).fPath)) fun l74 =>
    some l74
  ) : Option ((List TWindowHit))).bind fun y66 =>
 letO y66 fun w72 =>
 ((
    req (std.inR v2 (len a0)) <|
    req (len a0 = len w72) <|
    letO (List.set w72 (std.nadd 0 (std.toN v2)) (TWindowHit.mk (gd w72 (std.nadd 0 (std.toN v2))).fCell (gd w72 (std.nadd 0 (std.toN v2))).fShape (gd w72 (std.nadd 0 (std.toN v2))).fLayer (TRect.mk (gd w72 (std.nadd 0 (std.toN v2))).fBox.fX0 (gd w72 (std.nadd 0 (std.toN v2))).fBox.fY0 (gd w72 (std.nadd 0 (std.toN v2))).fBox.fX1 (std.add .i64 (std.add .i64 (std.add .i64 (std.add .i64 (std.add .i64 (std.add .i64 v1 1) 1) 1) 1) 1) 1)) (gd w72 (std.nadd 0 (std.toN v2))).fPath)) fun l84 =>
    some l84
  ) : Option ((List TWindowHit))).bind fun y76 =>
 letO y76 fun w82 =>
 ((
    req (std.inR v2 (len a0)) <|
    (F_laws_markInt64S_mob (gd w82 (std.nadd 0 (std.toN v2))).fPath (std.add .i64 (std.add .i64 (std.add .i64 (std.add .i64 (std.add .i64 (std.add .i64 (std.add .i64 v1 1) 1) 1) 1) 1) 1) 1)).bind fun y95 =>
    req (len y95.2 = len (gd w82 (std.nadd 0 (std.toN v2))).fPath) <|
    req (len a0 = len w82) <|
    letO (List.set w82 (std.nadd 0 (std.toN v2)) (TWindowHit.mk (gd w82 (std.nadd 0 (std.toN v2))).fCell (gd w82 (std.nadd 0 (std.toN v2))).fShape (gd w82 (std.nadd 0 (std.toN v2))).fLayer (gd w82 (std.nadd 0 (std.toN v2))).fBox y95.2)) fun l97 =>
    some (y95.1, l97)
  ) : Option (Int × (List TWindowHit))).bind fun y86 =>
 letO y86.1 fun w92 =>
 letO y86.2 fun w93 =>
 some (.inl (w92, std.add .i64 v2 1, w93)))
 (some (.inr (v1, v3)))
/-- laws.markWindowHitS -/
noncomputable def F_laws_markWindowHitS_mob (a0 : List TWindowHit) (a1 : Int) : Option (Int × (List TWindowHit)) :=
 (whileP (σ := Int × Int × (List TWindowHit)) (ρ := (Int × (List TWindowHit))) (L_laws_markWindowHitS_mob_x4 a0) (a1, 0, a0)).bind fun y5 =>
 letO y5 fun y5k0 =>
 letO y5k0.1 fun w101 =>
 letO y5k0.2 fun w102 =>
 req (len a0 = len w102) <|
 some (w101, w102)
theorem run_laws_markWindowHitS_mob (a0 : List TWindowHit) (a1 : Int) (r : Int × (List TWindowHit)) (h : F_laws_markWindowHitS_mob a0 a1 = some r) : Fun Tryz.prog 19 [.c (.os 5 0 (len a0)), .c (.v (.int .i64 a1))] [(5, .arr .rw [] (len a0) 8 (row gd (oncWindowHit len gd) a0))] (.c (.v (.int .i64 r.1))) [(5, .arr .rw [] (len r.2) 8 (row gd (oncWindowHit len gd) r.2))] true := by
 refine Fun.of_wp (oneOf [4, 6, 8, 10, 12, 14, 16, 18]) tok mixed Tryz.func19 (by kernel_rfl) rfl Tryz.ntmps19 rfl ⟨fun i _ j _ k hk => (noref (rf_oncWindowHit _ _) hk).elim, trivial⟩ (fun _ => ⟨trivial, ⟨fun i _ j _ => fl_oncWindowHit _ _, trivial⟩⟩) ?_
 unfold F_laws_markWindowHitS_mob at h
 unfold L_laws_markWindowHitS_mob_x4 at h
 have hf_laws_markInt64S_mob := @run_laws_markInt64S_mob
 generalize hLEN : @len = LEN at *
 generalize hGD : @gd = GD at *
 generalize hA : std = A at *
 generalize hP : Tryz.prog = P at *
 cbv
 replace h := of_bind h
 obtain ⟨y5, hr6, hN7⟩ := h
 refine loop_cut hr6 (fun x => (sparse 73 [(0, .c (.os 5 0 (LEN a0))), (1, .c (.v (.int .i64 x.1))), (5, .c (.v (.int .i64 x.2.1)))] [(5, .arr .rw [] (LEN a0) 8 (row GD (oncWindowHit LEN GD) x.2.2))])) ?_ (fun y e s => (fun (w : Int × (List TWindowHit)) => e = .exit 0 ∧ s.le (sparse 73 [(1, .c (.v (.int .i64 w.1)))] [(5, .arr .rw [] (LEN a0) 8 (row GD (oncWindowHit LEN GD) w.2))])) y) ?_ ?_
 ·clear hr6 hN7
  show St.le _ _
  exact le_sparse rfl ⟨lR _, lR _, lR _, trivial⟩ ⟨oS, trivial⟩ rfl
 ·clear hr6 hN7
  intro x z11 h K9 hK10 hY8
  obtain ⟨x0_, x1_, x2_⟩ := x
  replace h := of_let h
  obtain ⟨v1, hv1, h⟩ := h
  have hv1 : v1 = x0_ := hv1
  subst hv1
  replace h := of_let h
  obtain ⟨v2, hv2, h⟩ := h
  have hv2 : v2 = x1_ := hv2
  subst hv2
  replace h := of_let h
  obtain ⟨v3, hv3, h⟩ := h
  have hv3 : v3 = x2_ := hv3
  subst hv3
  cbv
  refine fork (fun b100 => ?_) (fun b100 => ?_)
  ·replace h := of_br_t b100 h
   cbv
   replace h := of_bind h
   obtain ⟨y16, hy17, h⟩ := h
   obtain ⟨S20, hS21⟩ : ∃ S, S = (sparse 73 [(0, .c (.os 5 0 (LEN a0))), (1, .c (.v (.int .i64 v1))), (5, .c (.v (.int .i64 v2)))] [(5, .arr .rw [] (LEN a0) 8 (row GD (oncWindowHit LEN GD) y16))]) := ⟨_, rfl⟩
   refine ⟨S20, ?_, ?_⟩
   ·clear h
    have h := hy17
    clear hy17
    cbv
    replace h := of_req h
    obtain ⟨c23, h⟩ := h
    refine ⟨⟨c23, trivial⟩, ?_⟩
    refine And.intro (by first | exact (by subst hA; exact idx_lt c23) | (refine And.intro (by subst hA; exact idx_lt c23) ?_; first | trivial | exact ⟨trivial, trivial⟩)) ?_
    refine ⟨_, rfl, _, (patchC (row GD (oncWindowHit LEN GD) v3) (A.nadd 0 (A.toN v2)) [.v (.int .i64 v1), .v (.int .i64 (GD v3 (A.nadd 0 (A.toN v2))).fShape), .v (.int .i64 (GD v3 (A.nadd 0 (A.toN v2))).fLayer), .v (.int .i64 (GD v3 (A.nadd 0 (A.toN v2))).fBox.fX0), .v (.int .i64 (GD v3 (A.nadd 0 (A.toN v2))).fBox.fY0), .v (.int .i64 (GD v3 (A.nadd 0 (A.toN v2))).fBox.fX1), .v (.int .i64 (GD v3 (A.nadd 0 (A.toN v2))).fBox.fY1), .ow (LEN (GD v3 (A.nadd 0 (A.toN v2))).fPath) 1 (row GD (encI .i64) (GD v3 (A.nadd 0 (A.toN v2))).fPath)]), rfl, ?_, ?_⟩
    ·refine patch_of ?_
     intro j hj
     match j, hj with | 0, _ => (rfl) | 1, _ => (rfl) | 2, _ => (rfl) | 3, _ => (rfl) | 4, _ => (rfl) | 5, _ => (rfl) | 6, _ => (rfl) | 7, _ => (rfl) | (j_ + 8), h_ => exact absurd h_ (by omega)
    cbv
    replace h := of_req h
    obtain ⟨c25, h⟩ := h
    replace h := of_let h
    obtain ⟨l24, hl24, h⟩ := h
    injection h with h
    subst h
    subst hS21
    show St.le _ _
    exact le_sparse rfl ⟨lR _, lR _, lR _, trivial⟩ ⟨⟨fun hw => hw, fun c hc => (by cases hc), .inr (fun i _ j _ z hz => (noref (rf_oncWindowHit _ _) hz).elim), rfl, rfl, (by subst hGD hLEN hA; exact patch_set hl24 (idx_lt (by rw [← c25]; exact c23)) (by intro j hj; match j, hj with | 0, _ => rfl | 1, _ => rfl | 2, _ => rfl | 3, _ => rfl | 4, _ => rfl | 5, _ => rfl | 6, _ => rfl | 7, _ => rfl | (j_ + 8), h_ => exact absurd h_ (by omega)))⟩, trivial⟩ rfl
   ·clear hy17
    subst hS21
    replace h := of_let h
    obtain ⟨w22, hw22, h⟩ := h
    have hw22 : w22 = y16 := hw22
    subst hw22
    cbv
    replace h := of_bind h
    obtain ⟨y26, hy27, h⟩ := h
    obtain ⟨S30, hS31⟩ : ∃ S, S = (sparse 73 [(0, .c (.os 5 0 (LEN a0))), (1, .c (.v (.int .i64 (A.add .i64 v1 1)))), (5, .c (.v (.int .i64 v2)))] [(5, .arr .rw [] (LEN a0) 8 (row GD (oncWindowHit LEN GD) y26))]) := ⟨_, rfl⟩
    refine ⟨S30, ?_, ?_⟩
    ·clear h
     have h := hy27
     clear hy27
     cbv
     replace h := of_req h
     obtain ⟨c33, h⟩ := h
     refine ⟨⟨c33, trivial⟩, ?_⟩
     refine And.intro (by first | exact (by subst hA; exact idx_lt c33) | (refine And.intro (by subst hA; exact idx_lt c33) ?_; first | trivial | exact ⟨trivial, trivial⟩)) ?_
     refine ⟨_, rfl, _, (patchC (row GD (oncWindowHit LEN GD) w22) (A.nadd 0 (A.toN v2)) [.v (.int .i64 (GD w22 (A.nadd 0 (A.toN v2))).fCell), .v (.int .i64 (A.add .i64 v1 1)), .v (.int .i64 (GD w22 (A.nadd 0 (A.toN v2))).fLayer), .v (.int .i64 (GD w22 (A.nadd 0 (A.toN v2))).fBox.fX0), .v (.int .i64 (GD w22 (A.nadd 0 (A.toN v2))).fBox.fY0), .v (.int .i64 (GD w22 (A.nadd 0 (A.toN v2))).fBox.fX1), .v (.int .i64 (GD w22 (A.nadd 0 (A.toN v2))).fBox.fY1), .ow (LEN (GD w22 (A.nadd 0 (A.toN v2))).fPath) 1 (row GD (encI .i64) (GD w22 (A.nadd 0 (A.toN v2))).fPath)]), rfl, ?_, ?_⟩
     ·refine patch_of ?_
      intro j hj
      match j, hj with | 0, _ => (rfl) | 1, _ => (rfl) | 2, _ => (rfl) | 3, _ => (rfl) | 4, _ => (rfl) | 5, _ => (rfl) | 6, _ => (rfl) | 7, _ => (rfl) | (j_ + 8), h_ => exact absurd h_ (by omega)
     cbv
     replace h := of_req h
     obtain ⟨c35, h⟩ := h
     replace h := of_let h
     obtain ⟨l34, hl34, h⟩ := h
     injection h with h
     subst h
     subst hS31
     show St.le _ _
     exact le_sparse rfl ⟨lR _, lR _, lR _, trivial⟩ ⟨⟨fun hw => hw, fun c hc => (by cases hc), .inr (fun i _ j _ z hz => (noref (rf_oncWindowHit _ _) hz).elim), rfl, rfl, (by subst hGD hLEN hA; exact patch_set hl34 (idx_lt (by rw [← c35]; exact c33)) (by intro j hj; match j, hj with | 0, _ => rfl | 1, _ => rfl | 2, _ => rfl | 3, _ => rfl | 4, _ => rfl | 5, _ => rfl | 6, _ => rfl | 7, _ => rfl | (j_ + 8), h_ => exact absurd h_ (by omega)))⟩, trivial⟩ rfl
    ·clear hy27
     subst hS31
     replace h := of_let h
     obtain ⟨w32, hw32, h⟩ := h
     have hw32 : w32 = y26 := hw32
     subst hw32
     cbv
     replace h := of_bind h
     obtain ⟨y36, hy37, h⟩ := h
     obtain ⟨S40, hS41⟩ : ∃ S, S = (sparse 73 [(0, .c (.os 5 0 (LEN a0))), (1, .c (.v (.int .i64 (A.add .i64 (A.add .i64 v1 1) 1)))), (5, .c (.v (.int .i64 v2)))] [(5, .arr .rw [] (LEN a0) 8 (row GD (oncWindowHit LEN GD) y36))]) := ⟨_, rfl⟩
     refine ⟨S40, ?_, ?_⟩
     ·clear h
      have h := hy37
      clear hy37
      cbv
      replace h := of_req h
      obtain ⟨c43, h⟩ := h
      refine ⟨⟨c43, trivial⟩, ?_⟩
      refine And.intro (by first | exact (by subst hA; exact idx_lt c43) | (refine And.intro (by subst hA; exact idx_lt c43) ?_; first | trivial | exact ⟨trivial, trivial⟩)) ?_
      refine ⟨_, rfl, _, (patchC (row GD (oncWindowHit LEN GD) w32) (A.nadd 0 (A.toN v2)) [.v (.int .i64 (GD w32 (A.nadd 0 (A.toN v2))).fCell), .v (.int .i64 (GD w32 (A.nadd 0 (A.toN v2))).fShape), .v (.int .i64 (A.add .i64 (A.add .i64 v1 1) 1)), .v (.int .i64 (GD w32 (A.nadd 0 (A.toN v2))).fBox.fX0), .v (.int .i64 (GD w32 (A.nadd 0 (A.toN v2))).fBox.fY0), .v (.int .i64 (GD w32 (A.nadd 0 (A.toN v2))).fBox.fX1), .v (.int .i64 (GD w32 (A.nadd 0 (A.toN v2))).fBox.fY1), .ow (LEN (GD w32 (A.nadd 0 (A.toN v2))).fPath) 1 (row GD (encI .i64) (GD w32 (A.nadd 0 (A.toN v2))).fPath)]), rfl, ?_, ?_⟩
      ·refine patch_of ?_
       intro j hj
       match j, hj with | 0, _ => (rfl) | 1, _ => (rfl) | 2, _ => (rfl) | 3, _ => (rfl) | 4, _ => (rfl) | 5, _ => (rfl) | 6, _ => (rfl) | 7, _ => (rfl) | (j_ + 8), h_ => exact absurd h_ (by omega)
      cbv
      replace h := of_req h
      obtain ⟨c45, h⟩ := h
      replace h := of_let h
      obtain ⟨l44, hl44, h⟩ := h
      injection h with h
      subst h
      subst hS41
      show St.le _ _
      exact le_sparse rfl ⟨lR _, lR _, lR _, trivial⟩ ⟨⟨fun hw => hw, fun c hc => (by cases hc), .inr (fun i _ j _ z hz => (noref (rf_oncWindowHit _ _) hz).elim), rfl, rfl, (by subst hGD hLEN hA; exact patch_set hl44 (idx_lt (by rw [← c45]; exact c43)) (by intro j hj; match j, hj with | 0, _ => rfl | 1, _ => rfl | 2, _ => rfl | 3, _ => rfl | 4, _ => rfl | 5, _ => rfl | 6, _ => rfl | 7, _ => rfl | (j_ + 8), h_ => exact absurd h_ (by omega)))⟩, trivial⟩ rfl
     ·clear hy37
      subst hS41
      replace h := of_let h
      obtain ⟨w42, hw42, h⟩ := h
      have hw42 : w42 = y36 := hw42
      subst hw42
      cbv
      replace h := of_bind h
      obtain ⟨y46, hy47, h⟩ := h
      obtain ⟨S50, hS51⟩ : ∃ S, S = (sparse 73 [(0, .c (.os 5 0 (LEN a0))), (1, .c (.v (.int .i64 (A.add .i64 (A.add .i64 (A.add .i64 v1 1) 1) 1)))), (5, .c (.v (.int .i64 v2)))] [(5, .arr .rw [] (LEN a0) 8 (row GD (oncWindowHit LEN GD) y46))]) := ⟨_, rfl⟩
      refine ⟨S50, ?_, ?_⟩
      ·clear h
       have h := hy47
       clear hy47
       cbv
       replace h := of_req h
       obtain ⟨c53, h⟩ := h
       refine ⟨⟨c53, trivial⟩, ?_⟩
       refine And.intro (by first | exact (by subst hA; exact idx_lt c53) | (refine And.intro (by subst hA; exact idx_lt c53) ?_; first | trivial | exact ⟨trivial, trivial⟩)) ?_
       refine ⟨_, rfl, _, (patchC (row GD (oncWindowHit LEN GD) w42) (A.nadd 0 (A.toN v2)) [.v (.int .i64 (GD w42 (A.nadd 0 (A.toN v2))).fCell), .v (.int .i64 (GD w42 (A.nadd 0 (A.toN v2))).fShape), .v (.int .i64 (GD w42 (A.nadd 0 (A.toN v2))).fLayer), .v (.int .i64 (A.add .i64 (A.add .i64 (A.add .i64 v1 1) 1) 1)), .v (.int .i64 (GD w42 (A.nadd 0 (A.toN v2))).fBox.fY0), .v (.int .i64 (GD w42 (A.nadd 0 (A.toN v2))).fBox.fX1), .v (.int .i64 (GD w42 (A.nadd 0 (A.toN v2))).fBox.fY1), .ow (LEN (GD w42 (A.nadd 0 (A.toN v2))).fPath) 1 (row GD (encI .i64) (GD w42 (A.nadd 0 (A.toN v2))).fPath)]), rfl, ?_, ?_⟩
       ·refine patch_of ?_
        intro j hj
        match j, hj with | 0, _ => (rfl) | 1, _ => (rfl) | 2, _ => (rfl) | 3, _ => (rfl) | 4, _ => (rfl) | 5, _ => (rfl) | 6, _ => (rfl) | 7, _ => (rfl) | (j_ + 8), h_ => exact absurd h_ (by omega)
       cbv
       replace h := of_req h
       obtain ⟨c55, h⟩ := h
       replace h := of_let h
       obtain ⟨l54, hl54, h⟩ := h
       injection h with h
       subst h
       subst hS51
       show St.le _ _
       exact le_sparse rfl ⟨lR _, lR _, lR _, trivial⟩ ⟨⟨fun hw => hw, fun c hc => (by cases hc), .inr (fun i _ j _ z hz => (noref (rf_oncWindowHit _ _) hz).elim), rfl, rfl, (by subst hGD hLEN hA; exact patch_set hl54 (idx_lt (by rw [← c55]; exact c53)) (by intro j hj; match j, hj with | 0, _ => rfl | 1, _ => rfl | 2, _ => rfl | 3, _ => rfl | 4, _ => rfl | 5, _ => rfl | 6, _ => rfl | 7, _ => rfl | (j_ + 8), h_ => exact absurd h_ (by omega)))⟩, trivial⟩ rfl
      ·clear hy47
       subst hS51
       replace h := of_let h
       obtain ⟨w52, hw52, h⟩ := h
       have hw52 : w52 = y46 := hw52
       subst hw52
       cbv
       replace h := of_bind h
       obtain ⟨y56, hy57, h⟩ := h
       obtain ⟨S60, hS61⟩ : ∃ S, S = (sparse 73 [(0, .c (.os 5 0 (LEN a0))), (1, .c (.v (.int .i64 (A.add .i64 (A.add .i64 (A.add .i64 (A.add .i64 v1 1) 1) 1) 1)))), (5, .c (.v (.int .i64 v2)))] [(5, .arr .rw [] (LEN a0) 8 (row GD (oncWindowHit LEN GD) y56))]) := ⟨_, rfl⟩
       refine ⟨S60, ?_, ?_⟩
       ·clear h
        have h := hy57
        clear hy57
        cbv
        replace h := of_req h
        obtain ⟨c63, h⟩ := h
        refine ⟨⟨c63, trivial⟩, ?_⟩
        refine And.intro (by first | exact (by subst hA; exact idx_lt c63) | (refine And.intro (by subst hA; exact idx_lt c63) ?_; first | trivial | exact ⟨trivial, trivial⟩)) ?_
        refine ⟨_, rfl, _, (patchC (row GD (oncWindowHit LEN GD) w52) (A.nadd 0 (A.toN v2)) [.v (.int .i64 (GD w52 (A.nadd 0 (A.toN v2))).fCell), .v (.int .i64 (GD w52 (A.nadd 0 (A.toN v2))).fShape), .v (.int .i64 (GD w52 (A.nadd 0 (A.toN v2))).fLayer), .v (.int .i64 (GD w52 (A.nadd 0 (A.toN v2))).fBox.fX0), .v (.int .i64 (A.add .i64 (A.add .i64 (A.add .i64 (A.add .i64 v1 1) 1) 1) 1)), .v (.int .i64 (GD w52 (A.nadd 0 (A.toN v2))).fBox.fX1), .v (.int .i64 (GD w52 (A.nadd 0 (A.toN v2))).fBox.fY1), .ow (LEN (GD w52 (A.nadd 0 (A.toN v2))).fPath) 1 (row GD (encI .i64) (GD w52 (A.nadd 0 (A.toN v2))).fPath)]), rfl, ?_, ?_⟩
        ·refine patch_of ?_
         intro j hj
         match j, hj with | 0, _ => (rfl) | 1, _ => (rfl) | 2, _ => (rfl) | 3, _ => (rfl) | 4, _ => (rfl) | 5, _ => (rfl) | 6, _ => (rfl) | 7, _ => (rfl) | (j_ + 8), h_ => exact absurd h_ (by omega)
        cbv
        replace h := of_req h
        obtain ⟨c65, h⟩ := h
        replace h := of_let h
        obtain ⟨l64, hl64, h⟩ := h
        injection h with h
        subst h
        subst hS61
        show St.le _ _
        exact le_sparse rfl ⟨lR _, lR _, lR _, trivial⟩ ⟨⟨fun hw => hw, fun c hc => (by cases hc), .inr (fun i _ j _ z hz => (noref (rf_oncWindowHit _ _) hz).elim), rfl, rfl, (by subst hGD hLEN hA; exact patch_set hl64 (idx_lt (by rw [← c65]; exact c63)) (by intro j hj; match j, hj with | 0, _ => rfl | 1, _ => rfl | 2, _ => rfl | 3, _ => rfl | 4, _ => rfl | 5, _ => rfl | 6, _ => rfl | 7, _ => rfl | (j_ + 8), h_ => exact absurd h_ (by omega)))⟩, trivial⟩ rfl
       ·clear hy57
        subst hS61
        replace h := of_let h
        obtain ⟨w62, hw62, h⟩ := h
        have hw62 : w62 = y56 := hw62
        subst hw62
        cbv
        replace h := of_bind h
        obtain ⟨y66, hy67, h⟩ := h
        obtain ⟨S70, hS71⟩ : ∃ S, S = (sparse 73 [(0, .c (.os 5 0 (LEN a0))), (1, .c (.v (.int .i64 (A.add .i64 (A.add .i64 (A.add .i64 (A.add .i64 (A.add .i64 v1 1) 1) 1) 1) 1)))), (5, .c (.v (.int .i64 v2)))] [(5, .arr .rw [] (LEN a0) 8 (row GD (oncWindowHit LEN GD) y66))]) := ⟨_, rfl⟩
        refine ⟨S70, ?_, ?_⟩
        ·clear h
         have h := hy67
         clear hy67
         cbv
         replace h := of_req h
         obtain ⟨c73, h⟩ := h
         refine ⟨⟨c73, trivial⟩, ?_⟩
         refine And.intro (by first | exact (by subst hA; exact idx_lt c73) | (refine And.intro (by subst hA; exact idx_lt c73) ?_; first | trivial | exact ⟨trivial, trivial⟩)) ?_
         refine ⟨_, rfl, _, (patchC (row GD (oncWindowHit LEN GD) w62) (A.nadd 0 (A.toN v2)) [.v (.int .i64 (GD w62 (A.nadd 0 (A.toN v2))).fCell), .v (.int .i64 (GD w62 (A.nadd 0 (A.toN v2))).fShape), .v (.int .i64 (GD w62 (A.nadd 0 (A.toN v2))).fLayer), .v (.int .i64 (GD w62 (A.nadd 0 (A.toN v2))).fBox.fX0), .v (.int .i64 (GD w62 (A.nadd 0 (A.toN v2))).fBox.fY0), .v (.int .i64 (A.add .i64 (A.add .i64 (A.add .i64 (A.add .i64 (A.add .i64 v1 1) 1) 1) 1) 1)), .v (.int .i64 (GD w62 (A.nadd 0 (A.toN v2))).fBox.fY1), .ow (LEN (GD w62 (A.nadd 0 (A.toN v2))).fPath) 1 (row GD (encI .i64) (GD w62 (A.nadd 0 (A.toN v2))).fPath)]), rfl, ?_, ?_⟩
         ·refine patch_of ?_
          intro j hj
          match j, hj with | 0, _ => (rfl) | 1, _ => (rfl) | 2, _ => (rfl) | 3, _ => (rfl) | 4, _ => (rfl) | 5, _ => (rfl) | 6, _ => (rfl) | 7, _ => (rfl) | (j_ + 8), h_ => exact absurd h_ (by omega)
         cbv
         replace h := of_req h
         obtain ⟨c75, h⟩ := h
         replace h := of_let h
         obtain ⟨l74, hl74, h⟩ := h
         injection h with h
         subst h
         subst hS71
         show St.le _ _
         exact le_sparse rfl ⟨lR _, lR _, lR _, trivial⟩ ⟨⟨fun hw => hw, fun c hc => (by cases hc), .inr (fun i _ j _ z hz => (noref (rf_oncWindowHit _ _) hz).elim), rfl, rfl, (by subst hGD hLEN hA; exact patch_set hl74 (idx_lt (by rw [← c75]; exact c73)) (by intro j hj; match j, hj with | 0, _ => rfl | 1, _ => rfl | 2, _ => rfl | 3, _ => rfl | 4, _ => rfl | 5, _ => rfl | 6, _ => rfl | 7, _ => rfl | (j_ + 8), h_ => exact absurd h_ (by omega)))⟩, trivial⟩ rfl
        ·clear hy67
         subst hS71
         replace h := of_let h
         obtain ⟨w72, hw72, h⟩ := h
         have hw72 : w72 = y66 := hw72
         subst hw72
         cbv
         replace h := of_bind h
         obtain ⟨y76, hy77, h⟩ := h
         obtain ⟨S80, hS81⟩ : ∃ S, S = (sparse 73 [(0, .c (.os 5 0 (LEN a0))), (1, .c (.v (.int .i64 (A.add .i64 (A.add .i64 (A.add .i64 (A.add .i64 (A.add .i64 (A.add .i64 v1 1) 1) 1) 1) 1) 1)))), (5, .c (.v (.int .i64 v2)))] [(5, .arr .rw [] (LEN a0) 8 (row GD (oncWindowHit LEN GD) y76))]) := ⟨_, rfl⟩
         refine ⟨S80, ?_, ?_⟩
         ·clear h
          have h := hy77
          clear hy77
          cbv
          replace h := of_req h
          obtain ⟨c83, h⟩ := h
          refine ⟨⟨c83, trivial⟩, ?_⟩
          refine And.intro (by first | exact (by subst hA; exact idx_lt c83) | (refine And.intro (by subst hA; exact idx_lt c83) ?_; first | trivial | exact ⟨trivial, trivial⟩)) ?_
          refine ⟨_, rfl, _, (patchC (row GD (oncWindowHit LEN GD) w72) (A.nadd 0 (A.toN v2)) [.v (.int .i64 (GD w72 (A.nadd 0 (A.toN v2))).fCell), .v (.int .i64 (GD w72 (A.nadd 0 (A.toN v2))).fShape), .v (.int .i64 (GD w72 (A.nadd 0 (A.toN v2))).fLayer), .v (.int .i64 (GD w72 (A.nadd 0 (A.toN v2))).fBox.fX0), .v (.int .i64 (GD w72 (A.nadd 0 (A.toN v2))).fBox.fY0), .v (.int .i64 (GD w72 (A.nadd 0 (A.toN v2))).fBox.fX1), .v (.int .i64 (A.add .i64 (A.add .i64 (A.add .i64 (A.add .i64 (A.add .i64 (A.add .i64 v1 1) 1) 1) 1) 1) 1)), .ow (LEN (GD w72 (A.nadd 0 (A.toN v2))).fPath) 1 (row GD (encI .i64) (GD w72 (A.nadd 0 (A.toN v2))).fPath)]), rfl, ?_, ?_⟩
          ·refine patch_of ?_
           intro j hj
           match j, hj with | 0, _ => (rfl) | 1, _ => (rfl) | 2, _ => (rfl) | 3, _ => (rfl) | 4, _ => (rfl) | 5, _ => (rfl) | 6, _ => (rfl) | 7, _ => (rfl) | (j_ + 8), h_ => exact absurd h_ (by omega)
          cbv
          replace h := of_req h
          obtain ⟨c85, h⟩ := h
          replace h := of_let h
          obtain ⟨l84, hl84, h⟩ := h
          injection h with h
          subst h
          subst hS81
          show St.le _ _
          exact le_sparse rfl ⟨lR _, lR _, lR _, trivial⟩ ⟨⟨fun hw => hw, fun c hc => (by cases hc), .inr (fun i _ j _ z hz => (noref (rf_oncWindowHit _ _) hz).elim), rfl, rfl, (by subst hGD hLEN hA; exact patch_set hl84 (idx_lt (by rw [← c85]; exact c83)) (by intro j hj; match j, hj with | 0, _ => rfl | 1, _ => rfl | 2, _ => rfl | 3, _ => rfl | 4, _ => rfl | 5, _ => rfl | 6, _ => rfl | 7, _ => rfl | (j_ + 8), h_ => exact absurd h_ (by omega)))⟩, trivial⟩ rfl
         ·clear hy77
          subst hS81
          replace h := of_let h
          obtain ⟨w82, hw82, h⟩ := h
          have hw82 : w82 = y76 := hw82
          subst hw82
          cbv
          replace h := of_bind h
          obtain ⟨y86, hy87, h⟩ := h
          obtain ⟨S90, hS91⟩ : ∃ S, S = (sparse 73 [(0, .c (.os 5 0 (LEN a0))), (1, .c (.v (.int .i64 y86.1))), (5, .c (.v (.int .i64 v2)))] [(5, .arr .rw [] (LEN a0) 8 (row GD (oncWindowHit LEN GD) y86.2))]) := ⟨_, rfl⟩
          refine ⟨S90, ?_, ?_⟩
          ·clear h
           have h := hy87
           clear hy87
           cbv
           replace h := of_req h
           obtain ⟨c94, h⟩ := h
           refine ⟨⟨c94, trivial⟩, ?_⟩
           refine And.intro (by first | exact (by subst hA; exact idx_lt c94) | (refine And.intro (by subst hA; exact idx_lt c94) ?_; first | trivial | exact ⟨trivial, trivial⟩)) ?_
           refine ⟨_, rfl, _, (patchC (row GD (oncWindowHit LEN GD) w82) (A.nadd 0 (A.toN v2)) [.v (.int .i64 (GD w82 (A.nadd 0 (A.toN v2))).fCell), .v (.int .i64 (GD w82 (A.nadd 0 (A.toN v2))).fShape), .v (.int .i64 (GD w82 (A.nadd 0 (A.toN v2))).fLayer), .v (.int .i64 (GD w82 (A.nadd 0 (A.toN v2))).fBox.fX0), .v (.int .i64 (GD w82 (A.nadd 0 (A.toN v2))).fBox.fY0), .v (.int .i64 (GD w82 (A.nadd 0 (A.toN v2))).fBox.fX1), .v (.int .i64 (GD w82 (A.nadd 0 (A.toN v2))).fBox.fY1), .os 4418 0 (LEN (GD w82 (A.nadd 0 (A.toN v2))).fPath)]), rfl, ?_, ?_⟩
           ·refine patch_of ?_
            intro j hj
            match j, hj with | 0, _ => (rfl) | 1, _ => (rfl) | 2, _ => (rfl) | 3, _ => (rfl) | 4, _ => (rfl) | 5, _ => (rfl) | 6, _ => (rfl) | 7, _ => (rfl) | (j_ + 8), h_ => exact absurd h_ (by omega)
           refine ⟨_, row GD (encI .i64) (GD w82 (A.nadd 0 (A.toN v2))).fPath, rfl, ?_, ?_⟩
           ·exact fun i _ j _ => plain_cp (rfl)
           cbv
           replace h := of_bind h
           obtain ⟨y95, hy96, h⟩ := h
           replace h := of_req h
           obtain ⟨c99, h⟩ := h
           refine ⟨{ args := [.c (.os 5 0 (LEN (GD w82 (A.nadd 0 (A.toN v2))).fPath)), .c (.v (.int .i64 (A.add .i64 (A.add .i64 (A.add .i64 (A.add .i64 (A.add .i64 (A.add .i64 (A.add .i64 v1 1) 1) 1) 1) 1) 1) 1)))], o0 := [(5, .arr .rw [] (LEN (GD w82 (A.nadd 0 (A.toN v2))).fPath) 1 (row GD (encI .i64) (GD w82 (A.nadd 0 (A.toN v2))).fPath))], r := .c (.v (.int .i64 y95.1)), o1 := [(5, .arr .rw [] (LEN y95.2) 1 (row GD (encI .i64) y95.2))], fl := true, σ := [(5, 4418)], τ := [(5, 4418)] }, hf_laws_markInt64S_mob _ _ _ hy96, ⟨les_cons (lR _) (les_cons (lR _) (les_nil)), ⟨oS, trivial⟩, rfl, rfl, rfl, rfl, ⟨fun _ => ⟨c99.symm, rfl, fun c h => h⟩, trivial⟩, rfl⟩, _, rfl, LEN (GD w82 (A.nadd 0 (A.toN v2))).fPath, _, c99, fun _ _ _ _ => rfl, ?_⟩
           cbv
           replace h := of_req h
           obtain ⟨c98, h⟩ := h
           replace h := of_let h
           obtain ⟨l97, hl97, h⟩ := h
           injection h with h
           subst h
           subst hS91
           show St.le _ _
           refine St.le_trans (le_foldP 5 7 4418 rfl rfl rfl (by decide) (by subst hA; exact idx_lt c94) (by decide) rfl (fun _ _ => rf_oncWindowHit _ _)) ?_
           exact le_sparse rfl ⟨lR _, lR _, lR _, trivial⟩ ⟨⟨fun hw => hw, fun c hc => (by cases hc), .inr (fun i _ j _ z hz => (noref (rf_oncWindowHit _ _) hz).elim), rfl, rfl, (by subst hGD hLEN hA; exact patch_set hl97 (idx_lt (by rw [← c98]; exact c94)) (by intro j hj; match j, hj with | 0, _ => rfl | 1, _ => rfl | 2, _ => rfl | 3, _ => rfl | 4, _ => rfl | 5, _ => rfl | 6, _ => rfl | 7, _ => exact (by first | rfl | exact congrArg (fun n => AC.ow n _ _) (Eq.symm (by assumption))) | (j_ + 8), h_ => exact absurd h_ (by omega)))⟩, trivial⟩ rfl
          ·clear hy87
           subst hS91
           obtain ⟨y86_0, y86_1⟩ := y86
           replace h := of_let h
           obtain ⟨w92, hw92, h⟩ := h
           have hw92 : w92 = y86_0 := hw92
           subst hw92
           replace h := of_let h
           obtain ⟨w93, hw93, h⟩ := h
           have hw93 : w93 = y86_1 := hw93
           subst hw93
           cbv
           injection h with h
           refine hK10 _ h.symm _ ?_
           exact le_sparse rfl ⟨lR _, lR _, lR _, trivial⟩ ⟨oS, trivial⟩ rfl
  ·replace h := of_br_f b100 h
   cbv
   injection h with h
   refine hY8 _ h.symm _ _ (And.intro rfl ?_) (by intro hh; cases hh)
   exact le_sparse rfl ⟨lR _, trivial⟩ ⟨oS, trivial⟩ rfl
 ·clear hr6
  have h := hN7
  clear hN7
  intro e14 s15 q13 hne
  replace h := of_let h
  obtain ⟨y5k0, hyk, h⟩ := h
  have hyk : y5k0 = y5 := hyk
  subst hyk
  obtain ⟨rfl, q13⟩ := q13
  obtain ⟨y5k0_0, y5k0_1⟩ := y5k0
  replace h := of_let h
  obtain ⟨w101, hw101, h⟩ := h
  have hw101 : w101 = y5k0_0 := hw101
  subst hw101
  replace h := of_let h
  obtain ⟨w102, hw102, h⟩ := h
  have hw102 : w102 = y5k0_1 := hw102
  subst hw102
  cbv
  refine ⟨_, q13, ?_⟩
  cbv
  replace h := of_req h
  obtain ⟨c103, h⟩ := h
  injection h with h
  subst h
  refine ⟨(sparse 73 [(4, .c (.v (.int .i64 w101)))] [(5, .arr .rw [] (LEN w102) 8 (row GD (oncWindowHit LEN GD) w102))]), ?_, ?_⟩
  ·rw [c103]
   exact le_sparse rfl ⟨lR _, trivial⟩ ⟨oS, trivial⟩ rfl
  ·exact ⟨lR _, ⟨oS, trivial⟩, rfl⟩

noncomputable def L_laws_heldInt64S_x3 (a0 : List Int) : (Int × Int) → Option ((Int × Int) ⊕ ((Int) ⊕ (Int))) := fun x3 =>
 letO x3.1 fun v1 =>
 letO x3.2 fun v2 =>
 br (std.lt v2 (std.ofN (len a0)))
 (req (std.inR v2 (len a0)) <|
 br (std.not (std.eq (gd a0 (std.toN v2)) v1))
 (some (.inr (.inl (-1))))
 (some (.inl (std.add .i64 v1 1, std.add .i64 v2 1))))
 (some (.inr (.inr v1)))
/-- laws.heldInt64S -/
noncomputable def F_laws_heldInt64S (a0 : List Int) (a1 : Int) : Option (Int) :=
 (whileP (σ := Int × Int) (ρ := (Int) ⊕ (Int)) (L_laws_heldInt64S_x3 a0) (a1, 0)).bind fun y4 =>
 (match y4 with
  | .inl y4k0 => (
    letO y4k0 fun w18 =>
    some w18)
  | .inr y4m0 =>
    letO y4m0 fun y4k1 =>
    letO y4k1 fun w19 =>
    some w19)
theorem run_laws_heldInt64S (a0 : List Int) (a1 : Int) (r : Int) (h : F_laws_heldInt64S a0 a1 = some r) : Fun Tryz.prog 47 [.c (.bs (len a0) 1 (row gd (encI .i64) a0)), .c (.v (.int .i64 a1))] [] (.c (.v (.int .i64 r))) [] true := by
 refine Fun.of_wp (oneOf []) tok mixed Tryz.func47 (by kernel_rfl) rfl Tryz.ntmps47 rfl trivial (fun _ => ⟨trivial, trivial⟩) ?_
 unfold F_laws_heldInt64S at h
 unfold L_laws_heldInt64S_x3 at h
 generalize hLEN : @len = LEN at *
 generalize hGD : @gd = GD at *
 generalize hA : std = A at *
 generalize hP : Tryz.prog = P at *
 cbv
 replace h := of_bind h
 obtain ⟨y4, hr5, hN6⟩ := h
 refine loop_cut hr5 (fun x => (sparse 21 [(0, .c (.bs (LEN a0) 1 (row GD (encI .i64) a0))), (1, .c (.v (.int .i64 x.1))), (5, .c (.v (.int .i64 x.2)))] [])) ?_ (fun y e s => (match y with | .inl w => e = .ret ∧ s.le (sparse 21 [(4, .c (.v (.int .i64 w)))] []) | .inr w0 => (fun (w : Int) => e = .exit 0 ∧ s.le (sparse 21 [(1, .c (.v (.int .i64 w)))] [])) w0)) ?_ ?_
 ·clear hr5 hN6
  show St.le _ _
  exact le_sparse rfl ⟨lR _, lR _, lR _, trivial⟩ trivial rfl
 ·clear hr5 hN6
  intro x z10 h K8 hK9 hY7
  obtain ⟨x0_, x1_⟩ := x
  replace h := of_let h
  obtain ⟨v1, hv1, h⟩ := h
  have hv1 : v1 = x0_ := hv1
  subst hv1
  replace h := of_let h
  obtain ⟨v2, hv2, h⟩ := h
  have hv2 : v2 = x1_ := hv2
  subst hv2
  cbv
  refine fork (fun b17 => ?_) (fun b17 => ?_)
  ·replace h := of_br_t b17 h
   cbv
   replace h := of_req h
   obtain ⟨c15, h⟩ := h
   refine ⟨⟨c15, trivial⟩, ?_⟩
   refine fork (fun b16 => ?_) (fun b16 => ?_)
   ·replace h := of_br_t b16 h
    cbv
    injection h with h
    refine hY7 _ h.symm _ _ (And.intro rfl ?_) (by intro hh; cases hh)
    exact le_sparse rfl ⟨lR _, trivial⟩ trivial rfl
   ·replace h := of_br_f b16 h
    cbv
    injection h with h
    refine hK9 _ h.symm _ ?_
    exact le_sparse rfl ⟨lR _, lR _, lR _, trivial⟩ trivial rfl
  ·replace h := of_br_f b17 h
   cbv
   injection h with h
   refine hY7 _ h.symm _ _ (And.intro rfl ?_) (by intro hh; cases hh)
   exact le_sparse rfl ⟨lR _, trivial⟩ trivial rfl
 ·clear hr5
  have h := hN6
  clear hN6
  intro e13 s14 q12 hne
  rcases y4 with y4k0 | y4m0
  ·replace h := h
   obtain ⟨rfl, q12⟩ := q12
   replace h := of_let h
   obtain ⟨w18, hw18, h⟩ := h
   have hw18 : w18 = y4k0 := hw18
   subst hw18
   cbv
   injection h with h
   subst h
   refine ⟨(sparse 21 [(4, .c (.v (.int .i64 w18)))] []), ?_, ?_⟩
   ·refine St.le_trans q12 ?_
    exact le_sparse rfl ⟨lR _, trivial⟩ trivial rfl
   ·exact ⟨lR _, trivial, rfl⟩
  ·replace h := of_let h
   obtain ⟨y4k1, hyk, h⟩ := h
   have hyk : y4k1 = y4m0 := hyk
   subst hyk
   obtain ⟨rfl, q12⟩ := q12
   replace h := of_let h
   obtain ⟨w19, hw19, h⟩ := h
   have hw19 : w19 = y4k1 := hw19
   subst hw19
   cbv
   refine ⟨_, q12, ?_⟩
   cbv
   injection h with h
   subst h
   refine ⟨(sparse 21 [(4, .c (.v (.int .i64 w19)))] []), ?_, ?_⟩
   ·exact le_sparse rfl ⟨lR _, trivial⟩ trivial rfl
   ·exact ⟨lR _, trivial, rfl⟩

noncomputable def L_laws_heldWindowHitS_x3 (a0 : List TWindowHit) : (Int × Int) → Option ((Int × Int) ⊕ ((Int) ⊕ (Int))) := fun x3 =>
 letO x3.1 fun v1 =>
 letO x3.2 fun v2 =>
 br (std.lt v2 (std.ofN (len a0)))
 (req (std.inR v2 (len a0)) <|
 br (std.not (std.eq (gd a0 (std.toN v2)).fCell v1))
 (some (.inr (.inl (-1))))
 (req (std.inR v2 (len a0)) <|
 br (std.not (std.eq (gd a0 (std.toN v2)).fShape (std.add .i64 v1 1)))
 (some (.inr (.inl (-1))))
 (req (std.inR v2 (len a0)) <|
 br (std.not (std.eq (gd a0 (std.toN v2)).fLayer (std.add .i64 (std.add .i64 v1 1) 1)))
 (some (.inr (.inl (-1))))
 (req (std.inR v2 (len a0)) <|
 br (std.not (std.eq (gd a0 (std.toN v2)).fBox.fX0 (std.add .i64 (std.add .i64 (std.add .i64 v1 1) 1) 1)))
 (some (.inr (.inl (-1))))
 (req (std.inR v2 (len a0)) <|
 br (std.not (std.eq (gd a0 (std.toN v2)).fBox.fY0 (std.add .i64 (std.add .i64 (std.add .i64 (std.add .i64 v1 1) 1) 1) 1)))
 (some (.inr (.inl (-1))))
 (req (std.inR v2 (len a0)) <|
 br (std.not (std.eq (gd a0 (std.toN v2)).fBox.fX1 (std.add .i64 (std.add .i64 (std.add .i64 (std.add .i64 (std.add .i64 v1 1) 1) 1) 1) 1)))
 (some (.inr (.inl (-1))))
 (req (std.inR v2 (len a0)) <|
 br (std.not (std.eq (gd a0 (std.toN v2)).fBox.fY1 (std.add .i64 (std.add .i64 (std.add .i64 (std.add .i64 (std.add .i64 (std.add .i64 v1 1) 1) 1) 1) 1) 1)))
 (some (.inr (.inl (-1))))
 (req (std.inR v2 (len a0)) <|
 (F_laws_heldInt64S (gd a0 (std.toN v2)).fPath (std.add .i64 (std.add .i64 (std.add .i64 (std.add .i64 (std.add .i64 (std.add .i64 (std.add .i64 v1 1) 1) 1) 1) 1) 1) 1)).bind fun y23 =>
 br (std.lt y23 0)
 (some (.inr (.inl (-1))))
 (some (.inl (y23, std.add .i64 v2 1)))))))))))
 (some (.inr (.inr v1)))
/-- laws.heldWindowHitS -/
noncomputable def F_laws_heldWindowHitS (a0 : List TWindowHit) (a1 : Int) : Option (Int) :=
 (whileP (σ := Int × Int) (ρ := (Int) ⊕ (Int)) (L_laws_heldWindowHitS_x3 a0) (a1, 0)).bind fun y4 =>
 (match y4 with
  | .inl y4k0 => (
    letO y4k0 fun w34 =>
    some w34)
  | .inr y4m0 =>
    letO y4m0 fun y4k1 =>
    letO y4k1 fun w35 =>
    some w35)
theorem run_laws_heldWindowHitS (a0 : List TWindowHit) (a1 : Int) (r : Int) (h : F_laws_heldWindowHitS a0 a1 = some r) : Fun Tryz.prog 20 [.c (.bs (len a0) 8 (row gd (encWindowHit len gd) a0)), .c (.v (.int .i64 a1))] [] (.c (.v (.int .i64 r))) [] true := by
 refine Fun.of_wp (oneOf []) tok mixed Tryz.func20 (by kernel_rfl) rfl Tryz.ntmps20 rfl trivial (fun _ => ⟨trivial, trivial⟩) ?_
 unfold F_laws_heldWindowHitS at h
 unfold L_laws_heldWindowHitS_x3 at h
 have hf_laws_heldInt64S := @run_laws_heldInt64S
 generalize hLEN : @len = LEN at *
 generalize hGD : @gd = GD at *
 generalize hA : std = A at *
 generalize hP : Tryz.prog = P at *
 cbv
 replace h := of_bind h
 obtain ⟨y4, hr5, hN6⟩ := h
 refine loop_cut hr5 (fun x => (sparse 89 [(0, .c (.bs (LEN a0) 8 (row GD (encWindowHit LEN GD) a0))), (1, .c (.v (.int .i64 x.1))), (5, .c (.v (.int .i64 x.2)))] [])) ?_ (fun y e s => (match y with | .inl w => e = .ret ∧ s.le (sparse 89 [(4, .c (.v (.int .i64 w)))] []) | .inr w0 => (fun (w : Int) => e = .exit 0 ∧ s.le (sparse 89 [(1, .c (.v (.int .i64 w)))] [])) w0)) ?_ ?_
 ·clear hr5 hN6
  show St.le _ _
  exact le_sparse rfl ⟨lR _, lR _, lR _, trivial⟩ trivial rfl
 ·clear hr5 hN6
  intro x z10 h K8 hK9 hY7
  obtain ⟨x0_, x1_⟩ := x
  replace h := of_let h
  obtain ⟨v1, hv1, h⟩ := h
  have hv1 : v1 = x0_ := hv1
  subst hv1
  replace h := of_let h
  obtain ⟨v2, hv2, h⟩ := h
  have hv2 : v2 = x1_ := hv2
  subst hv2
  cbv
  refine fork (fun b33 => ?_) (fun b33 => ?_)
  ·replace h := of_br_t b33 h
   cbv
   replace h := of_req h
   obtain ⟨c15, h⟩ := h
   refine ⟨⟨c15, trivial⟩, ?_⟩
   refine fork (fun b32 => ?_) (fun b32 => ?_)
   ·replace h := of_br_t b32 h
    cbv
    injection h with h
    refine hY7 _ h.symm _ _ (And.intro rfl ?_) (by intro hh; cases hh)
    exact le_sparse rfl ⟨lR _, trivial⟩ trivial rfl
   ·replace h := of_br_f b32 h
    cbv
    replace h := of_req h
    obtain ⟨c16, h⟩ := h
    refine ⟨⟨c16, trivial⟩, ?_⟩
    refine fork (fun b31 => ?_) (fun b31 => ?_)
    ·replace h := of_br_t b31 h
     cbv
     injection h with h
     refine hY7 _ h.symm _ _ (And.intro rfl ?_) (by intro hh; cases hh)
     exact le_sparse rfl ⟨lR _, trivial⟩ trivial rfl
    ·replace h := of_br_f b31 h
     cbv
     replace h := of_req h
     obtain ⟨c17, h⟩ := h
     refine ⟨⟨c17, trivial⟩, ?_⟩
     refine fork (fun b30 => ?_) (fun b30 => ?_)
     ·replace h := of_br_t b30 h
      cbv
      injection h with h
      refine hY7 _ h.symm _ _ (And.intro rfl ?_) (by intro hh; cases hh)
      exact le_sparse rfl ⟨lR _, trivial⟩ trivial rfl
     ·replace h := of_br_f b30 h
      cbv
      replace h := of_req h
      obtain ⟨c18, h⟩ := h
      refine ⟨⟨c18, trivial⟩, ?_⟩
      refine fork (fun b29 => ?_) (fun b29 => ?_)
      ·replace h := of_br_t b29 h
       cbv
       injection h with h
       refine hY7 _ h.symm _ _ (And.intro rfl ?_) (by intro hh; cases hh)
       exact le_sparse rfl ⟨lR _, trivial⟩ trivial rfl
      ·replace h := of_br_f b29 h
       cbv
       replace h := of_req h
       obtain ⟨c19, h⟩ := h
       refine ⟨⟨c19, trivial⟩, ?_⟩
       refine fork (fun b28 => ?_) (fun b28 => ?_)
       ·replace h := of_br_t b28 h
        cbv
        injection h with h
        refine hY7 _ h.symm _ _ (And.intro rfl ?_) (by intro hh; cases hh)
        exact le_sparse rfl ⟨lR _, trivial⟩ trivial rfl
       ·replace h := of_br_f b28 h
        cbv
        replace h := of_req h
        obtain ⟨c20, h⟩ := h
        refine ⟨⟨c20, trivial⟩, ?_⟩
        refine fork (fun b27 => ?_) (fun b27 => ?_)
        ·replace h := of_br_t b27 h
         cbv
         injection h with h
         refine hY7 _ h.symm _ _ (And.intro rfl ?_) (by intro hh; cases hh)
         exact le_sparse rfl ⟨lR _, trivial⟩ trivial rfl
        ·replace h := of_br_f b27 h
         cbv
         replace h := of_req h
         obtain ⟨c21, h⟩ := h
         refine ⟨⟨c21, trivial⟩, ?_⟩
         refine fork (fun b26 => ?_) (fun b26 => ?_)
         ·replace h := of_br_t b26 h
          cbv
          injection h with h
          refine hY7 _ h.symm _ _ (And.intro rfl ?_) (by intro hh; cases hh)
          exact le_sparse rfl ⟨lR _, trivial⟩ trivial rfl
         ·replace h := of_br_f b26 h
          cbv
          replace h := of_req h
          obtain ⟨c22, h⟩ := h
          refine ⟨⟨c22, trivial⟩, ?_⟩
          replace h := of_bind h
          obtain ⟨y23, hy24, h⟩ := h
          refine ⟨{ args := [.c (.bs (LEN (GD a0 (A.toN v2)).fPath) 1 (row GD (encI .i64) (GD a0 (A.toN v2)).fPath)), .c (.v (.int .i64 (A.add .i64 (A.add .i64 (A.add .i64 (A.add .i64 (A.add .i64 (A.add .i64 (A.add .i64 v1 1) 1) 1) 1) 1) 1) 1)))], o0 := [], r := .c (.v (.int .i64 y23)), o1 := [], fl := true, σ := [], τ := [] }, hf_laws_heldInt64S _ _ _ hy24, ⟨les_cons (lR _) (les_cons (lR _) (les_nil)), trivial, rfl, rfl, rfl, rfl, trivial, rfl⟩, ?_⟩
          cbv
          refine fork (fun b25 => ?_) (fun b25 => ?_)
          ·replace h := of_br_t b25 h
           cbv
           injection h with h
           refine hY7 _ h.symm _ _ (And.intro rfl ?_) (by intro hh; cases hh)
           exact le_sparse rfl ⟨lR _, trivial⟩ trivial rfl
          ·replace h := of_br_f b25 h
           cbv
           injection h with h
           refine hK9 _ h.symm _ ?_
           exact le_sparse rfl ⟨lR _, lR _, lR _, trivial⟩ trivial rfl
  ·replace h := of_br_f b33 h
   cbv
   injection h with h
   refine hY7 _ h.symm _ _ (And.intro rfl ?_) (by intro hh; cases hh)
   exact le_sparse rfl ⟨lR _, trivial⟩ trivial rfl
 ·clear hr5
  have h := hN6
  clear hN6
  intro e13 s14 q12 hne
  rcases y4 with y4k0 | y4m0
  ·replace h := h
   obtain ⟨rfl, q12⟩ := q12
   replace h := of_let h
   obtain ⟨w34, hw34, h⟩ := h
   have hw34 : w34 = y4k0 := hw34
   subst hw34
   cbv
   injection h with h
   subst h
   refine ⟨(sparse 89 [(4, .c (.v (.int .i64 w34)))] []), ?_, ?_⟩
   ·refine St.le_trans q12 ?_
    exact le_sparse rfl ⟨lR _, trivial⟩ trivial rfl
   ·exact ⟨lR _, trivial, rfl⟩
  ·replace h := of_let h
   obtain ⟨y4k1, hyk, h⟩ := h
   have hyk : y4k1 = y4m0 := hyk
   subst hyk
   obtain ⟨rfl, q12⟩ := q12
   replace h := of_let h
   obtain ⟨w35, hw35, h⟩ := h
   have hw35 : w35 = y4k1 := hw35
   subst hw35
   cbv
   refine ⟨_, q12, ?_⟩
   cbv
   injection h with h
   subst h
   refine ⟨(sparse 89 [(4, .c (.v (.int .i64 w35)))] []), ?_, ?_⟩
   ·exact le_sparse rfl ⟨lR _, trivial⟩ trivial rfl
   ·exact ⟨lR _, trivial, rfl⟩

/-- laws.FnExactProbeUnit -/
noncomputable def F_laws_FnExactProbeUnit (a0 : TLibrary) (a1 : Int) (a2 : TPoint) : Option (Bool) :=
 (F_laws_szLibrary a0 1048576).bind fun y1 =>
 br (std.lt y1 0)
 (some true)
 ((F_laws_toLibrary a0).bind fun y3 =>
 (F_laws_toPoint (TPoint.mk a2.fX a2.fY)).bind fun y5 =>
 (F_spec_ProbeUnit y3 a1 y5).bind fun y7 =>
 (F_laws_toLibrary a0).bind fun y9 =>
 (F_laws_toPoint (TPoint.mk a2.fX a2.fY)).bind fun y11 =>
 (F_impl_ProbeUnit y9 a1 y11).bind fun y13 =>
 ((
    (F_laws_eqWindowHitS y13.1 y7.1).bind fun y22 =>
    br (!(y22))
    (some true)
    (some (std.not (std.eq y13.2 y7.2)))
  ) : Option (Bool)).bind fun y15 =>
 letO y15 fun w21 =>
 br w21
 (some false)
 ((F_laws_toLibrary a0).bind fun y25 =>
 (F_laws_eqLibrary y9 y25).bind fun y27 =>
 br (!(y27))
 (some false)
 ((F_laws_markLibrary_mob y9 1).bind fun y29 =>
 req (len y29.2 = len y9.fCells) <|
 ((
    br (std.lt y29.1 0)
    (some true)
    ((F_laws_eqWindowHitS y13.1 y7.1).bind fun y38 =>
    br (!(y38))
    (some true)
    (some (std.not (std.eq y13.2 y7.2))))
  ) : Option (Bool)).bind fun y31 =>
 letO y31 fun w37 =>
 br w37
 (some false)
 ((F_laws_markWindowHitS_mob y13.1 1).bind fun y42 =>
 req (len y42.2 = len y13.1) <|
 (F_laws_heldWindowHitS y42.2 1).bind fun y44 =>
 req (len y13.1 = len y42.2) <|
 br (std.lt y44 0)
 (some false)
 (br (std.not (std.eq y44 y42.1))
 (some false)
 ((F_laws_toLibrary a0).bind fun y46 =>
 (F_laws_toPoint (TPoint.mk a2.fX a2.fY)).bind fun y48 =>
 (F_impl_ProbeUnit y46 a1 y48).bind fun y50 =>
 ((
    (F_laws_eqWindowHitS y50.1 y7.1).bind fun y59 =>
    br (!(y59))
    (some true)
    (some (std.not (std.eq y50.2 y7.2)))
  ) : Option (Bool)).bind fun y52 =>
 letO y52 fun w58 =>
 br w58
 (some false)
 ((F_laws_heldWindowHitS y42.2 1).bind fun y62 =>
 req (len y13.1 = len y42.2) <|
 br (std.lt y62 0)
 (some false)
 (br (std.not (std.eq y62 y42.1))
 (some false)
 (some true)))))))))
theorem run_laws_FnExactProbeUnit (a0 : TLibrary) (a1 : Int) (a2 : TPoint) (r : Bool) (h : F_laws_FnExactProbeUnit a0 a1 a2 = some r) : Fun Tryz.prog 5 [.agg [.bs (len a0.fCells) 4 (row gd (encCell len gd) a0.fCells)], .c (.v (.int .i64 a1)), .agg [.v (.int .i64 a2.fX), .v (.int .i64 a2.fY)]] [] (.c (.v (.bool r))) [] true := by
 refine Fun.of_wp (oneOf [8, 14, 25]) tok mixed Tryz.func5 (by kernel_rfl) rfl Tryz.ntmps5 rfl trivial (fun _ => ⟨trivial, trivial⟩) ?_
 unfold F_laws_FnExactProbeUnit at h
 have hf_impl_ProbeUnit := @run_impl_ProbeUnit
 have hf_laws_eqLibrary := @run_laws_eqLibrary
 have hf_laws_eqWindowHitS := @run_laws_eqWindowHitS
 have hf_laws_heldWindowHitS := @run_laws_heldWindowHitS
 have hf_laws_markLibrary_mob := @run_laws_markLibrary_mob
 have hf_laws_markWindowHitS_mob := @run_laws_markWindowHitS_mob
 have hf_laws_szLibrary := @run_laws_szLibrary
 have hf_laws_toLibrary := @run_laws_toLibrary
 have hf_laws_toPoint := @run_laws_toPoint
 have hf_spec_ProbeUnit := @run_spec_ProbeUnit
 generalize hLEN : @len = LEN at *
 generalize hGD : @gd = GD at *
 generalize hA : std = A at *
 generalize hP : Tryz.prog = P at *
 cbv
 replace h := of_bind h
 obtain ⟨y1, hy2, h⟩ := h
 refine ⟨{ args := [.agg [.bs (LEN a0.fCells) 4 (row GD (encCell LEN GD) a0.fCells)], .c (.v (.int .i64 1048576))], o0 := [], r := .c (.v (.int .i64 y1)), o1 := [], fl := true, σ := [], τ := [] }, hf_laws_szLibrary _ _ _ hy2, ⟨les_cons (lR _) (les_cons (lR _) (les_nil)), trivial, rfl, rfl, rfl, rfl, trivial, rfl⟩, ?_⟩
 cbv
 refine fork (fun b76 => ?_) (fun b76 => ?_)
 ·replace h := of_br_t b76 h
  cbv
  injection h with h
  subst h
  refine ⟨(sparse 109 [(6, .c (.v (.bool true)))] []), ?_, ?_⟩
  ·exact le_sparse rfl ⟨lR _, trivial⟩ trivial rfl
  ·exact ⟨lR _, trivial, rfl⟩
 ·replace h := of_br_f b76 h
  cbv
  replace h := of_bind h
  obtain ⟨y3, hy4, h⟩ := h
  refine ⟨{ args := [.agg [.bs (LEN a0.fCells) 4 (row GD (encCell LEN GD) a0.fCells)]], o0 := [], r := .agg [.os 64000 0 (LEN y3.fCells)], o1 := [(64000, .arr .rw [] (LEN y3.fCells) 4 (row GD (oncCell LEN GD) y3.fCells))], fl := true, σ := [], τ := [(64000, 1600)] }, hf_laws_toLibrary _ _ hy4, ⟨les_cons (lR _) (les_nil), trivial, rfl, rfl, rfl, rfl, ⟨fun h => absurd (show (64000 : Nat) % 2 = 1 from h) (by decide), trivial⟩, rfl⟩, _, rfl, _, _, rfl, fun _ _ _ _ => rfl, ?_⟩
  cbv
  replace h := of_bind h
  obtain ⟨y5, hy6, h⟩ := h
  refine ⟨{ args := [.agg [.v (.int .i64 a2.fX), .v (.int .i64 a2.fY)]], o0 := [], r := .agg [.v (.int .i64 y5.fX), .v (.int .i64 y5.fY)], o1 := [], fl := true, σ := [], τ := [] }, hf_laws_toPoint _ _ hy6, ⟨les_cons (lR _) (les_nil), trivial, rfl, rfl, rfl, rfl, trivial, rfl⟩, ?_⟩
  cbv
  replace h := of_bind h
  obtain ⟨y7, hy8, h⟩ := h
  refine ⟨{ args := [.agg [.bs (LEN y3.fCells) 4 (row GD (encCell LEN GD) y3.fCells)], .c (.v (.int .i64 a1)), .agg [.v (.int .i64 y5.fX), .v (.int .i64 y5.fY)]], o0 := [], r := .tup [.c (.os 64000 0 (LEN y7.1)), .c (.v (.int .i64 y7.2))], o1 := [(64000, .arr .rw [] (LEN y7.1) 8 (row GD (oncWindowHit LEN GD) y7.1))], fl := true, σ := [], τ := [(64000, 1856)] }, hf_spec_ProbeUnit _ _ _ _ hy8, ⟨les_cons (le_agg ⟨give_osD (rf_oncCell) (ln_oncCell) rfl rfl rfl, trivial⟩) (les_cons (lR _) (les_cons (lR _) (les_nil))), trivial, rfl, rfl, rfl, rfl, ⟨fun h => absurd (show (64000 : Nat) % 2 = 1 from h) (by decide), trivial⟩, rfl⟩, _, rfl, _, _, rfl, fun _ _ _ _ => rfl, ?_⟩
  cbv
  replace h := of_bind h
  obtain ⟨y9, hy10, h⟩ := h
  refine ⟨{ args := [.agg [.bs (LEN a0.fCells) 4 (row GD (encCell LEN GD) a0.fCells)]], o0 := [], r := .agg [.os 64000 0 (LEN y9.fCells)], o1 := [(64000, .arr .rw [] (LEN y9.fCells) 4 (row GD (oncCell LEN GD) y9.fCells))], fl := true, σ := [], τ := [(64000, 2112)] }, hf_laws_toLibrary _ _ hy10, ⟨les_cons (lR _) (les_nil), trivial, rfl, rfl, rfl, rfl, ⟨fun h => absurd (show (64000 : Nat) % 2 = 1 from h) (by decide), trivial⟩, rfl⟩, _, rfl, _, _, rfl, fun _ _ _ _ => rfl, ?_⟩
  cbv
  replace h := of_bind h
  obtain ⟨y11, hy12, h⟩ := h
  refine ⟨{ args := [.agg [.v (.int .i64 a2.fX), .v (.int .i64 a2.fY)]], o0 := [], r := .agg [.v (.int .i64 y11.fX), .v (.int .i64 y11.fY)], o1 := [], fl := true, σ := [], τ := [] }, hf_laws_toPoint _ _ hy12, ⟨les_cons (lR _) (les_nil), trivial, rfl, rfl, rfl, rfl, trivial, rfl⟩, ?_⟩
  cbv
  replace h := of_bind h
  obtain ⟨y13, hy14, h⟩ := h
  refine ⟨{ args := [.agg [.bs (LEN y9.fCells) 4 (row GD (encCell LEN GD) y9.fCells)], .c (.v (.int .i64 a1)), .agg [.v (.int .i64 y11.fX), .v (.int .i64 y11.fY)]], o0 := [], r := .tup [.c (.os 64000 0 (LEN y13.1)), .c (.v (.int .i64 y13.2))], o1 := [(64000, .arr .rw [] (LEN y13.1) 8 (row GD (oncWindowHit LEN GD) y13.1))], fl := true, σ := [], τ := [(64000, 2496)] }, hf_impl_ProbeUnit _ _ _ _ hy14, ⟨les_cons (le_agg ⟨give_osD (rf_oncCell) (ln_oncCell) rfl rfl rfl, trivial⟩) (les_cons (lR _) (les_cons (lR _) (les_nil))), trivial, rfl, rfl, rfl, rfl, ⟨fun h => absurd (show (64000 : Nat) % 2 = 1 from h) (by decide), trivial⟩, rfl⟩, _, rfl, _, _, rfl, fun _ _ _ _ => rfl, ?_⟩
  cbv
  replace h := of_bind h
  obtain ⟨y15, hy16, h⟩ := h
  obtain ⟨S19, hS20⟩ : ∃ S, S = (sparse 109 [(1, .c (.v (.int .i64 a1))), (3, .c (.ptr 192 0)), (5, .c (.ptr 320 0)), (8, .c (.os 1856 0 (LEN y7.1))), (9, .c (.v (.int .i64 y7.2))), (10, .c (.ptr 640 0)), (11, .c (.os 2496 0 (LEN y13.1))), (12, .c (.v (.int .i64 y13.2))), (50, .c (.v (.bool y15)))] [(192, .var [.bs (LEN a0.fCells) 4 (row GD (encCell LEN GD) a0.fCells)]), (320, .var [.v (.int .i64 a2.fX), .v (.int .i64 a2.fY)]), (1856, .arr .rw [] (LEN y7.1) 8 (row GD (oncWindowHit LEN GD) y7.1)), (640, .var [.os 2112 0 (LEN y9.fCells)]), (2496, .arr .rw [] (LEN y13.1) 8 (row GD (oncWindowHit LEN GD) y13.1)), (2112, .arr .rw [] (LEN y9.fCells) 4 (row GD (oncCell LEN GD) y9.fCells))]) := ⟨_, rfl⟩
  refine ⟨S19, ?_, ?_⟩
  ·clear h
   have h := hy16
   clear hy16
   cbv
   replace h := of_bind h
   obtain ⟨y22, hy23, h⟩ := h
   refine ⟨{ args := [.c (.bs (LEN y13.1) 8 (row GD (encWindowHit LEN GD) y13.1)), .c (.bs (LEN y7.1) 8 (row GD (encWindowHit LEN GD) y7.1))], o0 := [], r := .c (.v (.bool y22)), o1 := [], fl := true, σ := [], τ := [] }, hf_laws_eqWindowHitS _ _ _ hy23, ⟨les_cons (give_osD (rf_oncWindowHit) (ln_oncWindowHit) rfl rfl rfl) (les_cons (give_osD (rf_oncWindowHit) (ln_oncWindowHit) rfl rfl rfl) (les_nil)), trivial, rfl, rfl, rfl, rfl, trivial, rfl⟩, ?_⟩
   cbv
   refine fork (fun b24 => ?_) (fun b24 => ?_)
   ·replace h := of_br_t b24 h
    cbv
    injection h with h
    subst h
    subst hS20
    show St.le _ _
    exact le_sparse rfl ⟨lR _, lR _, lR _, lR _, lR _, lR _, lR _, lR _, lR _, trivial⟩ ⟨rfl, rfl, oS, rfl, oS, oS, trivial⟩ rfl
   ·replace h := of_br_f b24 h
    cbv
    injection h with h
    subst h
    subst hS20
    show St.le _ _
    exact le_sparse rfl ⟨lR _, lR _, lR _, lR _, lR _, lR _, lR _, lR _, lR _, trivial⟩ ⟨rfl, rfl, oS, rfl, oS, oS, trivial⟩ rfl
  ·clear hy16
   subst hS20
   replace h := of_let h
   obtain ⟨w21, hw21, h⟩ := h
   have hw21 : w21 = y15 := hw21
   subst hw21
   cbv
   refine fork (fun b75 => ?_) (fun b75 => ?_)
   ·replace h := of_br_t b75 h
    cbv
    injection h with h
    subst h
    refine ⟨(sparse 109 [(6, .c (.v (.bool false)))] []), ?_, ?_⟩
    ·exact le_sparse rfl ⟨lR _, trivial⟩ trivial rfl
    ·exact ⟨lR _, trivial, rfl⟩
   ·replace h := of_br_f b75 h
    cbv
    replace h := of_bind h
    obtain ⟨y25, hy26, h⟩ := h
    refine ⟨{ args := [.agg [.bs (LEN a0.fCells) 4 (row GD (encCell LEN GD) a0.fCells)]], o0 := [], r := .agg [.os 64000 0 (LEN y25.fCells)], o1 := [(64000, .arr .rw [] (LEN y25.fCells) 4 (row GD (oncCell LEN GD) y25.fCells))], fl := true, σ := [], τ := [(64000, 3392)] }, hf_laws_toLibrary _ _ hy26, ⟨les_cons (lR _) (les_nil), trivial, rfl, rfl, rfl, rfl, ⟨fun h => absurd (show (64000 : Nat) % 2 = 1 from h) (by decide), trivial⟩, rfl⟩, _, rfl, _, _, rfl, fun _ _ _ _ => rfl, ?_⟩
    cbv
    replace h := of_bind h
    obtain ⟨y27, hy28, h⟩ := h
    refine ⟨{ args := [.agg [.bs (LEN y9.fCells) 4 (row GD (encCell LEN GD) y9.fCells)], .agg [.bs (LEN y25.fCells) 4 (row GD (encCell LEN GD) y25.fCells)]], o0 := [], r := .c (.v (.bool y27)), o1 := [], fl := true, σ := [], τ := [] }, hf_laws_eqLibrary _ _ _ hy28, ⟨les_cons (le_agg ⟨give_osD (rf_oncCell) (ln_oncCell) rfl rfl rfl, trivial⟩) (les_cons (le_agg ⟨give_osD (rf_oncCell) (ln_oncCell) rfl rfl rfl, trivial⟩) (les_nil)), trivial, rfl, rfl, rfl, rfl, trivial, rfl⟩, ?_⟩
    cbv
    refine fork (fun b74 => ?_) (fun b74 => ?_)
    ·replace h := of_br_t b74 h
     cbv
     injection h with h
     subst h
     refine ⟨(sparse 109 [(6, .c (.v (.bool false)))] []), ?_, ?_⟩
     ·exact le_sparse rfl ⟨lR _, trivial⟩ trivial rfl
     ·exact ⟨lR _, trivial, rfl⟩
    ·replace h := of_br_f b74 h
     cbv
     replace h := of_bind h
     obtain ⟨y29, hy30, h⟩ := h
     replace h := of_req h
     obtain ⟨c73, h⟩ := h
     refine ⟨{ args := [.agg [.os 5 0 (LEN y9.fCells)], .c (.v (.int .i64 1))], o0 := [(5, .arr .rw [] (LEN y9.fCells) 4 (row GD (oncCell LEN GD) y9.fCells))], r := .c (.v (.int .i64 y29.1)), o1 := [(5, .arr .rw [] (LEN y29.2) 4 (row GD (oncCell LEN GD) y29.2))], fl := true, σ := [(5, 2112)], τ := [(5, 2112)] }, hf_laws_markLibrary_mob _ _ _ hy30, ⟨les_cons (lR _) (les_cons (lR _) (les_nil)), ⟨oS, trivial⟩, rfl, rfl, rfl, rfl, ⟨fun _ => ⟨c73.symm, rfl, fun c h => h⟩, trivial⟩, rfl⟩, _, rfl, LEN y9.fCells, _, c73, fun _ _ _ _ => rfl, ?_⟩
     cbv
     replace h := of_bind h
     obtain ⟨y31, hy32, h⟩ := h
     obtain ⟨S35, hS36⟩ : ∃ S, S = (sparse 109 [(1, .c (.v (.int .i64 a1))), (3, .c (.ptr 192 0)), (5, .c (.ptr 320 0)), (8, .c (.os 1856 0 (LEN y7.1))), (9, .c (.v (.int .i64 y7.2))), (11, .c (.os 2496 0 (LEN y13.1))), (71, .c (.v (.bool y31)))] [(192, .var [.bs (LEN a0.fCells) 4 (row GD (encCell LEN GD) a0.fCells)]), (320, .var [.v (.int .i64 a2.fX), .v (.int .i64 a2.fY)]), (1856, .arr .rw [] (LEN y7.1) 8 (row GD (oncWindowHit LEN GD) y7.1)), (2496, .arr .rw [] (LEN y13.1) 8 (row GD (oncWindowHit LEN GD) y13.1))]) := ⟨_, rfl⟩
     refine ⟨S35, ?_, ?_⟩
     ·clear h
      have h := hy32
      clear hy32
      cbv
      refine fork (fun b41 => ?_) (fun b41 => ?_)
      ·replace h := of_br_t b41 h
       cbv
       injection h with h
       subst h
       subst hS36
       show St.le _ _
       exact le_sparse rfl ⟨lR _, lR _, lR _, lR _, lR _, lR _, lR _, trivial⟩ ⟨rfl, rfl, oS, oS, trivial⟩ rfl
      ·replace h := of_br_f b41 h
       cbv
       replace h := of_bind h
       obtain ⟨y38, hy39, h⟩ := h
       refine ⟨{ args := [.c (.bs (LEN y13.1) 8 (row GD (encWindowHit LEN GD) y13.1)), .c (.bs (LEN y7.1) 8 (row GD (encWindowHit LEN GD) y7.1))], o0 := [], r := .c (.v (.bool y38)), o1 := [], fl := true, σ := [], τ := [] }, hf_laws_eqWindowHitS _ _ _ hy39, ⟨les_cons (give_osD (rf_oncWindowHit) (ln_oncWindowHit) rfl rfl rfl) (les_cons (give_osD (rf_oncWindowHit) (ln_oncWindowHit) rfl rfl rfl) (les_nil)), trivial, rfl, rfl, rfl, rfl, trivial, rfl⟩, ?_⟩
       cbv
       refine fork (fun b40 => ?_) (fun b40 => ?_)
       ·replace h := of_br_t b40 h
        cbv
        injection h with h
        subst h
        subst hS36
        show St.le _ _
        exact le_sparse rfl ⟨lR _, lR _, lR _, lR _, lR _, lR _, lR _, trivial⟩ ⟨rfl, rfl, oS, oS, trivial⟩ rfl
       ·replace h := of_br_f b40 h
        cbv
        injection h with h
        subst h
        subst hS36
        show St.le _ _
        exact le_sparse rfl ⟨lR _, lR _, lR _, lR _, lR _, lR _, lR _, trivial⟩ ⟨rfl, rfl, oS, oS, trivial⟩ rfl
     ·clear hy32
      subst hS36
      replace h := of_let h
      obtain ⟨w37, hw37, h⟩ := h
      have hw37 : w37 = y31 := hw37
      subst hw37
      cbv
      refine fork (fun b72 => ?_) (fun b72 => ?_)
      ·replace h := of_br_t b72 h
       cbv
       injection h with h
       subst h
       refine ⟨(sparse 109 [(6, .c (.v (.bool false)))] []), ?_, ?_⟩
       ·exact le_sparse rfl ⟨lR _, trivial⟩ trivial rfl
       ·exact ⟨lR _, trivial, rfl⟩
      ·replace h := of_br_f b72 h
       cbv
       replace h := of_bind h
       obtain ⟨y42, hy43, h⟩ := h
       replace h := of_req h
       obtain ⟨c71, h⟩ := h
       refine ⟨{ args := [.c (.os 5 0 (LEN y13.1)), .c (.v (.int .i64 1))], o0 := [(5, .arr .rw [] (LEN y13.1) 8 (row GD (oncWindowHit LEN GD) y13.1))], r := .c (.v (.int .i64 y42.1)), o1 := [(5, .arr .rw [] (LEN y42.2) 8 (row GD (oncWindowHit LEN GD) y42.2))], fl := true, σ := [(5, 2496)], τ := [(5, 2496)] }, hf_laws_markWindowHitS_mob _ _ _ hy43, ⟨les_cons (lR _) (les_cons (lR _) (les_nil)), ⟨oS, trivial⟩, rfl, rfl, rfl, rfl, ⟨fun _ => ⟨c71.symm, rfl, fun c h => h⟩, trivial⟩, rfl⟩, _, rfl, LEN y13.1, _, c71, fun _ _ _ _ => rfl, ?_⟩
       cbv
       replace h := of_bind h
       obtain ⟨y44, hy45, h⟩ := h
       replace h := of_req h
       obtain ⟨c70, h⟩ := h
       refine ⟨{ args := [.c (.bs (LEN y42.2) 8 (row GD (encWindowHit LEN GD) y42.2)), .c (.v (.int .i64 1))], o0 := [], r := .c (.v (.int .i64 y44)), o1 := [], fl := true, σ := [], τ := [] }, hf_laws_heldWindowHitS _ _ _ hy45, ⟨les_cons (give_osD (rf_oncWindowHit) (ln_oncWindowHit) rfl rfl c70) (les_cons (lR _) (les_nil)), trivial, rfl, rfl, rfl, rfl, trivial, rfl⟩, ?_⟩
       cbv
       refine fork (fun b69 => ?_) (fun b69 => ?_)
       ·replace h := of_br_t b69 h
        cbv
        injection h with h
        subst h
        refine ⟨(sparse 109 [(6, .c (.v (.bool false)))] []), ?_, ?_⟩
        ·exact le_sparse rfl ⟨lR _, trivial⟩ trivial rfl
        ·exact ⟨lR _, trivial, rfl⟩
       ·replace h := of_br_f b69 h
        cbv
        refine fork (fun b68 => ?_) (fun b68 => ?_)
        ·replace h := of_br_t b68 h
         cbv
         injection h with h
         subst h
         refine ⟨(sparse 109 [(6, .c (.v (.bool false)))] []), ?_, ?_⟩
         ·exact le_sparse rfl ⟨lR _, trivial⟩ trivial rfl
         ·exact ⟨lR _, trivial, rfl⟩
        ·replace h := of_br_f b68 h
         cbv
         replace h := of_bind h
         obtain ⟨y46, hy47, h⟩ := h
         refine ⟨{ args := [.agg [.bs (LEN a0.fCells) 4 (row GD (encCell LEN GD) a0.fCells)]], o0 := [], r := .agg [.os 64000 0 (LEN y46.fCells)], o1 := [(64000, .arr .rw [] (LEN y46.fCells) 4 (row GD (oncCell LEN GD) y46.fCells))], fl := true, σ := [], τ := [(64000, 5440)] }, hf_laws_toLibrary _ _ hy47, ⟨les_cons (lR _) (les_nil), trivial, rfl, rfl, rfl, rfl, ⟨fun h => absurd (show (64000 : Nat) % 2 = 1 from h) (by decide), trivial⟩, rfl⟩, _, rfl, _, _, rfl, fun _ _ _ _ => rfl, ?_⟩
         cbv
         replace h := of_bind h
         obtain ⟨y48, hy49, h⟩ := h
         refine ⟨{ args := [.agg [.v (.int .i64 a2.fX), .v (.int .i64 a2.fY)]], o0 := [], r := .agg [.v (.int .i64 y48.fX), .v (.int .i64 y48.fY)], o1 := [], fl := true, σ := [], τ := [] }, hf_laws_toPoint _ _ hy49, ⟨les_cons (lR _) (les_nil), trivial, rfl, rfl, rfl, rfl, trivial, rfl⟩, ?_⟩
         cbv
         replace h := of_bind h
         obtain ⟨y50, hy51, h⟩ := h
         refine ⟨{ args := [.agg [.bs (LEN y46.fCells) 4 (row GD (encCell LEN GD) y46.fCells)], .c (.v (.int .i64 a1)), .agg [.v (.int .i64 y48.fX), .v (.int .i64 y48.fY)]], o0 := [], r := .tup [.c (.os 64000 0 (LEN y50.1)), .c (.v (.int .i64 y50.2))], o1 := [(64000, .arr .rw [] (LEN y50.1) 8 (row GD (oncWindowHit LEN GD) y50.1))], fl := true, σ := [], τ := [(64000, 5696)] }, hf_impl_ProbeUnit _ _ _ _ hy51, ⟨les_cons (le_agg ⟨give_osD (rf_oncCell) (ln_oncCell) rfl rfl rfl, trivial⟩) (les_cons (lR _) (les_cons (lR _) (les_nil))), trivial, rfl, rfl, rfl, rfl, ⟨fun h => absurd (show (64000 : Nat) % 2 = 1 from h) (by decide), trivial⟩, rfl⟩, _, rfl, _, _, rfl, fun _ _ _ _ => rfl, ?_⟩
         cbv
         replace h := of_bind h
         obtain ⟨y52, hy53, h⟩ := h
         obtain ⟨S56, hS57⟩ : ∃ S, S = (sparse 109 [(11, .c (.os 2496 0 (LEN y13.1))), (14, .c (.v (.int .i64 y42.1))), (100, .c (.v (.bool y52)))] [(2496, .arr .rw [] (LEN y13.1) 8 (row GD (oncWindowHit LEN GD) y42.2))]) := ⟨_, rfl⟩
         refine ⟨S56, ?_, ?_⟩
         ·clear h
          have h := hy53
          clear hy53
          cbv
          replace h := of_bind h
          obtain ⟨y59, hy60, h⟩ := h
          refine ⟨{ args := [.c (.bs (LEN y50.1) 8 (row GD (encWindowHit LEN GD) y50.1)), .c (.bs (LEN y7.1) 8 (row GD (encWindowHit LEN GD) y7.1))], o0 := [], r := .c (.v (.bool y59)), o1 := [], fl := true, σ := [], τ := [] }, hf_laws_eqWindowHitS _ _ _ hy60, ⟨les_cons (give_osD (rf_oncWindowHit) (ln_oncWindowHit) rfl rfl rfl) (les_cons (give_osD (rf_oncWindowHit) (ln_oncWindowHit) rfl rfl rfl) (les_nil)), trivial, rfl, rfl, rfl, rfl, trivial, rfl⟩, ?_⟩
          cbv
          refine fork (fun b61 => ?_) (fun b61 => ?_)
          ·replace h := of_br_t b61 h
           cbv
           injection h with h
           subst h
           subst hS57
           show St.le _ _
           exact le_sparse rfl ⟨lR _, lR _, lR _, trivial⟩ ⟨oS, trivial⟩ rfl
          ·replace h := of_br_f b61 h
           cbv
           injection h with h
           subst h
           subst hS57
           show St.le _ _
           exact le_sparse rfl ⟨lR _, lR _, lR _, trivial⟩ ⟨oS, trivial⟩ rfl
         ·clear hy53
          subst hS57
          replace h := of_let h
          obtain ⟨w58, hw58, h⟩ := h
          have hw58 : w58 = y52 := hw58
          subst hw58
          cbv
          refine fork (fun b67 => ?_) (fun b67 => ?_)
          ·replace h := of_br_t b67 h
           cbv
           injection h with h
           subst h
           refine ⟨(sparse 109 [(6, .c (.v (.bool false)))] []), ?_, ?_⟩
           ·exact le_sparse rfl ⟨lR _, trivial⟩ trivial rfl
           ·exact ⟨lR _, trivial, rfl⟩
          ·replace h := of_br_f b67 h
           cbv
           replace h := of_bind h
           obtain ⟨y62, hy63, h⟩ := h
           replace h := of_req h
           obtain ⟨c66, h⟩ := h
           refine ⟨{ args := [.c (.bs (LEN y42.2) 8 (row GD (encWindowHit LEN GD) y42.2)), .c (.v (.int .i64 1))], o0 := [], r := .c (.v (.int .i64 y62)), o1 := [], fl := true, σ := [], τ := [] }, hf_laws_heldWindowHitS _ _ _ hy63, ⟨les_cons (give_osD (rf_oncWindowHit) (ln_oncWindowHit) rfl rfl c66) (les_cons (lR _) (les_nil)), trivial, rfl, rfl, rfl, rfl, trivial, rfl⟩, ?_⟩
           cbv
           refine fork (fun b65 => ?_) (fun b65 => ?_)
           ·replace h := of_br_t b65 h
            cbv
            injection h with h
            subst h
            refine ⟨(sparse 109 [(6, .c (.v (.bool false)))] []), ?_, ?_⟩
            ·exact le_sparse rfl ⟨lR _, trivial⟩ trivial rfl
            ·exact ⟨lR _, trivial, rfl⟩
           ·replace h := of_br_f b65 h
            cbv
            refine fork (fun b64 => ?_) (fun b64 => ?_)
            ·replace h := of_br_t b64 h
             cbv
             injection h with h
             subst h
             refine ⟨(sparse 109 [(6, .c (.v (.bool false)))] []), ?_, ?_⟩
             ·exact le_sparse rfl ⟨lR _, trivial⟩ trivial rfl
             ·exact ⟨lR _, trivial, rfl⟩
            ·replace h := of_br_f b64 h
             cbv
             injection h with h
             subst h
             refine ⟨(sparse 109 [(6, .c (.v (.bool true)))] []), ?_, ?_⟩
             ·exact le_sparse rfl ⟨lR _, trivial⟩ trivial rfl
             ·exact ⟨lR _, trivial, rfl⟩
theorem op_9 (d : Nat) : Opens T (d + 1) 9 (clS) (wfS) := op_str (show T 9 = some d9 from rfl) rfl
theorem op_2 (d : Nat) : Opens T (d + 1) 2 (clI .i64) (wfI .i64) := op_int .i64 (show T 2 = some d2 from rfl) rfl
def clRect (e : TRect) : List AC := clI .i64 e.fX0 ++ (clI .i64 e.fY0 ++ (clI .i64 e.fX1 ++ (clI .i64 e.fY1 ++ ([]))))
def wfRect (e : TRect) : Prop := wfI .i64 e.fX0 ∧ wfI .i64 e.fY0 ∧ wfI .i64 e.fX1 ∧ wfI .i64 e.fY1
theorem op_26 (d : Nat) : Opens T (d + 2) 26 (clRect) (wfRect) := by
  intro cs hs
  obtain ⟨a0, b0, rfl, h0, a1, b1, rfl, h1, a2, b2, rfl, h2, a3, b3, rfl, h3, rfl⟩ := hs
  obtain ⟨e0, w0, r0⟩ := op_2 (d + 0) a0 h0
  obtain ⟨e1, w1, r1⟩ := op_2 (d + 0) a1 h1
  obtain ⟨e2, w2, r2⟩ := op_2 (d + 0) a2 h2
  obtain ⟨e3, w3, r3⟩ := op_2 (d + 0) a3 h3
  exact ⟨TRect.mk e0 e1 e2 e3, ⟨w0, w1, w2, w3⟩, rlist_app r0 (rlist_app r1 (rlist_app r2 (rlist_app r3 (trivial))))⟩
def clShape (e : TShape) : List AC := clI .i64 e.fLayer ++ (clRect e.fBox ++ ([]))
def wfShape (e : TShape) : Prop := wfI .i64 e.fLayer ∧ wfRect e.fBox
theorem op_148 (d : Nat) : Opens T (d + 3) 148 (clShape) (wfShape) := by
  intro cs hs
  obtain ⟨a0, b0, rfl, h0, a1, b1, rfl, h1, rfl⟩ := hs
  obtain ⟨e0, w0, r0⟩ := op_2 (d + 1) a0 h0
  obtain ⟨e1, w1, r1⟩ := op_26 (d + 0) a1 h1
  exact ⟨TShape.mk e0 e1, ⟨w0, w1⟩, rlist_app r0 (rlist_app r1 (trivial))⟩
theorem op_90 (d : Nat) : Opens T (d + 4) 90 (clL 5 (encShape)) (wfL wfShape) := op_slice (e := 148) (sz := 5) (show T 90 = some d90 from rfl) rfl (show T 148 = some d148 from rfl) rfl (fun x j hj => by match j, hj with | 0, _ => rfl | 1, _ => rfl | 2, _ => rfl | 3, _ => rfl | 4, _ => rfl | (j_ + 5), h_ => exact absurd h_ (by omega)) (op_148 d)
def clPoint (e : TPoint) : List AC := clI .i64 e.fX ++ (clI .i64 e.fY ++ ([]))
def wfPoint (e : TPoint) : Prop := wfI .i64 e.fX ∧ wfI .i64 e.fY
theorem op_49 (d : Nat) : Opens T (d + 2) 49 (clPoint) (wfPoint) := by
  intro cs hs
  obtain ⟨a0, b0, rfl, h0, a1, b1, rfl, h1, rfl⟩ := hs
  obtain ⟨e0, w0, r0⟩ := op_2 (d + 0) a0 h0
  obtain ⟨e1, w1, r1⟩ := op_2 (d + 0) a1 h1
  exact ⟨TPoint.mk e0 e1, ⟨w0, w1⟩, rlist_app r0 (rlist_app r1 (trivial))⟩
def clLabel (e : TLabel) : List AC := clI .i64 e.fLayer ++ (clPoint e.fAt ++ (clS e.fName ++ ([])))
def wfLabel (e : TLabel) : Prop := wfI .i64 e.fLayer ∧ wfPoint e.fAt ∧ wfS e.fName
theorem op_141 (d : Nat) : Opens T (d + 3) 141 (clLabel) (wfLabel) := by
  intro cs hs
  obtain ⟨a0, b0, rfl, h0, a1, b1, rfl, h1, a2, b2, rfl, h2, rfl⟩ := hs
  obtain ⟨e0, w0, r0⟩ := op_2 (d + 1) a0 h0
  obtain ⟨e1, w1, r1⟩ := op_49 (d + 0) a1 h1
  obtain ⟨e2, w2, r2⟩ := op_9 (d + 1) a2 h2
  exact ⟨TLabel.mk e0 e1 e2, ⟨w0, w1, w2⟩, rlist_app r0 (rlist_app r1 (rlist_app r2 (trivial)))⟩
theorem op_91 (d : Nat) : Opens T (d + 4) 91 (clL 4 (encLabel)) (wfL wfLabel) := op_slice (e := 141) (sz := 4) (show T 91 = some d91 from rfl) rfl (show T 141 = some d141 from rfl) rfl (fun x j hj => by match j, hj with | 0, _ => rfl | 1, _ => rfl | 2, _ => rfl | 3, _ => rfl | (j_ + 4), h_ => exact absurd h_ (by omega)) (op_141 d)
def clTransform (e : TTransform) : List AC := clI .i64 e.fOrientation ++ (clI .i64 e.fX ++ (clI .i64 e.fY ++ ([])))
def wfTransform (e : TTransform) : Prop := wfI .i64 e.fOrientation ∧ wfI .i64 e.fX ∧ wfI .i64 e.fY
theorem op_151 (d : Nat) : Opens T (d + 2) 151 (clTransform) (wfTransform) := by
  intro cs hs
  obtain ⟨a0, b0, rfl, h0, a1, b1, rfl, h1, a2, b2, rfl, h2, rfl⟩ := hs
  obtain ⟨e0, w0, r0⟩ := op_2 (d + 0) a0 h0
  obtain ⟨e1, w1, r1⟩ := op_2 (d + 0) a1 h1
  obtain ⟨e2, w2, r2⟩ := op_2 (d + 0) a2 h2
  exact ⟨TTransform.mk e0 e1 e2, ⟨w0, w1, w2⟩, rlist_app r0 (rlist_app r1 (rlist_app r2 (trivial)))⟩
def clInstance (e : TInstance) : List AC := clI .i64 e.fCell ++ (clTransform e.fPlace ++ (clI .i64 e.fColumns ++ (clI .i64 e.fRows ++ (clI .i64 e.fStepX ++ (clI .i64 e.fStepY ++ ([]))))))
def wfInstance (e : TInstance) : Prop := wfI .i64 e.fCell ∧ wfTransform e.fPlace ∧ wfI .i64 e.fColumns ∧ wfI .i64 e.fRows ∧ wfI .i64 e.fStepX ∧ wfI .i64 e.fStepY
theorem op_153 (d : Nat) : Opens T (d + 3) 153 (clInstance) (wfInstance) := by
  intro cs hs
  obtain ⟨a0, b0, rfl, h0, a1, b1, rfl, h1, a2, b2, rfl, h2, a3, b3, rfl, h3, a4, b4, rfl, h4, a5, b5, rfl, h5, rfl⟩ := hs
  obtain ⟨e0, w0, r0⟩ := op_2 (d + 1) a0 h0
  obtain ⟨e1, w1, r1⟩ := op_151 (d + 0) a1 h1
  obtain ⟨e2, w2, r2⟩ := op_2 (d + 1) a2 h2
  obtain ⟨e3, w3, r3⟩ := op_2 (d + 1) a3 h3
  obtain ⟨e4, w4, r4⟩ := op_2 (d + 1) a4 h4
  obtain ⟨e5, w5, r5⟩ := op_2 (d + 1) a5 h5
  exact ⟨TInstance.mk e0 e1 e2 e3 e4 e5, ⟨w0, w1, w2, w3, w4, w5⟩, rlist_app r0 (rlist_app r1 (rlist_app r2 (rlist_app r3 (rlist_app r4 (rlist_app r5 (trivial))))))⟩
theorem op_92 (d : Nat) : Opens T (d + 4) 92 (clL 8 (encInstance)) (wfL wfInstance) := op_slice (e := 153) (sz := 8) (show T 92 = some d92 from rfl) rfl (show T 153 = some d153 from rfl) rfl (fun x j hj => by match j, hj with | 0, _ => rfl | 1, _ => rfl | 2, _ => rfl | 3, _ => rfl | 4, _ => rfl | 5, _ => rfl | 6, _ => rfl | 7, _ => rfl | (j_ + 8), h_ => exact absurd h_ (by omega)) (op_153 d)
def clCell (e : TCell) : List AC := clS e.fName ++ (clL 5 (encShape) e.fShapes ++ (clL 4 (encLabel) e.fLabels ++ (clL 8 (encInstance) e.fInstances ++ ([]))))
def wfCell (e : TCell) : Prop := wfS e.fName ∧ wfL wfShape e.fShapes ∧ wfL wfLabel e.fLabels ∧ wfL wfInstance e.fInstances
theorem op_94 (d : Nat) : Opens T (d + 5) 94 (clCell) (wfCell) := by
  intro cs hs
  obtain ⟨a0, b0, rfl, h0, a1, b1, rfl, h1, a2, b2, rfl, h2, a3, b3, rfl, h3, rfl⟩ := hs
  obtain ⟨e0, w0, r0⟩ := op_9 (d + 3) a0 h0
  obtain ⟨e1, w1, r1⟩ := op_90 (d + 0) a1 h1
  obtain ⟨e2, w2, r2⟩ := op_91 (d + 0) a2 h2
  obtain ⟨e3, w3, r3⟩ := op_92 (d + 0) a3 h3
  exact ⟨TCell.mk e0 e1 e2 e3, ⟨w0, w1, w2, w3⟩, rlist_app r0 (rlist_app r1 (rlist_app r2 (rlist_app r3 (trivial))))⟩
theorem op_22 (d : Nat) : Opens T (d + 6) 22 (clL 4 (encCell len gd)) (wfL wfCell) := op_slice (e := 94) (sz := 4) (show T 22 = some d22 from rfl) rfl (show T 94 = some d94 from rfl) rfl (fun x j hj => by match j, hj with | 0, _ => rfl | 1, _ => rfl | 2, _ => rfl | 3, _ => rfl | (j_ + 4), h_ => exact absurd h_ (by omega)) (op_94 d)
def clLibrary (e : TLibrary) : List AC := clL 4 (encCell len gd) e.fCells ++ ([])
def wfLibrary (e : TLibrary) : Prop := wfL wfCell e.fCells
theorem op_24 (d : Nat) : Opens T (d + 7) 24 (clLibrary) (wfLibrary) := by
  intro cs hs
  obtain ⟨a0, b0, rfl, h0, rfl⟩ := hs
  obtain ⟨e0, w0, r0⟩ := op_22 (d + 0) a0 h0
  exact ⟨TLibrary.mk e0, w0, rlist_app r0 (trivial)⟩
theorem open_24 {H : Type} {enc : TypeId × Value → H} {W : World} {spare : Nat → Bool} {held : Bool} {r : Reach} {base : Nat} {v : Value} {x : DataW H} {ps : List MemPlace}
    (hv : Value.okWide Tryz.prog W r base 24 v) (h : DataW.Trod enc Tryz.prog W 0 spare held 24 v x ps) : ∃ e : TLibrary, wfLibrary e ∧ RelV (RelI (fun b => b < W.heap.size) W) (.agg [.bs (len e.fCells) 4 (row gd (encCell len gd) e.fCells)]) v :=
  opened_agg tok (op_24 0) (by kernel_rfl) (tok 24 d24 rfl).1 hv h
theorem open_49 {H : Type} {enc : TypeId × Value → H} {W : World} {spare : Nat → Bool} {held : Bool} {r : Reach} {base : Nat} {v : Value} {x : DataW H} {ps : List MemPlace}
    (hv : Value.okWide Tryz.prog W r base 49 v) (h : DataW.Trod enc Tryz.prog W 0 spare held 49 v x ps) : ∃ e : TPoint, wfPoint e ∧ RelV (RelI (fun b => b < W.heap.size) W) (.agg [.v (.int .i64 e.fX), .v (.int .i64 e.fY)]) v :=
  opened_agg tok (op_49 0) (by kernel_rfl) (tok 49 d49 rfl).1 hv h
end Go.Proofs.YtmdlnjeppemipaaGreat.AM
