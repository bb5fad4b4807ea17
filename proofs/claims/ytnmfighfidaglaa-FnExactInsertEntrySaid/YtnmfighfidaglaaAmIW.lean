/-
  What the functions that the law reaches compute, and that they do. No condition.
-/
import Derived.Test.YtnmfighfidaglaaAmIV
namespace Go.Proofs.Ytnmfighfidaglaa.AM
open Go Go.Proofs Go.RowKit
set_option linter.unusedVariables false
set_option linter.unusedSimpArgs false
set_option maxRecDepth 100000

noncomputable def L_spec_l11Made_mo_x19 (a0 : List TSpatialEntry) (v1 : Int) : (Int × (List Int)) → Option ((Int × (List Int)) ⊕ (((List Int)))) := fun x19 =>
  letO x19.1 fun v17 =>
  letO x19.2 fun v18 =>
  br (std.lt v17 (std.ofN (len a0)))
  (req (std.inR v17 (len a0)) <|
  (F_spec_l11Bucket v1).bind fun y32 =>
  (F_spec_l11Overlap (gd a0 (std.nadd 0 (std.toN v17))).fBox y32).bind fun y34 =>
  ((
        br y34
        (req (std.inR v17 (len a0)) <|
        letO ([(gd a0 (std.nadd 0 (std.toN v17))).fId] : List Int) fun l44 =>
        req (std.room (std.nadd (len v18) (len l44)) 8) <|
        letO (v18 ++ l44) fun l46 =>
        some l46)
        (some v18)
    ) : Option ((List Int))).bind fun y36 =>
  letO y36 fun w42 =>
  some (.inl (std.add .i64 v17 1, w42)))
  (some (.inr v18))
noncomputable def L_spec_l11Made_mo_x3 (a0 : List TSpatialEntry) : (Int × (List (List Int))) → Option ((Int × (List (List Int))) ⊕ (((List (List Int))))) := fun x3 =>
  letO x3.1 fun v1 =>
  letO x3.2 fun v2 =>
  br (std.lt v1 25)
  (letO ([] : List Int) fun l15 =>
  (whileP (σ := Int × (List Int)) (ρ := ((List Int))) (L_spec_l11Made_mo_x19 a0 v1) (0, l15)).bind fun y20 =>
  letO y20 fun y20k0 =>
  letO y20k0 fun w51 =>
  ((
        letO ([w51] : List (List Int)) fun l59 =>
        req (std.room (std.nadd (len v2) (len l59)) 24) <|
        letO (v2 ++ l59) fun l61 =>
        some l61
    ) : Option ((List (List Int)))).bind fun y52 =>
  letO y52 fun w58 =>
  some (.inl (std.add .i64 v1 1, w58)))
  (some (.inr v2))
/-- spec.l11Made -/
noncomputable def F_spec_l11Made_mo (a0 : List TSpatialEntry) : Option (TSpatialIndex) :=
  (whileP (σ := Int × (List (List Int))) (ρ := ((List (List Int)))) (L_spec_l11Made_mo_x3 a0) (0, ([] : List (List Int)))).bind fun y4 =>
  letO y4 fun y4k0 =>
  letO y4k0 fun w65 =>
  some (TSpatialIndex.mk a0 w65)
theorem run_spec_l11Made_mo (a0 : List TSpatialEntry) (r : TSpatialIndex) (h : F_spec_l11Made_mo a0 = some r) : Fun Try.prog 93 [.c (.os 5 0 (len a0))] [(5, .arr .rw [] (len a0) 5 (row gd (encSpatialEntry) a0))] (.agg [.os 64000 0 (len r.fEntries), .os 64002 0 (len r.fBuckets)]) [(64000, .arr .rw [] (len r.fEntries) 5 (row gd (encSpatialEntry) r.fEntries)), (64002, .arr .rw [] (len r.fBuckets) 1 (row gd (oncL len gd 1 (encI .i64)) r.fBuckets))] true := by
  refine Fun.of_wp (oneOf [11, 100027]) tok mixed Try.func93 (by kernel_rfl) rfl Try.ntmps93 rfl ⟨fun i _ j _ k hk => (noref (plain_nil (pl_encSpatialEntry _ _)) hk).elim, trivial⟩ (fun _ => ⟨(by simp [AV.flat, AV.flat1, AC.flat]), ⟨fun i _ j _ => val_flat (vl_encSpatialEntry _ _), fun i _ j _ => fl_oncL (fun _ _ => rfl) _ _, trivial⟩⟩) ?_
  unfold F_spec_l11Made_mo at h
  unfold L_spec_l11Made_mo_x3 at h
  unfold L_spec_l11Made_mo_x19 at h
  have hf_spec_l11Bucket := @run_spec_l11Bucket
  have hf_spec_l11Overlap := @run_spec_l11Overlap
  generalize hLEN : @len = LEN at *
  generalize hGD : @gd = GD at *
  generalize hA : std = A at *
  generalize hP : Try.prog = P at *
  cbv
  replace h := of_bind h
  obtain ⟨y4, hr5, hN6⟩ := h
  refine loop_cut hr5 (fun x => (sparse 43 [(0, .c (.os 5 0 (LEN a0))), (2, .c (.ptr 128 0)), (3, .c (.ptr 192 0)), (4, .c (.v (.int .i64 x.1)))] [(5, .arr .rw [] (LEN a0) 5 (row GD (encSpatialEntry) a0)), (128, .var [.v (.slice none 0 0), .v (.slice none 0 0)]), (192, .var [.os 5 0 (LEN a0), .os 2560 0 (LEN x.2)]), (2560, .arr .rw [] (LEN x.2) 1 (row GD (oncL LEN GD 1 (encI .i64)) x.2))])) ?_ (fun y e s => (fun (w : (List (List Int))) => e = .exit 0 ∧ s.le (sparse 43 [(2, .c (.ptr 128 0)), (3, .c (.ptr 192 0))] [(128, .var [.v (.slice none 0 0), .v (.slice none 0 0)]), (192, .var [.os 5 0 (LEN a0), .os 2560 0 (LEN w)]), (5, .arr .rw [] (LEN a0) 5 (row GD (encSpatialEntry) a0)), (2560, .arr .rw [] (LEN w) 1 (row GD (oncL LEN GD 1 (encI .i64)) w))])) y) ?_ ?_
  · clear hr5 hN6
    show St.le _ _
    refine St.le_trans (le_nilV 192 1 2560 1 (row GD (oncL LEN GD 1 (encI .i64)) ([] : List (List Int))) (by decide) (by decide) rfl rfl) ?_
    subst hLEN
    exact le_sparse rfl ⟨AV.le_refl _, AV.le_refl _, AV.le_refl _, AV.le_refl _, trivial⟩ ⟨⟨fun hw => hw, fun c hc => (by cases hc), .inl rfl, rfl, rfl, fun i hi j hj => rfl⟩, rfl, rfl, ⟨fun hw => hw, fun c hc => (by cases hc), .inl rfl, rfl, rfl, fun i hi j hj => rfl⟩, trivial⟩ rfl
  · clear hr5 hN6
    intro x z10 h K8 hK9 hY7
    obtain ⟨x0_, x1_⟩ := x
    replace h := of_let h
    obtain ⟨v1, hv1, h⟩ := h
    have hv1 : v1 = x0_ := hv1
    subst hv1
    replace h := of_let h
    obtain ⟨v2, hv2, h⟩ := h
    have hv2 : v2 = x1_ := hv2
    subst hv2
    cbv
    refine fork (fun b64 => ?_) (fun b64 => ?_)
    · replace h := of_br_t b64 h
      cbv
      replace h := of_let h
      obtain ⟨l15, hl15, h⟩ := h
      have e16 : 0 = LEN l15 := by subst hl15 hLEN; rfl
      refine ⟨_, congrArg (fun n => AV.c (AC.os 832 0 n)) e16, _, row GD (encI .i64) l15, e16, ?_, ?_⟩
      · intro i hi j hj
        rw [← e16] at hi
        subst hl15
        subst hGD
        omega
      cbv
      replace h := of_bind h
      obtain ⟨y20, hr21, hN22⟩ := h
      refine loop_cut hr21 (fun x => (sparse 43 [(0, .c (.os 5 0 (LEN a0))), (2, .c (.ptr 128 0)), (3, .c (.ptr 192 0)), (4, .c (.v (.int .i64 v1))), (5, .c (.os 832 0 (LEN x.2))), (6, .c (.v (.int .i64 x.1)))] [(5, .arr .rw [] (LEN a0) 5 (row GD (encSpatialEntry) a0)), (128, .var [.v (.slice none 0 0), .v (.slice none 0 0)]), (192, .var [.os 5 0 (LEN a0), .os 2560 0 (LEN v2)]), (832, .arr .rw [] (LEN x.2) 1 (row GD (encI .i64) x.2)), (2560, .arr .rw [] (LEN v2) 1 (row GD (oncL LEN GD 1 (encI .i64)) v2))])) ?_ (fun y e s => (fun (w : (List Int)) => e = .exit 2 ∧ s.le (sparse 43 [(0, .c (.os 5 0 (LEN a0))), (2, .c (.ptr 128 0)), (3, .c (.ptr 192 0)), (4, .c (.v (.int .i64 v1))), (5, .c (.os 832 0 (LEN w)))] [(5, .arr .rw [] (LEN a0) 5 (row GD (encSpatialEntry) a0)), (128, .var [.v (.slice none 0 0), .v (.slice none 0 0)]), (192, .var [.os 5 0 (LEN a0), .os 2560 0 (LEN v2)]), (832, .arr .rw [] (LEN w) 1 (row GD (encI .i64) w)), (2560, .arr .rw [] (LEN v2) 1 (row GD (oncL LEN GD 1 (encI .i64)) v2))])) y) ?_ ?_
      · clear hr21 hN22
        show St.le _ _
        exact le_sparse rfl ⟨AV.le_refl _, AV.le_refl _, AV.le_refl _, AV.le_refl _, AV.le_refl _, AV.le_refl _, trivial⟩ ⟨⟨fun hw => hw, fun c hc => (by cases hc), .inl rfl, rfl, rfl, fun i hi j hj => rfl⟩, rfl, rfl, ⟨fun hw => hw, fun c hc => (by cases hc), .inl rfl, rfl, rfl, fun i hi j hj => rfl⟩, ⟨fun hw => hw, fun c hc => (by cases hc), .inl rfl, rfl, rfl, fun i hi j hj => rfl⟩, trivial⟩ rfl
      · clear hr21 hN22
        intro x z26 h K24 hK25 hY23
        obtain ⟨x0_, x1_⟩ := x
        replace h := of_let h
        obtain ⟨v17, hv17, h⟩ := h
        have hv17 : v17 = x0_ := hv17
        subst hv17
        replace h := of_let h
        obtain ⟨v18, hv18, h⟩ := h
        have hv18 : v18 = x1_ := hv18
        subst hv18
        cbv
        refine fork (fun b50 => ?_) (fun b50 => ?_)
        · replace h := of_br_t b50 h
          cbv
          replace h := of_req h
          obtain ⟨c31, h⟩ := h
          refine ⟨⟨c31, trivial⟩, ?_⟩
          refine And.intro (by first | exact (by subst hA; exact idx_lt c31) | (refine And.intro (by subst hA; exact idx_lt c31) ?_; first | trivial | exact ⟨trivial, trivial⟩)) ?_
          replace h := of_bind h
          obtain ⟨y32, hy33, h⟩ := h
          refine ⟨{ args := [.c (.v (.int .i64 v1))], o0 := [], r := .agg [.v (.int .i64 y32.fX0), .v (.int .i64 y32.fY0), .v (.int .i64 y32.fX1), .v (.int .i64 y32.fY1)], o1 := [], fl := true, σ := [], τ := [] }, hf_spec_l11Bucket _ _ hy33, ⟨les_cons (AV.le_refl _) (les_nil), trivial, rfl, rfl, rfl, rfl, trivial, rfl⟩, ?_⟩
          cbv
          replace h := of_bind h
          obtain ⟨y34, hy35, h⟩ := h
          refine ⟨{ args := [.agg [.v (.int .i64 (GD a0 (A.nadd 0 (A.toN v17))).fBox.fX0), .v (.int .i64 (GD a0 (A.nadd 0 (A.toN v17))).fBox.fY0), .v (.int .i64 (GD a0 (A.nadd 0 (A.toN v17))).fBox.fX1), .v (.int .i64 (GD a0 (A.nadd 0 (A.toN v17))).fBox.fY1)], .agg [.v (.int .i64 y32.fX0), .v (.int .i64 y32.fY0), .v (.int .i64 y32.fX1), .v (.int .i64 y32.fY1)]], o0 := [], r := .c (.v (.bool y34)), o1 := [], fl := true, σ := [], τ := [] }, hf_spec_l11Overlap _ _ _ hy35, ⟨les_cons (AV.le_refl _) (les_cons (AV.le_refl _) (les_nil)), trivial, rfl, rfl, rfl, rfl, trivial, rfl⟩, ?_⟩
          cbv
          replace h := of_bind h
          obtain ⟨y36, hy37, h⟩ := h
          obtain ⟨S40, hS41⟩ : ∃ S, S = some (sparse 43 [(0, .c (.os 5 0 (LEN a0))), (2, .c (.ptr 128 0)), (3, .c (.ptr 192 0)), (4, .c (.v (.int .i64 v1))), (5, .c (.os 832 0 (LEN y36))), (6, .c (.v (.int .i64 v17)))] [(5, .arr .rw [] (LEN a0) 5 (row GD (encSpatialEntry) a0)), (128, .var [.v (.slice none 0 0), .v (.slice none 0 0)]), (192, .var [.os 5 0 (LEN a0), .os 2560 0 (LEN v2)]), (832, .arr .rw [] (LEN y36) 1 (row GD (encI .i64) y36)), (2560, .arr .rw [] (LEN v2) 1 (row GD (oncL LEN GD 1 (encI .i64)) v2))]) := ⟨_, rfl⟩
          refine ⟨S40, ?_, ?_⟩
          · clear h
            have h := hy37
            clear hy37
            cbv
            refine fork (fun b49 => ?_) (fun b49 => ?_)
            · replace h := of_br_t b49 h
              cbv
              replace h := of_req h
              obtain ⟨c43, h⟩ := h
              refine ⟨⟨c43, trivial⟩, ?_⟩
              refine And.intro (by first | exact (by subst hA; exact idx_lt c43) | (refine And.intro (by subst hA; exact idx_lt c43) ?_; first | trivial | exact ⟨trivial, trivial⟩)) ?_
              replace h := of_let h
              obtain ⟨l44, hl44, h⟩ := h
              have e45 : 1 = LEN l44 := by subst hl44 hLEN; rfl
              refine ⟨_, congrArg (fun n => AV.c (AC.os 2176 0 n)) e45, _, row GD (encI .i64) l44, e45, ?_, ?_⟩
              · intro i hi j hj
                rw [← e45] at hi
                subst hl44
                subst hGD
                obtain rfl : i = 0 := (by omega)
                all_goals obtain rfl : j = 0 := by omega
                all_goals rfl
              cbv
              replace h := of_req h
              obtain ⟨c48, h⟩ := h
              replace h := of_let h
              obtain ⟨l46, hl46, h⟩ := h
              have e47 : A.nadd (LEN v18) (LEN l44) = LEN l46 := by subst hl46 hLEN hA; simp [std, len]
              refine ⟨c48, _, congrArg (fun n => AV.c (AC.os 832 0 n)) e47, _, row GD (encI .i64) l46, e47, ?_, ?_⟩
              · subst hGD hLEN hA
                exact app_os (off := 0) (fun _ _ => rfl) hl46 (Nat.le_refl _)
              cbv
              injection h with h
              subst h
              subst hS41
              show St.le _ _
              exact le_sparse rfl ⟨AV.le_refl _, AV.le_refl _, AV.le_refl _, AV.le_refl _, AV.le_refl _, AV.le_refl _, trivial⟩ ⟨⟨fun hw => hw, fun c hc => (by cases hc), .inl rfl, rfl, rfl, fun i hi j hj => rfl⟩, rfl, rfl, ⟨fun hw => hw, fun c hc => (by cases hc), .inl rfl, rfl, rfl, fun i hi j hj => rfl⟩, ⟨fun hw => hw, fun c hc => (by cases hc), .inl rfl, rfl, rfl, fun i hi j hj => rfl⟩, trivial⟩ rfl
            · replace h := of_br_f b49 h
              cbv
              injection h with h
              subst h
              subst hS41
              show St.le _ _
              exact le_sparse rfl ⟨AV.le_refl _, AV.le_refl _, AV.le_refl _, AV.le_refl _, AV.le_refl _, AV.le_refl _, trivial⟩ ⟨⟨fun hw => hw, fun c hc => (by cases hc), .inl rfl, rfl, rfl, fun i hi j hj => rfl⟩, rfl, rfl, ⟨fun hw => hw, fun c hc => (by cases hc), .inl rfl, rfl, rfl, fun i hi j hj => rfl⟩, ⟨fun hw => hw, fun c hc => (by cases hc), .inl rfl, rfl, rfl, fun i hi j hj => rfl⟩, trivial⟩ rfl
          · clear hy37
            subst hS41
            replace h := of_let h
            obtain ⟨w42, hw42, h⟩ := h
            have hw42 : w42 = y36 := hw42
            subst hw42
            cbv
            injection h with h
            refine hK25 _ h.symm _ ?_
            exact le_sparse rfl ⟨AV.le_refl _, AV.le_refl _, AV.le_refl _, AV.le_refl _, AV.le_refl _, AV.le_refl _, trivial⟩ ⟨⟨fun hw => hw, fun c hc => (by cases hc), .inl rfl, rfl, rfl, fun i hi j hj => rfl⟩, rfl, rfl, ⟨fun hw => hw, fun c hc => (by cases hc), .inl rfl, rfl, rfl, fun i hi j hj => rfl⟩, ⟨fun hw => hw, fun c hc => (by cases hc), .inl rfl, rfl, rfl, fun i hi j hj => rfl⟩, trivial⟩ rfl
        · replace h := of_br_f b50 h
          cbv
          injection h with h
          refine hY23 _ h.symm _ _ (And.intro rfl ?_) (by intro hh; cases hh)
          exact le_sparse rfl ⟨AV.le_refl _, AV.le_refl _, AV.le_refl _, AV.le_refl _, AV.le_refl _, trivial⟩ ⟨⟨fun hw => hw, fun c hc => (by cases hc), .inl rfl, rfl, rfl, fun i hi j hj => rfl⟩, rfl, rfl, ⟨fun hw => hw, fun c hc => (by cases hc), .inl rfl, rfl, rfl, fun i hi j hj => rfl⟩, ⟨fun hw => hw, fun c hc => (by cases hc), .inl rfl, rfl, rfl, fun i hi j hj => rfl⟩, trivial⟩ rfl
      · clear hr21
        have h := hN22
        clear hN22
        intro e29 s30 q28 hne
        replace h := of_let h
        obtain ⟨y20k0, hyk, h⟩ := h
        have hyk : y20k0 = y20 := hyk
        subst hyk
        obtain ⟨rfl, q28⟩ := q28
        replace h := of_let h
        obtain ⟨w51, hw51, h⟩ := h
        have hw51 : w51 = y20k0 := hw51
        subst hw51
        cbv
        refine ⟨_, q28, ?_⟩
        cbv
        replace h := of_bind h
        obtain ⟨y52, hy53, h⟩ := h
        obtain ⟨S56, hS57⟩ : ∃ S, S = (sparse 43 [(0, .c (.os 5 0 (LEN a0))), (2, .c (.ptr 128 0)), (3, .c (.ptr 192 0)), (4, .c (.v (.int .i64 v1)))] [(5, .arr .rw [] (LEN a0) 5 (row GD (encSpatialEntry) a0)), (128, .var [.v (.slice none 0 0), .v (.slice none 0 0)]), (192, .var [.os 5 0 (LEN a0), .os 2560 0 (LEN y52)]), (2560, .arr .rw [] (LEN y52) 1 (row GD (oncL LEN GD 1 (encI .i64)) y52))]) := ⟨_, rfl⟩
        refine ⟨S56, ?_, ?_⟩
        · clear h
          have h := hy53
          clear hy53
          cbv
          replace h := of_let h
          obtain ⟨l59, hl59, h⟩ := h
          have e60 : 1 = LEN l59 := by subst hl59 hLEN; rfl
          refine ⟨_, congrArg (fun n => AV.c (AC.os 2496 0 n)) e60, _, (patchC (row GD (oncL LEN GD 1 (encI .i64)) ([] : List (List Int))) 0 [.os 832 0 (LEN w51)]), e60, ?_, ?_⟩
          · refine patch_one (by subst hl59 hLEN; rfl) ?_
            intro j hj
            match j, hj with | 0, _ => (rfl) | (j_ + 1), h_ => exact absurd h_ (by omega)
          cbv
          replace h := of_req h
          obtain ⟨c63, h⟩ := h
          replace h := of_let h
          obtain ⟨l61, hl61, h⟩ := h
          have e62 : A.nadd (LEN v2) (LEN l59) = LEN l61 := by subst hl61 hLEN hA; simp [std, len]
          refine ⟨c63, _, congrArg (fun n => AV.c (AC.os 2560 0 n)) e62, _, (patchC (row GD (oncL LEN GD 1 (encI .i64)) v2) (LEN v2) [.os 832 0 (LEN w51)]), e62, ?_, ?_⟩
          · subst hLEN hA
            refine patch_joinG (by first | (rw [hl61]; simp [len]; done) | (rw [hl61]; simp [len]; omega) | (subst_vars; simp [len])) ?_
            intro j hj
            match j, hj with | 0, _ => (rfl) | (j_ + 1), h_ => exact absurd h_ (by omega)
          cbv
          rw [hl59] at hl61
          injection h with h
          subst h
          subst hS57
          show St.le _ _
          refine St.le_trans (le_foldP 2560 0 832 rfl rfl rfl (by decide) (by subst hLEN; exact app_lt hl61) (by decide) rfl (fun _ _ => rfl)) ?_
          exact le_sparse rfl ⟨AV.le_refl _, AV.le_refl _, AV.le_refl _, AV.le_refl _, trivial⟩ ⟨⟨fun hw => hw, fun c hc => (by cases hc), .inl rfl, rfl, rfl, fun i hi j hj => rfl⟩, rfl, rfl, ⟨fun hw => hw, fun c hc => (by cases hc), .inr (fun i _ j _ z hz => (noref (rfl) hz).elim), rfl, rfl, (by subst hGD hLEN hA; exact patch_app hl61 (Nat.le_refl _) (by intro j hj; match j, hj with | 0, _ => rfl | (j_ + 1), h_ => exact absurd h_ (by omega)))⟩, trivial⟩ rfl
        · clear hy53
          subst hS57
          replace h := of_let h
          obtain ⟨w58, hw58, h⟩ := h
          have hw58 : w58 = y52 := hw58
          subst hw58
          cbv
          injection h with h
          refine hK9 _ h.symm _ ?_
          exact le_sparse rfl ⟨AV.le_refl _, AV.le_refl _, AV.le_refl _, AV.le_refl _, trivial⟩ ⟨⟨fun hw => hw, fun c hc => (by cases hc), .inl rfl, rfl, rfl, fun i hi j hj => rfl⟩, rfl, rfl, ⟨fun hw => hw, fun c hc => (by cases hc), .inl rfl, rfl, rfl, fun i hi j hj => rfl⟩, trivial⟩ rfl
    · replace h := of_br_f b64 h
      cbv
      injection h with h
      refine hY7 _ h.symm _ _ (And.intro rfl ?_) (by intro hh; cases hh)
      exact le_sparse rfl ⟨AV.le_refl _, AV.le_refl _, trivial⟩ ⟨rfl, rfl, ⟨fun hw => hw, fun c hc => (by cases hc), .inl rfl, rfl, rfl, fun i hi j hj => rfl⟩, ⟨fun hw => hw, fun c hc => (by cases hc), .inl rfl, rfl, rfl, fun i hi j hj => rfl⟩, trivial⟩ rfl
  · clear hr5
    have h := hN6
    clear hN6
    intro e13 s14 q12 hne
    replace h := of_let h
    obtain ⟨y4k0, hyk, h⟩ := h
    have hyk : y4k0 = y4 := hyk
    subst hyk
    obtain ⟨rfl, q12⟩ := q12
    replace h := of_let h
    obtain ⟨w65, hw65, h⟩ := h
    have hw65 : w65 = y4k0 := hw65
    subst hw65
    cbv
    refine ⟨_, q12, ?_⟩
    cbv
    injection h with h
    subst h
    refine ⟨(sparse 43 [(2, .c (.ptr 128 0))] [(128, .var [.os 64000 0 (LEN a0), .os 64002 0 (LEN w65)]), (64000, .arr .rw [] (LEN a0) 5 (row GD (encSpatialEntry) a0)), (64002, .arr .rw [] (LEN w65) 1 (row GD (oncL LEN GD 1 (encI .i64)) w65))]), ?_, ?_⟩
    · refine St.le_trans (le_ren 5 64000 (by decide) rfl) ?_
      refine St.le_trans (le_ren 2560 64002 (by decide) rfl) ?_
      exact le_sparse rfl ⟨AV.le_refl _, trivial⟩ ⟨rfl, ⟨fun hw => hw, fun c hc => (by cases hc), .inl rfl, rfl, rfl, fun i hi j hj => rfl⟩, ⟨fun hw => hw, fun c hc => (by cases hc), .inl rfl, rfl, rfl, fun i hi j hj => rfl⟩, trivial⟩ rfl
    · exact ⟨AV.le_refl _, ⟨⟨fun hw => hw, fun c hc => (by cases hc), .inl rfl, rfl, rfl, fun i hi j hj => rfl⟩, ⟨fun hw => hw, fun c hc => (by cases hc), .inl rfl, rfl, rfl, fun i hi j hj => rfl⟩, trivial⟩, rfl⟩

noncomputable def L_spec_InsertEntry_x22 (a0 : TSpatialIndex) (a1 : Int) (a2 : TRect) : (Bool × Int × (List TSpatialEntry)) → Option ((Bool × Int × (List TSpatialEntry)) ⊕ ((Bool × (List TSpatialEntry)))) := fun x22 =>
  letO x22.1 fun v19 =>
  letO x22.2.1 fun v20 =>
  letO x22.2.2 fun v21 =>
  br (std.lt v20 (std.ofN (len a0.fEntries)))
  (((
        br (!(v19))
        (req (std.inR v20 (len a0.fEntries)) <|
        some (std.lt a1 (gd a0.fEntries (std.toN v20)).fId))
        (some false)
    ) : Option (Bool)).bind fun y34 =>
  letO y34 fun w40 =>
  ((
        br w40
        (letO ([(TSpatialEntry.mk a1 a2)] : List TSpatialEntry) fun l51 =>
        req (std.room (std.nadd (len v21) (len l51)) 40) <|
        letO (v21 ++ l51) fun l53 =>
        some (true, l53))
        (some (v19, v21))
    ) : Option (Bool × (List TSpatialEntry))).bind fun y43 =>
  letO y43.1 fun w49 =>
  letO y43.2 fun w50 =>
  req (std.inR v20 (len a0.fEntries)) <|
  letO ([(gd a0.fEntries (std.toN v20))] : List TSpatialEntry) fun l58 =>
  req (std.room (std.nadd (len w50) (len l58)) 40) <|
  letO (w50 ++ l58) fun l60 =>
  some (.inl (w49, std.add .i64 v20 1, l60)))
  (some (.inr (v19, v21)))
/-- spec.InsertEntry -/
noncomputable def F_spec_InsertEntry (a0 : TSpatialIndex) (a1 : Int) (a2 : TRect) : Option (TSpatialIndex × Int) :=
  ((
        (F_spec_IsValidIndex a0).bind fun y8 =>
        br (!(y8))
        (some true)
        ((F_spec_l09Rect a2).bind fun y10 =>
        some (!(y10)))
    ) : Option (Bool)).bind fun y1 =>
  letO y1 fun w7 =>
  br w7
  (some ((TSpatialIndex.mk ([] : List TSpatialEntry) ([] : List (List Int))), 1))
  ((F_spec_l09In a1 1 9999).bind fun y13 =>
  br (!(y13))
  (some ((TSpatialIndex.mk ([] : List TSpatialEntry) ([] : List (List Int))), 2))
  ((F_spec_l11At a0 a1).bind fun y15 =>
  br (std.le 0 y15)
  (some ((TSpatialIndex.mk ([] : List TSpatialEntry) ([] : List (List Int))), 6))
  (br (std.eq (std.ofN (len a0.fEntries)) 40)
  (some ((TSpatialIndex.mk ([] : List TSpatialEntry) ([] : List (List Int))), 3))
  (letO ([] : List TSpatialEntry) fun l17 =>
  (whileP (σ := Bool × Int × (List TSpatialEntry)) (ρ := (Bool × (List TSpatialEntry))) (L_spec_InsertEntry_x22 a0 a1 a2) (false, 0, l17)).bind fun y23 =>
  letO y23 fun y23k0 =>
  letO y23k0.1 fun w64 =>
  letO y23k0.2 fun w65 =>
  ((
        br (!(w64))
        (letO ([(TSpatialEntry.mk a1 a2)] : List TSpatialEntry) fun l73 =>
        req (std.room (std.nadd (len w65) (len l73)) 40) <|
        letO (w65 ++ l73) fun l75 =>
        some l75)
        (some w65)
    ) : Option ((List TSpatialEntry))).bind fun y66 =>
  letO y66 fun w72 =>
  (F_spec_l11Made_mo w72).bind fun y79 =>
  some (y79, 0)))))
theorem run_spec_InsertEntry (a0 : TSpatialIndex) (a1 : Int) (a2 : TRect) (r : TSpatialIndex × Int) (h : F_spec_InsertEntry a0 a1 a2 = some r) : Fun Try.prog 41 [.agg [.bs (len a0.fEntries) 5 (row gd (encSpatialEntry) a0.fEntries), .bs (len a0.fBuckets) 1 (row gd (encL len gd 1 (encI .i64)) a0.fBuckets)], .c (.v (.int .i64 a1)), .agg [.v (.int .i64 a2.fX0), .v (.int .i64 a2.fY0), .v (.int .i64 a2.fX1), .v (.int .i64 a2.fY1)]] [] (.tup [.agg [.os 64000 0 (len r.1.fEntries), .os 64002 0 (len r.1.fBuckets)], .c (.v (.int .i64 r.2))]) [(64000, .arr .rw [] (len r.1.fEntries) 5 (row gd (encSpatialEntry) r.1.fEntries)), (64002, .arr .rw [] (len r.1.fBuckets) 1 (row gd (oncL len gd 1 (encI .i64)) r.1.fBuckets))] true := by
  refine Fun.of_wp (oneOf [1, 15, 100061, 100075]) tok mixed Try.func41 (by kernel_rfl) rfl Try.ntmps41 rfl trivial (fun _ => ⟨(by simp [AV.flat, AV.flat1, AC.flat]), ⟨fun i _ j _ => val_flat (vl_encSpatialEntry _ _), fun i _ j _ => fl_oncL (fun _ _ => rfl) _ _, trivial⟩⟩) ?_
  unfold F_spec_InsertEntry at h
  unfold L_spec_InsertEntry_x22 at h
  have hf_spec_IsValidIndex := @run_spec_IsValidIndex
  have hf_spec_l09In := @run_spec_l09In
  have hf_spec_l09Rect := @run_spec_l09Rect
  have hf_spec_l11At := @run_spec_l11At
  have hf_spec_l11Made_mo := @run_spec_l11Made_mo
  generalize hLEN : @len = LEN at *
  generalize hGD : @gd = GD at *
  generalize hA : std = A at *
  generalize hP : Try.prog = P at *
  cbv
  replace h := of_bind h
  obtain ⟨y1, hy2, h⟩ := h
  obtain ⟨S5, hS6⟩ : ∃ S, S = (sparse 82 [(1, .c (.v (.int .i64 a1))), (3, .c (.ptr 192 0)), (5, .c (.ptr 320 0)), (6, .c (.ptr 384 0)), (12, .c (.v (.bool y1)))] [(192, .var [.bs (LEN a0.fEntries) 5 (row GD (encSpatialEntry) a0.fEntries), .bs (LEN a0.fBuckets) 1 (row GD (encL LEN GD 1 (encI .i64)) a0.fBuckets)]), (320, .var [.v (.int .i64 a2.fX0), .v (.int .i64 a2.fY0), .v (.int .i64 a2.fX1), .v (.int .i64 a2.fY1)]), (384, .var [.v (.slice none 0 0), .v (.slice none 0 0)])]) := ⟨_, rfl⟩
  refine ⟨S5, ?_, ?_⟩
  · clear h
    have h := hy2
    clear hy2
    cbv
    replace h := of_bind h
    obtain ⟨y8, hy9, h⟩ := h
    refine ⟨{ args := [.agg [.bs (LEN a0.fEntries) 5 (row GD (encSpatialEntry) a0.fEntries), .bs (LEN a0.fBuckets) 1 (row GD (encL LEN GD 1 (encI .i64)) a0.fBuckets)]], o0 := [], r := .c (.v (.bool y8)), o1 := [], fl := true, σ := [], τ := [] }, hf_spec_IsValidIndex _ _ hy9, ⟨les_cons (AV.le_refl _) (les_nil), trivial, rfl, rfl, rfl, rfl, trivial, rfl⟩, ?_⟩
    cbv
    refine fork (fun b12 => ?_) (fun b12 => ?_)
    · replace h := of_br_t b12 h
      cbv
      injection h with h
      subst h
      subst hS6
      show St.le _ _
      exact le_sparse rfl ⟨AV.le_refl _, AV.le_refl _, AV.le_refl _, AV.le_refl _, AV.le_refl _, trivial⟩ ⟨rfl, rfl, rfl, trivial⟩ rfl
    · replace h := of_br_f b12 h
      cbv
      replace h := of_bind h
      obtain ⟨y10, hy11, h⟩ := h
      refine ⟨{ args := [.agg [.v (.int .i64 a2.fX0), .v (.int .i64 a2.fY0), .v (.int .i64 a2.fX1), .v (.int .i64 a2.fY1)]], o0 := [], r := .c (.v (.bool y10)), o1 := [], fl := true, σ := [], τ := [] }, hf_spec_l09Rect _ _ hy11, ⟨les_cons (AV.le_refl _) (les_nil), trivial, rfl, rfl, rfl, rfl, trivial, rfl⟩, ?_⟩
      cbv
      injection h with h
      subst h
      subst hS6
      show St.le _ _
      exact le_sparse rfl ⟨AV.le_refl _, AV.le_refl _, AV.le_refl _, AV.le_refl _, AV.le_refl _, trivial⟩ ⟨rfl, rfl, rfl, trivial⟩ rfl
  · clear hy2
    subst hS6
    replace h := of_let h
    obtain ⟨w7, hw7, h⟩ := h
    have hw7 : w7 = y1 := hw7
    subst hw7
    cbv
    refine fork (fun b84 => ?_) (fun b84 => ?_)
    · replace h := of_br_t b84 h
      cbv
      injection h with h
      subst h
      refine ⟨(sparse 82 [(6, .c (.ptr 384 0)), (7, .c (.v (.int .i64 1)))] [(384, .var [.os 64000 0 (LEN ([] : List TSpatialEntry)), .os 64002 0 (LEN ([] : List (List Int)))]), (64000, .arr .rw [] (LEN ([] : List TSpatialEntry)) 5 (row GD (encSpatialEntry) ([] : List TSpatialEntry))), (64002, .arr .rw [] (LEN ([] : List (List Int))) 1 (row GD (oncL LEN GD 1 (encI .i64)) ([] : List (List Int))))]), ?_, ?_⟩
      · refine St.le_trans (le_nilV 384 0 64000 5 (row GD (encSpatialEntry) ([] : List TSpatialEntry)) (by decide) (by decide) rfl rfl) ?_
        refine St.le_trans (le_nilV 384 1 64002 1 (row GD (oncL LEN GD 1 (encI .i64)) ([] : List (List Int))) (by decide) (by decide) rfl rfl) ?_
        subst hLEN
        exact le_sparse rfl ⟨AV.le_refl _, AV.le_refl _, trivial⟩ ⟨rfl, ⟨fun hw => hw, fun c hc => (by cases hc), .inl rfl, rfl, rfl, fun i hi j hj => rfl⟩, ⟨fun hw => hw, fun c hc => (by cases hc), .inl rfl, rfl, rfl, fun i hi j hj => rfl⟩, trivial⟩ rfl
      · subst hLEN
        exact ⟨AV.le_refl _, ⟨⟨fun hw => hw, fun c hc => (by cases hc), .inl rfl, rfl, rfl, fun i hi j hj => rfl⟩, ⟨fun hw => hw, fun c hc => (by cases hc), .inl rfl, rfl, rfl, fun i hi j hj => rfl⟩, trivial⟩, rfl⟩
    · replace h := of_br_f b84 h
      cbv
      replace h := of_bind h
      obtain ⟨y13, hy14, h⟩ := h
      refine ⟨{ args := [.c (.v (.int .i64 a1)), .c (.v (.int .i64 1)), .c (.v (.int .i64 9999))], o0 := [], r := .c (.v (.bool y13)), o1 := [], fl := true, σ := [], τ := [] }, hf_spec_l09In _ _ _ _ hy14, ⟨les_cons (AV.le_refl _) (les_cons (AV.le_refl _) (les_cons (AV.le_refl _) (les_nil))), trivial, rfl, rfl, rfl, rfl, trivial, rfl⟩, ?_⟩
      cbv
      refine fork (fun b83 => ?_) (fun b83 => ?_)
      · replace h := of_br_t b83 h
        cbv
        injection h with h
        subst h
        refine ⟨(sparse 82 [(6, .c (.ptr 384 0)), (7, .c (.v (.int .i64 2)))] [(384, .var [.os 64000 0 (LEN ([] : List TSpatialEntry)), .os 64002 0 (LEN ([] : List (List Int)))]), (64000, .arr .rw [] (LEN ([] : List TSpatialEntry)) 5 (row GD (encSpatialEntry) ([] : List TSpatialEntry))), (64002, .arr .rw [] (LEN ([] : List (List Int))) 1 (row GD (oncL LEN GD 1 (encI .i64)) ([] : List (List Int))))]), ?_, ?_⟩
        · refine St.le_trans (le_nilV 384 0 64000 5 (row GD (encSpatialEntry) ([] : List TSpatialEntry)) (by decide) (by decide) rfl rfl) ?_
          refine St.le_trans (le_nilV 384 1 64002 1 (row GD (oncL LEN GD 1 (encI .i64)) ([] : List (List Int))) (by decide) (by decide) rfl rfl) ?_
          subst hLEN
          exact le_sparse rfl ⟨AV.le_refl _, AV.le_refl _, trivial⟩ ⟨rfl, ⟨fun hw => hw, fun c hc => (by cases hc), .inl rfl, rfl, rfl, fun i hi j hj => rfl⟩, ⟨fun hw => hw, fun c hc => (by cases hc), .inl rfl, rfl, rfl, fun i hi j hj => rfl⟩, trivial⟩ rfl
        · subst hLEN
          exact ⟨AV.le_refl _, ⟨⟨fun hw => hw, fun c hc => (by cases hc), .inl rfl, rfl, rfl, fun i hi j hj => rfl⟩, ⟨fun hw => hw, fun c hc => (by cases hc), .inl rfl, rfl, rfl, fun i hi j hj => rfl⟩, trivial⟩, rfl⟩
      · replace h := of_br_f b83 h
        cbv
        replace h := of_bind h
        obtain ⟨y15, hy16, h⟩ := h
        refine ⟨{ args := [.agg [.bs (LEN a0.fEntries) 5 (row GD (encSpatialEntry) a0.fEntries), .bs (LEN a0.fBuckets) 1 (row GD (encL LEN GD 1 (encI .i64)) a0.fBuckets)], .c (.v (.int .i64 a1))], o0 := [], r := .c (.v (.int .i64 y15)), o1 := [], fl := true, σ := [], τ := [] }, hf_spec_l11At _ _ _ hy16, ⟨les_cons (AV.le_refl _) (les_cons (AV.le_refl _) (les_nil)), trivial, rfl, rfl, rfl, rfl, trivial, rfl⟩, ?_⟩
        cbv
        refine fork (fun b82 => ?_) (fun b82 => ?_)
        · replace h := of_br_t b82 h
          cbv
          injection h with h
          subst h
          refine ⟨(sparse 82 [(6, .c (.ptr 384 0)), (7, .c (.v (.int .i64 6)))] [(384, .var [.os 64000 0 (LEN ([] : List TSpatialEntry)), .os 64002 0 (LEN ([] : List (List Int)))]), (64000, .arr .rw [] (LEN ([] : List TSpatialEntry)) 5 (row GD (encSpatialEntry) ([] : List TSpatialEntry))), (64002, .arr .rw [] (LEN ([] : List (List Int))) 1 (row GD (oncL LEN GD 1 (encI .i64)) ([] : List (List Int))))]), ?_, ?_⟩
          · refine St.le_trans (le_nilV 384 0 64000 5 (row GD (encSpatialEntry) ([] : List TSpatialEntry)) (by decide) (by decide) rfl rfl) ?_
            refine St.le_trans (le_nilV 384 1 64002 1 (row GD (oncL LEN GD 1 (encI .i64)) ([] : List (List Int))) (by decide) (by decide) rfl rfl) ?_
            subst hLEN
            exact le_sparse rfl ⟨AV.le_refl _, AV.le_refl _, trivial⟩ ⟨rfl, ⟨fun hw => hw, fun c hc => (by cases hc), .inl rfl, rfl, rfl, fun i hi j hj => rfl⟩, ⟨fun hw => hw, fun c hc => (by cases hc), .inl rfl, rfl, rfl, fun i hi j hj => rfl⟩, trivial⟩ rfl
          · subst hLEN
            exact ⟨AV.le_refl _, ⟨⟨fun hw => hw, fun c hc => (by cases hc), .inl rfl, rfl, rfl, fun i hi j hj => rfl⟩, ⟨fun hw => hw, fun c hc => (by cases hc), .inl rfl, rfl, rfl, fun i hi j hj => rfl⟩, trivial⟩, rfl⟩
        · replace h := of_br_f b82 h
          cbv
          refine fork (fun b81 => ?_) (fun b81 => ?_)
          · replace h := of_br_t b81 h
            cbv
            injection h with h
            subst h
            refine ⟨(sparse 82 [(6, .c (.ptr 384 0)), (7, .c (.v (.int .i64 3)))] [(384, .var [.os 64000 0 (LEN ([] : List TSpatialEntry)), .os 64002 0 (LEN ([] : List (List Int)))]), (64000, .arr .rw [] (LEN ([] : List TSpatialEntry)) 5 (row GD (encSpatialEntry) ([] : List TSpatialEntry))), (64002, .arr .rw [] (LEN ([] : List (List Int))) 1 (row GD (oncL LEN GD 1 (encI .i64)) ([] : List (List Int))))]), ?_, ?_⟩
            · refine St.le_trans (le_nilV 384 0 64000 5 (row GD (encSpatialEntry) ([] : List TSpatialEntry)) (by decide) (by decide) rfl rfl) ?_
              refine St.le_trans (le_nilV 384 1 64002 1 (row GD (oncL LEN GD 1 (encI .i64)) ([] : List (List Int))) (by decide) (by decide) rfl rfl) ?_
              subst hLEN
              exact le_sparse rfl ⟨AV.le_refl _, AV.le_refl _, trivial⟩ ⟨rfl, ⟨fun hw => hw, fun c hc => (by cases hc), .inl rfl, rfl, rfl, fun i hi j hj => rfl⟩, ⟨fun hw => hw, fun c hc => (by cases hc), .inl rfl, rfl, rfl, fun i hi j hj => rfl⟩, trivial⟩ rfl
            · subst hLEN
              exact ⟨AV.le_refl _, ⟨⟨fun hw => hw, fun c hc => (by cases hc), .inl rfl, rfl, rfl, fun i hi j hj => rfl⟩, ⟨fun hw => hw, fun c hc => (by cases hc), .inl rfl, rfl, rfl, fun i hi j hj => rfl⟩, trivial⟩, rfl⟩
          · replace h := of_br_f b81 h
            cbv
            replace h := of_let h
            obtain ⟨l17, hl17, h⟩ := h
            have e18 : 0 = LEN l17 := by subst hl17 hLEN; rfl
            refine ⟨_, congrArg (fun n => AV.c (AC.os 2496 0 n)) e18, _, row GD (encSpatialEntry) l17, e18, ?_, ?_⟩
            · intro i hi j hj
              rw [← e18] at hi
              subst hl17
              subst hGD
              omega
            cbv
            replace h := of_bind h
            obtain ⟨y23, hr24, hN25⟩ := h
            refine loop_cut hr24 (fun x => (sparse 82 [(1, .c (.v (.int .i64 a1))), (3, .c (.ptr 192 0)), (6, .c (.ptr 384 0)), (8, .c (.os 2496 0 (LEN x.2.2))), (9, .c (.ptr 576 0)), (10, .c (.v (.bool x.1))), (11, .c (.v (.int .i64 x.2.1)))] [(192, .var [.bs (LEN a0.fEntries) 5 (row GD (encSpatialEntry) a0.fEntries), .bs (LEN a0.fBuckets) 1 (row GD (encL LEN GD 1 (encI .i64)) a0.fBuckets)]), (384, .var [.v (.slice none 0 0), .v (.slice none 0 0)]), (2496, .arr .rw [] (LEN x.2.2) 5 (row GD (encSpatialEntry) x.2.2)), (576, .var [.v (.int .i64 a1), .v (.int .i64 a2.fX0), .v (.int .i64 a2.fY0), .v (.int .i64 a2.fX1), .v (.int .i64 a2.fY1)])])) ?_ (fun y e s => (fun (w : Bool × (List TSpatialEntry)) => e = .exit 1 ∧ s.le (sparse 82 [(6, .c (.ptr 384 0)), (8, .c (.os 2496 0 (LEN w.2))), (9, .c (.ptr 576 0)), (10, .c (.v (.bool w.1)))] [(384, .var [.v (.slice none 0 0), .v (.slice none 0 0)]), (2496, .arr .rw [] (LEN w.2) 5 (row GD (encSpatialEntry) w.2)), (576, .var [.v (.int .i64 a1), .v (.int .i64 a2.fX0), .v (.int .i64 a2.fY0), .v (.int .i64 a2.fX1), .v (.int .i64 a2.fY1)])])) y) ?_ ?_
            · clear hr24 hN25
              show St.le _ _
              exact le_sparse rfl ⟨AV.le_refl _, AV.le_refl _, AV.le_refl _, AV.le_refl _, AV.le_refl _, AV.le_refl _, AV.le_refl _, trivial⟩ ⟨rfl, rfl, ⟨fun hw => hw, fun c hc => (by cases hc), .inl rfl, rfl, rfl, fun i hi j hj => rfl⟩, rfl, trivial⟩ rfl
            · clear hr24 hN25
              intro x z29 h K27 hK28 hY26
              obtain ⟨x0_, x1_, x2_⟩ := x
              replace h := of_let h
              obtain ⟨v19, hv19, h⟩ := h
              have hv19 : v19 = x0_ := hv19
              subst hv19
              replace h := of_let h
              obtain ⟨v20, hv20, h⟩ := h
              have hv20 : v20 = x1_ := hv20
              subst hv20
              replace h := of_let h
              obtain ⟨v21, hv21, h⟩ := h
              have hv21 : v21 = x2_ := hv21
              subst hv21
              cbv
              refine fork (fun b63 => ?_) (fun b63 => ?_)
              · replace h := of_br_t b63 h
                cbv
                replace h := of_bind h
                obtain ⟨y34, hy35, h⟩ := h
                obtain ⟨S38, hS39⟩ : ∃ S, S = (sparse 82 [(1, .c (.v (.int .i64 a1))), (3, .c (.ptr 192 0)), (6, .c (.ptr 384 0)), (8, .c (.os 2496 0 (LEN v21))), (9, .c (.ptr 576 0)), (10, .c (.v (.bool v19))), (11, .c (.v (.int .i64 v20))), (61, .c (.v (.bool y34)))] [(192, .var [.bs (LEN a0.fEntries) 5 (row GD (encSpatialEntry) a0.fEntries), .bs (LEN a0.fBuckets) 1 (row GD (encL LEN GD 1 (encI .i64)) a0.fBuckets)]), (384, .var [.v (.slice none 0 0), .v (.slice none 0 0)]), (2496, .arr .rw [] (LEN v21) 5 (row GD (encSpatialEntry) v21)), (576, .var [.v (.int .i64 a1), .v (.int .i64 a2.fX0), .v (.int .i64 a2.fY0), .v (.int .i64 a2.fX1), .v (.int .i64 a2.fY1)])]) := ⟨_, rfl⟩
                refine ⟨S38, ?_, ?_⟩
                · clear h
                  have h := hy35
                  clear hy35
                  cbv
                  refine fork (fun b42 => ?_) (fun b42 => ?_)
                  · replace h := of_br_t b42 h
                    cbv
                    replace h := of_req h
                    obtain ⟨c41, h⟩ := h
                    refine ⟨⟨c41, trivial⟩, ?_⟩
                    injection h with h
                    subst h
                    subst hS39
                    show St.le _ _
                    exact le_sparse rfl ⟨AV.le_refl _, AV.le_refl _, AV.le_refl _, AV.le_refl _, AV.le_refl _, AV.le_refl _, AV.le_refl _, AV.le_refl _, trivial⟩ ⟨rfl, rfl, ⟨fun hw => hw, fun c hc => (by cases hc), .inl rfl, rfl, rfl, fun i hi j hj => rfl⟩, rfl, trivial⟩ rfl
                  · replace h := of_br_f b42 h
                    cbv
                    injection h with h
                    subst h
                    subst hS39
                    show St.le _ _
                    exact le_sparse rfl ⟨AV.le_refl _, AV.le_refl _, AV.le_refl _, AV.le_refl _, AV.le_refl _, AV.le_refl _, AV.le_refl _, AV.le_refl _, trivial⟩ ⟨rfl, rfl, ⟨fun hw => hw, fun c hc => (by cases hc), .inl rfl, rfl, rfl, fun i hi j hj => rfl⟩, rfl, trivial⟩ rfl
                · clear hy35
                  subst hS39
                  replace h := of_let h
                  obtain ⟨w40, hw40, h⟩ := h
                  have hw40 : w40 = y34 := hw40
                  subst hw40
                  cbv
                  replace h := of_bind h
                  obtain ⟨y43, hy44, h⟩ := h
                  obtain ⟨S47, hS48⟩ : ∃ S, S = some (sparse 82 [(1, .c (.v (.int .i64 a1))), (3, .c (.ptr 192 0)), (6, .c (.ptr 384 0)), (8, .c (.os 2496 0 (LEN y43.2))), (9, .c (.ptr 576 0)), (10, .c (.v (.bool y43.1))), (11, .c (.v (.int .i64 v20)))] [(192, .var [.bs (LEN a0.fEntries) 5 (row GD (encSpatialEntry) a0.fEntries), .bs (LEN a0.fBuckets) 1 (row GD (encL LEN GD 1 (encI .i64)) a0.fBuckets)]), (384, .var [.v (.slice none 0 0), .v (.slice none 0 0)]), (2496, .arr .rw [] (LEN y43.2) 5 (row GD (encSpatialEntry) y43.2)), (576, .var [.v (.int .i64 a1), .v (.int .i64 a2.fX0), .v (.int .i64 a2.fY0), .v (.int .i64 a2.fX1), .v (.int .i64 a2.fY1)])]) := ⟨_, rfl⟩
                  refine ⟨S47, ?_, ?_⟩
                  · clear h
                    have h := hy44
                    clear hy44
                    cbv
                    refine fork (fun b56 => ?_) (fun b56 => ?_)
                    · replace h := of_br_t b56 h
                      cbv
                      replace h := of_let h
                      obtain ⟨l51, hl51, h⟩ := h
                      have e52 : 1 = LEN l51 := by subst hl51 hLEN; rfl
                      refine ⟨_, congrArg (fun n => AV.c (AC.os 4096 0 n)) e52, _, row GD (encSpatialEntry) l51, e52, ?_, ?_⟩
                      · intro i hi j hj
                        rw [← e52] at hi
                        subst hl51
                        subst hGD
                        obtain rfl : i = 0 := (by omega) <;> obtain rfl | rfl | rfl | rfl | rfl : j = 0 ∨ j = 1 ∨ j = 2 ∨ j = 3 ∨ j = 4 := (by omega)
                        all_goals rfl
                      cbv
                      replace h := of_req h
                      obtain ⟨c55, h⟩ := h
                      replace h := of_let h
                      obtain ⟨l53, hl53, h⟩ := h
                      have e54 : A.nadd (LEN v21) (LEN l51) = LEN l53 := by subst hl53 hLEN hA; simp [std, len]
                      refine ⟨c55, _, congrArg (fun n => AV.c (AC.os 2496 0 n)) e54, _, row GD (encSpatialEntry) l53, e54, ?_, ?_⟩
                      · subst hGD hLEN hA
                        exact app_os (off := 0) (pl_encSpatialEntry) hl53 (Nat.le_refl _)
                      cbv
                      injection h with h
                      subst h
                      subst hS48
                      show St.le _ _
                      exact le_sparse rfl ⟨AV.le_refl _, AV.le_refl _, AV.le_refl _, AV.le_refl _, AV.le_refl _, AV.le_refl _, AV.le_refl _, trivial⟩ ⟨rfl, rfl, ⟨fun hw => hw, fun c hc => (by cases hc), .inl rfl, rfl, rfl, fun i hi j hj => rfl⟩, rfl, trivial⟩ rfl
                    · replace h := of_br_f b56 h
                      cbv
                      injection h with h
                      subst h
                      subst hS48
                      show St.le _ _
                      exact le_sparse rfl ⟨AV.le_refl _, AV.le_refl _, AV.le_refl _, AV.le_refl _, AV.le_refl _, AV.le_refl _, AV.le_refl _, trivial⟩ ⟨rfl, rfl, ⟨fun hw => hw, fun c hc => (by cases hc), .inl rfl, rfl, rfl, fun i hi j hj => rfl⟩, rfl, trivial⟩ rfl
                  · clear hy44
                    subst hS48
                    obtain ⟨y43_0, y43_1⟩ := y43
                    replace h := of_let h
                    obtain ⟨w49, hw49, h⟩ := h
                    have hw49 : w49 = y43_0 := hw49
                    subst hw49
                    replace h := of_let h
                    obtain ⟨w50, hw50, h⟩ := h
                    have hw50 : w50 = y43_1 := hw50
                    subst hw50
                    cbv
                    replace h := of_req h
                    obtain ⟨c57, h⟩ := h
                    refine ⟨⟨c57, trivial⟩, ?_⟩
                    replace h := of_let h
                    obtain ⟨l58, hl58, h⟩ := h
                    have e59 : 1 = LEN l58 := by subst hl58 hLEN; rfl
                    refine ⟨_, congrArg (fun n => AV.c (AC.os 4608 0 n)) e59, _, row GD (encSpatialEntry) l58, e59, ?_, ?_⟩
                    · intro i hi j hj
                      rw [← e59] at hi
                      subst hl58
                      subst hGD
                      obtain rfl : i = 0 := (by omega) <;> obtain rfl | rfl | rfl | rfl | rfl : j = 0 ∨ j = 1 ∨ j = 2 ∨ j = 3 ∨ j = 4 := (by omega)
                      all_goals rfl
                    cbv
                    replace h := of_req h
                    obtain ⟨c62, h⟩ := h
                    replace h := of_let h
                    obtain ⟨l60, hl60, h⟩ := h
                    have e61 : A.nadd (LEN w50) (LEN l58) = LEN l60 := by subst hl60 hLEN hA; simp [std, len]
                    refine ⟨c62, _, congrArg (fun n => AV.c (AC.os 2496 0 n)) e61, _, row GD (encSpatialEntry) l60, e61, ?_, ?_⟩
                    · subst hGD hLEN hA
                      exact app_os (off := 0) (pl_encSpatialEntry) hl60 (Nat.le_refl _)
                    cbv
                    injection h with h
                    refine hK28 _ h.symm _ ?_
                    exact le_sparse rfl ⟨AV.le_refl _, AV.le_refl _, AV.le_refl _, AV.le_refl _, AV.le_refl _, AV.le_refl _, AV.le_refl _, trivial⟩ ⟨rfl, rfl, ⟨fun hw => hw, fun c hc => (by cases hc), .inl rfl, rfl, rfl, fun i hi j hj => rfl⟩, rfl, trivial⟩ rfl
              · replace h := of_br_f b63 h
                cbv
                injection h with h
                refine hY26 _ h.symm _ _ (And.intro rfl ?_) (by intro hh; cases hh)
                exact le_sparse rfl ⟨AV.le_refl _, AV.le_refl _, AV.le_refl _, AV.le_refl _, trivial⟩ ⟨rfl, ⟨fun hw => hw, fun c hc => (by cases hc), .inl rfl, rfl, rfl, fun i hi j hj => rfl⟩, rfl, trivial⟩ rfl
            · clear hr24
              have h := hN25
              clear hN25
              intro e32 s33 q31 hne
              replace h := of_let h
              obtain ⟨y23k0, hyk, h⟩ := h
              have hyk : y23k0 = y23 := hyk
              subst hyk
              obtain ⟨rfl, q31⟩ := q31
              obtain ⟨y23k0_0, y23k0_1⟩ := y23k0
              replace h := of_let h
              obtain ⟨w64, hw64, h⟩ := h
              have hw64 : w64 = y23k0_0 := hw64
              subst hw64
              replace h := of_let h
              obtain ⟨w65, hw65, h⟩ := h
              have hw65 : w65 = y23k0_1 := hw65
              subst hw65
              cbv
              refine ⟨_, q31, ?_⟩
              cbv
              replace h := of_bind h
              obtain ⟨y66, hy67, h⟩ := h
              obtain ⟨S70, hS71⟩ : ∃ S, S = some (sparse 82 [(6, .c (.ptr 384 0)), (8, .c (.os 2496 0 (LEN y66)))] [(384, .var [.v (.slice none 0 0), .v (.slice none 0 0)]), (2496, .arr .rw [] (LEN y66) 5 (row GD (encSpatialEntry) y66))]) := ⟨_, rfl⟩
              refine ⟨S70, ?_, ?_⟩
              · clear h
                have h := hy67
                clear hy67
                cbv
                refine fork (fun b78 => ?_) (fun b78 => ?_)
                · replace h := of_br_t b78 h
                  cbv
                  replace h := of_let h
                  obtain ⟨l73, hl73, h⟩ := h
                  have e74 : 1 = LEN l73 := by subst hl73 hLEN; rfl
                  refine ⟨_, congrArg (fun n => AV.c (AC.os 4992 0 n)) e74, _, row GD (encSpatialEntry) l73, e74, ?_, ?_⟩
                  · intro i hi j hj
                    rw [← e74] at hi
                    subst hl73
                    subst hGD
                    obtain rfl : i = 0 := (by omega) <;> obtain rfl | rfl | rfl | rfl | rfl : j = 0 ∨ j = 1 ∨ j = 2 ∨ j = 3 ∨ j = 4 := (by omega)
                    all_goals rfl
                  cbv
                  replace h := of_req h
                  obtain ⟨c77, h⟩ := h
                  replace h := of_let h
                  obtain ⟨l75, hl75, h⟩ := h
                  have e76 : A.nadd (LEN w65) (LEN l73) = LEN l75 := by subst hl75 hLEN hA; simp [std, len]
                  refine ⟨c77, _, congrArg (fun n => AV.c (AC.os 2496 0 n)) e76, _, row GD (encSpatialEntry) l75, e76, ?_, ?_⟩
                  · subst hGD hLEN hA
                    exact app_os (off := 0) (pl_encSpatialEntry) hl75 (Nat.le_refl _)
                  cbv
                  injection h with h
                  subst h
                  subst hS71
                  show St.le _ _
                  exact le_sparse rfl ⟨AV.le_refl _, AV.le_refl _, trivial⟩ ⟨rfl, ⟨fun hw => hw, fun c hc => (by cases hc), .inl rfl, rfl, rfl, fun i hi j hj => rfl⟩, trivial⟩ rfl
                · replace h := of_br_f b78 h
                  cbv
                  injection h with h
                  subst h
                  subst hS71
                  show St.le _ _
                  exact le_sparse rfl ⟨AV.le_refl _, AV.le_refl _, trivial⟩ ⟨rfl, ⟨fun hw => hw, fun c hc => (by cases hc), .inl rfl, rfl, rfl, fun i hi j hj => rfl⟩, trivial⟩ rfl
              · clear hy67
                subst hS71
                replace h := of_let h
                obtain ⟨w72, hw72, h⟩ := h
                have hw72 : w72 = y66 := hw72
                subst hw72
                cbv
                replace h := of_bind h
                obtain ⟨y79, hy80, h⟩ := h
                refine ⟨{ args := [.c (.os 5 0 (LEN w72))], o0 := [(5, .arr .rw [] (LEN w72) 5 (row GD (encSpatialEntry) w72))], r := .agg [.os 64000 0 (LEN y79.fEntries), .os 64002 0 (LEN y79.fBuckets)], o1 := [(64000, .arr .rw [] (LEN y79.fEntries) 5 (row GD (encSpatialEntry) y79.fEntries)), (64002, .arr .rw [] (LEN y79.fBuckets) 1 (row GD (oncL LEN GD 1 (encI .i64)) y79.fBuckets))], fl := true, σ := [(5, 2496)], τ := [(64000, 5184), (64002, 5186)] }, hf_spec_l11Made_mo _ _ hy80, ⟨les_cons (AV.le_refl _) (les_nil), ⟨⟨fun hw => hw, fun c hc => (by cases hc), .inl rfl, rfl, rfl, fun i hi j hj => rfl⟩, trivial⟩, rfl, rfl, rfl, rfl, ⟨fun h => absurd (show (64000 : Nat) % 2 = 1 from h) (by decide), fun h => absurd (show (64002 : Nat) % 2 = 1 from h) (by decide), trivial⟩, rfl⟩, _, rfl, _, _, rfl, fun _ _ _ _ => rfl, _, _, rfl, fun _ _ _ _ => rfl, ?_⟩
                cbv
                injection h with h
                subst h
                refine ⟨(sparse 82 [(6, .c (.ptr 384 0)), (7, .c (.v (.int .i64 0)))] [(384, .var [.os 64000 0 (LEN y79.fEntries), .os 64002 0 (LEN y79.fBuckets)]), (64000, .arr .rw [] (LEN y79.fEntries) 5 (row GD (encSpatialEntry) y79.fEntries)), (64002, .arr .rw [] (LEN y79.fBuckets) 1 (row GD (oncL LEN GD 1 (encI .i64)) y79.fBuckets))]), ?_, ?_⟩
                · refine St.le_trans (le_ren 5184 64000 (by decide) rfl) ?_
                  refine St.le_trans (le_ren 5186 64002 (by decide) rfl) ?_
                  exact le_sparse rfl ⟨AV.le_refl _, AV.le_refl _, trivial⟩ ⟨rfl, ⟨fun hw => hw, fun c hc => (by cases hc), .inl rfl, rfl, rfl, fun i hi j hj => rfl⟩, ⟨fun hw => hw, fun c hc => (by cases hc), .inl rfl, rfl, rfl, fun i hi j hj => rfl⟩, trivial⟩ rfl
                · exact ⟨AV.le_refl _, ⟨⟨fun hw => hw, fun c hc => (by cases hc), .inl rfl, rfl, rfl, fun i hi j hj => rfl⟩, ⟨fun hw => hw, fun c hc => (by cases hc), .inl rfl, rfl, rfl, fun i hi j hj => rfl⟩, trivial⟩, rfl⟩

/-- impl.within -/
noncomputable def F_impl_within (a0 : Int) (a1 : Int) (a2 : Int) : Option (Bool) :=
  ((
        br (std.le a1 a0)
        (some (std.le a0 a2))
        (some false)
    ) : Option (Bool)).bind fun y1 =>
  letO y1 fun w7 =>
  some w7
theorem run_impl_within (a0 : Int) (a1 : Int) (a2 : Int) (r : Bool) (h : F_impl_within a0 a1 a2 = some r) : Fun Try.prog 110 [.c (.v (.int .i64 a0)), .c (.v (.int .i64 a1)), .c (.v (.int .i64 a2))] [] (.c (.v (.bool r))) [] true := by
  refine Fun.of_wp (oneOf [1]) tok mixed Try.func110 (by kernel_rfl) rfl Try.ntmps110 rfl trivial (fun _ => ⟨trivial, trivial⟩) ?_
  unfold F_impl_within at h
  generalize hLEN : @len = LEN at *
  generalize hGD : @gd = GD at *
  generalize hA : std = A at *
  generalize hP : Try.prog = P at *
  cbv
  replace h := of_bind h
  obtain ⟨y1, hy2, h⟩ := h
  obtain ⟨S5, hS6⟩ : ∃ S, S = (sparse 15 [(6, .c (.v (.bool y1)))] []) := ⟨_, rfl⟩
  refine ⟨S5, ?_, ?_⟩
  · clear h
    have h := hy2
    clear hy2
    cbv
    refine fork (fun b8 => ?_) (fun b8 => ?_)
    · replace h := of_br_t b8 h
      cbv
      injection h with h
      subst h
      subst hS6
      show St.le _ _
      exact le_sparse rfl ⟨AV.le_refl _, trivial⟩ trivial rfl
    · replace h := of_br_f b8 h
      cbv
      injection h with h
      subst h
      subst hS6
      show St.le _ _
      exact le_sparse rfl ⟨AV.le_refl _, trivial⟩ trivial rfl
  · clear hy2
    subst hS6
    replace h := of_let h
    obtain ⟨w7, hw7, h⟩ := h
    have hw7 : w7 = y1 := hw7
    subst hw7
    cbv
    injection h with h
    subst h
    refine ⟨(sparse 15 [(6, .c (.v (.bool w7)))] []), ?_, ?_⟩
    · exact le_sparse rfl ⟨AV.le_refl _, trivial⟩ trivial rfl
    · exact ⟨AV.le_refl _, trivial, rfl⟩

/-- impl.IsValidRect -/
noncomputable def F_impl_IsValidRect (a0 : TRect) : Option (Bool) :=
  ((
        br (std.le (-40) a0.fX0)
        (br (std.lt a0.fX0 a0.fX1)
        (br (std.le a0.fX1 40)
        (br (std.le (-40) a0.fY0)
        (br (std.lt a0.fY0 a0.fY1)
        (some (std.le a0.fY1 40))
        (some false))
        (some false))
        (some false))
        (some false))
        (some false)
    ) : Option (Bool)).bind fun y1 =>
  letO y1 fun w7 =>
  some w7
theorem run_impl_IsValidRect (a0 : TRect) (r : Bool) (h : F_impl_IsValidRect a0 = some r) : Fun Try.prog 109 [.agg [.v (.int .i64 a0.fX0), .v (.int .i64 a0.fY0), .v (.int .i64 a0.fX1), .v (.int .i64 a0.fY1)]] [] (.c (.v (.bool r))) [] true := by
  refine Fun.of_wp (oneOf [1]) tok mixed Try.func109 (by kernel_rfl) rfl Try.ntmps109 rfl trivial (fun _ => ⟨trivial, trivial⟩) ?_
  unfold F_impl_IsValidRect at h
  generalize hLEN : @len = LEN at *
  generalize hGD : @gd = GD at *
  generalize hA : std = A at *
  generalize hP : Try.prog = P at *
  cbv
  replace h := of_bind h
  obtain ⟨y1, hy2, h⟩ := h
  obtain ⟨S5, hS6⟩ : ∃ S, S = (sparse 35 [(2, .c (.v (.bool y1)))] []) := ⟨_, rfl⟩
  refine ⟨S5, ?_, ?_⟩
  · clear h
    have h := hy2
    clear hy2
    cbv
    refine fork (fun b12 => ?_) (fun b12 => ?_)
    · replace h := of_br_t b12 h
      cbv
      refine fork (fun b11 => ?_) (fun b11 => ?_)
      · replace h := of_br_t b11 h
        cbv
        refine fork (fun b10 => ?_) (fun b10 => ?_)
        · replace h := of_br_t b10 h
          cbv
          refine fork (fun b9 => ?_) (fun b9 => ?_)
          · replace h := of_br_t b9 h
            cbv
            refine fork (fun b8 => ?_) (fun b8 => ?_)
            · replace h := of_br_t b8 h
              cbv
              injection h with h
              subst h
              subst hS6
              show St.le _ _
              exact le_sparse rfl ⟨AV.le_refl _, trivial⟩ trivial rfl
            · replace h := of_br_f b8 h
              cbv
              injection h with h
              subst h
              subst hS6
              show St.le _ _
              exact le_sparse rfl ⟨AV.le_refl _, trivial⟩ trivial rfl
          · replace h := of_br_f b9 h
            cbv
            injection h with h
            subst h
            subst hS6
            show St.le _ _
            exact le_sparse rfl ⟨AV.le_refl _, trivial⟩ trivial rfl
        · replace h := of_br_f b10 h
          cbv
          injection h with h
          subst h
          subst hS6
          show St.le _ _
          exact le_sparse rfl ⟨AV.le_refl _, trivial⟩ trivial rfl
      · replace h := of_br_f b11 h
        cbv
        injection h with h
        subst h
        subst hS6
        show St.le _ _
        exact le_sparse rfl ⟨AV.le_refl _, trivial⟩ trivial rfl
    · replace h := of_br_f b12 h
      cbv
      injection h with h
      subst h
      subst hS6
      show St.le _ _
      exact le_sparse rfl ⟨AV.le_refl _, trivial⟩ trivial rfl
  · clear hy2
    subst hS6
    replace h := of_let h
    obtain ⟨w7, hw7, h⟩ := h
    have hw7 : w7 = y1 := hw7
    subst hw7
    cbv
    injection h with h
    subst h
    refine ⟨(sparse 35 [(2, .c (.v (.bool w7)))] []), ?_, ?_⟩
    · exact le_sparse rfl ⟨AV.le_refl _, trivial⟩ trivial rfl
    · exact ⟨AV.le_refl _, trivial, rfl⟩

/-- impl.EmptyIndex -/
noncomputable def F_impl_EmptyIndex  : Option (TSpatialIndex) :=
  ((
        req (std.nneg 25) <|
        req (std.room (std.toN 25) 24) <|
        letO (List.replicate (std.toN 25) ([] : List Int)) fun l8 =>
        some l8
    ) : Option ((List (List Int)))).bind fun y1 =>
  letO y1 fun w7 =>
  some (TSpatialIndex.mk ([] : List TSpatialEntry) w7)
theorem run_impl_EmptyIndex  (r : TSpatialIndex) (h : F_impl_EmptyIndex  = some r) : Fun Try.prog 168 [] [] (.agg [.v (.slice none 0 0), .os 64000 0 (len r.fBuckets)]) [(64000, .arr .rw [] (len r.fBuckets) 1 (row gd (oncL len gd 1 (encI .i64)) r.fBuckets))] true := by
  refine Fun.of_wp (oneOf [1]) tok mixed Try.func168 (by kernel_rfl) rfl Try.ntmps168 rfl trivial (fun _ => ⟨(by simp [AV.flat, AV.flat1, AC.flat]), ⟨fun i _ j _ => fl_oncL (fun _ _ => rfl) _ _, trivial⟩⟩) ?_
  unfold F_impl_EmptyIndex at h
  generalize hLEN : @len = LEN at *
  generalize hGD : @gd = GD at *
  generalize hA : std = A at *
  generalize hP : Try.prog = P at *
  cbv
  replace h := of_bind h
  obtain ⟨y1, hy2, h⟩ := h
  obtain ⟨S5, hS6⟩ : ∃ S, S = (sparse 3 [(0, .c (.ptr 0 0))] [(0, .var [.v (.slice none 0 0), .os 64 0 (LEN y1)]), (64, .arr .rw [] (LEN y1) 1 (row GD (oncL LEN GD 1 (encI .i64)) y1))]) := ⟨_, rfl⟩
  refine ⟨S5, ?_, ?_⟩
  · clear h
    have h := hy2
    clear hy2
    cbv
    replace h := of_req h
    obtain ⟨c10, h⟩ := h
    replace h := of_req h
    obtain ⟨c11, h⟩ := h
    replace h := of_let h
    obtain ⟨l8, hl8, h⟩ := h
    have e9 : A.toN 25 = LEN l8 := by subst hl8 hLEN hA; exact rep_len rfl
    refine And.intro (by first | exact ⟨c10, c11⟩ | exact ⟨rfl, c10, trivial, trivial, trivial, c11⟩ | (refine ⟨?_, ?_, ?_, ?_, ?_, ?_⟩ <;> first | exact c10 | exact c11 | trivial)) ?_
    refine ⟨_, congrArg (fun n => AV.c (AC.os 64 0 n)) e9, _, (fun _ j => ([.v (.slice none 0 0)] : List AC).getD j .junk), e9, ?_, ?_⟩
    · intro i hi j hj
      match j, hj with | 0, _ => rfl | (j_ + 1), h_ => exact absurd h_ (by omega)
    cbv
    injection h with h
    subst h
    subst hS6
    show St.le _ _
    refine St.le_trans (le_nilG (get' := (fun _ j => ([.ow (LEN ([] : List Int)) 1 (row GD (encI .i64) ([] : List Int))] : List AC).getD j .junk)) 64 rfl ?_) ?_
    · subst hLEN
      intro i _ j hj
      match j, hj with | 0, _ => exact (.inr ⟨rfl, _, _, rfl⟩) | (j_ + 1), h_ => exact absurd h_ (by omega)
    exact le_sparse rfl ⟨AV.le_refl _, trivial⟩ ⟨rfl, ⟨fun hw => hw, fun c hc => (by cases hc), .inr (fun i _ j _ z hz => (noref (rfl) hz).elim), rfl, rfl, (by subst hGD hLEN hA; exact upd_repL hl8 (g := fun j => _) (by intro j hj; match j, hj with | 0, _ => rfl | (j_ + 1), h_ => exact absurd h_ (by omega)))⟩, trivial⟩ rfl
  · clear hy2
    subst hS6
    replace h := of_let h
    obtain ⟨w7, hw7, h⟩ := h
    have hw7 : w7 = y1 := hw7
    subst hw7
    cbv
    injection h with h
    subst h
    refine ⟨(sparse 3 [(0, .c (.ptr 0 0))] [(0, .var [.v (.slice none 0 0), .os 64000 0 (LEN w7)]), (64000, .arr .rw [] (LEN w7) 1 (row GD (oncL LEN GD 1 (encI .i64)) w7))]), ?_, ?_⟩
    · refine St.le_trans (le_ren 64 64000 (by decide) rfl) ?_
      exact le_sparse rfl ⟨AV.le_refl _, trivial⟩ ⟨rfl, ⟨fun hw => hw, fun c hc => (by cases hc), .inl rfl, rfl, rfl, fun i hi j hj => rfl⟩, trivial⟩ rfl
    · exact ⟨AV.le_refl _, ⟨⟨fun hw => hw, fun c hc => (by cases hc), .inl rfl, rfl, rfl, fun i hi j hj => rfl⟩, trivial⟩, rfl⟩

noncomputable def L_impl_buckets_x22 (a0 : TRect) (v4 : Int) : (Int × (List Int)) → Option ((Int × (List Int)) ⊕ (((List Int)))) := fun x22 =>
  letO x22.1 fun v20 =>
  letO x22.2 fun v21 =>
  req (std.nz 16) <|
  br (std.le v20 (std.quo .i64 (std.add .i64 (std.sub .i64 a0.fX1 1) 40) 16))
  (letO ([std.add .i64 (std.mul .i64 5 v4) v20] : List Int) fun l35 =>
  req (std.room (std.nadd (len v21) (len l35)) 8) <|
  letO (v21 ++ l35) fun l37 =>
  some (.inl (std.add .i64 v20 1, l37)))
  (some (.inr v21))
noncomputable def L_impl_buckets_x6 (a0 : TRect) : (Int × (List Int)) → Option ((Int × (List Int)) ⊕ (((List Int)))) := fun x6 =>
  letO x6.1 fun v4 =>
  letO x6.2 fun v5 =>
  req (std.nz 16) <|
  br (std.le v4 (std.quo .i64 (std.add .i64 (std.sub .i64 a0.fY1 1) 40) 16))
  (req (std.nz 16) <|
  (whileP (σ := Int × (List Int)) (ρ := ((List Int))) (L_impl_buckets_x22 a0 v4) (std.quo .i64 (std.add .i64 a0.fX0 40) 16, v5)).bind fun y23 =>
  letO y23 fun y23k0 =>
  letO y23k0 fun w41 =>
  some (.inl (std.add .i64 v4 1, w41)))
  (some (.inr v5))
/-- impl.buckets -/
noncomputable def F_impl_buckets (a0 : TRect) : Option (List Int) :=
  letO ([] : List Int) fun l1 =>
  req (std.nz 16) <|
  (whileP (σ := Int × (List Int)) (ρ := ((List Int))) (L_impl_buckets_x6 a0) (std.quo .i64 (std.add .i64 a0.fY0 40) 16, l1)).bind fun y7 =>
  letO y7 fun y7k0 =>
  letO y7k0 fun w43 =>
  some w43
theorem run_impl_buckets (a0 : TRect) (r : List Int) (h : F_impl_buckets a0 = some r) : Fun Try.prog 117 [.agg [.v (.int .i64 a0.fX0), .v (.int .i64 a0.fY0), .v (.int .i64 a0.fX1), .v (.int .i64 a0.fY1)]] [] (.c (.os 64000 0 (len r))) [(64000, .arr .rw [] (len r) 1 (row gd (encI .i64) r))] true := by
  refine Fun.of_wp (oneOf []) tok mixed Try.func117 (by kernel_rfl) rfl Try.ntmps117 rfl trivial (fun _ => ⟨trivial, ⟨fun i _ j _ => val_flat (rfl), trivial⟩⟩) ?_
  unfold F_impl_buckets at h
  unfold L_impl_buckets_x6 at h
  unfold L_impl_buckets_x22 at h
  generalize hLEN : @len = LEN at *
  generalize hGD : @gd = GD at *
  generalize hA : std = A at *
  generalize hP : Try.prog = P at *
  cbv
  replace h := of_let h
  obtain ⟨l1, hl1, h⟩ := h
  have e2 : 0 = LEN l1 := by subst hl1 hLEN; rfl
  refine ⟨_, congrArg (fun n => AV.c (AC.os 384 0 n)) e2, _, row GD (encI .i64) l1, e2, ?_, ?_⟩
  · intro i hi j hj
    rw [← e2] at hi
    subst hl1
    subst hGD
    omega
  cbv
  replace h := of_req h
  obtain ⟨c3, h⟩ := h
  refine ⟨c3, ?_⟩
  replace h := of_bind h
  obtain ⟨y7, hr8, hN9⟩ := h
  refine loop_cut hr8 (fun x => (sparse 41 [(1, .c (.ptr 64 0)), (3, .c (.os 384 0 (LEN x.2))), (4, .c (.v (.int .i64 x.1)))] [(64, .var [.v (.int .i64 a0.fX0), .v (.int .i64 a0.fY0), .v (.int .i64 a0.fX1), .v (.int .i64 a0.fY1)]), (384, .arr .rw [] (LEN x.2) 1 (row GD (encI .i64) x.2))])) ?_ (fun y e s => (fun (w : (List Int)) => e = .exit 0 ∧ s.le (sparse 41 [(3, .c (.os 384 0 (LEN w)))] [(384, .arr .rw [] (LEN w) 1 (row GD (encI .i64) w))])) y) ?_ ?_
  · clear hr8 hN9
    show St.le _ _
    exact le_sparse rfl ⟨AV.le_refl _, AV.le_refl _, AV.le_refl _, trivial⟩ ⟨rfl, ⟨fun hw => hw, fun c hc => (by cases hc), .inl rfl, rfl, rfl, fun i hi j hj => rfl⟩, trivial⟩ rfl
  · clear hr8 hN9
    intro x z13 h K11 hK12 hY10
    obtain ⟨x0_, x1_⟩ := x
    replace h := of_let h
    obtain ⟨v4, hv4, h⟩ := h
    have hv4 : v4 = x0_ := hv4
    subst hv4
    replace h := of_let h
    obtain ⟨v5, hv5, h⟩ := h
    have hv5 : v5 = x1_ := hv5
    subst hv5
    cbv
    replace h := of_req h
    obtain ⟨c18, h⟩ := h
    refine ⟨c18, ?_⟩
    refine fork (fun b42 => ?_) (fun b42 => ?_)
    · replace h := of_br_t b42 h
      cbv
      replace h := of_req h
      obtain ⟨c19, h⟩ := h
      refine ⟨c19, ?_⟩
      replace h := of_bind h
      obtain ⟨y23, hr24, hN25⟩ := h
      refine loop_cut hr24 (fun x => (sparse 41 [(1, .c (.ptr 64 0)), (3, .c (.os 384 0 (LEN x.2))), (4, .c (.v (.int .i64 v4))), (5, .c (.v (.int .i64 x.1)))] [(64, .var [.v (.int .i64 a0.fX0), .v (.int .i64 a0.fY0), .v (.int .i64 a0.fX1), .v (.int .i64 a0.fY1)]), (384, .arr .rw [] (LEN x.2) 1 (row GD (encI .i64) x.2))])) ?_ (fun y e s => (fun (w : (List Int)) => e = .exit 2 ∧ s.le (sparse 41 [(1, .c (.ptr 64 0)), (3, .c (.os 384 0 (LEN w))), (4, .c (.v (.int .i64 v4)))] [(64, .var [.v (.int .i64 a0.fX0), .v (.int .i64 a0.fY0), .v (.int .i64 a0.fX1), .v (.int .i64 a0.fY1)]), (384, .arr .rw [] (LEN w) 1 (row GD (encI .i64) w))])) y) ?_ ?_
      · clear hr24 hN25
        show St.le _ _
        exact le_sparse rfl ⟨AV.le_refl _, AV.le_refl _, AV.le_refl _, AV.le_refl _, trivial⟩ ⟨rfl, ⟨fun hw => hw, fun c hc => (by cases hc), .inl rfl, rfl, rfl, fun i hi j hj => rfl⟩, trivial⟩ rfl
      · clear hr24 hN25
        intro x z29 h K27 hK28 hY26
        obtain ⟨x0_, x1_⟩ := x
        replace h := of_let h
        obtain ⟨v20, hv20, h⟩ := h
        have hv20 : v20 = x0_ := hv20
        subst hv20
        replace h := of_let h
        obtain ⟨v21, hv21, h⟩ := h
        have hv21 : v21 = x1_ := hv21
        subst hv21
        cbv
        replace h := of_req h
        obtain ⟨c34, h⟩ := h
        refine ⟨c34, ?_⟩
        refine fork (fun b40 => ?_) (fun b40 => ?_)
        · replace h := of_br_t b40 h
          cbv
          replace h := of_let h
          obtain ⟨l35, hl35, h⟩ := h
          have e36 : 1 = LEN l35 := by subst hl35 hLEN; rfl
          refine ⟨_, congrArg (fun n => AV.c (AC.os 2432 0 n)) e36, _, row GD (encI .i64) l35, e36, ?_, ?_⟩
          · intro i hi j hj
            rw [← e36] at hi
            subst hl35
            subst hGD
            obtain rfl : i = 0 := (by omega)
            all_goals obtain rfl : j = 0 := by omega
            all_goals rfl
          cbv
          replace h := of_req h
          obtain ⟨c39, h⟩ := h
          replace h := of_let h
          obtain ⟨l37, hl37, h⟩ := h
          have e38 : A.nadd (LEN v21) (LEN l35) = LEN l37 := by subst hl37 hLEN hA; simp [std, len]
          refine ⟨c39, _, congrArg (fun n => AV.c (AC.os 384 0 n)) e38, _, row GD (encI .i64) l37, e38, ?_, ?_⟩
          · subst hGD hLEN hA
            exact app_os (off := 0) (fun _ _ => rfl) hl37 (Nat.le_refl _)
          cbv
          injection h with h
          refine hK28 _ h.symm _ ?_
          exact le_sparse rfl ⟨AV.le_refl _, AV.le_refl _, AV.le_refl _, AV.le_refl _, trivial⟩ ⟨rfl, ⟨fun hw => hw, fun c hc => (by cases hc), .inl rfl, rfl, rfl, fun i hi j hj => rfl⟩, trivial⟩ rfl
        · replace h := of_br_f b40 h
          cbv
          injection h with h
          refine hY26 _ h.symm _ _ (And.intro rfl ?_) (by intro hh; cases hh)
          exact le_sparse rfl ⟨AV.le_refl _, AV.le_refl _, AV.le_refl _, trivial⟩ ⟨rfl, ⟨fun hw => hw, fun c hc => (by cases hc), .inl rfl, rfl, rfl, fun i hi j hj => rfl⟩, trivial⟩ rfl
      · clear hr24
        have h := hN25
        clear hN25
        intro e32 s33 q31 hne
        replace h := of_let h
        obtain ⟨y23k0, hyk, h⟩ := h
        have hyk : y23k0 = y23 := hyk
        subst hyk
        obtain ⟨rfl, q31⟩ := q31
        replace h := of_let h
        obtain ⟨w41, hw41, h⟩ := h
        have hw41 : w41 = y23k0 := hw41
        subst hw41
        cbv
        refine ⟨_, q31, ?_⟩
        cbv
        injection h with h
        refine hK12 _ h.symm _ ?_
        exact le_sparse rfl ⟨AV.le_refl _, AV.le_refl _, AV.le_refl _, trivial⟩ ⟨rfl, ⟨fun hw => hw, fun c hc => (by cases hc), .inl rfl, rfl, rfl, fun i hi j hj => rfl⟩, trivial⟩ rfl
    · replace h := of_br_f b42 h
      cbv
      injection h with h
      refine hY10 _ h.symm _ _ (And.intro rfl ?_) (by intro hh; cases hh)
      exact le_sparse rfl ⟨AV.le_refl _, trivial⟩ ⟨⟨fun hw => hw, fun c hc => (by cases hc), .inl rfl, rfl, rfl, fun i hi j hj => rfl⟩, trivial⟩ rfl
  · clear hr8
    have h := hN9
    clear hN9
    intro e16 s17 q15 hne
    replace h := of_let h
    obtain ⟨y7k0, hyk, h⟩ := h
    have hyk : y7k0 = y7 := hyk
    subst hyk
    obtain ⟨rfl, q15⟩ := q15
    replace h := of_let h
    obtain ⟨w43, hw43, h⟩ := h
    have hw43 : w43 = y7k0 := hw43
    subst hw43
    cbv
    refine ⟨_, q15, ?_⟩
    cbv
    injection h with h
    subst h
    refine ⟨(sparse 41 [(2, .c (.os 64000 0 (LEN w43)))] [(64000, .arr .rw [] (LEN w43) 1 (row GD (encI .i64) w43))]), ?_, ?_⟩
    · refine St.le_trans (le_ren 384 64000 (by decide) rfl) ?_
      exact le_sparse rfl ⟨AV.le_refl _, trivial⟩ ⟨⟨fun hw => hw, fun c hc => (by cases hc), .inl rfl, rfl, rfl, fun i hi j hj => rfl⟩, trivial⟩ rfl
    · exact ⟨AV.le_refl _, ⟨⟨fun hw => hw, fun c hc => (by cases hc), .inl rfl, rfl, rfl, fun i hi j hj => rfl⟩, trivial⟩, rfl⟩
noncomputable def L_impl_indexOf_x28 (a0 : List TSpatialEntry) (y1 : TSpatialIndex) (v3 : Int) (y24 : (List Int)) : (Int × (List (List Int))) → Option ((Int × (List (List Int))) ⊕ (((List (List Int))))) := fun x28 =>
  letO x28.1 fun v26 =>
  letO x28.2 fun v27 =>
  br (std.lt v26 (std.ofN (len y24)))
  (req (std.inR v26 (len y24)) <|
  ((
        req (std.inR (gd y24 (std.nadd 0 (std.toN v26))) (len y1.fBuckets)) <|
        letO ([(gd a0 (std.toN v3)).fId] : List Int) fun l49 =>
        req (std.room (std.nadd (len (gd v27 (std.nadd 0 (std.toN (gd y24 (std.nadd 0 (std.toN v26))))))) (len l49)) 8) <|
        letO ((gd v27 (std.nadd 0 (std.toN (gd y24 (std.nadd 0 (std.toN v26)))))) ++ l49) fun l51 =>
        req (std.inR (gd y24 (std.nadd 0 (std.toN v26))) (len y1.fBuckets)) <|
        req (len y1.fBuckets = len v27) <|
        letO (List.set v27 (std.nadd 0 (std.toN (gd y24 (std.nadd 0 (std.toN v26))))) l51) fun l55 =>
        some l55
    ) : Option ((List (List Int)))).bind fun y41 =>
  letO y41 fun w47 =>
  some (.inl (std.add .i64 v26 1, w47)))
  (some (.inr v27))
noncomputable def L_impl_indexOf_x6 (a0 : List TSpatialEntry) (y1 : TSpatialIndex) : (Int × (List TSpatialEntry) × (List (List Int))) → Option ((Int × (List TSpatialEntry) × (List (List Int))) ⊕ (((List TSpatialEntry) × (List (List Int))))) := fun x6 =>
  letO x6.1 fun v3 =>
  letO x6.2.1 fun v4 =>
  letO x6.2.2 fun v5 =>
  br (std.lt v3 (std.ofN (len a0)))
  (req (std.inR v3 (len a0)) <|
  letO ([(gd a0 (std.toN v3))] : List TSpatialEntry) fun l19 =>
  req (std.room (std.nadd (len v4) (len l19)) 40) <|
  letO (v4 ++ l19) fun l21 =>
  (F_impl_buckets (gd a0 (std.toN v3)).fBox).bind fun y24 =>
  (whileP (σ := Int × (List (List Int))) (ρ := ((List (List Int)))) (L_impl_indexOf_x28 a0 y1 v3 y24) (0, v5)).bind fun y29 =>
  letO y29 fun y29k0 =>
  letO y29k0 fun w58 =>
  some (.inl (std.add .i64 v3 1, l21, w58)))
  (some (.inr (v4, v5)))
/-- impl.indexOf -/
noncomputable def F_impl_indexOf (a0 : List TSpatialEntry) : Option (TSpatialIndex) :=
  (F_impl_EmptyIndex ).bind fun y1 =>
  (whileP (σ := Int × (List TSpatialEntry) × (List (List Int))) (ρ := ((List TSpatialEntry) × (List (List Int)))) (L_impl_indexOf_x6 a0 y1) (0, ([] : List TSpatialEntry), y1.fBuckets)).bind fun y7 =>
  letO y7 fun y7k0 =>
  letO y7k0.1 fun w60 =>
  letO y7k0.2 fun w61 =>
  req (len y1.fBuckets = len w61) <|
  some (TSpatialIndex.mk w60 w61)
theorem run_impl_indexOf (a0 : List TSpatialEntry) (r : TSpatialIndex) (h : F_impl_indexOf a0 = some r) : Fun Try.prog 98 [.c (.bs (len a0) 5 (row gd (encSpatialEntry) a0))] [] (.agg [.os 64000 0 (len r.fEntries), .os 64002 0 (len r.fBuckets)]) [(64000, .arr .rw [] (len r.fEntries) 5 (row gd (encSpatialEntry) r.fEntries)), (64002, .arr .rw [] (len r.fBuckets) 1 (row gd (oncL len gd 1 (encI .i64)) r.fBuckets))] true := by
  refine Fun.of_wp (oneOf [9]) tok mixed Try.func98 (by kernel_rfl) rfl Try.ntmps98 rfl trivial (fun _ => ⟨(by simp [AV.flat, AV.flat1, AC.flat]), ⟨fun i _ j _ => val_flat (vl_encSpatialEntry _ _), fun i _ j _ => fl_oncL (fun _ _ => rfl) _ _, trivial⟩⟩) ?_
  unfold F_impl_indexOf at h
  unfold L_impl_indexOf_x6 at h
  unfold L_impl_indexOf_x28 at h
  have hf_impl_EmptyIndex := @run_impl_EmptyIndex
  have hf_impl_buckets := @run_impl_buckets
  generalize hLEN : @len = LEN at *
  generalize hGD : @gd = GD at *
  generalize hA : std = A at *
  generalize hP : Try.prog = P at *
  cbv
  replace h := of_bind h
  obtain ⟨y1, hy2, h⟩ := h
  refine ⟨{ args := [], o0 := [], r := .agg [.v (.slice none 0 0), .os 64000 0 (LEN y1.fBuckets)], o1 := [(64000, .arr .rw [] (LEN y1.fBuckets) 1 (row GD (oncL LEN GD 1 (encI .i64)) y1.fBuckets))], fl := true, σ := [], τ := [(64000, 512)] }, hf_impl_EmptyIndex  _ hy2, ⟨les_nil, trivial, rfl, rfl, rfl, rfl, ⟨fun h => absurd (show (64000 : Nat) % 2 = 1 from h) (by decide), trivial⟩, rfl⟩, _, rfl, _, _, rfl, fun _ _ _ _ => rfl, ?_⟩
  cbv
  replace h := of_bind h
  obtain ⟨y7, hr8, hN9⟩ := h
  refine loop_cut hr8 (fun x => (sparse 45 [(2, .c (.ptr 128 0)), (3, .c (.ptr 192 0)), (9, .c (.bs (LEN a0) 5 (row GD (encSpatialEntry) a0))), (10, .c (.v (.int .i64 (A.ofN (LEN a0))))), (11, .c (.v (.int .i64 x.1)))] [(128, .var [.v (.slice none 0 0), .v (.slice none 0 0)]), (192, .var [.os 1216 0 (LEN x.2.1), .os 512 0 (LEN y1.fBuckets)]), (1216, .arr .rw [] (LEN x.2.1) 5 (row GD (encSpatialEntry) x.2.1)), (512, .arr .rw [] (LEN y1.fBuckets) 1 (row GD (oncL LEN GD 1 (encI .i64)) x.2.2))])) ?_ (fun y e s => (fun (w : (List TSpatialEntry) × (List (List Int))) => e = .exit 0 ∧ s.le (sparse 45 [(2, .c (.ptr 128 0)), (3, .c (.ptr 192 0))] [(128, .var [.v (.slice none 0 0), .v (.slice none 0 0)]), (192, .var [.os 1216 0 (LEN w.1), .os 512 0 (LEN y1.fBuckets)]), (1216, .arr .rw [] (LEN w.1) 5 (row GD (encSpatialEntry) w.1)), (512, .arr .rw [] (LEN y1.fBuckets) 1 (row GD (oncL LEN GD 1 (encI .i64)) w.2))])) y) ?_ ?_
  · clear hr8 hN9
    show St.le _ _
    refine St.le_trans (le_nilV 192 0 1216 5 (row GD (encSpatialEntry) ([] : List TSpatialEntry)) (by decide) (by decide) rfl rfl) ?_
    subst hLEN
    exact le_sparse rfl ⟨AV.le_refl _, AV.le_refl _, AV.le_refl _, AV.le_refl _, AV.le_refl _, trivial⟩ ⟨rfl, rfl, ⟨fun hw => hw, fun c hc => (by cases hc), .inl rfl, rfl, rfl, fun i hi j hj => rfl⟩, ⟨fun hw => hw, fun c hc => (by cases hc), .inl rfl, rfl, rfl, fun i hi j hj => rfl⟩, trivial⟩ rfl
  · clear hr8 hN9
    intro x z13 h K11 hK12 hY10
    obtain ⟨x0_, x1_, x2_⟩ := x
    replace h := of_let h
    obtain ⟨v3, hv3, h⟩ := h
    have hv3 : v3 = x0_ := hv3
    subst hv3
    replace h := of_let h
    obtain ⟨v4, hv4, h⟩ := h
    have hv4 : v4 = x1_ := hv4
    subst hv4
    replace h := of_let h
    obtain ⟨v5, hv5, h⟩ := h
    have hv5 : v5 = x2_ := hv5
    subst hv5
    cbv
    refine fork (fun b59 => ?_) (fun b59 => ?_)
    · replace h := of_br_t b59 h
      cbv
      replace h := of_req h
      obtain ⟨c18, h⟩ := h
      refine ⟨⟨c18, trivial⟩, ?_⟩
      replace h := of_let h
      obtain ⟨l19, hl19, h⟩ := h
      have e20 : 1 = LEN l19 := by subst hl19 hLEN; rfl
      refine ⟨_, congrArg (fun n => AV.c (AC.os 1152 0 n)) e20, _, row GD (encSpatialEntry) l19, e20, ?_, ?_⟩
      · intro i hi j hj
        rw [← e20] at hi
        subst hl19
        subst hGD
        obtain rfl : i = 0 := (by omega) <;> obtain rfl | rfl | rfl | rfl | rfl : j = 0 ∨ j = 1 ∨ j = 2 ∨ j = 3 ∨ j = 4 := (by omega)
        all_goals rfl
      cbv
      replace h := of_req h
      obtain ⟨c23, h⟩ := h
      replace h := of_let h
      obtain ⟨l21, hl21, h⟩ := h
      have e22 : A.nadd (LEN v4) (LEN l19) = LEN l21 := by subst hl21 hLEN hA; simp [std, len]
      refine ⟨c23, _, congrArg (fun n => AV.c (AC.os 1216 0 n)) e22, _, row GD (encSpatialEntry) l21, e22, ?_, ?_⟩
      · subst hGD hLEN hA
        exact app_os (off := 0) (pl_encSpatialEntry) hl21 (Nat.le_refl _)
      cbv
      replace h := of_bind h
      obtain ⟨y24, hy25, h⟩ := h
      refine ⟨{ args := [.agg [.v (.int .i64 (GD a0 (A.toN v3)).fBox.fX0), .v (.int .i64 (GD a0 (A.toN v3)).fBox.fY0), .v (.int .i64 (GD a0 (A.toN v3)).fBox.fX1), .v (.int .i64 (GD a0 (A.toN v3)).fBox.fY1)]], o0 := [], r := .c (.os 64000 0 (LEN y24)), o1 := [(64000, .arr .rw [] (LEN y24) 1 (row GD (encI .i64) y24))], fl := true, σ := [], τ := [(64000, 1472)] }, hf_impl_buckets _ _ hy25, ⟨les_cons (AV.le_refl _) (les_nil), trivial, rfl, rfl, rfl, rfl, ⟨fun h => absurd (show (64000 : Nat) % 2 = 1 from h) (by decide), trivial⟩, rfl⟩, _, rfl, _, _, rfl, fun _ _ _ _ => rfl, ?_⟩
      cbv
      replace h := of_bind h
      obtain ⟨y29, hr30, hN31⟩ := h
      refine loop_cut hr30 (fun x => (sparse 45 [(2, .c (.ptr 128 0)), (3, .c (.ptr 192 0)), (5, .c (.ptr 320 0)), (9, .c (.bs (LEN a0) 5 (row GD (encSpatialEntry) a0))), (10, .c (.v (.int .i64 (A.ofN (LEN a0))))), (11, .c (.v (.int .i64 v3))), (23, .c (.os 1472 0 (LEN y24))), (24, .c (.v (.int .i64 (A.ofN (LEN y24))))), (25, .c (.v (.int .i64 x.1)))] [(128, .var [.v (.slice none 0 0), .v (.slice none 0 0)]), (192, .var [.os 1216 0 (LEN l21), .os 512 0 (LEN y1.fBuckets)]), (320, .var [.v (.int .i64 (GD a0 (A.toN v3)).fId), .v (.int .i64 (GD a0 (A.toN v3)).fBox.fX0), .v (.int .i64 (GD a0 (A.toN v3)).fBox.fY0), .v (.int .i64 (GD a0 (A.toN v3)).fBox.fX1), .v (.int .i64 (GD a0 (A.toN v3)).fBox.fY1)]), (1472, .arr .rw [] (LEN y24) 1 (row GD (encI .i64) y24)), (1216, .arr .rw [] (LEN l21) 5 (row GD (encSpatialEntry) l21)), (512, .arr .rw [] (LEN y1.fBuckets) 1 (row GD (oncL LEN GD 1 (encI .i64)) x.2))])) ?_ (fun y e s => (fun (w : (List (List Int))) => e = .exit 2 ∧ s.le (sparse 45 [(2, .c (.ptr 128 0)), (3, .c (.ptr 192 0)), (9, .c (.bs (LEN a0) 5 (row GD (encSpatialEntry) a0))), (10, .c (.v (.int .i64 (A.ofN (LEN a0))))), (11, .c (.v (.int .i64 v3)))] [(128, .var [.v (.slice none 0 0), .v (.slice none 0 0)]), (192, .var [.os 1216 0 (LEN l21), .os 512 0 (LEN y1.fBuckets)]), (1216, .arr .rw [] (LEN l21) 5 (row GD (encSpatialEntry) l21)), (512, .arr .rw [] (LEN y1.fBuckets) 1 (row GD (oncL LEN GD 1 (encI .i64)) w))])) y) ?_ ?_
      · clear hr30 hN31
        show St.le _ _
        exact le_sparse rfl ⟨AV.le_refl _, AV.le_refl _, AV.le_refl _, AV.le_refl _, AV.le_refl _, AV.le_refl _, AV.le_refl _, AV.le_refl _, AV.le_refl _, trivial⟩ ⟨rfl, rfl, rfl, ⟨fun hw => hw, fun c hc => (by cases hc), .inl rfl, rfl, rfl, fun i hi j hj => rfl⟩, ⟨fun hw => hw, fun c hc => (by cases hc), .inl rfl, rfl, rfl, fun i hi j hj => rfl⟩, ⟨fun hw => hw, fun c hc => (by cases hc), .inl rfl, rfl, rfl, fun i hi j hj => rfl⟩, trivial⟩ rfl
      · clear hr30 hN31
        intro x z35 h K33 hK34 hY32
        obtain ⟨x0_, x1_⟩ := x
        replace h := of_let h
        obtain ⟨v26, hv26, h⟩ := h
        have hv26 : v26 = x0_ := hv26
        subst hv26
        replace h := of_let h
        obtain ⟨v27, hv27, h⟩ := h
        have hv27 : v27 = x1_ := hv27
        subst hv27
        cbv
        refine fork (fun b57 => ?_) (fun b57 => ?_)
        · replace h := of_br_t b57 h
          cbv
          replace h := of_req h
          obtain ⟨c40, h⟩ := h
          refine ⟨⟨c40, trivial⟩, ?_⟩
          refine And.intro (by first | exact (by subst hA; exact idx_lt c40) | (refine And.intro (by subst hA; exact idx_lt c40) ?_; first | trivial | exact ⟨trivial, trivial⟩)) ?_
          replace h := of_bind h
          obtain ⟨y41, hy42, h⟩ := h
          obtain ⟨S45, hS46⟩ : ∃ S, S = (sparse 45 [(2, .c (.ptr 128 0)), (3, .c (.ptr 192 0)), (5, .c (.ptr 320 0)), (9, .c (.bs (LEN a0) 5 (row GD (encSpatialEntry) a0))), (10, .c (.v (.int .i64 (A.ofN (LEN a0))))), (11, .c (.v (.int .i64 v3))), (23, .c (.os 1472 0 (LEN y24))), (24, .c (.v (.int .i64 (A.ofN (LEN y24))))), (25, .c (.v (.int .i64 v26)))] [(128, .var [.v (.slice none 0 0), .v (.slice none 0 0)]), (192, .var [.os 1216 0 (LEN l21), .os 512 0 (LEN y1.fBuckets)]), (320, .var [.v (.int .i64 (GD a0 (A.toN v3)).fId), .v (.int .i64 (GD a0 (A.toN v3)).fBox.fX0), .v (.int .i64 (GD a0 (A.toN v3)).fBox.fY0), .v (.int .i64 (GD a0 (A.toN v3)).fBox.fX1), .v (.int .i64 (GD a0 (A.toN v3)).fBox.fY1)]), (1472, .arr .rw [] (LEN y24) 1 (row GD (encI .i64) y24)), (1216, .arr .rw [] (LEN l21) 5 (row GD (encSpatialEntry) l21)), (512, .arr .rw [] (LEN y1.fBuckets) 1 (row GD (oncL LEN GD 1 (encI .i64)) y41))]) := ⟨_, rfl⟩
          refine ⟨S45, ?_, ?_⟩
          · clear h
            have h := hy42
            clear hy42
            cbv
            replace h := of_req h
            obtain ⟨c48, h⟩ := h
            refine ⟨⟨c48, trivial⟩, ?_⟩
            refine And.intro (by first | exact (by subst hA; exact idx_lt c48) | (refine And.intro (by subst hA; exact idx_lt c48) ?_; first | trivial | exact ⟨trivial, trivial⟩)) ?_
            refine ⟨_, rfl, _, (patchC (row GD (oncL LEN GD 1 (encI .i64)) v27) (A.nadd 0 (A.toN (GD y24 (A.nadd 0 (A.toN v26))))) [.os 2306 0 (LEN (GD v27 (A.nadd 0 (A.toN (GD y24 (A.nadd 0 (A.toN v26)))))))]), rfl, ?_, ?_⟩
            · refine patch_of ?_
              intro j hj
              match j, hj with | 0, _ => (rfl) | (j_ + 1), h_ => exact absurd h_ (by omega)
            refine ⟨_, row GD (encI .i64) (GD v27 (A.nadd 0 (A.toN (GD y24 (A.nadd 0 (A.toN v26)))))), rfl, ?_, ?_⟩
            · exact fun i _ j _ => plain_cp (rfl)
            cbv
            replace h := of_let h
            obtain ⟨l49, hl49, h⟩ := h
            have e50 : 1 = LEN l49 := by subst hl49 hLEN; rfl
            refine ⟨_, congrArg (fun n => AV.c (AC.os 2496 0 n)) e50, _, row GD (encI .i64) l49, e50, ?_, ?_⟩
            · intro i hi j hj
              rw [← e50] at hi
              subst hl49
              subst hGD
              obtain rfl : i = 0 := (by omega)
              all_goals obtain rfl : j = 0 := by omega
              all_goals rfl
            cbv
            replace h := of_req h
            obtain ⟨c53, h⟩ := h
            replace h := of_let h
            obtain ⟨l51, hl51, h⟩ := h
            have e52 : A.nadd (LEN (GD v27 (A.nadd 0 (A.toN (GD y24 (A.nadd 0 (A.toN v26))))))) (LEN l49) = LEN l51 := by subst hl51 hLEN hA; simp [std, len]
            refine ⟨c53, _, congrArg (fun n => AV.c (AC.os 2306 0 n)) e52, _, row GD (encI .i64) l51, e52, ?_, ?_⟩
            · subst hGD hLEN hA
              exact app_os (off := 0) (fun _ _ => rfl) hl51 (Nat.le_refl _)
            cbv
            replace h := of_req h
            obtain ⟨c54, h⟩ := h
            refine ⟨⟨c54, trivial⟩, ?_⟩
            refine And.intro (by first | exact (by subst hA; exact idx_lt c54) | (refine And.intro (by subst hA; exact idx_lt c54) ?_; first | trivial | exact ⟨trivial, trivial⟩)) ?_
            refine ⟨_, rfl, _, (patchC (row GD (oncL LEN GD 1 (encI .i64)) v27) (A.nadd 0 (A.toN (GD y24 (A.nadd 0 (A.toN v26))))) [.os 2306 0 (LEN l51)]), rfl, ?_, ?_⟩
            · first | refine patch_of2 ?_ | refine patch_of2K (fun _ _ => rfl) ?_
              intro j hj
              match j, hj with | 0, _ => (rfl) | (j_ + 1), h_ => exact absurd h_ (by omega)
            cbv
            replace h := of_req h
            obtain ⟨c56, h⟩ := h
            replace h := of_let h
            obtain ⟨l55, hl55, h⟩ := h
            injection h with h
            subst h
            subst hS46
            show St.le _ _
            refine St.le_trans (le_foldP 512 0 2306 rfl rfl rfl (by decide) (by subst hA; exact idx_lt c54) (by decide) rfl (fun _ _ => rfl)) ?_
            exact le_sparse rfl ⟨AV.le_refl _, AV.le_refl _, AV.le_refl _, AV.le_refl _, AV.le_refl _, AV.le_refl _, AV.le_refl _, AV.le_refl _, AV.le_refl _, trivial⟩ ⟨rfl, rfl, rfl, ⟨fun hw => hw, fun c hc => (by cases hc), .inl rfl, rfl, rfl, fun i hi j hj => rfl⟩, ⟨fun hw => hw, fun c hc => (by cases hc), .inl rfl, rfl, rfl, fun i hi j hj => rfl⟩, ⟨fun hw => hw, fun c hc => (by cases hc), .inr (fun i _ j _ z hz => (noref (rfl) hz).elim), rfl, rfl, (by subst hGD hLEN hA; exact patch_set hl55 (idx_lt (by rw [← c56]; exact c54)) (by intro j hj; match j, hj with | 0, _ => rfl | (j_ + 1), h_ => exact absurd h_ (by omega)))⟩, trivial⟩ rfl
          · clear hy42
            subst hS46
            replace h := of_let h
            obtain ⟨w47, hw47, h⟩ := h
            have hw47 : w47 = y41 := hw47
            subst hw47
            cbv
            injection h with h
            refine hK34 _ h.symm _ ?_
            exact le_sparse rfl ⟨AV.le_refl _, AV.le_refl _, AV.le_refl _, AV.le_refl _, AV.le_refl _, AV.le_refl _, AV.le_refl _, AV.le_refl _, AV.le_refl _, trivial⟩ ⟨rfl, rfl, rfl, ⟨fun hw => hw, fun c hc => (by cases hc), .inl rfl, rfl, rfl, fun i hi j hj => rfl⟩, ⟨fun hw => hw, fun c hc => (by cases hc), .inl rfl, rfl, rfl, fun i hi j hj => rfl⟩, ⟨fun hw => hw, fun c hc => (by cases hc), .inl rfl, rfl, rfl, fun i hi j hj => rfl⟩, trivial⟩ rfl
        · replace h := of_br_f b57 h
          cbv
          injection h with h
          refine hY32 _ h.symm _ _ (And.intro rfl ?_) (by intro hh; cases hh)
          exact le_sparse rfl ⟨AV.le_refl _, AV.le_refl _, AV.le_refl _, AV.le_refl _, AV.le_refl _, trivial⟩ ⟨rfl, rfl, ⟨fun hw => hw, fun c hc => (by cases hc), .inl rfl, rfl, rfl, fun i hi j hj => rfl⟩, ⟨fun hw => hw, fun c hc => (by cases hc), .inl rfl, rfl, rfl, fun i hi j hj => rfl⟩, trivial⟩ rfl
      · clear hr30
        have h := hN31
        clear hN31
        intro e38 s39 q37 hne
        replace h := of_let h
        obtain ⟨y29k0, hyk, h⟩ := h
        have hyk : y29k0 = y29 := hyk
        subst hyk
        obtain ⟨rfl, q37⟩ := q37
        replace h := of_let h
        obtain ⟨w58, hw58, h⟩ := h
        have hw58 : w58 = y29k0 := hw58
        subst hw58
        cbv
        refine ⟨_, q37, ?_⟩
        cbv
        injection h with h
        refine hK12 _ h.symm _ ?_
        exact le_sparse rfl ⟨AV.le_refl _, AV.le_refl _, AV.le_refl _, AV.le_refl _, AV.le_refl _, trivial⟩ ⟨rfl, rfl, ⟨fun hw => hw, fun c hc => (by cases hc), .inl rfl, rfl, rfl, fun i hi j hj => rfl⟩, ⟨fun hw => hw, fun c hc => (by cases hc), .inl rfl, rfl, rfl, fun i hi j hj => rfl⟩, trivial⟩ rfl
    · replace h := of_br_f b59 h
      cbv
      injection h with h
      refine hY10 _ h.symm _ _ (And.intro rfl ?_) (by intro hh; cases hh)
      exact le_sparse rfl ⟨AV.le_refl _, AV.le_refl _, trivial⟩ ⟨rfl, rfl, ⟨fun hw => hw, fun c hc => (by cases hc), .inl rfl, rfl, rfl, fun i hi j hj => rfl⟩, ⟨fun hw => hw, fun c hc => (by cases hc), .inl rfl, rfl, rfl, fun i hi j hj => rfl⟩, trivial⟩ rfl
  · clear hr8
    have h := hN9
    clear hN9
    intro e16 s17 q15 hne
    replace h := of_let h
    obtain ⟨y7k0, hyk, h⟩ := h
    have hyk : y7k0 = y7 := hyk
    subst hyk
    obtain ⟨rfl, q15⟩ := q15
    obtain ⟨y7k0_0, y7k0_1⟩ := y7k0
    replace h := of_let h
    obtain ⟨w60, hw60, h⟩ := h
    have hw60 : w60 = y7k0_0 := hw60
    subst hw60
    replace h := of_let h
    obtain ⟨w61, hw61, h⟩ := h
    have hw61 : w61 = y7k0_1 := hw61
    subst hw61
    cbv
    refine ⟨_, q15, ?_⟩
    cbv
    replace h := of_req h
    obtain ⟨c62, h⟩ := h
    injection h with h
    subst h
    refine ⟨(sparse 45 [(2, .c (.ptr 128 0))] [(128, .var [.os 64000 0 (LEN w60), .os 64002 0 (LEN w61)]), (64000, .arr .rw [] (LEN w60) 5 (row GD (encSpatialEntry) w60)), (64002, .arr .rw [] (LEN w61) 1 (row GD (oncL LEN GD 1 (encI .i64)) w61))]), ?_, ?_⟩
    · refine St.le_trans (le_ren 1216 64000 (by decide) rfl) ?_
      refine St.le_trans (le_ren 512 64002 (by decide) rfl) ?_
      rw [c62]
      exact le_sparse rfl ⟨AV.le_refl _, trivial⟩ ⟨rfl, ⟨fun hw => hw, fun c hc => (by cases hc), .inl rfl, rfl, rfl, fun i hi j hj => rfl⟩, ⟨fun hw => hw, fun c hc => (by cases hc), .inl rfl, rfl, rfl, fun i hi j hj => rfl⟩, trivial⟩ rfl
    · exact ⟨AV.le_refl _, ⟨⟨fun hw => hw, fun c hc => (by cases hc), .inl rfl, rfl, rfl, fun i hi j hj => rfl⟩, ⟨fun hw => hw, fun c hc => (by cases hc), .inl rfl, rfl, rfl, fun i hi j hj => rfl⟩, trivial⟩, rfl⟩

noncomputable def L_slices_Equal_Lint64_int64_x2 (a0 : List Int) (a1 : List Int) : (Int) → Option ((Int) ⊕ ((Unit) ⊕ (Unit))) := fun x2 =>
  letO x2 fun v1 =>
  br (std.lt v1 (std.ofN (len a0)))
  (req (std.inR v1 (len a0)) <|
  req (std.inR v1 (len a1)) <|
  br (std.not (std.eq (gd a0 (std.toN v1)) (gd a1 (std.toN v1))))
  (some (.inr (.inl ())))
  (some (.inl (std.add .i64 v1 1))))
  (some (.inr (.inr ())))
/-- slices.Equal[[]int64,int64] -/
noncomputable def F_slices_Equal_Lint64_int64 (a0 : List Int) (a1 : List Int) : Option (Bool) :=
  br (std.not (std.eq (std.ofN (len a0)) (std.ofN (len a1))))
  (some false)
  ((whileP (σ := Int) (ρ := (Unit) ⊕ (Unit)) (L_slices_Equal_Lint64_int64_x2 a0 a1) 0).bind fun y3 =>
  (match y3 with
    | .inl y3k0 => (
        some false)
    | .inr y3m0 =>
        some true))
theorem run_slices_Equal_Lint64_int64 (a0 : List Int) (a1 : List Int) (r : Bool) (h : F_slices_Equal_Lint64_int64 a0 a1 = some r) : Fun Try.prog 165 [.c (.bs (len a0) 1 (row gd (encI .i64) a0)), .c (.bs (len a1) 1 (row gd (encI .i64) a1))] [] (.c (.v (.bool r))) [] true := by
  refine Fun.of_wp (oneOf []) tok mixed Try.func165 (by kernel_rfl) rfl Try.ntmps165 rfl trivial (fun _ => ⟨trivial, trivial⟩) ?_
  unfold F_slices_Equal_Lint64_int64 at h
  unfold L_slices_Equal_Lint64_int64_x2 at h
  generalize hLEN : @len = LEN at *
  generalize hGD : @gd = GD at *
  generalize hA : std = A at *
  generalize hP : Try.prog = P at *
  cbv
  refine fork (fun b18 => ?_) (fun b18 => ?_)
  · replace h := of_br_t b18 h
    cbv
    injection h with h
    subst h
    refine ⟨(sparse 26 [(4, .c (.v (.bool false)))] []), ?_, ?_⟩
    · exact le_sparse rfl ⟨AV.le_refl _, trivial⟩ trivial rfl
    · exact ⟨AV.le_refl _, trivial, rfl⟩
  · replace h := of_br_f b18 h
    cbv
    replace h := of_bind h
    obtain ⟨y3, hr4, hN5⟩ := h
    refine loop_cut hr4 (fun x => (sparse 26 [(0, .c (.bs (LEN a0) 1 (row GD (encI .i64) a0))), (1, .c (.bs (LEN a1) 1 (row GD (encI .i64) a1))), (12, .c (.v (.int .i64 (A.ofN (LEN a0))))), (13, .c (.v (.int .i64 x)))] [])) ?_ (fun y e s => (match y with | .inl w => e = .ret ∧ s.le (sparse 26 [(4, .c (.v (.bool false)))] []) | .inr w0 => (fun (w : Unit) => e = .exit 0 ∧ s.le (sparse 26 [] [])) w0)) ?_ ?_
    · clear hr4 hN5
      show St.le _ _
      exact le_sparse rfl ⟨AV.le_refl _, AV.le_refl _, AV.le_refl _, AV.le_refl _, trivial⟩ trivial rfl
    · clear hr4 hN5
      intro x z9 h K7 hK8 hY6
      replace h := of_let h
      obtain ⟨v1, hv1, h⟩ := h
      have hv1 : v1 = x := hv1
      subst hv1
      cbv
      refine fork (fun b17 => ?_) (fun b17 => ?_)
      · replace h := of_br_t b17 h
        cbv
        replace h := of_req h
        obtain ⟨c14, h⟩ := h
        refine ⟨⟨c14, trivial⟩, ?_⟩
        replace h := of_req h
        obtain ⟨c15, h⟩ := h
        refine ⟨⟨c15, trivial⟩, ?_⟩
        refine fork (fun b16 => ?_) (fun b16 => ?_)
        · replace h := of_br_t b16 h
          cbv
          injection h with h
          refine hY6 _ h.symm _ _ (And.intro rfl ?_) (by intro hh; cases hh)
          exact le_sparse rfl ⟨AV.le_refl _, trivial⟩ trivial rfl
        · replace h := of_br_f b16 h
          cbv
          injection h with h
          refine hK8 _ h.symm _ ?_
          exact le_sparse rfl ⟨AV.le_refl _, AV.le_refl _, AV.le_refl _, AV.le_refl _, trivial⟩ trivial rfl
      · replace h := of_br_f b17 h
        cbv
        injection h with h
        refine hY6 _ h.symm _ _ (And.intro rfl ?_) (by intro hh; cases hh)
        exact le_sparse rfl trivial trivial rfl
    · clear hr4
      have h := hN5
      clear hN5
      intro e12 s13 q11 hne
      rcases y3 with y3k0 | y3m0
      · replace h := h
        obtain ⟨rfl, q11⟩ := q11
        cbv
        injection h with h
        subst h
        refine ⟨(sparse 26 [(4, .c (.v (.bool false)))] []), ?_, ?_⟩
        · refine St.le_trans q11 ?_
          exact le_sparse rfl ⟨AV.le_refl _, trivial⟩ trivial rfl
        · exact ⟨AV.le_refl _, trivial, rfl⟩
      · obtain ⟨rfl, q11⟩ := q11
        cbv
        refine ⟨_, q11, ?_⟩
        cbv
        injection h with h
        subst h
        refine ⟨(sparse 26 [(4, .c (.v (.bool true)))] []), ?_, ?_⟩
        · exact le_sparse rfl ⟨AV.le_refl _, trivial⟩ trivial rfl
        · exact ⟨AV.le_refl _, trivial, rfl⟩

/-- impl.IsValidIndex$1 -/
noncomputable def F_impl_IsValidIndex_1 (a0 : List Int) (a1 : List Int) : Option (Bool) :=
  (F_slices_Equal_Lint64_int64 a0 a1).bind fun y1 =>
  some y1
theorem run_impl_IsValidIndex_1 (a0 : List Int) (a1 : List Int) (r : Bool) (h : F_impl_IsValidIndex_1 a0 a1 = some r) : Fun Try.prog 164 [.c (.bs (len a0) 1 (row gd (encI .i64) a0)), .c (.bs (len a1) 1 (row gd (encI .i64) a1))] [] (.c (.v (.bool r))) [] true := by
  refine Fun.of_wp (oneOf []) tok mixed Try.func164 (by kernel_rfl) rfl Try.ntmps164 rfl trivial (fun _ => ⟨trivial, trivial⟩) ?_
  unfold F_impl_IsValidIndex_1 at h
  have hf_slices_Equal_Lint64_int64 := @run_slices_Equal_Lint64_int64
  generalize hLEN : @len = LEN at *
  generalize hGD : @gd = GD at *
  generalize hA : std = A at *
  generalize hP : Try.prog = P at *
  cbv
  replace h := of_bind h
  obtain ⟨y1, hy2, h⟩ := h
  refine ⟨{ args := [.c (.bs (LEN a0) 1 (row GD (encI .i64) a0)), .c (.bs (LEN a1) 1 (row GD (encI .i64) a1))], o0 := [], r := .c (.v (.bool y1)), o1 := [], fl := true, σ := [], τ := [] }, hf_slices_Equal_Lint64_int64 _ _ _ hy2, ⟨les_cons (AV.le_refl _) (les_cons (AV.le_refl _) (les_nil)), trivial, rfl, rfl, rfl, rfl, trivial, rfl⟩, ?_⟩
  cbv
  injection h with h
  subst h
  refine ⟨(sparse 8 [(4, .c (.v (.bool y1)))] []), ?_, ?_⟩
  · exact le_sparse rfl ⟨AV.le_refl _, trivial⟩ trivial rfl
  · exact ⟨AV.le_refl _, trivial, rfl⟩

noncomputable def L_slices_EqualFunc_LLint64_LLint64_Lint64_Lint64_mbbFimpl_IsValidIndex_1_x2 (a0 : List (List Int)) (a1 : List (List Int)) : (Int) → Option ((Int) ⊕ ((Unit) ⊕ (Unit))) := fun x2 =>
  letO x2 fun v1 =>
  br (std.lt v1 (std.ofN (len a0)))
  (req (std.inR v1 (len a0)) <|
  req (std.inR v1 (len a1)) <|
  (F_impl_IsValidIndex_1 (gd a0 (std.toN v1)) (gd a1 (std.toN v1))).bind fun y16 =>
  br (!(y16))
  (some (.inr (.inl ())))
  (some (.inl (std.add .i64 v1 1))))
  (some (.inr (.inr ())))
/-- slices.EqualFunc[[][]int64,[][]int64,[]int64,[]int64] -/
noncomputable def F_slices_EqualFunc_LLint64_LLint64_Lint64_Lint64_mbbFimpl_IsValidIndex_1 (a0 : List (List Int)) (a1 : List (List Int)) : Option (Bool) :=
  br (std.not (std.eq (std.ofN (len a0)) (std.ofN (len a1))))
  (some false)
  ((whileP (σ := Int) (ρ := (Unit) ⊕ (Unit)) (L_slices_EqualFunc_LLint64_LLint64_Lint64_Lint64_mbbFimpl_IsValidIndex_1_x2 a0 a1) 0).bind fun y3 =>
  (match y3 with
    | .inl y3k0 => (
        some false)
    | .inr y3m0 =>
        some true))
theorem run_slices_EqualFunc_LLint64_LLint64_Lint64_Lint64_mbbFimpl_IsValidIndex_1 (a0 : List (List Int)) (a1 : List (List Int)) (r : Bool) (h : F_slices_EqualFunc_LLint64_LLint64_Lint64_Lint64_mbbFimpl_IsValidIndex_1 a0 a1 = some r) : Fun Try.prog 163 [.c (.bs (len a0) 1 (row gd (encL len gd 1 (encI .i64)) a0)), .c (.bs (len a1) 1 (row gd (encL len gd 1 (encI .i64)) a1)), .c (.fn 164 0 fun _ => .junk)] [] (.c (.v (.bool r))) [] true := by
  refine Fun.of_wp (oneOf []) tok mixed Try.func163 (by kernel_rfl) rfl Try.ntmps163 rfl trivial (fun _ => ⟨trivial, trivial⟩) ?_
  unfold F_slices_EqualFunc_LLint64_LLint64_Lint64_Lint64_mbbFimpl_IsValidIndex_1 at h
  unfold L_slices_EqualFunc_LLint64_LLint64_Lint64_Lint64_mbbFimpl_IsValidIndex_1_x2 at h
  have hf_impl_IsValidIndex_1 := @run_impl_IsValidIndex_1
  generalize hLEN : @len = LEN at *
  generalize hGD : @gd = GD at *
  generalize hA : std = A at *
  generalize hP : Try.prog = P at *
  cbv
  refine fork (fun b20 => ?_) (fun b20 => ?_)
  · replace h := of_br_t b20 h
    cbv
    injection h with h
    subst h
    refine ⟨(sparse 32 [(6, .c (.v (.bool false)))] []), ?_, ?_⟩
    · exact le_sparse rfl ⟨AV.le_refl _, trivial⟩ trivial rfl
    · exact ⟨AV.le_refl _, trivial, rfl⟩
  · replace h := of_br_f b20 h
    cbv
    replace h := of_bind h
    obtain ⟨y3, hr4, hN5⟩ := h
    refine loop_cut hr4 (fun x => (sparse 32 [(1, .c (.bs (LEN a1) 1 (row GD (encL LEN GD 1 (encI .i64)) a1))), (2, .c (.fn 164 0 fun _ => .junk)), (15, .c (.bs (LEN a0) 1 (row GD (encL LEN GD 1 (encI .i64)) a0))), (16, .c (.v (.int .i64 (A.ofN (LEN a0))))), (17, .c (.v (.int .i64 x)))] [])) ?_ (fun y e s => (match y with | .inl w => e = .ret ∧ s.le (sparse 32 [(6, .c (.v (.bool false)))] []) | .inr w0 => (fun (w : Unit) => e = .exit 0 ∧ s.le (sparse 32 [] [])) w0)) ?_ ?_
    · clear hr4 hN5
      show St.le _ _
      exact le_sparse rfl ⟨AV.le_refl _, AV.le_refl _, AV.le_refl _, AV.le_refl _, AV.le_refl _, trivial⟩ trivial rfl
    · clear hr4 hN5
      intro x z9 h K7 hK8 hY6
      replace h := of_let h
      obtain ⟨v1, hv1, h⟩ := h
      have hv1 : v1 = x := hv1
      subst hv1
      cbv
      refine fork (fun b19 => ?_) (fun b19 => ?_)
      · replace h := of_br_t b19 h
        cbv
        replace h := of_req h
        obtain ⟨c14, h⟩ := h
        refine ⟨⟨c14, trivial⟩, ?_⟩
        replace h := of_req h
        obtain ⟨c15, h⟩ := h
        refine ⟨⟨c15, trivial⟩, ?_⟩
        replace h := of_bind h
        obtain ⟨y16, hy17, h⟩ := h
        refine ⟨{ args := [.c (.bs (LEN (GD a0 (A.toN v1))) 1 (row GD (encI .i64) (GD a0 (A.toN v1)))), .c (.bs (LEN (GD a1 (A.toN v1))) 1 (row GD (encI .i64) (GD a1 (A.toN v1))))], o0 := [], r := .c (.v (.bool y16)), o1 := [], fl := true, σ := [], τ := [] }, hf_impl_IsValidIndex_1 _ _ _ hy17, ⟨les_cons (AV.le_refl _) (les_cons (AV.le_refl _) (les_nil)), trivial, rfl, rfl, rfl, rfl, trivial, rfl⟩, ?_⟩
        cbv
        refine fork (fun b18 => ?_) (fun b18 => ?_)
        · replace h := of_br_t b18 h
          cbv
          injection h with h
          refine hY6 _ h.symm _ _ (And.intro rfl ?_) (by intro hh; cases hh)
          exact le_sparse rfl ⟨AV.le_refl _, trivial⟩ trivial rfl
        · replace h := of_br_f b18 h
          cbv
          injection h with h
          refine hK8 _ h.symm _ ?_
          exact le_sparse rfl ⟨AV.le_refl _, AV.le_refl _, AV.le_refl _, AV.le_refl _, AV.le_refl _, trivial⟩ trivial rfl
      · replace h := of_br_f b19 h
        cbv
        injection h with h
        refine hY6 _ h.symm _ _ (And.intro rfl ?_) (by intro hh; cases hh)
        exact le_sparse rfl trivial trivial rfl
    · clear hr4
      have h := hN5
      clear hN5
      intro e12 s13 q11 hne
      rcases y3 with y3k0 | y3m0
      · replace h := h
        obtain ⟨rfl, q11⟩ := q11
        cbv
        injection h with h
        subst h
        refine ⟨(sparse 32 [(6, .c (.v (.bool false)))] []), ?_, ?_⟩
        · refine St.le_trans q11 ?_
          exact le_sparse rfl ⟨AV.le_refl _, trivial⟩ trivial rfl
        · exact ⟨AV.le_refl _, trivial, rfl⟩
      · obtain ⟨rfl, q11⟩ := q11
        cbv
        refine ⟨_, q11, ?_⟩
        cbv
        injection h with h
        subst h
        refine ⟨(sparse 32 [(6, .c (.v (.bool true)))] []), ?_, ?_⟩
        · exact le_sparse rfl ⟨AV.le_refl _, trivial⟩ trivial rfl
        · exact ⟨AV.le_refl _, trivial, rfl⟩

noncomputable def L_impl_IsValidIndex_x2 (a0 : TSpatialIndex) : (Int) → Option ((Int) ⊕ ((Unit) ⊕ (Unit))) := fun x2 =>
  letO x2 fun v1 =>
  br (std.lt v1 (std.ofN (len a0.fEntries)))
  (req (std.inR v1 (len a0.fEntries)) <|
  ((
        (F_impl_within (gd a0.fEntries (std.toN v1)).fId 1 9999).bind fun y22 =>
        br (!(y22))
        (some true)
        ((F_impl_IsValidRect (gd a0.fEntries (std.toN v1)).fBox).bind fun y24 =>
        br (!(y24))
        (some true)
        (br (std.lt 0 v1)
        (req (std.inR (std.sub .i64 v1 1) (len a0.fEntries)) <|
        some (std.le (gd a0.fEntries (std.toN v1)).fId (gd a0.fEntries (std.toN (std.sub .i64 v1 1))).fId))
        (some false)))
    ) : Option (Bool)).bind fun y15 =>
  letO y15 fun w21 =>
  br w21
  (some (.inr (.inl ())))
  (some (.inl (std.add .i64 v1 1))))
  (some (.inr (.inr ())))
/-- impl.IsValidIndex -/
noncomputable def F_impl_IsValidIndex (a0 : TSpatialIndex) : Option (Bool) :=
  br (std.lt 40 (std.ofN (len a0.fEntries)))
  (some false)
  ((whileP (σ := Int) (ρ := (Unit) ⊕ (Unit)) (L_impl_IsValidIndex_x2 a0) 0).bind fun y3 =>
  (match y3 with
    | .inl y3k0 => (
        some false)
    | .inr y3m0 =>
        (F_impl_indexOf a0.fEntries).bind fun y32 =>
        (F_slices_EqualFunc_LLint64_LLint64_Lint64_Lint64_mbbFimpl_IsValidIndex_1 a0.fBuckets y32.fBuckets).bind fun y34 =>
        some y34))
theorem run_impl_IsValidIndex (a0 : TSpatialIndex) (r : Bool) (h : F_impl_IsValidIndex a0 = some r) : Fun Try.prog 96 [.agg [.bs (len a0.fEntries) 5 (row gd (encSpatialEntry) a0.fEntries), .bs (len a0.fBuckets) 1 (row gd (encL len gd 1 (encI .i64)) a0.fBuckets)]] [] (.c (.v (.bool r))) [] true := by
  refine Fun.of_wp (oneOf [6]) tok mixed Try.func96 (by kernel_rfl) rfl Try.ntmps96 rfl trivial (fun _ => ⟨trivial, trivial⟩) ?_
  unfold F_impl_IsValidIndex at h
  unfold L_impl_IsValidIndex_x2 at h
  have hf_impl_IsValidRect := @run_impl_IsValidRect
  have hf_impl_indexOf := @run_impl_indexOf
  have hf_impl_within := @run_impl_within
  have hf_slices_EqualFunc_LLint64_LLint64_Lint64_Lint64_mbbFimpl_IsValidIndex_1 := @run_slices_EqualFunc_LLint64_LLint64_Lint64_Lint64_mbbFimpl_IsValidIndex_1
  generalize hLEN : @len = LEN at *
  generalize hGD : @gd = GD at *
  generalize hA : std = A at *
  generalize hP : Try.prog = P at *
  cbv
  refine fork (fun b36 => ?_) (fun b36 => ?_)
  · replace h := of_br_t b36 h
    cbv
    injection h with h
    subst h
    refine ⟨(sparse 51 [(2, .c (.v (.bool false)))] []), ?_, ?_⟩
    · exact le_sparse rfl ⟨AV.le_refl _, trivial⟩ trivial rfl
    · exact ⟨AV.le_refl _, trivial, rfl⟩
  · replace h := of_br_f b36 h
    cbv
    replace h := of_bind h
    obtain ⟨y3, hr4, hN5⟩ := h
    refine loop_cut hr4 (fun x => (sparse 51 [(1, .c (.ptr 64 0)), (10, .c (.bs (LEN a0.fEntries) 5 (row GD (encSpatialEntry) a0.fEntries))), (11, .c (.v (.int .i64 (A.ofN (LEN a0.fEntries))))), (12, .c (.v (.int .i64 x)))] [(64, .var [.bs (LEN a0.fEntries) 5 (row GD (encSpatialEntry) a0.fEntries), .bs (LEN a0.fBuckets) 1 (row GD (encL LEN GD 1 (encI .i64)) a0.fBuckets)])])) ?_ (fun y e s => (match y with | .inl w => e = .ret ∧ s.le (sparse 51 [(2, .c (.v (.bool false)))] []) | .inr w0 => (fun (w : Unit) => e = .exit 0 ∧ s.le (sparse 51 [(1, .c (.ptr 64 0))] [(64, .var [.bs (LEN a0.fEntries) 5 (row GD (encSpatialEntry) a0.fEntries), .bs (LEN a0.fBuckets) 1 (row GD (encL LEN GD 1 (encI .i64)) a0.fBuckets)])])) w0)) ?_ ?_
    · clear hr4 hN5
      show St.le _ _
      exact le_sparse rfl ⟨AV.le_refl _, AV.le_refl _, AV.le_refl _, AV.le_refl _, trivial⟩ ⟨rfl, trivial⟩ rfl
    · clear hr4 hN5
      intro x z9 h K7 hK8 hY6
      replace h := of_let h
      obtain ⟨v1, hv1, h⟩ := h
      have hv1 : v1 = x := hv1
      subst hv1
      cbv
      refine fork (fun b31 => ?_) (fun b31 => ?_)
      · replace h := of_br_t b31 h
        cbv
        replace h := of_req h
        obtain ⟨c14, h⟩ := h
        refine ⟨⟨c14, trivial⟩, ?_⟩
        replace h := of_bind h
        obtain ⟨y15, hy16, h⟩ := h
        obtain ⟨S19, hS20⟩ : ∃ S, S = (sparse 51 [(1, .c (.ptr 64 0)), (10, .c (.bs (LEN a0.fEntries) 5 (row GD (encSpatialEntry) a0.fEntries))), (11, .c (.v (.int .i64 (A.ofN (LEN a0.fEntries))))), (12, .c (.v (.int .i64 v1))), (42, .c (.v (.bool y15)))] [(64, .var [.bs (LEN a0.fEntries) 5 (row GD (encSpatialEntry) a0.fEntries), .bs (LEN a0.fBuckets) 1 (row GD (encL LEN GD 1 (encI .i64)) a0.fBuckets)])]) := ⟨_, rfl⟩
        refine ⟨S19, ?_, ?_⟩
        · clear h
          have h := hy16
          clear hy16
          cbv
          replace h := of_bind h
          obtain ⟨y22, hy23, h⟩ := h
          refine ⟨{ args := [.c (.v (.int .i64 (GD a0.fEntries (A.toN v1)).fId)), .c (.v (.int .i64 1)), .c (.v (.int .i64 9999))], o0 := [], r := .c (.v (.bool y22)), o1 := [], fl := true, σ := [], τ := [] }, hf_impl_within _ _ _ _ hy23, ⟨les_cons (AV.le_refl _) (les_cons (AV.le_refl _) (les_cons (AV.le_refl _) (les_nil))), trivial, rfl, rfl, rfl, rfl, trivial, rfl⟩, ?_⟩
          cbv
          refine fork (fun b29 => ?_) (fun b29 => ?_)
          · replace h := of_br_t b29 h
            cbv
            injection h with h
            subst h
            subst hS20
            show St.le _ _
            exact le_sparse rfl ⟨AV.le_refl _, AV.le_refl _, AV.le_refl _, AV.le_refl _, AV.le_refl _, trivial⟩ ⟨rfl, trivial⟩ rfl
          · replace h := of_br_f b29 h
            cbv
            replace h := of_bind h
            obtain ⟨y24, hy25, h⟩ := h
            refine ⟨{ args := [.agg [.v (.int .i64 (GD a0.fEntries (A.toN v1)).fBox.fX0), .v (.int .i64 (GD a0.fEntries (A.toN v1)).fBox.fY0), .v (.int .i64 (GD a0.fEntries (A.toN v1)).fBox.fX1), .v (.int .i64 (GD a0.fEntries (A.toN v1)).fBox.fY1)]], o0 := [], r := .c (.v (.bool y24)), o1 := [], fl := true, σ := [], τ := [] }, hf_impl_IsValidRect _ _ hy25, ⟨les_cons (AV.le_refl _) (les_nil), trivial, rfl, rfl, rfl, rfl, trivial, rfl⟩, ?_⟩
            cbv
            refine fork (fun b28 => ?_) (fun b28 => ?_)
            · replace h := of_br_t b28 h
              cbv
              injection h with h
              subst h
              subst hS20
              show St.le _ _
              exact le_sparse rfl ⟨AV.le_refl _, AV.le_refl _, AV.le_refl _, AV.le_refl _, AV.le_refl _, trivial⟩ ⟨rfl, trivial⟩ rfl
            · replace h := of_br_f b28 h
              cbv
              refine fork (fun b27 => ?_) (fun b27 => ?_)
              · replace h := of_br_t b27 h
                cbv
                replace h := of_req h
                obtain ⟨c26, h⟩ := h
                refine ⟨⟨c26, trivial⟩, ?_⟩
                injection h with h
                subst h
                subst hS20
                show St.le _ _
                exact le_sparse rfl ⟨AV.le_refl _, AV.le_refl _, AV.le_refl _, AV.le_refl _, AV.le_refl _, trivial⟩ ⟨rfl, trivial⟩ rfl
              · replace h := of_br_f b27 h
                cbv
                injection h with h
                subst h
                subst hS20
                show St.le _ _
                exact le_sparse rfl ⟨AV.le_refl _, AV.le_refl _, AV.le_refl _, AV.le_refl _, AV.le_refl _, trivial⟩ ⟨rfl, trivial⟩ rfl
        · clear hy16
          subst hS20
          replace h := of_let h
          obtain ⟨w21, hw21, h⟩ := h
          have hw21 : w21 = y15 := hw21
          subst hw21
          cbv
          refine fork (fun b30 => ?_) (fun b30 => ?_)
          · replace h := of_br_t b30 h
            cbv
            injection h with h
            refine hY6 _ h.symm _ _ (And.intro rfl ?_) (by intro hh; cases hh)
            exact le_sparse rfl ⟨AV.le_refl _, trivial⟩ trivial rfl
          · replace h := of_br_f b30 h
            cbv
            injection h with h
            refine hK8 _ h.symm _ ?_
            exact le_sparse rfl ⟨AV.le_refl _, AV.le_refl _, AV.le_refl _, AV.le_refl _, trivial⟩ ⟨rfl, trivial⟩ rfl
      · replace h := of_br_f b31 h
        cbv
        injection h with h
        refine hY6 _ h.symm _ _ (And.intro rfl ?_) (by intro hh; cases hh)
        exact le_sparse rfl ⟨AV.le_refl _, trivial⟩ ⟨rfl, trivial⟩ rfl
    · clear hr4
      have h := hN5
      clear hN5
      intro e12 s13 q11 hne
      rcases y3 with y3k0 | y3m0
      · replace h := h
        obtain ⟨rfl, q11⟩ := q11
        cbv
        injection h with h
        subst h
        refine ⟨(sparse 51 [(2, .c (.v (.bool false)))] []), ?_, ?_⟩
        · refine St.le_trans q11 ?_
          exact le_sparse rfl ⟨AV.le_refl _, trivial⟩ trivial rfl
        · exact ⟨AV.le_refl _, trivial, rfl⟩
      · obtain ⟨rfl, q11⟩ := q11
        cbv
        refine ⟨_, q11, ?_⟩
        cbv
        replace h := of_bind h
        obtain ⟨y32, hy33, h⟩ := h
        refine ⟨{ args := [.c (.bs (LEN a0.fEntries) 5 (row GD (encSpatialEntry) a0.fEntries))], o0 := [], r := .agg [.os 64000 0 (LEN y32.fEntries), .os 64002 0 (LEN y32.fBuckets)], o1 := [(64000, .arr .rw [] (LEN y32.fEntries) 5 (row GD (encSpatialEntry) y32.fEntries)), (64002, .arr .rw [] (LEN y32.fBuckets) 1 (row GD (oncL LEN GD 1 (encI .i64)) y32.fBuckets))], fl := true, σ := [], τ := [(64000, 3072), (64002, 3074)] }, hf_impl_indexOf _ _ hy33, ⟨les_cons (AV.le_refl _) (les_nil), trivial, rfl, rfl, rfl, rfl, ⟨fun h => absurd (show (64000 : Nat) % 2 = 1 from h) (by decide), fun h => absurd (show (64002 : Nat) % 2 = 1 from h) (by decide), trivial⟩, rfl⟩, _, rfl, _, _, rfl, fun _ _ _ _ => rfl, _, _, rfl, fun _ _ _ _ => rfl, ?_⟩
        cbv
        replace h := of_bind h
        obtain ⟨y34, hy35, h⟩ := h
        refine ⟨{ args := [.c (.bs (LEN a0.fBuckets) 1 (row GD (encL LEN GD 1 (encI .i64)) a0.fBuckets)), .c (.bs (LEN y32.fBuckets) 1 (row GD (encL LEN GD 1 (encI .i64)) y32.fBuckets)), .c (.fn 164 0 fun _ => .junk)], o0 := [], r := .c (.v (.bool y34)), o1 := [], fl := true, σ := [], τ := [] }, hf_slices_EqualFunc_LLint64_LLint64_Lint64_Lint64_mbbFimpl_IsValidIndex_1 _ _ _ hy35, ⟨les_cons (AV.le_refl _) (les_cons (give_osD (fun _ _ => rfl) (fun _ _ => rfl) rfl rfl rfl) (les_cons (AV.le_refl _) (les_nil))), trivial, rfl, rfl, rfl, rfl, trivial, rfl⟩, ?_⟩
        cbv
        injection h with h
        subst h
        refine ⟨(sparse 51 [(2, .c (.v (.bool y34)))] []), ?_, ?_⟩
        · exact le_sparse rfl ⟨AV.le_refl _, trivial⟩ trivial rfl
        · exact ⟨AV.le_refl _, trivial, rfl⟩

/-- impl.entryPlace$1 -/
noncomputable def F_impl_entryPlace_1 (a0 : TSpatialEntry) (a1 : Int) : Option (Int) :=
  some (std.sub .i64 a0.fId a1)
theorem run_impl_entryPlace_1 (a0 : TSpatialEntry) (a1 : Int) (r : Int) (h : F_impl_entryPlace_1 a0 a1 = some r) : Fun Try.prog 171 [.agg [.v (.int .i64 a0.fId), .v (.int .i64 a0.fBox.fX0), .v (.int .i64 a0.fBox.fY0), .v (.int .i64 a0.fBox.fX1), .v (.int .i64 a0.fBox.fY1)], .c (.v (.int .i64 a1))] [] (.c (.v (.int .i64 r))) [] true := by
  refine Fun.of_wp (oneOf []) tok mixed Try.func171 (by kernel_rfl) rfl Try.ntmps171 rfl trivial (fun _ => ⟨trivial, trivial⟩) ?_
  unfold F_impl_entryPlace_1 at h
  generalize hLEN : @len = LEN at *
  generalize hGD : @gd = GD at *
  generalize hA : std = A at *
  generalize hP : Try.prog = P at *
  cbv
  injection h with h
  subst h
  refine ⟨(sparse 9 [(4, .c (.v (.int .i64 (A.sub .i64 a0.fId a1))))] []), ?_, ?_⟩
  · exact le_sparse rfl ⟨AV.le_refl _, trivial⟩ trivial rfl
  · exact ⟨AV.le_refl _, trivial, rfl⟩
noncomputable def L_slices_BinarySearchFunc_Limpl_SpatialEntry_impl_SpatialEntry_int64_mbbFimpl_entryPlace_1_x3 (a0 : List TSpatialEntry) (a1 : Int) : (Int × Int) → Option ((Int × Int) ⊕ ((Int))) := fun x3 =>
  letO x3.1 fun v1 =>
  letO x3.2 fun v2 =>
  br (std.lt v1 v2)
  (req (std.nneg 1) <|
  req (std.inR (std.conv .i64 (std.shr .u64 (std.conv .u64 (std.add .i64 v1 v2)) 1)) (len a0)) <|
  (F_impl_entryPlace_1 (gd a0 (std.toN (std.conv .i64 (std.shr .u64 (std.conv .u64 (std.add .i64 v1 v2)) 1)))) a1).bind fun y17 =>
  ((
        br (std.lt y17 0)
        (some (std.add .i64 (std.conv .i64 (std.shr .u64 (std.conv .u64 (std.add .i64 v1 v2)) 1)) 1, v2))
        (some (v1, std.conv .i64 (std.shr .u64 (std.conv .u64 (std.add .i64 v1 v2)) 1)))
    ) : Option (Int × Int)).bind fun y19 =>
  letO y19.1 fun w25 =>
  letO y19.2 fun w26 =>
  some (.inl (w25, w26)))
  (some (.inr v1))
/-- impl.SpatialEntry,int64] -/
noncomputable def F_slices_BinarySearchFunc_Limpl_SpatialEntry_impl_SpatialEntry_int64_mbbFimpl_entryPlace_1 (a0 : List TSpatialEntry) (a1 : Int) : Option (Int × Bool) :=
  (whileP (σ := Int × Int) (ρ := (Int)) (L_slices_BinarySearchFunc_Limpl_SpatialEntry_impl_SpatialEntry_int64_mbbFimpl_entryPlace_1_x3 a0 a1) (0, std.ofN (len a0))).bind fun y4 =>
  letO y4 fun y4k0 =>
  letO y4k0 fun w29 =>
  ((
        br (std.lt w29 (std.ofN (len a0)))
        (req (std.inR w29 (len a0)) <|
        (F_impl_entryPlace_1 (gd a0 (std.toN w29)) a1).bind fun y39 =>
        some (w29, std.eq y39 0))
        (some (w29, false))
    ) : Option (Int × Bool)).bind fun y30 =>
  letO y30.1 fun w36 =>
  letO y30.2 fun w37 =>
  some (w36, w37)
theorem run_slices_BinarySearchFunc_Limpl_SpatialEntry_impl_SpatialEntry_int64_mbbFimpl_entryPlace_1 (a0 : List TSpatialEntry) (a1 : Int) (r : Int × Bool) (h : F_slices_BinarySearchFunc_Limpl_SpatialEntry_impl_SpatialEntry_int64_mbbFimpl_entryPlace_1 a0 a1 = some r) : Fun Try.prog 170 [.c (.bs (len a0) 5 (row gd (encSpatialEntry) a0)), .c (.v (.int .i64 a1)), .c (.fn 171 0 fun _ => .junk)] [] (.tup [.c (.v (.int .i64 r.1)), .c (.v (.bool r.2))]) [] true := by
  refine Fun.of_wp (oneOf [8, 100031]) tok mixed Try.func170 (by kernel_rfl) rfl Try.ntmps170 rfl trivial (fun _ => ⟨(by simp [AV.flat, AV.flat1, AC.flat]), trivial⟩) ?_
  unfold F_slices_BinarySearchFunc_Limpl_SpatialEntry_impl_SpatialEntry_int64_mbbFimpl_entryPlace_1 at h
  unfold L_slices_BinarySearchFunc_Limpl_SpatialEntry_impl_SpatialEntry_int64_mbbFimpl_entryPlace_1_x3 at h
  have hf_impl_entryPlace_1 := @run_impl_entryPlace_1
  generalize hLEN : @len = LEN at *
  generalize hGD : @gd = GD at *
  generalize hA : std = A at *
  generalize hP : Try.prog = P at *
  cbv
  replace h := of_bind h
  obtain ⟨y4, hr5, hN6⟩ := h
  refine loop_cut hr5 (fun x => (sparse 49 [(0, .c (.bs (LEN a0) 5 (row GD (encSpatialEntry) a0))), (1, .c (.v (.int .i64 a1))), (2, .c (.fn 171 0 fun _ => .junk)), (8, .c (.v (.int .i64 (A.ofN (LEN a0))))), (9, .c (.v (.int .i64 x.1))), (10, .c (.v (.int .i64 x.2)))] [])) ?_ (fun y e s => (fun (w : Int) => e = .exit 0 ∧ s.le (sparse 49 [(0, .c (.bs (LEN a0) 5 (row GD (encSpatialEntry) a0))), (1, .c (.v (.int .i64 a1))), (2, .c (.fn 171 0 fun _ => .junk)), (8, .c (.v (.int .i64 (A.ofN (LEN a0))))), (9, .c (.v (.int .i64 w)))] [])) y) ?_ ?_
  · clear hr5 hN6
    show St.le _ _
    exact le_sparse rfl ⟨AV.le_refl _, AV.le_refl _, AV.le_refl _, AV.le_refl _, AV.le_refl _, AV.le_refl _, trivial⟩ trivial rfl
  · clear hr5 hN6
    intro x z10 h K8 hK9 hY7
    obtain ⟨x0_, x1_⟩ := x
    replace h := of_let h
    obtain ⟨v1, hv1, h⟩ := h
    have hv1 : v1 = x0_ := hv1
    subst hv1
    replace h := of_let h
    obtain ⟨v2, hv2, h⟩ := h
    have hv2 : v2 = x1_ := hv2
    subst hv2
    cbv
    refine fork (fun b28 => ?_) (fun b28 => ?_)
    · replace h := of_br_t b28 h
      cbv
      replace h := of_req h
      obtain ⟨c15, h⟩ := h
      refine ⟨c15, ?_⟩
      replace h := of_req h
      obtain ⟨c16, h⟩ := h
      refine ⟨⟨c16, trivial⟩, ?_⟩
      replace h := of_bind h
      obtain ⟨y17, hy18, h⟩ := h
      refine ⟨{ args := [.agg [.v (.int .i64 (GD a0 (A.toN (A.conv .i64 (A.shr .u64 (A.conv .u64 (A.add .i64 v1 v2)) 1)))).fId), .v (.int .i64 (GD a0 (A.toN (A.conv .i64 (A.shr .u64 (A.conv .u64 (A.add .i64 v1 v2)) 1)))).fBox.fX0), .v (.int .i64 (GD a0 (A.toN (A.conv .i64 (A.shr .u64 (A.conv .u64 (A.add .i64 v1 v2)) 1)))).fBox.fY0), .v (.int .i64 (GD a0 (A.toN (A.conv .i64 (A.shr .u64 (A.conv .u64 (A.add .i64 v1 v2)) 1)))).fBox.fX1), .v (.int .i64 (GD a0 (A.toN (A.conv .i64 (A.shr .u64 (A.conv .u64 (A.add .i64 v1 v2)) 1)))).fBox.fY1)], .c (.v (.int .i64 a1))], o0 := [], r := .c (.v (.int .i64 y17)), o1 := [], fl := true, σ := [], τ := [] }, hf_impl_entryPlace_1 _ _ _ hy18, ⟨les_cons (AV.le_refl _) (les_cons (AV.le_refl _) (les_nil)), trivial, rfl, rfl, rfl, rfl, trivial, rfl⟩, ?_⟩
      cbv
      replace h := of_bind h
      obtain ⟨y19, hy20, h⟩ := h
      obtain ⟨S23, hS24⟩ : ∃ S, S = some (sparse 49 [(0, .c (.bs (LEN a0) 5 (row GD (encSpatialEntry) a0))), (1, .c (.v (.int .i64 a1))), (2, .c (.fn 171 0 fun _ => .junk)), (8, .c (.v (.int .i64 (A.ofN (LEN a0))))), (9, .c (.v (.int .i64 y19.1))), (10, .c (.v (.int .i64 y19.2)))] []) := ⟨_, rfl⟩
      refine ⟨S23, ?_, ?_⟩
      · clear h
        have h := hy20
        clear hy20
        cbv
        refine fork (fun b27 => ?_) (fun b27 => ?_)
        · replace h := of_br_t b27 h
          cbv
          injection h with h
          subst h
          subst hS24
          show St.le _ _
          exact le_sparse rfl ⟨AV.le_refl _, AV.le_refl _, AV.le_refl _, AV.le_refl _, AV.le_refl _, AV.le_refl _, trivial⟩ trivial rfl
        · replace h := of_br_f b27 h
          cbv
          injection h with h
          subst h
          subst hS24
          show St.le _ _
          exact le_sparse rfl ⟨AV.le_refl _, AV.le_refl _, AV.le_refl _, AV.le_refl _, AV.le_refl _, AV.le_refl _, trivial⟩ trivial rfl
      · clear hy20
        subst hS24
        obtain ⟨y19_0, y19_1⟩ := y19
        replace h := of_let h
        obtain ⟨w25, hw25, h⟩ := h
        have hw25 : w25 = y19_0 := hw25
        subst hw25
        replace h := of_let h
        obtain ⟨w26, hw26, h⟩ := h
        have hw26 : w26 = y19_1 := hw26
        subst hw26
        cbv
        injection h with h
        refine hK9 _ h.symm _ ?_
        exact le_sparse rfl ⟨AV.le_refl _, AV.le_refl _, AV.le_refl _, AV.le_refl _, AV.le_refl _, AV.le_refl _, trivial⟩ trivial rfl
    · replace h := of_br_f b28 h
      cbv
      injection h with h
      refine hY7 _ h.symm _ _ (And.intro rfl ?_) (by intro hh; cases hh)
      exact le_sparse rfl ⟨AV.le_refl _, AV.le_refl _, AV.le_refl _, AV.le_refl _, AV.le_refl _, trivial⟩ trivial rfl
  · clear hr5
    have h := hN6
    clear hN6
    intro e13 s14 q12 hne
    replace h := of_let h
    obtain ⟨y4k0, hyk, h⟩ := h
    have hyk : y4k0 = y4 := hyk
    subst hyk
    obtain ⟨rfl, q12⟩ := q12
    replace h := of_let h
    obtain ⟨w29, hw29, h⟩ := h
    have hw29 : w29 = y4k0 := hw29
    subst hw29
    cbv
    refine ⟨_, q12, ?_⟩
    cbv
    replace h := of_bind h
    obtain ⟨y30, hy31, h⟩ := h
    obtain ⟨S34, hS35⟩ : ∃ S, S = (sparse 49 [(6, .c (.v (.int .i64 y30.1))), (7, .c (.v (.bool y30.2)))] []) := ⟨_, rfl⟩
    refine ⟨S34, ?_, ?_⟩
    · clear h
      have h := hy31
      clear hy31
      cbv
      refine fork (fun b41 => ?_) (fun b41 => ?_)
      · replace h := of_br_t b41 h
        cbv
        replace h := of_req h
        obtain ⟨c38, h⟩ := h
        refine ⟨⟨c38, trivial⟩, ?_⟩
        replace h := of_bind h
        obtain ⟨y39, hy40, h⟩ := h
        refine ⟨{ args := [.agg [.v (.int .i64 (GD a0 (A.toN w29)).fId), .v (.int .i64 (GD a0 (A.toN w29)).fBox.fX0), .v (.int .i64 (GD a0 (A.toN w29)).fBox.fY0), .v (.int .i64 (GD a0 (A.toN w29)).fBox.fX1), .v (.int .i64 (GD a0 (A.toN w29)).fBox.fY1)], .c (.v (.int .i64 a1))], o0 := [], r := .c (.v (.int .i64 y39)), o1 := [], fl := true, σ := [], τ := [] }, hf_impl_entryPlace_1 _ _ _ hy40, ⟨les_cons (AV.le_refl _) (les_cons (AV.le_refl _) (les_nil)), trivial, rfl, rfl, rfl, rfl, trivial, rfl⟩, ?_⟩
        cbv
        injection h with h
        subst h
        subst hS35
        show St.le _ _
        exact le_sparse rfl ⟨AV.le_refl _, AV.le_refl _, trivial⟩ trivial rfl
      · replace h := of_br_f b41 h
        cbv
        injection h with h
        subst h
        subst hS35
        show St.le _ _
        exact le_sparse rfl ⟨AV.le_refl _, AV.le_refl _, trivial⟩ trivial rfl
    · clear hy31
      subst hS35
      obtain ⟨y30_0, y30_1⟩ := y30
      replace h := of_let h
      obtain ⟨w36, hw36, h⟩ := h
      have hw36 : w36 = y30_0 := hw36
      subst hw36
      replace h := of_let h
      obtain ⟨w37, hw37, h⟩ := h
      have hw37 : w37 = y30_1 := hw37
      subst hw37
      cbv
      injection h with h
      subst h
      refine ⟨(sparse 49 [(6, .c (.v (.int .i64 w36))), (7, .c (.v (.bool w37)))] []), ?_, ?_⟩
      · exact le_sparse rfl ⟨AV.le_refl _, AV.le_refl _, trivial⟩ trivial rfl
      · exact ⟨AV.le_refl _, trivial, rfl⟩

/-- impl.entryPlace -/
noncomputable def F_impl_entryPlace (a0 : TSpatialIndex) (a1 : Int) : Option (Int × Bool) :=
  (F_slices_BinarySearchFunc_Limpl_SpatialEntry_impl_SpatialEntry_int64_mbbFimpl_entryPlace_1 a0.fEntries a1).bind fun y1 =>
  some (y1.1, y1.2)
theorem run_impl_entryPlace (a0 : TSpatialIndex) (a1 : Int) (r : Int × Bool) (h : F_impl_entryPlace a0 a1 = some r) : Fun Try.prog 111 [.agg [.bs (len a0.fEntries) 5 (row gd (encSpatialEntry) a0.fEntries), .bs (len a0.fBuckets) 1 (row gd (encL len gd 1 (encI .i64)) a0.fBuckets)], .c (.v (.int .i64 a1))] [] (.tup [.c (.v (.int .i64 r.1)), .c (.v (.bool r.2))]) [] true := by
  refine Fun.of_wp (oneOf []) tok mixed Try.func111 (by kernel_rfl) rfl Try.ntmps111 rfl trivial (fun _ => ⟨(by simp [AV.flat, AV.flat1, AC.flat]), trivial⟩) ?_
  unfold F_impl_entryPlace at h
  have hf_slices_BinarySearchFunc_Limpl_SpatialEntry_impl_SpatialEntry_int64_mbbFimpl_entryPlace_1 := @run_slices_BinarySearchFunc_Limpl_SpatialEntry_impl_SpatialEntry_int64_mbbFimpl_entryPlace_1
  generalize hLEN : @len = LEN at *
  generalize hGD : @gd = GD at *
  generalize hA : std = A at *
  generalize hP : Try.prog = P at *
  cbv
  replace h := of_bind h
  obtain ⟨y1, hy2, h⟩ := h
  refine ⟨{ args := [.c (.bs (LEN a0.fEntries) 5 (row GD (encSpatialEntry) a0.fEntries)), .c (.v (.int .i64 a1)), .c (.fn 171 0 fun _ => .junk)], o0 := [], r := .tup [.c (.v (.int .i64 y1.1)), .c (.v (.bool y1.2))], o1 := [], fl := true, σ := [], τ := [] }, hf_slices_BinarySearchFunc_Limpl_SpatialEntry_impl_SpatialEntry_int64_mbbFimpl_entryPlace_1 _ _ _ hy2, ⟨les_cons (AV.le_refl _) (les_cons (AV.le_refl _) (les_cons (AV.le_refl _) (les_nil))), trivial, rfl, rfl, rfl, rfl, trivial, rfl⟩, ?_⟩
  cbv
  injection h with h
  subst h
  refine ⟨(sparse 12 [(4, .c (.v (.int .i64 y1.1))), (5, .c (.v (.bool y1.2)))] []), ?_, ?_⟩
  · exact le_sparse rfl ⟨AV.le_refl _, AV.le_refl _, trivial⟩ trivial rfl
  · exact ⟨AV.le_refl _, trivial, rfl⟩

/-- impl.SpatialEntry] -/
noncomputable def F_slices_Clone_Limpl_SpatialEntry_impl_SpatialEntry (a0 : List TSpatialEntry) : Option (List TSpatialEntry) :=
  nilB (len a0)
  (some ([] : List TSpatialEntry))
  (letO ([] : List TSpatialEntry) fun l1 =>
  req (std.room (std.nadd (len l1) (len a0)) 40) <|
  letO (l1 ++ a0) fun l3 =>
  some l3)
theorem run_slices_Clone_Limpl_SpatialEntry_impl_SpatialEntry (a0 : List TSpatialEntry) (r : List TSpatialEntry) (h : F_slices_Clone_Limpl_SpatialEntry_impl_SpatialEntry a0 = some r) : Fun Try.prog 100 [.c (.bs (len a0) 5 (row gd (encSpatialEntry) a0))] [] (.c (.os 64000 0 (len r))) [(64000, .arr .rw [] (len r) 5 (row gd (encSpatialEntry) r))] true := by
  refine Fun.of_wp (oneOf []) tok mixed Try.func100 (by kernel_rfl) rfl Try.ntmps100 rfl trivial (fun _ => ⟨trivial, ⟨fun i _ j _ => val_flat (vl_encSpatialEntry _ _), trivial⟩⟩) ?_
  unfold F_slices_Clone_Limpl_SpatialEntry_impl_SpatialEntry at h
  generalize hLEN : @len = LEN at *
  generalize hGD : @gd = GD at *
  generalize hA : std = A at *
  generalize hP : Try.prog = P at *
  cbv
  replace h := of_nilB h
  obtain ⟨h, hz7⟩ := h
  refine And.intro (fun hn6 => ?_) ?_
  · have h := hz7 hn6
    clear hz7
    cbv
    injection h with h
    subst h
    refine ⟨(sparse 8 [(2, .c (.os 64000 0 (LEN ([] : List TSpatialEntry))))] [(64000, .arr .rw [] (LEN ([] : List TSpatialEntry)) 5 (row GD (encSpatialEntry) ([] : List TSpatialEntry)))]), ?_, ?_⟩
    · refine St.le_trans (le_nilT 2 64000 5 (row GD (encSpatialEntry) ([] : List TSpatialEntry)) (by decide) rfl) ?_
      subst hLEN
      exact le_sparse rfl ⟨AV.le_refl _, trivial⟩ ⟨⟨fun hw => hw, fun c hc => (by cases hc), .inl rfl, rfl, rfl, fun i hi j hj => rfl⟩, trivial⟩ rfl
    · subst hLEN
      exact ⟨AV.le_refl _, ⟨⟨fun hw => hw, fun c hc => (by cases hc), .inl rfl, rfl, rfl, fun i hi j hj => rfl⟩, trivial⟩, rfl⟩
  · clear hz7
    cbv
    replace h := of_let h
    obtain ⟨l1, hl1, h⟩ := h
    have e2 : 0 = LEN l1 := by subst hl1 hLEN; rfl
    refine ⟨_, congrArg (fun n => AV.c (AC.os 320 0 n)) e2, _, row GD (encSpatialEntry) l1, e2, ?_, ?_⟩
    · intro i hi j hj
      rw [← e2] at hi
      subst hl1
      subst hGD
      omega
    cbv
    replace h := of_req h
    obtain ⟨c5, h⟩ := h
    replace h := of_let h
    obtain ⟨l3, hl3, h⟩ := h
    have e4 : A.nadd (LEN l1) (LEN a0) = LEN l3 := by subst hl3 hLEN hA; simp [std, len]
    refine ⟨c5, _, congrArg (fun n => AV.c (AC.os 320 0 n)) e4, _, row GD (encSpatialEntry) l3, e4, ?_, ?_⟩
    · subst hGD hLEN hA
      exact app_bs (pl_encSpatialEntry) hl3 (Nat.le_refl _)
    cbv
    injection h with h
    subst h
    refine ⟨(sparse 8 [(2, .c (.os 64000 0 (LEN l3)))] [(64000, .arr .rw [] (LEN l3) 5 (row GD (encSpatialEntry) l3))]), ?_, ?_⟩
    · refine St.le_trans (le_ren 320 64000 (by decide) rfl) ?_
      exact le_sparse rfl ⟨AV.le_refl _, trivial⟩ ⟨⟨fun hw => hw, fun c hc => (by cases hc), .inl rfl, rfl, rfl, fun i hi j hj => rfl⟩, trivial⟩ rfl
    · exact ⟨AV.le_refl _, ⟨⟨fun hw => hw, fun c hc => (by cases hc), .inl rfl, rfl, rfl, fun i hi j hj => rfl⟩, trivial⟩, rfl⟩

section
open Go.RowKit Go.Lib
set_option maxHeartbeats 4000000 in
set_option maxRecDepth 1000000 in
theorem ins_shift_slices_Insert_Limpl_SpatialEntry_impl_SpatialEntry_mobo (b off n c i vb voff m vc : Nat) (cs vs : List Value) (w : World) (hi : i < n) (hm : 0 < m) (hroom : n + m ≤ c) (hc63 : n + m ≤ 9223372036854775807) (hvb : vb ≠ b)
    (hcl : cs.length = n * 5) (hvl : vs.length = m * 5)
    (hcs : ∀ j v, cs[j]? = some v → w.cell? ⟨b, off + j, none⟩ = some v) (hsp : ∀ j, j < (n + m) * 5 → (w.cell? ⟨b, off + j, none⟩).isSome = true) (hfz : ∀ j, j < (n + m) * 5 → w.frozen? ⟨b, off + j, none⟩ = false)
    (hvs : ∀ j v, vs[j]? = some v → w.cell? ⟨vb, voff + j, none⟩ = some v) (h1c : ∀ v ∈ cs, v.oneCell' = true) (h1v : ∀ v ∈ vs, v.oneCell' = true)
    (tA tB : TypeId) (kA kB : Nat) (hsa : w.shape? vb = some (tA, kA)) (hsb : w.shape? b = some (tB, kB)) (hkB : kB ≠ 0) (hfa : w.frozen? ⟨vb, voff, none⟩ = false) (hfe : w.frozen? ⟨vb, kA, none⟩ = false) :
    Calls Try.prog 112 #[.slice (some ⟨b, off, none⟩) n c, .int .i64 i, .slice (some ⟨vb, voff, none⟩) m vc] w fun e w' =>
      e = .returned (.slice (some ⟨b, off, none⟩) (n + m) c) ∧ w' = (w.drew.setCells b (off + (i + m) * 5) (cs.drop (i * 5))).setCells b (off + i * 5) vs := by
  have tSl : Try.prog.underlying 75 = some (.slice 148) := by kernel_rfl
  have hz1 : ¬ ((m : Int) = 0) := by omega
  have hz2 : ¬ ((i : Int) = (n : Int)) := by omega
  have hsz : (Try.prog.info? 148).map (·.size) = some 5 := by kernel_rfl
  have hov : ∀ lb cb, (callFunc 172 #[.slice (some ⟨vb, voff, none⟩) m vc, .slice (some ⟨b, off + (i + m) * 5, none⟩) lb cb]).run Try.prog w = .ok (.value (.bool false)) w := fun lb cb => by
    rw [run_callFunc_extern Try.func172 (by kernel_rfl) (by kernel_rfl) (by kernel_rfl) (e := Extern.SlicesOverlaps.overlaps #[75, 75] #[4]) (by kernel_rfl),
      Lib.run_overlaps_apart w 75 4 148 tSl 5 (fun w => run_sizeOf tok (show T 148 = some d148 from rfl)) ⟨vb, voff, none⟩ ⟨b, off + (i + m) * 5, none⟩ m vc lb cb hvb tA tB kA kB hsa hsb hkB hfa hfe]
    rfl
  have hdl : (cs.drop (i * 5)).length = (n - i) * 5 := by rw [List.length_drop, hcl, Nat.sub_mul]
  have mixed : Try.prog.follows .mixedOrders = true := by kernel_rfl
  have hw1 : IntKind.i64.wrap ((i : Int) + (m : Int)) = (i : Int) + (m : Int) := by rw [IntKind.wrap_i64]; omega
  have hb1 : (0 : Int) ≤ (i : Int) + (m : Int) := by omega
  have hin : i ≤ n := by omega
  have htn : ((i : Int) + (m : Int)).toNat = i + m := by omega
  have hb2 : ¬ (c = i + m) := by omega
  have hb3 : (i : Int) ≤ (n : Int) + (m : Int) := by omega
  have hb4 : ¬ (c = i) := by omega
  have hcp1 : ∀ ty dc sc, (Builtin.copy_ #[75, 75] ty #[.slice (some ⟨b, off + (i + m) * 5, none⟩) (n + m - (i + m)) dc, .slice (some ⟨b, off + i * 5, none⟩) (n + m - i) sc]).run Try.prog w.drew = .ok (goInt (Nat.min (n + m - i) (n + m - (i + m)))) (w.drew.setCells b (off + (i + m) * 5) (cs.drop (i * 5))) := fun ty dc sc =>
    run_copy_cellsN 5 w.drew _ _ ty 148 b (off + (i + m) * 5) (n + m - (i + m)) dc ⟨b, off + i * 5, none⟩ (n + m - i) sc (cs.drop (i * 5)) tSl hsz (by rw [hdl, show Nat.min (n + m - i) (n + m - (i + m)) = n - i by simp only [Nat.min_def]; split <;> omega])
      (fun j v hj => by rw [Addr.add_lit, Nat.add_assoc]; exact hcs (i * 5 + j) v (by rwa [List.getElem?_drop] at hj))
      (fun j hj => by rw [Nat.add_assoc]; exact hsp _ (by omega)) (fun j hj => by rw [Nat.add_assoc]; exact hfz _ (by omega)) (fun v hv => h1c v (List.mem_of_mem_drop hv))
  obtain ⟨W1, hW1⟩ : ∃ W1, W1 = w.drew.setCells b (off + (i + m) * 5) (cs.drop (i * 5)) := ⟨_, rfl⟩
  have hsp1 : ∀ k, k < (n + m) * 5 → (W1.cell? ⟨b, off + k, none⟩).isSome = true := fun k hk => by
    rw [hW1]
    exact isSome_setCells b _ _ _ (fun j hj => by rw [Nat.add_assoc]; exact hsp _ (by omega)) _ (hsp k hk)
  have hcp2 : ∀ (W : World), (∀ x, W.cell? x = W1.cell? x) → (∀ x, W.frozen? x = W1.frozen? x) → ∀ ty dc, (Builtin.copy_ #[75, 75] ty #[.slice (some ⟨b, off + i * 5, none⟩) (n + m - i) dc, .slice (some ⟨vb, voff, none⟩) m vc]).run Try.prog W = .ok (goInt (Nat.min m (n + m - i))) (W.setCells b (off + i * 5) vs) := fun W hWc hWf ty dc =>
    run_copy_cellsN 5 W _ _ ty 148 b (off + i * 5) (n + m - i) dc ⟨vb, voff, none⟩ m vc vs tSl hsz (by rw [hvl, show Nat.min m (n + m - i) = m by simp only [Nat.min_def]; split <;> omega])
      (fun j v hj => by
        rw [Addr.add_lit, hWc, hW1, World.cell?_setCells_out b _ _ _ _ (fun h _ => absurd h hvb)]
        exact hvs j v hj)
      (fun j hj => by rw [hWc, Nat.add_assoc]; exact hsp1 _ (by omega)) (fun j hj => by rw [hWf, hW1, World.frozen?_setCells, Nat.add_assoc]; exact hfz _ (by omega)) h1v
  rw [← hW1] at hcp1
  clear hsp hfz hcs hvs h1c h1v
  go_enter Try.func112, Try.ntmps112
  go_wp2_with (simp only [hov])
  go_region_law_o (refine step_copy_runI rfl _ _ 75 75 rfl _ _ (by simp [Act.eval, Act.put]) (by simp [Act.eval, Act.put]) (hcp1 _ _ _) ?_)
  go_wp2_with (at_builtin; refine wpList_copy_runI _ rfl _ _ 75 75 rfl _ _ rfl rfl (hcp2 _ (fun _ => rfl) (fun _ => rfl) _ _) ?_)
  go_ret
  first | exact ⟨rfl, rfl⟩ | exact ⟨rfl, by rw [hW1]⟩
set_option maxHeartbeats 4000000 in
set_option maxRecDepth 1000000 in
theorem ins_end_room_slices_Insert_Limpl_SpatialEntry_impl_SpatialEntry_mobo (b off n c vb voff m vc : Nat) (vs : List Value) (w : World) (hm : 0 < m) (hroom : n + m ≤ c) (hc63 : n + m ≤ 9223372036854775807)
    (hvl : vs.length = m * 5) (hsp : ∀ j, j < m * 5 → (w.cell? ⟨b, off + n * 5 + j, none⟩).isSome = true) (hfz : ∀ j, j < m * 5 → w.frozen? ⟨b, off + n * 5 + j, none⟩ = false)
    (hvs : ∀ j v, vs[j]? = some v → w.cell? ⟨vb, voff + j, none⟩ = some v) (h1v : ∀ v ∈ vs, v.oneCell' = true) :
    Calls Try.prog 112 #[.slice (some ⟨b, off, none⟩) n c, .int .i64 n, .slice (some ⟨vb, voff, none⟩) m vc] w fun e w' =>
      e = .returned (.slice (some ⟨b, off, none⟩) (n + m) c) ∧ w' = w.setCells b (off + n * 5) vs := by
  have tSl : Try.prog.underlying 75 = some (.slice 148) := by kernel_rfl
  have mixed : Try.prog.follows .mixedOrders = true := by kernel_rfl
  have hI : (Try.prog.info? 148).map (·.size) = some 5 := by kernel_rfl
  obtain ⟨i0, hi0, hz5⟩ : ∃ i0, Try.prog.info? 148 = some i0 ∧ i0.size = 5 := by
    cases h : Try.prog.info? 148 with
    | none => rw [h] at hI; cases hI
    | some i0 => rw [h] at hI; exact ⟨i0, rfl, by injection hI⟩
  have hz1 : ¬ ((m : Int) = 0) := by omega
  have hsrc : Src Try.prog i0.size 75 (.slice (some ⟨vb, voff, none⟩) m vc) m vs w := Src.ofSlice w tSl ⟨vb, voff, none⟩ m vc vs (by rw [hz5]; exact hvl) (fun j u hj => by rw [Addr.add_lit]; exact hvs j u hj) h1v
  have s1 : Hid (∀ j, j < vs.length → (w.cell? ⟨b, off + n * i0.size + j, none⟩).isSome = true) := by rw [hvl, hz5]; exact hsp
  have s2 : Hid (∀ j, j < vs.length → w.frozen? ⟨b, off + n * i0.size + j, none⟩ = false) := by rw [hvl, hz5]; exact hfz
  clear hsp hfz hvs
  go_enter Try.func112, Try.ntmps112
  go_wp2_with (at_builtin; refine wpList_append_room_src _ rfl _ _ 75 75 rfl 148 i0 tSl hi0 b off n c rfl _ rfl m vs hsrc hroom s1.out s2.out ?_)
  go_ret
  exact ⟨rfl, rfl⟩
set_option maxHeartbeats 4000000 in
set_option maxRecDepth 1000000 in
theorem ins_end_grow_slices_Insert_Limpl_SpatialEntry_impl_SpatialEntry_mobo (base : Option Addr) (n c vb voff m vc : Nat) (cs vs : List Value) (w : World) (hm : 0 < m) (hnc : n ≤ c) (hroom : c < n + m) (hbig : (n + m) * 40 ≤ 140737488355328)
    (hcl : cs.length = n * 5) (hvl : vs.length = m * 5) (hnil : base = none → n = 0)
    (hcs : ∀ a, base = some a → ∀ j v, cs[j]? = some v → w.cell? (a.add j) = some v)
    (hvs : ∀ j v, vs[j]? = some v → w.cell? ⟨vb, voff + j, none⟩ = some v) (h1v : ∀ v ∈ vs, v.oneCell' = true) :
    Calls Try.prog 112 #[.slice base n c, .int .i64 n, .slice (some ⟨vb, voff, none⟩) m vc] w fun e w' =>
      e = .returned (.slice (some ⟨w.heap.size, 0, none⟩) (n + m) (grownCap w (n + m) c 148)) ∧
      w' = w.drew.alloc (.cells ((cs ++ vs).toArray ++ Builtin.zeroCells d148.zero.cells (grownCap w (n + m) c 148 - (n + m))) 148) := by
  have tSl : Try.prog.underlying 75 = some (.slice 148) := by kernel_rfl
  have mixed : Try.prog.follows .mixedOrders = true := by kernel_rfl
  obtain ⟨i0, hi0, hzs, hzb, hz0⟩ := (tok 148 d148 rfl).2.1
  have hzs : i0.size = 5 := hzs
  have hzb : i0.bytes = 40 := hzb
  have hz1 : ¬ ((m : Int) = 0) := by omega
  have hsrc : Src Try.prog i0.size 75 (.slice (some ⟨vb, voff, none⟩) m vc) m vs w := Src.ofSlice w tSl ⟨vb, voff, none⟩ m vc vs (by rw [hzs]; exact hvl) (fun j u hj => by rw [Addr.add_lit]; exact hvs j u hj) h1v
  have hold : (Builtin.firstCells i0.size n (.slice base n c)).run Try.prog w.drew = .ok cs.toArray w.drew := by
    rw [hzs]
    cases base with
    | none =>
      have h0 := hnil rfl
      subst h0
      have hc0 : cs.length = 0 := by rw [hcl, Nat.zero_mul]
      rw [List.length_eq_zero_iff.1 hc0]
      exact run_firstCells_none w.drew 5 0 0 c
    | some a => exact run_firstCells_some w.drew 5 n a n c cs hcl (fun j v hj => hcs a rfl j v hj)
  have hrun : ∀ ty, (Builtin.append_ #[75, 75] ty #[.slice base n c, .slice (some ⟨vb, voff, none⟩) m vc]).run Try.prog w = _ := fun ty =>
    run_append_grow_src w 75 75 ty 148 i0 _ tSl hi0 hz0 base n c cs hold _ m vs hsrc hroom (by omega) (by rw [hzb]; exact growslice_fits hroom hbig)
  go_enter Try.func112, Try.ntmps112
  cases base with
  | none =>
    have h0 := hnil rfl
    subst h0
    go_wp2_with (at_builtin; refine Lib.wpList_append_run _ rfl _ _ _ _ rfl _ _ rfl rfl _ _ (hrun _) ?_)
    go_ret
    exact ⟨rfl, rfl⟩
  | some a =>
    obtain ⟨ab, ao, asp⟩ := a
    go_wp2_with (at_builtin; refine Lib.wpList_append_run _ rfl _ _ _ _ rfl _ _ rfl rfl _ _ (hrun _) ?_)
    all_goals (go_ret; exact ⟨rfl, rfl⟩)
set_option maxHeartbeats 4000000 in
set_option maxRecDepth 1000000 in
theorem ins_grow_slices_Insert_Limpl_SpatialEntry_impl_SpatialEntry_mobo (b off n c i vb voff m vc : Nat) (cs vs : List Value) (w : World) (hi : i < n) (hm : 0 < m) (hnc : n ≤ c) (hroom : c < n + m) (hbig : (n + m) * 40 ≤ 140737488355328)
    (hcl : cs.length = n * 5) (hvl : vs.length = m * 5)
    (hcs : ∀ j v, cs[j]? = some v → w.cell? ⟨b, off + j, none⟩ = some v)
    (hvs : ∀ j v, vs[j]? = some v → w.cell? ⟨vb, voff + j, none⟩ = some v) (h1c : ∀ v ∈ cs, v.oneCell' = true) (h1v : ∀ v ∈ vs, v.oneCell' = true) :
    Calls Try.prog 112 #[.slice (some ⟨b, off, none⟩) n c, .int .i64 i, .slice (some ⟨vb, voff, none⟩) m vc] w fun e w' =>
      e = .returned (.slice (some ⟨w.heap.size, 0, none⟩) (n + m) (grownCap w (n + m) c 148)) ∧
      w' = (((w.alloc (.cells ((cs.take (i * 5)).toArray ++ Builtin.zeroCells d148.zero.cells (n + m - i) ++ Builtin.zeroCells d148.zero.cells (grownCap w (n + m) c 148 - (n + m))) 148)).drew.setCells w.heap.size (i * 5) vs).drew).setCells w.heap.size ((i + m) * 5) (cs.drop (i * 5)) := by
  have tSl : Try.prog.underlying 75 = some (.slice 148) := by kernel_rfl
  have t3 : Try.prog.underlying 3 = some (.int .i64) := by kernel_rfl
  have mixed : Try.prog.follows .mixedOrders = true := by kernel_rfl
  obtain ⟨i0, hi0, hzs, hzb, hz0⟩ := (tok 148 d148 rfl).2.1
  have hzs : i0.size = 5 := hzs
  have hzb : i0.bytes = 40 := hzb
  have hz5 : d148.zero.cells.size = 5 := by kernel_rfl
  have hz1 : ¬ ((m : Int) = 0) := by omega
  have hz2 : ¬ ((i : Int) = (n : Int)) := by omega
  have hz3 : (c : Int) < (n : Int) + (m : Int) := by omega
  have hsz : (Try.prog.info? 148).map (·.size) = some 5 := by rw [hi0]; simp [hzs]
  have hbw : b < w.heap.size := block_lt_of_cell (hcs 0 _ (List.getElem?_eq_getElem (by omega)))
  have hvw : vb < w.heap.size := block_lt_of_cell (hvs 0 _ (List.getElem?_eq_getElem (by omega)))
  have hkk : (n : Int) + (m : Int) - (i : Int) = ((n + m - i : Nat) : Int) := by omega
  have hik : i + (n + m - i) = n + m := by omega
  have htl : (cs.take (i * 5)).length = i * 5 := by rw [List.length_take, hcl]; omega
  have hold : (Builtin.firstCells i0.size i (.slice (some ⟨b, off, none⟩) i c)).run Try.prog w.drew = .ok (cs.take (i * 5)).toArray w.drew := by
    rw [hzs]
    exact run_firstCells_some w.drew 5 i ⟨b, off, none⟩ i c (cs.take (i * 5)) htl (fun j v hj => by
      rw [Addr.add_lit]
      rw [List.getElem?_take] at hj
      split at hj
      · exact hcs j v hj
      · cases hj)
  have hrz : ∀ ty, (Builtin.append_ #[75, 3] ty #[.slice (some ⟨b, off, none⟩) i c, .int .i64 ((n : Int) + (m : Int) - (i : Int))]).run Try.prog w =
      .ok (.slice (some ⟨w.heap.size, 0, none⟩) (n + m) (grownCap w (n + m) c 148)) (w.drew.alloc (.cells ((cs.take (i * 5)).toArray ++ Builtin.zeroCells d148.zero.cells (n + m - i) ++ Builtin.zeroCells d148.zero.cells (grownCap w (n + m) c 148 - (n + m))) 148)) := fun ty => by
    have h := Lib.run_append_grow_zeros w 75 3 ty 148 i0 _ .i64 .i64 tSl t3 hi0 hz0 (some ⟨b, off, none⟩) i c (cs.take (i * 5)) hold (n + m - i) (by omega) (by omega) (by omega) (by omega) (by rw [hzb]; omega) (by rw [hzb, hik]; exact growslice_fits hroom hbig)
    rw [hik] at h
    rw [hkk]
    exact h
  obtain ⟨G, hG⟩ : ∃ G, G = grownCap w (n + m) c 148 := ⟨_, rfl⟩
  obtain ⟨ROW, hROW⟩ : ∃ ROW : Array Value, ROW = (cs.take (i * 5)).toArray ++ Builtin.zeroCells d148.zero.cells (n + m - i) ++ Builtin.zeroCells d148.zero.cells (G - (n + m)) := ⟨_, rfl⟩
  rw [← hG] at hrz ⊢
  rw [← hROW] at hrz ⊢
  have hRl : (n + m) * 5 ≤ ROW.size := by
    rw [hROW, Array.size_append, Array.size_append, size_zeroCells, size_zeroCells, hz5, List.size_toArray, htl]
    omega
  obtain ⟨W1, hW1⟩ : ∃ W1, W1 = w.drew.alloc (.cells ROW 148) := ⟨_, rfl⟩
  rw [← hW1] at hrz
  have hN : ∀ j, j < (n + m) * 5 → (W1.cell? ⟨w.heap.size, j, none⟩).isSome = true := fun j hj => by
    rw [hW1, World.cell?_alloc_at (w := w.drew) ROW _ w.heap.size j rfl, Array.getElem?_eq_getElem (by omega)]; rfl
  have hNf : ∀ j, W1.frozen? ⟨w.heap.size, j, none⟩ = false := fun j => by rw [hW1]; exact World.frozen?_alloc_at (w := w.drew) ROW _ w.heap.size j rfl
  have hOb : ∀ j v, w.cell? ⟨b, j, none⟩ = some v → W1.cell? ⟨b, j, none⟩ = some v := fun j v h => by rw [hW1, World.cell?_alloc_past (w := w.drew) _ b j hbw]; exact h
  have hOv : ∀ j v, w.cell? ⟨vb, j, none⟩ = some v → W1.cell? ⟨vb, j, none⟩ = some v := fun j v h => by rw [hW1, World.cell?_alloc_past (w := w.drew) _ vb j hvw]; exact h
  have hcpA : ∀ (W : World), (∀ x, W.cell? x = W1.cell? x) → (∀ x, W.frozen? x = W1.frozen? x) → ∀ ty dc, (Builtin.copy_ #[75, 75] ty #[.slice (some ⟨w.heap.size, i * 5, none⟩) (n + m - i) dc, .slice (some ⟨vb, voff, none⟩) m vc]).run Try.prog W = .ok (goInt (Nat.min m (n + m - i))) (W.setCells w.heap.size (i * 5) vs) := fun W hWc hWf ty dc =>
    run_copy_cellsN 5 W _ _ ty 148 w.heap.size (i * 5) (n + m - i) dc ⟨vb, voff, none⟩ m vc vs tSl hsz (by rw [hvl, show Nat.min m (n + m - i) = m by simp only [Nat.min_def]; split <;> omega])
      (fun j v hj => by rw [Addr.add_lit, hWc]; exact hOv _ v (hvs j v hj))
      (fun j hj => by rw [hWc]; exact hN _ (by omega)) (fun j hj => by rw [hWf]; exact hNf _) h1v
  have hGn : n + m ≤ G := by rw [hG]; exact grownCap_ge w _ _ _
  have hG63 : G ≤ 9223372036854775807 := by
    have := grownCap_le_maxLen w (n + m) c 148 (by unfold maxLen; omega)
    rw [← hG] at this
    unfold maxLen at this
    omega
  have hGi : ¬ (G = i) := by omega
  have hGim : ¬ (G = i + m) := by omega
  have hci : ¬ (c = i) := by omega
  have hbN : b ≠ w.heap.size := by omega
  have hdl : (cs.drop (i * 5)).length = (n - i) * 5 := by rw [List.length_drop, hcl, Nat.sub_mul]
  have hcpB : ∀ (W : World), (∀ x, W.cell? x = (W1.setCells w.heap.size (i * 5) vs).cell? x) → (∀ x, W.frozen? x = (W1.setCells w.heap.size (i * 5) vs).frozen? x) → ∀ ty dc sc, (Builtin.copy_ #[75, 75] ty #[.slice (some ⟨w.heap.size, (i + m) * 5, none⟩) (n + m - (i + m)) dc, .slice (some ⟨b, off + i * 5, none⟩) (n - i) sc]).run Try.prog W = .ok (goInt (Nat.min (n - i) (n + m - (i + m)))) (W.setCells w.heap.size ((i + m) * 5) (cs.drop (i * 5))) := fun W hWc hWf ty dc sc =>
    run_copy_cellsN 5 W _ _ ty 148 w.heap.size ((i + m) * 5) (n + m - (i + m)) dc ⟨b, off + i * 5, none⟩ (n - i) sc (cs.drop (i * 5)) tSl hsz (by rw [hdl, show Nat.min (n - i) (n + m - (i + m)) = n - i by simp only [Nat.min_def]; split <;> omega])
      (fun j v hj => by
        rw [Addr.add_lit, hWc, World.cell?_setCells_out _ _ _ _ _ (fun h _ => absurd h hbN), Nat.add_assoc]
        exact hOb _ v (hcs (i * 5 + j) v (by rwa [List.getElem?_drop] at hj)))
      (fun j hj => by rw [hWc]; exact isSome_setCells _ _ _ _ (fun t ht => hN _ (by omega)) _ (hN _ (by omega)))
      (fun j hj => by rw [hWf, World.frozen?_setCells]; exact hNf _) (fun v hv => h1c v (List.mem_of_mem_drop hv))
  subst hW1
  have hE1 : ∀ x, ((w.alloc (.cells ROW 148)).drew).cell? x = (w.drew.alloc (.cells ROW 148)).cell? x := fun x => rfl
  have hE2 : ∀ x, ((w.alloc (.cells ROW 148)).drew).frozen? x = (w.drew.alloc (.cells ROW 148)).frozen? x := fun x => rfl
  have hF1 : ∀ x, (((w.alloc (.cells ROW 148)).drew.setCells w.heap.size (i * 5) vs).drew).cell? x = ((w.drew.alloc (.cells ROW 148)).setCells w.heap.size (i * 5) vs).cell? x := fun x => rfl
  have hF2 : ∀ x, (((w.alloc (.cells ROW 148)).drew.setCells w.heap.size (i * 5) vs).drew).frozen? x = ((w.drew.alloc (.cells ROW 148)).setCells w.heap.size (i * 5) vs).frozen? x := fun x => rfl
  have hw1 : IntKind.i64.wrap ((i : Int) + (m : Int)) = (i : Int) + (m : Int) := by rw [IntKind.wrap_i64]; omega
  have hb1 : (0 : Int) ≤ (i : Int) + (m : Int) := by omega
  have hin : i ≤ n := by omega
  have htn : ((i : Int) + (m : Int)).toNat = i + m := by omega
  have hb3 : (i : Int) ≤ (n : Int) := by omega
  clear hkk hik hold hROW hG hRl hcs hvs h1c h1v hN hNf hOb hOv htl hdl
  go_enter Try.func112, Try.ntmps112
  go_wp2_with (first
    | (at_builtin; refine Lib.wpList_append_run _ rfl _ _ _ _ rfl _ _ rfl rfl _ _ (hrz _) ?_)
    | (at_builtin; refine wpList_copy_runI _ rfl _ _ 75 75 rfl _ _ rfl rfl (hcpA _ hE1 hE2 _ _) ?_)
    | (at_builtin; refine wpList_copy_runI _ rfl _ _ 75 75 rfl _ _ rfl rfl (hcpB _ (fun _ => rfl) (fun _ => rfl) _ _ _) ?_))
  go_region_law_o (refine step_copy_runI rfl _ _ 75 75 rfl (.slice (some ⟨w.heap.size, (i + m) * 5, none⟩) (n + m - (i + m)) (G - (i + m))) (.slice (some ⟨b, off + i * 5, none⟩) (n - i) (c - i)) (by simp [Act.eval, Act.put]) (by simp [Act.eval, Act.put]) (hcpB _ hF1 hF2 3 (G - (i + m)) (c - i)) ?_)
  go_wp2
  go_ret
  exact ⟨rfl, rfl⟩
theorem calls_slices_Insert_Limpl_SpatialEntry_impl_SpatialEntry_mobo (old : Option (Nat × Nat)) (y : Value) (n cap i vb voff m vc : Nat) (cs vs : List Value) (w : World)
    (hold : (old = none ∧ n = 0 ∧ cap = 0 ∧ ∃ ad, y = .slice ad 0 0) ∨ ∃ b off C t, old = some (b, off) ∧ y = .slice (some ⟨b, off, none⟩) n cap ∧ n ≤ cap ∧ w.heap[b]? = some (.cells C t (0, 0)) ∧ off + cap * 5 ≤ C.size ∧ (∀ (q : Nat) u, C[q]? = some u → u.oneCell' = true) ∧ (∀ q, q < n * 5 → C[off + q]? = cs[q]?) ∧ vb ≠ b)
    (hi : i ≤ n) (hm : 0 < m) (hbig : (n + m) * 40 ≤ 140737488355328) (hcl : cs.length = n * 5) (hvl : vs.length = m * 5) (hvb : ∃ C2 t2, w.heap[vb]? = some (.cells C2 t2 (0, 0)) ∧ ∀ q, q < m * 5 → C2[voff + q]? = vs[q]?) (h1c : ∀ u ∈ cs, u.oneCell' = true) (h1v : ∀ u ∈ vs, u.oneCell' = true) :
    Calls Try.prog 112 #[y, .int .i64 i, .slice (some ⟨vb, voff, none⟩) m vc] w (Inserted w old 5 (n + m) (cs.take (i * 5) ++ vs ++ cs.drop (i * 5))) := by
  obtain ⟨C2, t2, hC2, hvs⟩ := hvb
  have hvcell : ∀ j v, vs[j]? = some v → w.cell? ⟨vb, voff + j, none⟩ = some v := fun j v h => by
    rw [cell_at hC2, hvs j (by have := (List.getElem?_eq_some_iff.1 h).1; omega)]; exact h
  have hz5 : d148.zero.cells.size = 5 := by kernel_rfl
  have hz1 : ∀ k, ∀ v ∈ (Builtin.zeroCells d148.zero.cells k).toList, v.oneCell' = true := fun k => zeroCells_one _ (fun v hv => by
    have := Array.all_eq_true_iff_forall_mem.1 (show d148.zero.cells.all Value.oneCell' = true by kernel_rfl) v hv
    exact this) _
  have hzn : ∀ k, (Builtin.zeroCells d148.zero.cells k).size = k * 5 := fun k => by rw [size_zeroCells, hz5]
  rcases hold with ⟨ho, h0, hc, ad, rfl⟩ | ⟨b, off, C, t, ho, rfl, hnc, hC, hCs, h1C, hcs, hne⟩
  · subst h0; subst hc
    obtain rfl : i = 0 := by omega
    have hcs0 : cs = [] := List.length_eq_zero_iff.1 (by omega)
    subst hcs0
    refine (ins_end_grow_slices_Insert_Limpl_SpatialEntry_impl_SpatialEntry_mobo ad 0 0 vb voff m vc [] vs w hm (Nat.le_refl _) (by omega) hbig hcl hvl (fun _ => rfl) (fun a _ j v h => by simp at h) hvcell h1v).mono ?_
    rintro e w' ⟨rfl, rfl⟩
    exact ins_post_endgrow hcl hvl h1v h1c (grownCap_ge _ _ _ _) (hzn _) (hz1 _)
  · subst ho
    have hccell : ∀ j v, cs[j]? = some v → w.cell? ⟨b, off + j, none⟩ = some v := fun j v h => by
      rw [cell_at hC, hcs j (by have := (List.getElem?_eq_some_iff.1 h).1; omega)]; exact h
    by_cases hroom : n + m ≤ cap
    · have hsp : ∀ j, j < (n + m) * 5 → (w.cell? ⟨b, off + j, none⟩).isSome = true := fun j hj => by
        rw [cell_at hC, Array.getElem?_eq_getElem (by omega)]; rfl
      by_cases hin : i = n
      · subst hin
        refine (ins_end_room_slices_Insert_Limpl_SpatialEntry_impl_SpatialEntry_mobo b off i cap vb voff m vc vs w hm hroom (by omega) hvl (fun j hj => by rw [Nat.add_assoc]; exact hsp _ (by omega)) (fun j hj => frozen_of hC _) hvcell h1v).mono ?_
        rintro e w' ⟨rfl, rfl⟩
        exact ins_post_end hC hCs h1C hcs hcl hvl h1v hroom
      · refine (ins_shift_slices_Insert_Limpl_SpatialEntry_impl_SpatialEntry_mobo b off n cap i vb voff m vc cs vs w (by omega) hm hroom (by omega) hne hcl hvl hccell hsp (fun j hj => frozen_of hC _) hvcell h1c h1v t2 t C2.size C.size (by simp [World.shape?, hC2]) (by simp [World.shape?, hC]) (by omega) (frozen_of hC2 _) (frozen_of hC2 _)).mono ?_
        rintro e w' ⟨rfl, rfl⟩
        exact ins_post_shift hC hCs h1C hcs hcl hvl h1v h1c hi hroom
    · by_cases hin : i = n
      · subst hin
        refine (ins_end_grow_slices_Insert_Limpl_SpatialEntry_impl_SpatialEntry_mobo (some ⟨b, off, none⟩) i cap vb voff m vc cs vs w hm hnc (by omega) hbig hcl hvl (fun h => by cases h) (fun a h j v hv => by injection h with h; subst h; rw [Addr.add_lit]; exact hccell j v hv) hvcell h1v).mono ?_
        rintro e w' ⟨rfl, rfl⟩
        exact ins_post_endgrow hcl hvl h1v h1c (grownCap_ge _ _ _ _) (hzn _) (hz1 _)
      · refine (ins_grow_slices_Insert_Limpl_SpatialEntry_impl_SpatialEntry_mobo b off n cap i vb voff m vc cs vs w (by omega) hm hnc (by omega) hbig hcl hvl hccell hvcell h1c h1v).mono ?_
        rintro e w' ⟨rfl, rfl⟩
        exact ins_post_grow hcl hvl h1v h1c hi (grownCap_ge _ _ _ _) (hzn _) (hzn _) (hz1 _) (hz1 _)
end
/-- slices.Insert[[]loop.example/g00890/impl.SpatialEntry,loop.example/g00890/impl.SpatialEntry] -/
noncomputable def F_slices_Insert_Limpl_SpatialEntry_impl_SpatialEntry_mobo (a0 : List TSpatialEntry) (a1 : Int) (a2 : List TSpatialEntry) : Option (List TSpatialEntry) :=
  if 0 ≤ a1 ∧ a1 ≤ (a0.length : Int) ∧ 0 < a2.length ∧ (a0.length + a2.length) * 40 ≤ 140737488355328 then some (a0.take a1.toNat ++ a2 ++ a0.drop a1.toNat) else none
theorem run_slices_Insert_Limpl_SpatialEntry_impl_SpatialEntry_mobo (a0 : List TSpatialEntry) (a1 : Int) (a2 : List TSpatialEntry) (r : List TSpatialEntry) (h : F_slices_Insert_Limpl_SpatialEntry_impl_SpatialEntry_mobo a0 a1 a2 = some r) : Fun Try.prog 112 [.c (.os 5 0 (len a0)), .c (.v (.int .i64 a1)), .c (.os 7 0 (len a2))] [(5, .arr .rw [] (len a0) 5 (row gd (encSpatialEntry) a0)), (7, .arr .rw [] (len a2) 5 (row gd (encSpatialEntry) a2))] (.c (.os 64000 0 (len r))) [(64000, .arr .rw [] (len r) 5 (row gd (encSpatialEntry) r))] true := by
  unfold F_slices_Insert_Limpl_SpatialEntry_impl_SpatialEntry_mobo at h
  split at h
  · rename_i h1
    injection h with h
    subst h
    obtain ⟨i, rfl⟩ : ∃ i : Nat, a1 = i := ⟨a1.toNat, by omega⟩
    rw [Int.toNat_natCast]
    have e : len (a0.take i ++ a2 ++ a0.drop i) = len a0 + len a2 := by
      show List.length _ = List.length _ + List.length _
      rw [List.length_append, List.length_append, List.length_take, List.length_drop]; omega
    rw [e]
    exact Fun.insert Try.func112 (by kernel_rfl) (by kernel_rfl) 5 40 (fun old y n cap i vb voff m vc cs vs w h1 h2 h3 h4 h5 h6 h7 h8 h9 => calls_slices_Insert_Limpl_SpatialEntry_impl_SpatialEntry_mobo old y n cap i vb voff m vc cs vs w h1 h2 h3 h4 h5 h6 h7 h8 h9) (len a0) i (len a2) _ _ _ (show i ≤ a0.length by omega) (show 0 < a2.length by omega) (show (a0.length + a2.length) * 40 ≤ _ by omega)
      (fun t ht q hq => by
        show encSpatialEntry (gd _ t) q = if t < i then encSpatialEntry (gd a0 t) q else if t < i + a2.length then encSpatialEntry (gd a2 (t - i)) q else encSpatialEntry (gd a0 (t - a2.length)) q
        rw [ins_get a0 a2 i t (by omega)]
        split
        · rfl
        · split <;> rfl) (fun t q => plain_nil (val_plain (vl_encSpatialEntry _ _))) (fun t q => plain_nil (val_plain (vl_encSpatialEntry _ _))) (fun t q => val_flat (vl_encSpatialEntry _ _))
  · cases h

/-- impl.InsertEntry -/
noncomputable def F_impl_InsertEntry (a0 : TSpatialIndex) (a1 : Int) (a2 : TRect) : Option (TSpatialIndex × Int) :=
  ((
        (F_impl_IsValidIndex (TSpatialIndex.mk a0.fEntries a0.fBuckets)).bind fun y8 =>
        br (!(y8))
        (some true)
        ((F_impl_IsValidRect a2).bind fun y10 =>
        some (!(y10)))
    ) : Option (Bool)).bind fun y1 =>
  letO y1 fun w7 =>
  br w7
  (some ((TSpatialIndex.mk ([] : List TSpatialEntry) ([] : List (List Int))), 1))
  ((F_impl_within a1 1 9999).bind fun y13 =>
  br (!(y13))
  (some ((TSpatialIndex.mk ([] : List TSpatialEntry) ([] : List (List Int))), 2))
  ((F_impl_entryPlace (TSpatialIndex.mk a0.fEntries a0.fBuckets) a1).bind fun y15 =>
  br y15.2
  (some ((TSpatialIndex.mk ([] : List TSpatialEntry) ([] : List (List Int))), 6))
  (br (std.eq (std.ofN (len a0.fEntries)) 40)
  (some ((TSpatialIndex.mk ([] : List TSpatialEntry) ([] : List (List Int))), 3))
  ((F_slices_Clone_Limpl_SpatialEntry_impl_SpatialEntry a0.fEntries).bind fun y17 =>
  letO ([(TSpatialEntry.mk a1 a2)] : List TSpatialEntry) fun l19 =>
  (F_slices_Insert_Limpl_SpatialEntry_impl_SpatialEntry_mobo y17 y15.1 l19).bind fun y21 =>
  (F_impl_indexOf y21).bind fun y23 =>
  some (y23, 0)))))
theorem run_impl_InsertEntry (a0 : TSpatialIndex) (a1 : Int) (a2 : TRect) (r : TSpatialIndex × Int) (h : F_impl_InsertEntry a0 a1 a2 = some r) : Fun Try.prog 43 [.agg [.bs (len a0.fEntries) 5 (row gd (encSpatialEntry) a0.fEntries), .bs (len a0.fBuckets) 1 (row gd (encL len gd 1 (encI .i64)) a0.fBuckets)], .c (.v (.int .i64 a1)), .agg [.v (.int .i64 a2.fX0), .v (.int .i64 a2.fY0), .v (.int .i64 a2.fX1), .v (.int .i64 a2.fY1)]] [] (.tup [.agg [.os 64000 0 (len r.1.fEntries), .os 64002 0 (len r.1.fBuckets)], .c (.v (.int .i64 r.2))]) [(64000, .arr .rw [] (len r.1.fEntries) 5 (row gd (encSpatialEntry) r.1.fEntries)), (64002, .arr .rw [] (len r.1.fBuckets) 1 (row gd (oncL len gd 1 (encI .i64)) r.1.fBuckets))] true := by
  refine Fun.of_wp (oneOf [1]) tok mixed Try.func43 (by kernel_rfl) rfl Try.ntmps43 rfl trivial (fun _ => ⟨(by simp [AV.flat, AV.flat1, AC.flat]), ⟨fun i _ j _ => val_flat (vl_encSpatialEntry _ _), fun i _ j _ => fl_oncL (fun _ _ => rfl) _ _, trivial⟩⟩) ?_
  unfold F_impl_InsertEntry at h
  have hf_impl_IsValidIndex := @run_impl_IsValidIndex
  have hf_impl_IsValidRect := @run_impl_IsValidRect
  have hf_impl_entryPlace := @run_impl_entryPlace
  have hf_impl_indexOf := @run_impl_indexOf
  have hf_impl_within := @run_impl_within
  have hf_slices_Clone_Limpl_SpatialEntry_impl_SpatialEntry := @run_slices_Clone_Limpl_SpatialEntry_impl_SpatialEntry
  have hf_slices_Insert_Limpl_SpatialEntry_impl_SpatialEntry_mobo := @run_slices_Insert_Limpl_SpatialEntry_impl_SpatialEntry_mobo
  generalize hLEN : @len = LEN at *
  generalize hGD : @gd = GD at *
  generalize hA : std = A at *
  generalize hP : Try.prog = P at *
  cbv
  replace h := of_bind h
  obtain ⟨y1, hy2, h⟩ := h
  obtain ⟨S5, hS6⟩ : ∃ S, S = (sparse 50 [(1, .c (.v (.int .i64 a1))), (3, .c (.ptr 192 0)), (5, .c (.ptr 320 0)), (6, .c (.ptr 384 0)), (10, .c (.v (.bool y1)))] [(192, .var [.bs (LEN a0.fEntries) 5 (row GD (encSpatialEntry) a0.fEntries), .bs (LEN a0.fBuckets) 1 (row GD (encL LEN GD 1 (encI .i64)) a0.fBuckets)]), (320, .var [.v (.int .i64 a2.fX0), .v (.int .i64 a2.fY0), .v (.int .i64 a2.fX1), .v (.int .i64 a2.fY1)]), (384, .var [.v (.slice none 0 0), .v (.slice none 0 0)])]) := ⟨_, rfl⟩
  refine ⟨S5, ?_, ?_⟩
  · clear h
    have h := hy2
    clear hy2
    cbv
    replace h := of_bind h
    obtain ⟨y8, hy9, h⟩ := h
    refine ⟨{ args := [.agg [.bs (LEN a0.fEntries) 5 (row GD (encSpatialEntry) a0.fEntries), .bs (LEN a0.fBuckets) 1 (row GD (encL LEN GD 1 (encI .i64)) a0.fBuckets)]], o0 := [], r := .c (.v (.bool y8)), o1 := [], fl := true, σ := [], τ := [] }, hf_impl_IsValidIndex _ _ hy9, ⟨les_cons (AV.le_refl _) (les_nil), trivial, rfl, rfl, rfl, rfl, trivial, rfl⟩, ?_⟩
    cbv
    refine fork (fun b12 => ?_) (fun b12 => ?_)
    · replace h := of_br_t b12 h
      cbv
      injection h with h
      subst h
      subst hS6
      show St.le _ _
      exact le_sparse rfl ⟨AV.le_refl _, AV.le_refl _, AV.le_refl _, AV.le_refl _, AV.le_refl _, trivial⟩ ⟨rfl, rfl, rfl, trivial⟩ rfl
    · replace h := of_br_f b12 h
      cbv
      replace h := of_bind h
      obtain ⟨y10, hy11, h⟩ := h
      refine ⟨{ args := [.agg [.v (.int .i64 a2.fX0), .v (.int .i64 a2.fY0), .v (.int .i64 a2.fX1), .v (.int .i64 a2.fY1)]], o0 := [], r := .c (.v (.bool y10)), o1 := [], fl := true, σ := [], τ := [] }, hf_impl_IsValidRect _ _ hy11, ⟨les_cons (AV.le_refl _) (les_nil), trivial, rfl, rfl, rfl, rfl, trivial, rfl⟩, ?_⟩
      cbv
      injection h with h
      subst h
      subst hS6
      show St.le _ _
      exact le_sparse rfl ⟨AV.le_refl _, AV.le_refl _, AV.le_refl _, AV.le_refl _, AV.le_refl _, trivial⟩ ⟨rfl, rfl, rfl, trivial⟩ rfl
  · clear hy2
    subst hS6
    replace h := of_let h
    obtain ⟨w7, hw7, h⟩ := h
    have hw7 : w7 = y1 := hw7
    subst hw7
    cbv
    refine fork (fun b28 => ?_) (fun b28 => ?_)
    · replace h := of_br_t b28 h
      cbv
      injection h with h
      subst h
      refine ⟨(sparse 50 [(6, .c (.ptr 384 0)), (7, .c (.v (.int .i64 1)))] [(384, .var [.os 64000 0 (LEN ([] : List TSpatialEntry)), .os 64002 0 (LEN ([] : List (List Int)))]), (64000, .arr .rw [] (LEN ([] : List TSpatialEntry)) 5 (row GD (encSpatialEntry) ([] : List TSpatialEntry))), (64002, .arr .rw [] (LEN ([] : List (List Int))) 1 (row GD (oncL LEN GD 1 (encI .i64)) ([] : List (List Int))))]), ?_, ?_⟩
      · refine St.le_trans (le_nilV 384 0 64000 5 (row GD (encSpatialEntry) ([] : List TSpatialEntry)) (by decide) (by decide) rfl rfl) ?_
        refine St.le_trans (le_nilV 384 1 64002 1 (row GD (oncL LEN GD 1 (encI .i64)) ([] : List (List Int))) (by decide) (by decide) rfl rfl) ?_
        subst hLEN
        exact le_sparse rfl ⟨AV.le_refl _, AV.le_refl _, trivial⟩ ⟨rfl, ⟨fun hw => hw, fun c hc => (by cases hc), .inl rfl, rfl, rfl, fun i hi j hj => rfl⟩, ⟨fun hw => hw, fun c hc => (by cases hc), .inl rfl, rfl, rfl, fun i hi j hj => rfl⟩, trivial⟩ rfl
      · subst hLEN
        exact ⟨AV.le_refl _, ⟨⟨fun hw => hw, fun c hc => (by cases hc), .inl rfl, rfl, rfl, fun i hi j hj => rfl⟩, ⟨fun hw => hw, fun c hc => (by cases hc), .inl rfl, rfl, rfl, fun i hi j hj => rfl⟩, trivial⟩, rfl⟩
    · replace h := of_br_f b28 h
      cbv
      replace h := of_bind h
      obtain ⟨y13, hy14, h⟩ := h
      refine ⟨{ args := [.c (.v (.int .i64 a1)), .c (.v (.int .i64 1)), .c (.v (.int .i64 9999))], o0 := [], r := .c (.v (.bool y13)), o1 := [], fl := true, σ := [], τ := [] }, hf_impl_within _ _ _ _ hy14, ⟨les_cons (AV.le_refl _) (les_cons (AV.le_refl _) (les_cons (AV.le_refl _) (les_nil))), trivial, rfl, rfl, rfl, rfl, trivial, rfl⟩, ?_⟩
      cbv
      refine fork (fun b27 => ?_) (fun b27 => ?_)
      · replace h := of_br_t b27 h
        cbv
        injection h with h
        subst h
        refine ⟨(sparse 50 [(6, .c (.ptr 384 0)), (7, .c (.v (.int .i64 2)))] [(384, .var [.os 64000 0 (LEN ([] : List TSpatialEntry)), .os 64002 0 (LEN ([] : List (List Int)))]), (64000, .arr .rw [] (LEN ([] : List TSpatialEntry)) 5 (row GD (encSpatialEntry) ([] : List TSpatialEntry))), (64002, .arr .rw [] (LEN ([] : List (List Int))) 1 (row GD (oncL LEN GD 1 (encI .i64)) ([] : List (List Int))))]), ?_, ?_⟩
        · refine St.le_trans (le_nilV 384 0 64000 5 (row GD (encSpatialEntry) ([] : List TSpatialEntry)) (by decide) (by decide) rfl rfl) ?_
          refine St.le_trans (le_nilV 384 1 64002 1 (row GD (oncL LEN GD 1 (encI .i64)) ([] : List (List Int))) (by decide) (by decide) rfl rfl) ?_
          subst hLEN
          exact le_sparse rfl ⟨AV.le_refl _, AV.le_refl _, trivial⟩ ⟨rfl, ⟨fun hw => hw, fun c hc => (by cases hc), .inl rfl, rfl, rfl, fun i hi j hj => rfl⟩, ⟨fun hw => hw, fun c hc => (by cases hc), .inl rfl, rfl, rfl, fun i hi j hj => rfl⟩, trivial⟩ rfl
        · subst hLEN
          exact ⟨AV.le_refl _, ⟨⟨fun hw => hw, fun c hc => (by cases hc), .inl rfl, rfl, rfl, fun i hi j hj => rfl⟩, ⟨fun hw => hw, fun c hc => (by cases hc), .inl rfl, rfl, rfl, fun i hi j hj => rfl⟩, trivial⟩, rfl⟩
      · replace h := of_br_f b27 h
        cbv
        replace h := of_bind h
        obtain ⟨y15, hy16, h⟩ := h
        refine ⟨{ args := [.agg [.bs (LEN a0.fEntries) 5 (row GD (encSpatialEntry) a0.fEntries), .bs (LEN a0.fBuckets) 1 (row GD (encL LEN GD 1 (encI .i64)) a0.fBuckets)], .c (.v (.int .i64 a1))], o0 := [], r := .tup [.c (.v (.int .i64 y15.1)), .c (.v (.bool y15.2))], o1 := [], fl := true, σ := [], τ := [] }, hf_impl_entryPlace _ _ _ hy16, ⟨les_cons (AV.le_refl _) (les_cons (AV.le_refl _) (les_nil)), trivial, rfl, rfl, rfl, rfl, trivial, rfl⟩, ?_⟩
        cbv
        refine fork (fun b26 => ?_) (fun b26 => ?_)
        · replace h := of_br_t b26 h
          cbv
          injection h with h
          subst h
          refine ⟨(sparse 50 [(6, .c (.ptr 384 0)), (7, .c (.v (.int .i64 6)))] [(384, .var [.os 64000 0 (LEN ([] : List TSpatialEntry)), .os 64002 0 (LEN ([] : List (List Int)))]), (64000, .arr .rw [] (LEN ([] : List TSpatialEntry)) 5 (row GD (encSpatialEntry) ([] : List TSpatialEntry))), (64002, .arr .rw [] (LEN ([] : List (List Int))) 1 (row GD (oncL LEN GD 1 (encI .i64)) ([] : List (List Int))))]), ?_, ?_⟩
          · refine St.le_trans (le_nilV 384 0 64000 5 (row GD (encSpatialEntry) ([] : List TSpatialEntry)) (by decide) (by decide) rfl rfl) ?_
            refine St.le_trans (le_nilV 384 1 64002 1 (row GD (oncL LEN GD 1 (encI .i64)) ([] : List (List Int))) (by decide) (by decide) rfl rfl) ?_
            subst hLEN
            exact le_sparse rfl ⟨AV.le_refl _, AV.le_refl _, trivial⟩ ⟨rfl, ⟨fun hw => hw, fun c hc => (by cases hc), .inl rfl, rfl, rfl, fun i hi j hj => rfl⟩, ⟨fun hw => hw, fun c hc => (by cases hc), .inl rfl, rfl, rfl, fun i hi j hj => rfl⟩, trivial⟩ rfl
          · subst hLEN
            exact ⟨AV.le_refl _, ⟨⟨fun hw => hw, fun c hc => (by cases hc), .inl rfl, rfl, rfl, fun i hi j hj => rfl⟩, ⟨fun hw => hw, fun c hc => (by cases hc), .inl rfl, rfl, rfl, fun i hi j hj => rfl⟩, trivial⟩, rfl⟩
        · replace h := of_br_f b26 h
          cbv
          refine fork (fun b25 => ?_) (fun b25 => ?_)
          · replace h := of_br_t b25 h
            cbv
            injection h with h
            subst h
            refine ⟨(sparse 50 [(6, .c (.ptr 384 0)), (7, .c (.v (.int .i64 3)))] [(384, .var [.os 64000 0 (LEN ([] : List TSpatialEntry)), .os 64002 0 (LEN ([] : List (List Int)))]), (64000, .arr .rw [] (LEN ([] : List TSpatialEntry)) 5 (row GD (encSpatialEntry) ([] : List TSpatialEntry))), (64002, .arr .rw [] (LEN ([] : List (List Int))) 1 (row GD (oncL LEN GD 1 (encI .i64)) ([] : List (List Int))))]), ?_, ?_⟩
            · refine St.le_trans (le_nilV 384 0 64000 5 (row GD (encSpatialEntry) ([] : List TSpatialEntry)) (by decide) (by decide) rfl rfl) ?_
              refine St.le_trans (le_nilV 384 1 64002 1 (row GD (oncL LEN GD 1 (encI .i64)) ([] : List (List Int))) (by decide) (by decide) rfl rfl) ?_
              subst hLEN
              exact le_sparse rfl ⟨AV.le_refl _, AV.le_refl _, trivial⟩ ⟨rfl, ⟨fun hw => hw, fun c hc => (by cases hc), .inl rfl, rfl, rfl, fun i hi j hj => rfl⟩, ⟨fun hw => hw, fun c hc => (by cases hc), .inl rfl, rfl, rfl, fun i hi j hj => rfl⟩, trivial⟩ rfl
            · subst hLEN
              exact ⟨AV.le_refl _, ⟨⟨fun hw => hw, fun c hc => (by cases hc), .inl rfl, rfl, rfl, fun i hi j hj => rfl⟩, ⟨fun hw => hw, fun c hc => (by cases hc), .inl rfl, rfl, rfl, fun i hi j hj => rfl⟩, trivial⟩, rfl⟩
          · replace h := of_br_f b25 h
            cbv
            replace h := of_bind h
            obtain ⟨y17, hy18, h⟩ := h
            refine ⟨{ args := [.c (.bs (LEN a0.fEntries) 5 (row GD (encSpatialEntry) a0.fEntries))], o0 := [], r := .c (.os 64000 0 (LEN y17)), o1 := [(64000, .arr .rw [] (LEN y17) 5 (row GD (encSpatialEntry) y17))], fl := true, σ := [], τ := [(64000, 2688)] }, hf_slices_Clone_Limpl_SpatialEntry_impl_SpatialEntry _ _ hy18, ⟨les_cons (AV.le_refl _) (les_nil), trivial, rfl, rfl, rfl, rfl, ⟨fun h => absurd (show (64000 : Nat) % 2 = 1 from h) (by decide), trivial⟩, rfl⟩, _, rfl, _, _, rfl, fun _ _ _ _ => rfl, ?_⟩
            cbv
            replace h := of_let h
            obtain ⟨l19, hl19, h⟩ := h
            have e20 : 1 = LEN l19 := by subst hl19 hLEN; rfl
            refine ⟨_, congrArg (fun n => AV.c (AC.os 3008 0 n)) e20, _, row GD (encSpatialEntry) l19, e20, ?_, ?_⟩
            · intro i hi j hj
              rw [← e20] at hi
              subst hl19
              subst hGD
              obtain rfl : i = 0 := (by omega) <;> obtain rfl | rfl | rfl | rfl | rfl : j = 0 ∨ j = 1 ∨ j = 2 ∨ j = 3 ∨ j = 4 := (by omega)
              all_goals rfl
            cbv
            replace h := of_bind h
            obtain ⟨y21, hy22, h⟩ := h
            refine ⟨{ args := [.c (.os 5 0 (LEN y17)), .c (.v (.int .i64 y15.1)), .c (.os 7 0 (LEN l19))], o0 := [(5, .arr .rw [] (LEN y17) 5 (row GD (encSpatialEntry) y17)), (7, .arr .rw [] (LEN l19) 5 (row GD (encSpatialEntry) l19))], r := .c (.os 64000 0 (LEN y21)), o1 := [(64000, .arr .rw [] (LEN y21) 5 (row GD (encSpatialEntry) y21))], fl := true, σ := [(5, 2688), (7, 3008)], τ := [(64000, 3072)] }, hf_slices_Insert_Limpl_SpatialEntry_impl_SpatialEntry_mobo _ _ _ _ hy22, ⟨les_cons (AV.le_refl _) (les_cons (AV.le_refl _) (les_cons (AV.le_refl _) (les_nil))), ⟨⟨fun hw => hw, fun c hc => (by cases hc), .inl rfl, rfl, rfl, fun i hi j hj => rfl⟩, ⟨fun hw => hw, fun c hc => (by cases hc), .inl rfl, rfl, rfl, fun i hi j hj => rfl⟩, trivial⟩, rfl, rfl, rfl, rfl, ⟨fun h => absurd (show (64000 : Nat) % 2 = 1 from h) (by decide), trivial⟩, rfl⟩, _, rfl, _, _, rfl, fun _ _ _ _ => rfl, ?_⟩
            cbv
            replace h := of_bind h
            obtain ⟨y23, hy24, h⟩ := h
            refine ⟨{ args := [.c (.bs (LEN y21) 5 (row GD (encSpatialEntry) y21))], o0 := [], r := .agg [.os 64000 0 (LEN y23.fEntries), .os 64002 0 (LEN y23.fBuckets)], o1 := [(64000, .arr .rw [] (LEN y23.fEntries) 5 (row GD (encSpatialEntry) y23.fEntries)), (64002, .arr .rw [] (LEN y23.fBuckets) 1 (row GD (oncL LEN GD 1 (encI .i64)) y23.fBuckets))], fl := true, σ := [], τ := [(64000, 3136), (64002, 3138)] }, hf_impl_indexOf _ _ hy24, ⟨les_cons (give_os (pl_encSpatialEntry) rfl rfl rfl) (les_nil), trivial, rfl, rfl, rfl, rfl, ⟨fun h => absurd (show (64000 : Nat) % 2 = 1 from h) (by decide), fun h => absurd (show (64002 : Nat) % 2 = 1 from h) (by decide), trivial⟩, rfl⟩, _, rfl, _, _, rfl, fun _ _ _ _ => rfl, _, _, rfl, fun _ _ _ _ => rfl, ?_⟩
            cbv
            injection h with h
            subst h
            refine ⟨(sparse 50 [(6, .c (.ptr 384 0)), (7, .c (.v (.int .i64 0)))] [(384, .var [.os 64000 0 (LEN y23.fEntries), .os 64002 0 (LEN y23.fBuckets)]), (64000, .arr .rw [] (LEN y23.fEntries) 5 (row GD (encSpatialEntry) y23.fEntries)), (64002, .arr .rw [] (LEN y23.fBuckets) 1 (row GD (oncL LEN GD 1 (encI .i64)) y23.fBuckets))]), ?_, ?_⟩
            · refine St.le_trans (le_ren 3136 64000 (by decide) rfl) ?_
              refine St.le_trans (le_ren 3138 64002 (by decide) rfl) ?_
              exact le_sparse rfl ⟨AV.le_refl _, AV.le_refl _, trivial⟩ ⟨rfl, ⟨fun hw => hw, fun c hc => (by cases hc), .inl rfl, rfl, rfl, fun i hi j hj => rfl⟩, ⟨fun hw => hw, fun c hc => (by cases hc), .inl rfl, rfl, rfl, fun i hi j hj => rfl⟩, trivial⟩ rfl
            · exact ⟨AV.le_refl _, ⟨⟨fun hw => hw, fun c hc => (by cases hc), .inl rfl, rfl, rfl, fun i hi j hj => rfl⟩, ⟨fun hw => hw, fun c hc => (by cases hc), .inl rfl, rfl, rfl, fun i hi j hj => rfl⟩, trivial⟩, rfl⟩

/-- laws.eqRect -/
noncomputable def F_laws_eqRect (a0 : TRect) (a1 : TRect) : Option (Bool) :=
  br (std.not (std.eq a0.fX0 a1.fX0))
  (some false)
  (br (std.not (std.eq a0.fY0 a1.fY0))
  (some false)
  (br (std.not (std.eq a0.fX1 a1.fX1))
  (some false)
  (br (std.not (std.eq a0.fY1 a1.fY1))
  (some false)
  (some true))))
theorem run_laws_eqRect (a0 : TRect) (a1 : TRect) (r : Bool) (h : F_laws_eqRect a0 a1 = some r) : Fun Try.prog 198 [.agg [.v (.int .i64 a0.fX0), .v (.int .i64 a0.fY0), .v (.int .i64 a0.fX1), .v (.int .i64 a0.fY1)], .agg [.v (.int .i64 a1.fX0), .v (.int .i64 a1.fY0), .v (.int .i64 a1.fX1), .v (.int .i64 a1.fY1)]] [] (.c (.v (.bool r))) [] true := by
  refine Fun.of_wp (oneOf []) tok mixed Try.func198 (by kernel_rfl) rfl Try.ntmps198 rfl trivial (fun _ => ⟨trivial, trivial⟩) ?_
  unfold F_laws_eqRect at h
  generalize hLEN : @len = LEN at *
  generalize hGD : @gd = GD at *
  generalize hA : std = A at *
  generalize hP : Try.prog = P at *
  cbv
  refine fork (fun b4 => ?_) (fun b4 => ?_)
  · replace h := of_br_t b4 h
    cbv
    injection h with h
    subst h
    refine ⟨(sparse 25 [(4, .c (.v (.bool false)))] []), ?_, ?_⟩
    · exact le_sparse rfl ⟨AV.le_refl _, trivial⟩ trivial rfl
    · exact ⟨AV.le_refl _, trivial, rfl⟩
  · replace h := of_br_f b4 h
    cbv
    refine fork (fun b3 => ?_) (fun b3 => ?_)
    · replace h := of_br_t b3 h
      cbv
      injection h with h
      subst h
      refine ⟨(sparse 25 [(4, .c (.v (.bool false)))] []), ?_, ?_⟩
      · exact le_sparse rfl ⟨AV.le_refl _, trivial⟩ trivial rfl
      · exact ⟨AV.le_refl _, trivial, rfl⟩
    · replace h := of_br_f b3 h
      cbv
      refine fork (fun b2 => ?_) (fun b2 => ?_)
      · replace h := of_br_t b2 h
        cbv
        injection h with h
        subst h
        refine ⟨(sparse 25 [(4, .c (.v (.bool false)))] []), ?_, ?_⟩
        · exact le_sparse rfl ⟨AV.le_refl _, trivial⟩ trivial rfl
        · exact ⟨AV.le_refl _, trivial, rfl⟩
      · replace h := of_br_f b2 h
        cbv
        refine fork (fun b1 => ?_) (fun b1 => ?_)
        · replace h := of_br_t b1 h
          cbv
          injection h with h
          subst h
          refine ⟨(sparse 25 [(4, .c (.v (.bool false)))] []), ?_, ?_⟩
          · exact le_sparse rfl ⟨AV.le_refl _, trivial⟩ trivial rfl
          · exact ⟨AV.le_refl _, trivial, rfl⟩
        · replace h := of_br_f b1 h
          cbv
          injection h with h
          subst h
          refine ⟨(sparse 25 [(4, .c (.v (.bool true)))] []), ?_, ?_⟩
          · exact le_sparse rfl ⟨AV.le_refl _, trivial⟩ trivial rfl
          · exact ⟨AV.le_refl _, trivial, rfl⟩
end Go.Proofs.Ytnmfighfidaglaa.AM
