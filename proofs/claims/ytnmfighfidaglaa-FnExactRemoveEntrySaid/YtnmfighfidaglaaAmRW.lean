/-
  What the functions that the law reaches compute, and that they do. No condition.
-/
import Derived.Test.YtnmfighfidaglaaAmRV
namespace Go.Proofs.Ytnmfighfidaglaa.AM
open Go Go.Proofs Go.RowKit
set_option linter.unusedVariables false
set_option linter.unusedSimpArgs false
set_option maxRecDepth 100000

noncomputable def L_impl_indexOf_x28 (a0 : List TSpatialEntry) (y1 : TSpatialIndex) (v3 : Int) (y24 : (List Int)) : (Int × (List (List Int))) → Option ((Int × (List (List Int))) ⊕ (((List (List Int))))) := fun x28 =>
  letO x28.1 fun v26 =>
  letO x28.2 fun v27 =>
  br (std.lt v26 (std.ofN (len y24)))
  (req (std.inR v26 (len y24)) <|
  ((
        req (std.inR (gd y24 (std.nadd 0 (std.toN v26))) (len y1.fBuckets)) <|
        letO ([(gd a0 (std.toN v3)).fId] : List Int) fun l49 =>
        req (std.room (std.nadd (len (gd v27 (std.nadd 0 (std.toN (gd y24 (std.nadd 0 (std.toN v26))))))) (len l49)) 8) <|
        letO ((gd v27 (std.nadd 0 (std.toN (gd y24 (std.nadd 0 (std.toN v26)))))) ++ l49) fun l51 =>
        req (std.inR (gd y24 (std.nadd 0 (std.toN v26))) (len y1.fBuckets)) <|
        req (len y1.fBuckets = len v27) <|
        letO (List.set v27 (std.nadd 0 (std.toN (gd y24 (std.nadd 0 (std.toN v26))))) l51) fun l55 =>
        some l55
    ) : Option ((List (List Int)))).bind fun y41 =>
  letO y41 fun w47 =>
  some (.inl (std.add .i64 v26 1, w47)))
  (some (.inr v27))
noncomputable def L_impl_indexOf_x6 (a0 : List TSpatialEntry) (y1 : TSpatialIndex) : (Int × (List TSpatialEntry) × (List (List Int))) → Option ((Int × (List TSpatialEntry) × (List (List Int))) ⊕ (((List TSpatialEntry) × (List (List Int))))) := fun x6 =>
  letO x6.1 fun v3 =>
  letO x6.2.1 fun v4 =>
  letO x6.2.2 fun v5 =>
  br (std.lt v3 (std.ofN (len a0)))
  (req (std.inR v3 (len a0)) <|
  letO ([(gd a0 (std.toN v3))] : List TSpatialEntry) fun l19 =>
  req (std.room (std.nadd (len v4) (len l19)) 40) <|
  letO (v4 ++ l19) fun l21 =>
  (F_impl_buckets (gd a0 (std.toN v3)).fBox).bind fun y24 =>
  (whileP (σ := Int × (List (List Int))) (ρ := ((List (List Int)))) (L_impl_indexOf_x28 a0 y1 v3 y24) (0, v5)).bind fun y29 =>
  letO y29 fun y29k0 =>
  letO y29k0 fun w58 =>
  some (.inl (std.add .i64 v3 1, l21, w58)))
  (some (.inr (v4, v5)))
/-- impl.indexOf -/
noncomputable def F_impl_indexOf (a0 : List TSpatialEntry) : Option (TSpatialIndex) :=
  (F_impl_EmptyIndex ).bind fun y1 =>
  (whileP (σ := Int × (List TSpatialEntry) × (List (List Int))) (ρ := ((List TSpatialEntry) × (List (List Int)))) (L_impl_indexOf_x6 a0 y1) (0, ([] : List TSpatialEntry), y1.fBuckets)).bind fun y7 =>
  letO y7 fun y7k0 =>
  letO y7k0.1 fun w60 =>
  letO y7k0.2 fun w61 =>
  req (len y1.fBuckets = len w61) <|
  some (TSpatialIndex.mk w60 w61)
theorem run_impl_indexOf (a0 : List TSpatialEntry) (r : TSpatialIndex) (h : F_impl_indexOf a0 = some r) : Fun Try.prog 98 [.c (.bs (len a0) 5 (row gd (encSpatialEntry) a0))] [] (.agg [.os 64000 0 (len r.fEntries), .os 64002 0 (len r.fBuckets)]) [(64000, .arr .rw [] (len r.fEntries) 5 (row gd (encSpatialEntry) r.fEntries)), (64002, .arr .rw [] (len r.fBuckets) 1 (row gd (oncL len gd 1 (encI .i64)) r.fBuckets))] true := by
  refine Fun.of_wp (oneOf [9]) tok mixed Try.func98 (by kernel_rfl) rfl Try.ntmps98 rfl trivial (fun _ => ⟨(by simp [AV.flat, AV.flat1, AC.flat]), ⟨fun i _ j _ => val_flat (vl_encSpatialEntry _ _), fun i _ j _ => fl_oncL (fun _ _ => rfl) _ _, trivial⟩⟩) ?_
  unfold F_impl_indexOf at h
  unfold L_impl_indexOf_x6 at h
  unfold L_impl_indexOf_x28 at h
  have hf_impl_EmptyIndex := @run_impl_EmptyIndex
  have hf_impl_buckets := @run_impl_buckets
  generalize hLEN : @len = LEN at *
  generalize hGD : @gd = GD at *
  generalize hA : std = A at *
  generalize hP : Try.prog = P at *
  cbv
  replace h := of_bind h
  obtain ⟨y1, hy2, h⟩ := h
  refine ⟨{ args := [], o0 := [], r := .agg [.v (.slice none 0 0), .os 64000 0 (LEN y1.fBuckets)], o1 := [(64000, .arr .rw [] (LEN y1.fBuckets) 1 (row GD (oncL LEN GD 1 (encI .i64)) y1.fBuckets))], fl := true, σ := [], τ := [(64000, 512)] }, hf_impl_EmptyIndex  _ hy2, ⟨les_nil, trivial, rfl, rfl, rfl, rfl, ⟨fun h => absurd (show (64000 : Nat) % 2 = 1 from h) (by decide), trivial⟩, rfl⟩, _, rfl, _, _, rfl, fun _ _ _ _ => rfl, ?_⟩
  cbv
  replace h := of_bind h
  obtain ⟨y7, hr8, hN9⟩ := h
  refine loop_cut hr8 (fun x => (sparse 45 [(2, .c (.ptr 128 0)), (3, .c (.ptr 192 0)), (9, .c (.bs (LEN a0) 5 (row GD (encSpatialEntry) a0))), (10, .c (.v (.int .i64 (A.ofN (LEN a0))))), (11, .c (.v (.int .i64 x.1)))] [(128, .var [.v (.slice none 0 0), .v (.slice none 0 0)]), (192, .var [.os 1216 0 (LEN x.2.1), .os 512 0 (LEN y1.fBuckets)]), (1216, .arr .rw [] (LEN x.2.1) 5 (row GD (encSpatialEntry) x.2.1)), (512, .arr .rw [] (LEN y1.fBuckets) 1 (row GD (oncL LEN GD 1 (encI .i64)) x.2.2))])) ?_ (fun y e s => (fun (w : (List TSpatialEntry) × (List (List Int))) => e = .exit 0 ∧ s.le (sparse 45 [(2, .c (.ptr 128 0)), (3, .c (.ptr 192 0))] [(128, .var [.v (.slice none 0 0), .v (.slice none 0 0)]), (192, .var [.os 1216 0 (LEN w.1), .os 512 0 (LEN y1.fBuckets)]), (1216, .arr .rw [] (LEN w.1) 5 (row GD (encSpatialEntry) w.1)), (512, .arr .rw [] (LEN y1.fBuckets) 1 (row GD (oncL LEN GD 1 (encI .i64)) w.2))])) y) ?_ ?_
  · clear hr8 hN9
    show St.le _ _
    refine St.le_trans (le_nilV 192 0 1216 5 (row GD (encSpatialEntry) ([] : List TSpatialEntry)) (by decide) (by decide) rfl rfl) ?_
    subst hLEN
    exact le_sparse rfl ⟨AV.le_refl _, AV.le_refl _, AV.le_refl _, AV.le_refl _, AV.le_refl _, trivial⟩ ⟨rfl, rfl, ⟨fun hw => hw, fun c hc => (by cases hc), .inl rfl, rfl, rfl, fun i hi j hj => rfl⟩, ⟨fun hw => hw, fun c hc => (by cases hc), .inl rfl, rfl, rfl, fun i hi j hj => rfl⟩, trivial⟩ rfl
  · clear hr8 hN9
    intro x z13 h K11 hK12 hY10
    obtain ⟨x0_, x1_, x2_⟩ := x
    replace h := of_let h
    obtain ⟨v3, hv3, h⟩ := h
    have hv3 : v3 = x0_ := hv3
    subst hv3
    replace h := of_let h
    obtain ⟨v4, hv4, h⟩ := h
    have hv4 : v4 = x1_ := hv4
    subst hv4
    replace h := of_let h
    obtain ⟨v5, hv5, h⟩ := h
    have hv5 : v5 = x2_ := hv5
    subst hv5
    cbv
    refine fork (fun b59 => ?_) (fun b59 => ?_)
    · replace h := of_br_t b59 h
      cbv
      replace h := of_req h
      obtain ⟨c18, h⟩ := h
      refine ⟨⟨c18, trivial⟩, ?_⟩
      replace h := of_let h
      obtain ⟨l19, hl19, h⟩ := h
      have e20 : 1 = LEN l19 := by subst hl19 hLEN; rfl
      refine ⟨_, congrArg (fun n => AV.c (AC.os 1152 0 n)) e20, _, row GD (encSpatialEntry) l19, e20, ?_, ?_⟩
      · intro i hi j hj
        rw [← e20] at hi
        subst hl19
        subst hGD
        obtain rfl : i = 0 := (by omega) <;> obtain rfl | rfl | rfl | rfl | rfl : j = 0 ∨ j = 1 ∨ j = 2 ∨ j = 3 ∨ j = 4 := (by omega)
        all_goals rfl
      cbv
      replace h := of_req h
      obtain ⟨c23, h⟩ := h
      replace h := of_let h
      obtain ⟨l21, hl21, h⟩ := h
      have e22 : A.nadd (LEN v4) (LEN l19) = LEN l21 := by subst hl21 hLEN hA; simp [std, len]
      refine ⟨c23, _, congrArg (fun n => AV.c (AC.os 1216 0 n)) e22, _, row GD (encSpatialEntry) l21, e22, ?_, ?_⟩
      · subst hGD hLEN hA
        exact app_os (off := 0) (pl_encSpatialEntry) hl21 (Nat.le_refl _)
      cbv
      replace h := of_bind h
      obtain ⟨y24, hy25, h⟩ := h
      refine ⟨{ args := [.agg [.v (.int .i64 (GD a0 (A.toN v3)).fBox.fX0), .v (.int .i64 (GD a0 (A.toN v3)).fBox.fY0), .v (.int .i64 (GD a0 (A.toN v3)).fBox.fX1), .v (.int .i64 (GD a0 (A.toN v3)).fBox.fY1)]], o0 := [], r := .c (.os 64000 0 (LEN y24)), o1 := [(64000, .arr .rw [] (LEN y24) 1 (row GD (encI .i64) y24))], fl := true, σ := [], τ := [(64000, 1472)] }, hf_impl_buckets _ _ hy25, ⟨les_cons (AV.le_refl _) (les_nil), trivial, rfl, rfl, rfl, rfl, ⟨fun h => absurd (show (64000 : Nat) % 2 = 1 from h) (by decide), trivial⟩, rfl⟩, _, rfl, _, _, rfl, fun _ _ _ _ => rfl, ?_⟩
      cbv
      replace h := of_bind h
      obtain ⟨y29, hr30, hN31⟩ := h
      refine loop_cut hr30 (fun x => (sparse 45 [(2, .c (.ptr 128 0)), (3, .c (.ptr 192 0)), (5, .c (.ptr 320 0)), (9, .c (.bs (LEN a0) 5 (row GD (encSpatialEntry) a0))), (10, .c (.v (.int .i64 (A.ofN (LEN a0))))), (11, .c (.v (.int .i64 v3))), (23, .c (.os 1472 0 (LEN y24))), (24, .c (.v (.int .i64 (A.ofN (LEN y24))))), (25, .c (.v (.int .i64 x.1)))] [(128, .var [.v (.slice none 0 0), .v (.slice none 0 0)]), (192, .var [.os 1216 0 (LEN l21), .os 512 0 (LEN y1.fBuckets)]), (320, .var [.v (.int .i64 (GD a0 (A.toN v3)).fId), .v (.int .i64 (GD a0 (A.toN v3)).fBox.fX0), .v (.int .i64 (GD a0 (A.toN v3)).fBox.fY0), .v (.int .i64 (GD a0 (A.toN v3)).fBox.fX1), .v (.int .i64 (GD a0 (A.toN v3)).fBox.fY1)]), (1472, .arr .rw [] (LEN y24) 1 (row GD (encI .i64) y24)), (1216, .arr .rw [] (LEN l21) 5 (row GD (encSpatialEntry) l21)), (512, .arr .rw [] (LEN y1.fBuckets) 1 (row GD (oncL LEN GD 1 (encI .i64)) x.2))])) ?_ (fun y e s => (fun (w : (List (List Int))) => e = .exit 2 ∧ s.le (sparse 45 [(2, .c (.ptr 128 0)), (3, .c (.ptr 192 0)), (9, .c (.bs (LEN a0) 5 (row GD (encSpatialEntry) a0))), (10, .c (.v (.int .i64 (A.ofN (LEN a0))))), (11, .c (.v (.int .i64 v3)))] [(128, .var [.v (.slice none 0 0), .v (.slice none 0 0)]), (192, .var [.os 1216 0 (LEN l21), .os 512 0 (LEN y1.fBuckets)]), (1216, .arr .rw [] (LEN l21) 5 (row GD (encSpatialEntry) l21)), (512, .arr .rw [] (LEN y1.fBuckets) 1 (row GD (oncL LEN GD 1 (encI .i64)) w))])) y) ?_ ?_
      · clear hr30 hN31
        show St.le _ _
        exact le_sparse rfl ⟨AV.le_refl _, AV.le_refl _, AV.le_refl _, AV.le_refl _, AV.le_refl _, AV.le_refl _, AV.le_refl _, AV.le_refl _, AV.le_refl _, trivial⟩ ⟨rfl, rfl, rfl, ⟨fun hw => hw, fun c hc => (by cases hc), .inl rfl, rfl, rfl, fun i hi j hj => rfl⟩, ⟨fun hw => hw, fun c hc => (by cases hc), .inl rfl, rfl, rfl, fun i hi j hj => rfl⟩, ⟨fun hw => hw, fun c hc => (by cases hc), .inl rfl, rfl, rfl, fun i hi j hj => rfl⟩, trivial⟩ rfl
      · clear hr30 hN31
        intro x z35 h K33 hK34 hY32
        obtain ⟨x0_, x1_⟩ := x
        replace h := of_let h
        obtain ⟨v26, hv26, h⟩ := h
        have hv26 : v26 = x0_ := hv26
        subst hv26
        replace h := of_let h
        obtain ⟨v27, hv27, h⟩ := h
        have hv27 : v27 = x1_ := hv27
        subst hv27
        cbv
        refine fork (fun b57 => ?_) (fun b57 => ?_)
        · replace h := of_br_t b57 h
          cbv
          replace h := of_req h
          obtain ⟨c40, h⟩ := h
          refine ⟨⟨c40, trivial⟩, ?_⟩
          refine And.intro (by first | exact (by subst hA; exact idx_lt c40) | (refine And.intro (by subst hA; exact idx_lt c40) ?_; first | trivial | exact ⟨trivial, trivial⟩)) ?_
          replace h := of_bind h
          obtain ⟨y41, hy42, h⟩ := h
          obtain ⟨S45, hS46⟩ : ∃ S, S = (sparse 45 [(2, .c (.ptr 128 0)), (3, .c (.ptr 192 0)), (5, .c (.ptr 320 0)), (9, .c (.bs (LEN a0) 5 (row GD (encSpatialEntry) a0))), (10, .c (.v (.int .i64 (A.ofN (LEN a0))))), (11, .c (.v (.int .i64 v3))), (23, .c (.os 1472 0 (LEN y24))), (24, .c (.v (.int .i64 (A.ofN (LEN y24))))), (25, .c (.v (.int .i64 v26)))] [(128, .var [.v (.slice none 0 0), .v (.slice none 0 0)]), (192, .var [.os 1216 0 (LEN l21), .os 512 0 (LEN y1.fBuckets)]), (320, .var [.v (.int .i64 (GD a0 (A.toN v3)).fId), .v (.int .i64 (GD a0 (A.toN v3)).fBox.fX0), .v (.int .i64 (GD a0 (A.toN v3)).fBox.fY0), .v (.int .i64 (GD a0 (A.toN v3)).fBox.fX1), .v (.int .i64 (GD a0 (A.toN v3)).fBox.fY1)]), (1472, .arr .rw [] (LEN y24) 1 (row GD (encI .i64) y24)), (1216, .arr .rw [] (LEN l21) 5 (row GD (encSpatialEntry) l21)), (512, .arr .rw [] (LEN y1.fBuckets) 1 (row GD (oncL LEN GD 1 (encI .i64)) y41))]) := ⟨_, rfl⟩
          refine ⟨S45, ?_, ?_⟩
          · clear h
            have h := hy42
            clear hy42
            cbv
            replace h := of_req h
            obtain ⟨c48, h⟩ := h
            refine ⟨⟨c48, trivial⟩, ?_⟩
            refine And.intro (by first | exact (by subst hA; exact idx_lt c48) | (refine And.intro (by subst hA; exact idx_lt c48) ?_; first | trivial | exact ⟨trivial, trivial⟩)) ?_
            refine ⟨_, rfl, _, (patchC (row GD (oncL LEN GD 1 (encI .i64)) v27) (A.nadd 0 (A.toN (GD y24 (A.nadd 0 (A.toN v26))))) [.os 2306 0 (LEN (GD v27 (A.nadd 0 (A.toN (GD y24 (A.nadd 0 (A.toN v26)))))))]), rfl, ?_, ?_⟩
            · refine patch_of ?_
              intro j hj
              match j, hj with | 0, _ => (rfl) | (j_ + 1), h_ => exact absurd h_ (by omega)
            refine ⟨_, row GD (encI .i64) (GD v27 (A.nadd 0 (A.toN (GD y24 (A.nadd 0 (A.toN v26)))))), rfl, ?_, ?_⟩
            · exact fun i _ j _ => plain_cp (rfl)
            cbv
            replace h := of_let h
            obtain ⟨l49, hl49, h⟩ := h
            have e50 : 1 = LEN l49 := by subst hl49 hLEN; rfl
            refine ⟨_, congrArg (fun n => AV.c (AC.os 2496 0 n)) e50, _, row GD (encI .i64) l49, e50, ?_, ?_⟩
            · intro i hi j hj
              rw [← e50] at hi
              subst hl49
              subst hGD
              obtain rfl : i = 0 := (by omega)
              all_goals obtain rfl : j = 0 := by omega
              all_goals rfl
            cbv
            replace h := of_req h
            obtain ⟨c53, h⟩ := h
            replace h := of_let h
            obtain ⟨l51, hl51, h⟩ := h
            have e52 : A.nadd (LEN (GD v27 (A.nadd 0 (A.toN (GD y24 (A.nadd 0 (A.toN v26))))))) (LEN l49) = LEN l51 := by subst hl51 hLEN hA; simp [std, len]
            refine ⟨c53, _, congrArg (fun n => AV.c (AC.os 2306 0 n)) e52, _, row GD (encI .i64) l51, e52, ?_, ?_⟩
            · subst hGD hLEN hA
              exact app_os (off := 0) (fun _ _ => rfl) hl51 (Nat.le_refl _)
            cbv
            replace h := of_req h
            obtain ⟨c54, h⟩ := h
            refine ⟨⟨c54, trivial⟩, ?_⟩
            refine And.intro (by first | exact (by subst hA; exact idx_lt c54) | (refine And.intro (by subst hA; exact idx_lt c54) ?_; first | trivial | exact ⟨trivial, trivial⟩)) ?_
            refine ⟨_, rfl, _, (patchC (row GD (oncL LEN GD 1 (encI .i64)) v27) (A.nadd 0 (A.toN (GD y24 (A.nadd 0 (A.toN v26))))) [.os 2306 0 (LEN l51)]), rfl, ?_, ?_⟩
            · first | refine patch_of2 ?_ | refine patch_of2K (fun _ _ => rfl) ?_
              intro j hj
              match j, hj with | 0, _ => (rfl) | (j_ + 1), h_ => exact absurd h_ (by omega)
            cbv
            replace h := of_req h
            obtain ⟨c56, h⟩ := h
            replace h := of_let h
            obtain ⟨l55, hl55, h⟩ := h
            injection h with h
            subst h
            subst hS46
            show St.le _ _
            refine St.le_trans (le_foldP 512 0 2306 rfl rfl rfl (by decide) (by subst hA; exact idx_lt c54) (by decide) rfl (fun _ _ => rfl)) ?_
            exact le_sparse rfl ⟨AV.le_refl _, AV.le_refl _, AV.le_refl _, AV.le_refl _, AV.le_refl _, AV.le_refl _, AV.le_refl _, AV.le_refl _, AV.le_refl _, trivial⟩ ⟨rfl, rfl, rfl, ⟨fun hw => hw, fun c hc => (by cases hc), .inl rfl, rfl, rfl, fun i hi j hj => rfl⟩, ⟨fun hw => hw, fun c hc => (by cases hc), .inl rfl, rfl, rfl, fun i hi j hj => rfl⟩, ⟨fun hw => hw, fun c hc => (by cases hc), .inr (fun i _ j _ z hz => (noref (rfl) hz).elim), rfl, rfl, (by subst hGD hLEN hA; exact patch_set hl55 (idx_lt (by rw [← c56]; exact c54)) (by intro j hj; match j, hj with | 0, _ => rfl | (j_ + 1), h_ => exact absurd h_ (by omega)))⟩, trivial⟩ rfl
          · clear hy42
            subst hS46
            replace h := of_let h
            obtain ⟨w47, hw47, h⟩ := h
            have hw47 : w47 = y41 := hw47
            subst hw47
            cbv
            injection h with h
            refine hK34 _ h.symm _ ?_
            exact le_sparse rfl ⟨AV.le_refl _, AV.le_refl _, AV.le_refl _, AV.le_refl _, AV.le_refl _, AV.le_refl _, AV.le_refl _, AV.le_refl _, AV.le_refl _, trivial⟩ ⟨rfl, rfl, rfl, ⟨fun hw => hw, fun c hc => (by cases hc), .inl rfl, rfl, rfl, fun i hi j hj => rfl⟩, ⟨fun hw => hw, fun c hc => (by cases hc), .inl rfl, rfl, rfl, fun i hi j hj => rfl⟩, ⟨fun hw => hw, fun c hc => (by cases hc), .inl rfl, rfl, rfl, fun i hi j hj => rfl⟩, trivial⟩ rfl
        · replace h := of_br_f b57 h
          cbv
          injection h with h
          refine hY32 _ h.symm _ _ (And.intro rfl ?_) (by intro hh; cases hh)
          exact le_sparse rfl ⟨AV.le_refl _, AV.le_refl _, AV.le_refl _, AV.le_refl _, AV.le_refl _, trivial⟩ ⟨rfl, rfl, ⟨fun hw => hw, fun c hc => (by cases hc), .inl rfl, rfl, rfl, fun i hi j hj => rfl⟩, ⟨fun hw => hw, fun c hc => (by cases hc), .inl rfl, rfl, rfl, fun i hi j hj => rfl⟩, trivial⟩ rfl
      · clear hr30
        have h := hN31
        clear hN31
        intro e38 s39 q37 hne
        replace h := of_let h
        obtain ⟨y29k0, hyk, h⟩ := h
        have hyk : y29k0 = y29 := hyk
        subst hyk
        obtain ⟨rfl, q37⟩ := q37
        replace h := of_let h
        obtain ⟨w58, hw58, h⟩ := h
        have hw58 : w58 = y29k0 := hw58
        subst hw58
        cbv
        refine ⟨_, q37, ?_⟩
        cbv
        injection h with h
        refine hK12 _ h.symm _ ?_
        exact le_sparse rfl ⟨AV.le_refl _, AV.le_refl _, AV.le_refl _, AV.le_refl _, AV.le_refl _, trivial⟩ ⟨rfl, rfl, ⟨fun hw => hw, fun c hc => (by cases hc), .inl rfl, rfl, rfl, fun i hi j hj => rfl⟩, ⟨fun hw => hw, fun c hc => (by cases hc), .inl rfl, rfl, rfl, fun i hi j hj => rfl⟩, trivial⟩ rfl
    · replace h := of_br_f b59 h
      cbv
      injection h with h
      refine hY10 _ h.symm _ _ (And.intro rfl ?_) (by intro hh; cases hh)
      exact le_sparse rfl ⟨AV.le_refl _, AV.le_refl _, trivial⟩ ⟨rfl, rfl, ⟨fun hw => hw, fun c hc => (by cases hc), .inl rfl, rfl, rfl, fun i hi j hj => rfl⟩, ⟨fun hw => hw, fun c hc => (by cases hc), .inl rfl, rfl, rfl, fun i hi j hj => rfl⟩, trivial⟩ rfl
  · clear hr8
    have h := hN9
    clear hN9
    intro e16 s17 q15 hne
    replace h := of_let h
    obtain ⟨y7k0, hyk, h⟩ := h
    have hyk : y7k0 = y7 := hyk
    subst hyk
    obtain ⟨rfl, q15⟩ := q15
    obtain ⟨y7k0_0, y7k0_1⟩ := y7k0
    replace h := of_let h
    obtain ⟨w60, hw60, h⟩ := h
    have hw60 : w60 = y7k0_0 := hw60
    subst hw60
    replace h := of_let h
    obtain ⟨w61, hw61, h⟩ := h
    have hw61 : w61 = y7k0_1 := hw61
    subst hw61
    cbv
    refine ⟨_, q15, ?_⟩
    cbv
    replace h := of_req h
    obtain ⟨c62, h⟩ := h
    injection h with h
    subst h
    refine ⟨(sparse 45 [(2, .c (.ptr 128 0))] [(128, .var [.os 64000 0 (LEN w60), .os 64002 0 (LEN w61)]), (64000, .arr .rw [] (LEN w60) 5 (row GD (encSpatialEntry) w60)), (64002, .arr .rw [] (LEN w61) 1 (row GD (oncL LEN GD 1 (encI .i64)) w61))]), ?_, ?_⟩
    · refine St.le_trans (le_ren 1216 64000 (by decide) rfl) ?_
      refine St.le_trans (le_ren 512 64002 (by decide) rfl) ?_
      rw [c62]
      exact le_sparse rfl ⟨AV.le_refl _, trivial⟩ ⟨rfl, ⟨fun hw => hw, fun c hc => (by cases hc), .inl rfl, rfl, rfl, fun i hi j hj => rfl⟩, ⟨fun hw => hw, fun c hc => (by cases hc), .inl rfl, rfl, rfl, fun i hi j hj => rfl⟩, trivial⟩ rfl
    · exact ⟨AV.le_refl _, ⟨⟨fun hw => hw, fun c hc => (by cases hc), .inl rfl, rfl, rfl, fun i hi j hj => rfl⟩, ⟨fun hw => hw, fun c hc => (by cases hc), .inl rfl, rfl, rfl, fun i hi j hj => rfl⟩, trivial⟩, rfl⟩

noncomputable def L_slices_Equal_Lint64_int64_x2 (a0 : List Int) (a1 : List Int) : (Int) → Option ((Int) ⊕ ((Unit) ⊕ (Unit))) := fun x2 =>
  letO x2 fun v1 =>
  br (std.lt v1 (std.ofN (len a0)))
  (req (std.inR v1 (len a0)) <|
  req (std.inR v1 (len a1)) <|
  br (std.not (std.eq (gd a0 (std.toN v1)) (gd a1 (std.toN v1))))
  (some (.inr (.inl ())))
  (some (.inl (std.add .i64 v1 1))))
  (some (.inr (.inr ())))
/-- slices.Equal[[]int64,int64] -/
noncomputable def F_slices_Equal_Lint64_int64 (a0 : List Int) (a1 : List Int) : Option (Bool) :=
  br (std.not (std.eq (std.ofN (len a0)) (std.ofN (len a1))))
  (some false)
  ((whileP (σ := Int) (ρ := (Unit) ⊕ (Unit)) (L_slices_Equal_Lint64_int64_x2 a0 a1) 0).bind fun y3 =>
  (match y3 with
    | .inl y3k0 => (
        some false)
    | .inr y3m0 =>
        some true))
theorem run_slices_Equal_Lint64_int64 (a0 : List Int) (a1 : List Int) (r : Bool) (h : F_slices_Equal_Lint64_int64 a0 a1 = some r) : Fun Try.prog 165 [.c (.bs (len a0) 1 (row gd (encI .i64) a0)), .c (.bs (len a1) 1 (row gd (encI .i64) a1))] [] (.c (.v (.bool r))) [] true := by
  refine Fun.of_wp (oneOf []) tok mixed Try.func165 (by kernel_rfl) rfl Try.ntmps165 rfl trivial (fun _ => ⟨trivial, trivial⟩) ?_
  unfold F_slices_Equal_Lint64_int64 at h
  unfold L_slices_Equal_Lint64_int64_x2 at h
  generalize hLEN : @len = LEN at *
  generalize hGD : @gd = GD at *
  generalize hA : std = A at *
  generalize hP : Try.prog = P at *
  cbv
  refine fork (fun b18 => ?_) (fun b18 => ?_)
  · replace h := of_br_t b18 h
    cbv
    injection h with h
    subst h
    refine ⟨(sparse 26 [(4, .c (.v (.bool false)))] []), ?_, ?_⟩
    · exact le_sparse rfl ⟨AV.le_refl _, trivial⟩ trivial rfl
    · exact ⟨AV.le_refl _, trivial, rfl⟩
  · replace h := of_br_f b18 h
    cbv
    replace h := of_bind h
    obtain ⟨y3, hr4, hN5⟩ := h
    refine loop_cut hr4 (fun x => (sparse 26 [(0, .c (.bs (LEN a0) 1 (row GD (encI .i64) a0))), (1, .c (.bs (LEN a1) 1 (row GD (encI .i64) a1))), (12, .c (.v (.int .i64 (A.ofN (LEN a0))))), (13, .c (.v (.int .i64 x)))] [])) ?_ (fun y e s => (match y with | .inl w => e = .ret ∧ s.le (sparse 26 [(4, .c (.v (.bool false)))] []) | .inr w0 => (fun (w : Unit) => e = .exit 0 ∧ s.le (sparse 26 [] [])) w0)) ?_ ?_
    · clear hr4 hN5
      show St.le _ _
      exact le_sparse rfl ⟨AV.le_refl _, AV.le_refl _, AV.le_refl _, AV.le_refl _, trivial⟩ trivial rfl
    · clear hr4 hN5
      intro x z9 h K7 hK8 hY6
      replace h := of_let h
      obtain ⟨v1, hv1, h⟩ := h
      have hv1 : v1 = x := hv1
      subst hv1
      cbv
      refine fork (fun b17 => ?_) (fun b17 => ?_)
      · replace h := of_br_t b17 h
        cbv
        replace h := of_req h
        obtain ⟨c14, h⟩ := h
        refine ⟨⟨c14, trivial⟩, ?_⟩
        replace h := of_req h
        obtain ⟨c15, h⟩ := h
        refine ⟨⟨c15, trivial⟩, ?_⟩
        refine fork (fun b16 => ?_) (fun b16 => ?_)
        · replace h := of_br_t b16 h
          cbv
          injection h with h
          refine hY6 _ h.symm _ _ (And.intro rfl ?_) (by intro hh; cases hh)
          exact le_sparse rfl ⟨AV.le_refl _, trivial⟩ trivial rfl
        · replace h := of_br_f b16 h
          cbv
          injection h with h
          refine hK8 _ h.symm _ ?_
          exact le_sparse rfl ⟨AV.le_refl _, AV.le_refl _, AV.le_refl _, AV.le_refl _, trivial⟩ trivial rfl
      · replace h := of_br_f b17 h
        cbv
        injection h with h
        refine hY6 _ h.symm _ _ (And.intro rfl ?_) (by intro hh; cases hh)
        exact le_sparse rfl trivial trivial rfl
    · clear hr4
      have h := hN5
      clear hN5
      intro e12 s13 q11 hne
      rcases y3 with y3k0 | y3m0
      · replace h := h
        obtain ⟨rfl, q11⟩ := q11
        cbv
        injection h with h
        subst h
        refine ⟨(sparse 26 [(4, .c (.v (.bool false)))] []), ?_, ?_⟩
        · refine St.le_trans q11 ?_
          exact le_sparse rfl ⟨AV.le_refl _, trivial⟩ trivial rfl
        · exact ⟨AV.le_refl _, trivial, rfl⟩
      · obtain ⟨rfl, q11⟩ := q11
        cbv
        refine ⟨_, q11, ?_⟩
        cbv
        injection h with h
        subst h
        refine ⟨(sparse 26 [(4, .c (.v (.bool true)))] []), ?_, ?_⟩
        · exact le_sparse rfl ⟨AV.le_refl _, trivial⟩ trivial rfl
        · exact ⟨AV.le_refl _, trivial, rfl⟩

/-- impl.IsValidIndex$1 -/
noncomputable def F_impl_IsValidIndex_1 (a0 : List Int) (a1 : List Int) : Option (Bool) :=
  (F_slices_Equal_Lint64_int64 a0 a1).bind fun y1 =>
  some y1
theorem run_impl_IsValidIndex_1 (a0 : List Int) (a1 : List Int) (r : Bool) (h : F_impl_IsValidIndex_1 a0 a1 = some r) : Fun Try.prog 164 [.c (.bs (len a0) 1 (row gd (encI .i64) a0)), .c (.bs (len a1) 1 (row gd (encI .i64) a1))] [] (.c (.v (.bool r))) [] true := by
  refine Fun.of_wp (oneOf []) tok mixed Try.func164 (by kernel_rfl) rfl Try.ntmps164 rfl trivial (fun _ => ⟨trivial, trivial⟩) ?_
  unfold F_impl_IsValidIndex_1 at h
  have hf_slices_Equal_Lint64_int64 := @run_slices_Equal_Lint64_int64
  generalize hLEN : @len = LEN at *
  generalize hGD : @gd = GD at *
  generalize hA : std = A at *
  generalize hP : Try.prog = P at *
  cbv
  replace h := of_bind h
  obtain ⟨y1, hy2, h⟩ := h
  refine ⟨{ args := [.c (.bs (LEN a0) 1 (row GD (encI .i64) a0)), .c (.bs (LEN a1) 1 (row GD (encI .i64) a1))], o0 := [], r := .c (.v (.bool y1)), o1 := [], fl := true, σ := [], τ := [] }, hf_slices_Equal_Lint64_int64 _ _ _ hy2, ⟨les_cons (AV.le_refl _) (les_cons (AV.le_refl _) (les_nil)), trivial, rfl, rfl, rfl, rfl, trivial, rfl⟩, ?_⟩
  cbv
  injection h with h
  subst h
  refine ⟨(sparse 8 [(4, .c (.v (.bool y1)))] []), ?_, ?_⟩
  · exact le_sparse rfl ⟨AV.le_refl _, trivial⟩ trivial rfl
  · exact ⟨AV.le_refl _, trivial, rfl⟩

noncomputable def L_slices_EqualFunc_LLint64_LLint64_Lint64_Lint64_mbbFimpl_IsValidIndex_1_x2 (a0 : List (List Int)) (a1 : List (List Int)) : (Int) → Option ((Int) ⊕ ((Unit) ⊕ (Unit))) := fun x2 =>
  letO x2 fun v1 =>
  br (std.lt v1 (std.ofN (len a0)))
  (req (std.inR v1 (len a0)) <|
  req (std.inR v1 (len a1)) <|
  (F_impl_IsValidIndex_1 (gd a0 (std.toN v1)) (gd a1 (std.toN v1))).bind fun y16 =>
  br (!(y16))
  (some (.inr (.inl ())))
  (some (.inl (std.add .i64 v1 1))))
  (some (.inr (.inr ())))
/-- slices.EqualFunc[[][]int64,[][]int64,[]int64,[]int64] -/
noncomputable def F_slices_EqualFunc_LLint64_LLint64_Lint64_Lint64_mbbFimpl_IsValidIndex_1 (a0 : List (List Int)) (a1 : List (List Int)) : Option (Bool) :=
  br (std.not (std.eq (std.ofN (len a0)) (std.ofN (len a1))))
  (some false)
  ((whileP (σ := Int) (ρ := (Unit) ⊕ (Unit)) (L_slices_EqualFunc_LLint64_LLint64_Lint64_Lint64_mbbFimpl_IsValidIndex_1_x2 a0 a1) 0).bind fun y3 =>
  (match y3 with
    | .inl y3k0 => (
        some false)
    | .inr y3m0 =>
        some true))
theorem run_slices_EqualFunc_LLint64_LLint64_Lint64_Lint64_mbbFimpl_IsValidIndex_1 (a0 : List (List Int)) (a1 : List (List Int)) (r : Bool) (h : F_slices_EqualFunc_LLint64_LLint64_Lint64_Lint64_mbbFimpl_IsValidIndex_1 a0 a1 = some r) : Fun Try.prog 163 [.c (.bs (len a0) 1 (row gd (encL len gd 1 (encI .i64)) a0)), .c (.bs (len a1) 1 (row gd (encL len gd 1 (encI .i64)) a1)), .c (.fn 164 0 fun _ => .junk)] [] (.c (.v (.bool r))) [] true := by
  refine Fun.of_wp (oneOf []) tok mixed Try.func163 (by kernel_rfl) rfl Try.ntmps163 rfl trivial (fun _ => ⟨trivial, trivial⟩) ?_
  unfold F_slices_EqualFunc_LLint64_LLint64_Lint64_Lint64_mbbFimpl_IsValidIndex_1 at h
  unfold L_slices_EqualFunc_LLint64_LLint64_Lint64_Lint64_mbbFimpl_IsValidIndex_1_x2 at h
  have hf_impl_IsValidIndex_1 := @run_impl_IsValidIndex_1
  generalize hLEN : @len = LEN at *
  generalize hGD : @gd = GD at *
  generalize hA : std = A at *
  generalize hP : Try.prog = P at *
  cbv
  refine fork (fun b20 => ?_) (fun b20 => ?_)
  · replace h := of_br_t b20 h
    cbv
    injection h with h
    subst h
    refine ⟨(sparse 32 [(6, .c (.v (.bool false)))] []), ?_, ?_⟩
    · exact le_sparse rfl ⟨AV.le_refl _, trivial⟩ trivial rfl
    · exact ⟨AV.le_refl _, trivial, rfl⟩
  · replace h := of_br_f b20 h
    cbv
    replace h := of_bind h
    obtain ⟨y3, hr4, hN5⟩ := h
    refine loop_cut hr4 (fun x => (sparse 32 [(1, .c (.bs (LEN a1) 1 (row GD (encL LEN GD 1 (encI .i64)) a1))), (2, .c (.fn 164 0 fun _ => .junk)), (15, .c (.bs (LEN a0) 1 (row GD (encL LEN GD 1 (encI .i64)) a0))), (16, .c (.v (.int .i64 (A.ofN (LEN a0))))), (17, .c (.v (.int .i64 x)))] [])) ?_ (fun y e s => (match y with | .inl w => e = .ret ∧ s.le (sparse 32 [(6, .c (.v (.bool false)))] []) | .inr w0 => (fun (w : Unit) => e = .exit 0 ∧ s.le (sparse 32 [] [])) w0)) ?_ ?_
    · clear hr4 hN5
      show St.le _ _
      exact le_sparse rfl ⟨AV.le_refl _, AV.le_refl _, AV.le_refl _, AV.le_refl _, AV.le_refl _, trivial⟩ trivial rfl
    · clear hr4 hN5
      intro x z9 h K7 hK8 hY6
      replace h := of_let h
      obtain ⟨v1, hv1, h⟩ := h
      have hv1 : v1 = x := hv1
      subst hv1
      cbv
      refine fork (fun b19 => ?_) (fun b19 => ?_)
      · replace h := of_br_t b19 h
        cbv
        replace h := of_req h
        obtain ⟨c14, h⟩ := h
        refine ⟨⟨c14, trivial⟩, ?_⟩
        replace h := of_req h
        obtain ⟨c15, h⟩ := h
        refine ⟨⟨c15, trivial⟩, ?_⟩
        replace h := of_bind h
        obtain ⟨y16, hy17, h⟩ := h
        refine ⟨{ args := [.c (.bs (LEN (GD a0 (A.toN v1))) 1 (row GD (encI .i64) (GD a0 (A.toN v1)))), .c (.bs (LEN (GD a1 (A.toN v1))) 1 (row GD (encI .i64) (GD a1 (A.toN v1))))], o0 := [], r := .c (.v (.bool y16)), o1 := [], fl := true, σ := [], τ := [] }, hf_impl_IsValidIndex_1 _ _ _ hy17, ⟨les_cons (AV.le_refl _) (les_cons (AV.le_refl _) (les_nil)), trivial, rfl, rfl, rfl, rfl, trivial, rfl⟩, ?_⟩
        cbv
        refine fork (fun b18 => ?_) (fun b18 => ?_)
        · replace h := of_br_t b18 h
          cbv
          injection h with h
          refine hY6 _ h.symm _ _ (And.intro rfl ?_) (by intro hh; cases hh)
          exact le_sparse rfl ⟨AV.le_refl _, trivial⟩ trivial rfl
        · replace h := of_br_f b18 h
          cbv
          injection h with h
          refine hK8 _ h.symm _ ?_
          exact le_sparse rfl ⟨AV.le_refl _, AV.le_refl _, AV.le_refl _, AV.le_refl _, AV.le_refl _, trivial⟩ trivial rfl
      · replace h := of_br_f b19 h
        cbv
        injection h with h
        refine hY6 _ h.symm _ _ (And.intro rfl ?_) (by intro hh; cases hh)
        exact le_sparse rfl trivial trivial rfl
    · clear hr4
      have h := hN5
      clear hN5
      intro e12 s13 q11 hne
      rcases y3 with y3k0 | y3m0
      · replace h := h
        obtain ⟨rfl, q11⟩ := q11
        cbv
        injection h with h
        subst h
        refine ⟨(sparse 32 [(6, .c (.v (.bool false)))] []), ?_, ?_⟩
        · refine St.le_trans q11 ?_
          exact le_sparse rfl ⟨AV.le_refl _, trivial⟩ trivial rfl
        · exact ⟨AV.le_refl _, trivial, rfl⟩
      · obtain ⟨rfl, q11⟩ := q11
        cbv
        refine ⟨_, q11, ?_⟩
        cbv
        injection h with h
        subst h
        refine ⟨(sparse 32 [(6, .c (.v (.bool true)))] []), ?_, ?_⟩
        · exact le_sparse rfl ⟨AV.le_refl _, trivial⟩ trivial rfl
        · exact ⟨AV.le_refl _, trivial, rfl⟩

noncomputable def L_impl_IsValidIndex_x2 (a0 : TSpatialIndex) : (Int) → Option ((Int) ⊕ ((Unit) ⊕ (Unit))) := fun x2 =>
  letO x2 fun v1 =>
  br (std.lt v1 (std.ofN (len a0.fEntries)))
  (req (std.inR v1 (len a0.fEntries)) <|
  ((
        (F_impl_within (gd a0.fEntries (std.toN v1)).fId 1 9999).bind fun y22 =>
        br (!(y22))
        (some true)
        ((F_impl_IsValidRect (gd a0.fEntries (std.toN v1)).fBox).bind fun y24 =>
        br (!(y24))
        (some true)
        (br (std.lt 0 v1)
        (req (std.inR (std.sub .i64 v1 1) (len a0.fEntries)) <|
        some (std.le (gd a0.fEntries (std.toN v1)).fId (gd a0.fEntries (std.toN (std.sub .i64 v1 1))).fId))
        (some false)))
    ) : Option (Bool)).bind fun y15 =>
  letO y15 fun w21 =>
  br w21
  (some (.inr (.inl ())))
  (some (.inl (std.add .i64 v1 1))))
  (some (.inr (.inr ())))
/-- impl.IsValidIndex -/
noncomputable def F_impl_IsValidIndex (a0 : TSpatialIndex) : Option (Bool) :=
  br (std.lt 40 (std.ofN (len a0.fEntries)))
  (some false)
  ((whileP (σ := Int) (ρ := (Unit) ⊕ (Unit)) (L_impl_IsValidIndex_x2 a0) 0).bind fun y3 =>
  (match y3 with
    | .inl y3k0 => (
        some false)
    | .inr y3m0 =>
        (F_impl_indexOf a0.fEntries).bind fun y32 =>
        (F_slices_EqualFunc_LLint64_LLint64_Lint64_Lint64_mbbFimpl_IsValidIndex_1 a0.fBuckets y32.fBuckets).bind fun y34 =>
        some y34))
theorem run_impl_IsValidIndex (a0 : TSpatialIndex) (r : Bool) (h : F_impl_IsValidIndex a0 = some r) : Fun Try.prog 96 [.agg [.bs (len a0.fEntries) 5 (row gd (encSpatialEntry) a0.fEntries), .bs (len a0.fBuckets) 1 (row gd (encL len gd 1 (encI .i64)) a0.fBuckets)]] [] (.c (.v (.bool r))) [] true := by
  refine Fun.of_wp (oneOf [6]) tok mixed Try.func96 (by kernel_rfl) rfl Try.ntmps96 rfl trivial (fun _ => ⟨trivial, trivial⟩) ?_
  unfold F_impl_IsValidIndex at h
  unfold L_impl_IsValidIndex_x2 at h
  have hf_impl_IsValidRect := @run_impl_IsValidRect
  have hf_impl_indexOf := @run_impl_indexOf
  have hf_impl_within := @run_impl_within
  have hf_slices_EqualFunc_LLint64_LLint64_Lint64_Lint64_mbbFimpl_IsValidIndex_1 := @run_slices_EqualFunc_LLint64_LLint64_Lint64_Lint64_mbbFimpl_IsValidIndex_1
  generalize hLEN : @len = LEN at *
  generalize hGD : @gd = GD at *
  generalize hA : std = A at *
  generalize hP : Try.prog = P at *
  cbv
  refine fork (fun b36 => ?_) (fun b36 => ?_)
  · replace h := of_br_t b36 h
    cbv
    injection h with h
    subst h
    refine ⟨(sparse 51 [(2, .c (.v (.bool false)))] []), ?_, ?_⟩
    · exact le_sparse rfl ⟨AV.le_refl _, trivial⟩ trivial rfl
    · exact ⟨AV.le_refl _, trivial, rfl⟩
  · replace h := of_br_f b36 h
    cbv
    replace h := of_bind h
    obtain ⟨y3, hr4, hN5⟩ := h
    refine loop_cut hr4 (fun x => (sparse 51 [(1, .c (.ptr 64 0)), (10, .c (.bs (LEN a0.fEntries) 5 (row GD (encSpatialEntry) a0.fEntries))), (11, .c (.v (.int .i64 (A.ofN (LEN a0.fEntries))))), (12, .c (.v (.int .i64 x)))] [(64, .var [.bs (LEN a0.fEntries) 5 (row GD (encSpatialEntry) a0.fEntries), .bs (LEN a0.fBuckets) 1 (row GD (encL LEN GD 1 (encI .i64)) a0.fBuckets)])])) ?_ (fun y e s => (match y with | .inl w => e = .ret ∧ s.le (sparse 51 [(2, .c (.v (.bool false)))] []) | .inr w0 => (fun (w : Unit) => e = .exit 0 ∧ s.le (sparse 51 [(1, .c (.ptr 64 0))] [(64, .var [.bs (LEN a0.fEntries) 5 (row GD (encSpatialEntry) a0.fEntries), .bs (LEN a0.fBuckets) 1 (row GD (encL LEN GD 1 (encI .i64)) a0.fBuckets)])])) w0)) ?_ ?_
    · clear hr4 hN5
      show St.le _ _
      exact le_sparse rfl ⟨AV.le_refl _, AV.le_refl _, AV.le_refl _, AV.le_refl _, trivial⟩ ⟨rfl, trivial⟩ rfl
    · clear hr4 hN5
      intro x z9 h K7 hK8 hY6
      replace h := of_let h
      obtain ⟨v1, hv1, h⟩ := h
      have hv1 : v1 = x := hv1
      subst hv1
      cbv
      refine fork (fun b31 => ?_) (fun b31 => ?_)
      · replace h := of_br_t b31 h
        cbv
        replace h := of_req h
        obtain ⟨c14, h⟩ := h
        refine ⟨⟨c14, trivial⟩, ?_⟩
        replace h := of_bind h
        obtain ⟨y15, hy16, h⟩ := h
        obtain ⟨S19, hS20⟩ : ∃ S, S = (sparse 51 [(1, .c (.ptr 64 0)), (10, .c (.bs (LEN a0.fEntries) 5 (row GD (encSpatialEntry) a0.fEntries))), (11, .c (.v (.int .i64 (A.ofN (LEN a0.fEntries))))), (12, .c (.v (.int .i64 v1))), (42, .c (.v (.bool y15)))] [(64, .var [.bs (LEN a0.fEntries) 5 (row GD (encSpatialEntry) a0.fEntries), .bs (LEN a0.fBuckets) 1 (row GD (encL LEN GD 1 (encI .i64)) a0.fBuckets)])]) := ⟨_, rfl⟩
        refine ⟨S19, ?_, ?_⟩
        · clear h
          have h := hy16
          clear hy16
          cbv
          replace h := of_bind h
          obtain ⟨y22, hy23, h⟩ := h
          refine ⟨{ args := [.c (.v (.int .i64 (GD a0.fEntries (A.toN v1)).fId)), .c (.v (.int .i64 1)), .c (.v (.int .i64 9999))], o0 := [], r := .c (.v (.bool y22)), o1 := [], fl := true, σ := [], τ := [] }, hf_impl_within _ _ _ _ hy23, ⟨les_cons (AV.le_refl _) (les_cons (AV.le_refl _) (les_cons (AV.le_refl _) (les_nil))), trivial, rfl, rfl, rfl, rfl, trivial, rfl⟩, ?_⟩
          cbv
          refine fork (fun b29 => ?_) (fun b29 => ?_)
          · replace h := of_br_t b29 h
            cbv
            injection h with h
            subst h
            subst hS20
            show St.le _ _
            exact le_sparse rfl ⟨AV.le_refl _, AV.le_refl _, AV.le_refl _, AV.le_refl _, AV.le_refl _, trivial⟩ ⟨rfl, trivial⟩ rfl
          · replace h := of_br_f b29 h
            cbv
            replace h := of_bind h
            obtain ⟨y24, hy25, h⟩ := h
            refine ⟨{ args := [.agg [.v (.int .i64 (GD a0.fEntries (A.toN v1)).fBox.fX0), .v (.int .i64 (GD a0.fEntries (A.toN v1)).fBox.fY0), .v (.int .i64 (GD a0.fEntries (A.toN v1)).fBox.fX1), .v (.int .i64 (GD a0.fEntries (A.toN v1)).fBox.fY1)]], o0 := [], r := .c (.v (.bool y24)), o1 := [], fl := true, σ := [], τ := [] }, hf_impl_IsValidRect _ _ hy25, ⟨les_cons (AV.le_refl _) (les_nil), trivial, rfl, rfl, rfl, rfl, trivial, rfl⟩, ?_⟩
            cbv
            refine fork (fun b28 => ?_) (fun b28 => ?_)
            · replace h := of_br_t b28 h
              cbv
              injection h with h
              subst h
              subst hS20
              show St.le _ _
              exact le_sparse rfl ⟨AV.le_refl _, AV.le_refl _, AV.le_refl _, AV.le_refl _, AV.le_refl _, trivial⟩ ⟨rfl, trivial⟩ rfl
            · replace h := of_br_f b28 h
              cbv
              refine fork (fun b27 => ?_) (fun b27 => ?_)
              · replace h := of_br_t b27 h
                cbv
                replace h := of_req h
                obtain ⟨c26, h⟩ := h
                refine ⟨⟨c26, trivial⟩, ?_⟩
                injection h with h
                subst h
                subst hS20
                show St.le _ _
                exact le_sparse rfl ⟨AV.le_refl _, AV.le_refl _, AV.le_refl _, AV.le_refl _, AV.le_refl _, trivial⟩ ⟨rfl, trivial⟩ rfl
              · replace h := of_br_f b27 h
                cbv
                injection h with h
                subst h
                subst hS20
                show St.le _ _
                exact le_sparse rfl ⟨AV.le_refl _, AV.le_refl _, AV.le_refl _, AV.le_refl _, AV.le_refl _, trivial⟩ ⟨rfl, trivial⟩ rfl
        · clear hy16
          subst hS20
          replace h := of_let h
          obtain ⟨w21, hw21, h⟩ := h
          have hw21 : w21 = y15 := hw21
          subst hw21
          cbv
          refine fork (fun b30 => ?_) (fun b30 => ?_)
          · replace h := of_br_t b30 h
            cbv
            injection h with h
            refine hY6 _ h.symm _ _ (And.intro rfl ?_) (by intro hh; cases hh)
            exact le_sparse rfl ⟨AV.le_refl _, trivial⟩ trivial rfl
          · replace h := of_br_f b30 h
            cbv
            injection h with h
            refine hK8 _ h.symm _ ?_
            exact le_sparse rfl ⟨AV.le_refl _, AV.le_refl _, AV.le_refl _, AV.le_refl _, trivial⟩ ⟨rfl, trivial⟩ rfl
      · replace h := of_br_f b31 h
        cbv
        injection h with h
        refine hY6 _ h.symm _ _ (And.intro rfl ?_) (by intro hh; cases hh)
        exact le_sparse rfl ⟨AV.le_refl _, trivial⟩ ⟨rfl, trivial⟩ rfl
    · clear hr4
      have h := hN5
      clear hN5
      intro e12 s13 q11 hne
      rcases y3 with y3k0 | y3m0
      · replace h := h
        obtain ⟨rfl, q11⟩ := q11
        cbv
        injection h with h
        subst h
        refine ⟨(sparse 51 [(2, .c (.v (.bool false)))] []), ?_, ?_⟩
        · refine St.le_trans q11 ?_
          exact le_sparse rfl ⟨AV.le_refl _, trivial⟩ trivial rfl
        · exact ⟨AV.le_refl _, trivial, rfl⟩
      · obtain ⟨rfl, q11⟩ := q11
        cbv
        refine ⟨_, q11, ?_⟩
        cbv
        replace h := of_bind h
        obtain ⟨y32, hy33, h⟩ := h
        refine ⟨{ args := [.c (.bs (LEN a0.fEntries) 5 (row GD (encSpatialEntry) a0.fEntries))], o0 := [], r := .agg [.os 64000 0 (LEN y32.fEntries), .os 64002 0 (LEN y32.fBuckets)], o1 := [(64000, .arr .rw [] (LEN y32.fEntries) 5 (row GD (encSpatialEntry) y32.fEntries)), (64002, .arr .rw [] (LEN y32.fBuckets) 1 (row GD (oncL LEN GD 1 (encI .i64)) y32.fBuckets))], fl := true, σ := [], τ := [(64000, 3072), (64002, 3074)] }, hf_impl_indexOf _ _ hy33, ⟨les_cons (AV.le_refl _) (les_nil), trivial, rfl, rfl, rfl, rfl, ⟨fun h => absurd (show (64000 : Nat) % 2 = 1 from h) (by decide), fun h => absurd (show (64002 : Nat) % 2 = 1 from h) (by decide), trivial⟩, rfl⟩, _, rfl, _, _, rfl, fun _ _ _ _ => rfl, _, _, rfl, fun _ _ _ _ => rfl, ?_⟩
        cbv
        replace h := of_bind h
        obtain ⟨y34, hy35, h⟩ := h
        refine ⟨{ args := [.c (.bs (LEN a0.fBuckets) 1 (row GD (encL LEN GD 1 (encI .i64)) a0.fBuckets)), .c (.bs (LEN y32.fBuckets) 1 (row GD (encL LEN GD 1 (encI .i64)) y32.fBuckets)), .c (.fn 164 0 fun _ => .junk)], o0 := [], r := .c (.v (.bool y34)), o1 := [], fl := true, σ := [], τ := [] }, hf_slices_EqualFunc_LLint64_LLint64_Lint64_Lint64_mbbFimpl_IsValidIndex_1 _ _ _ hy35, ⟨les_cons (AV.le_refl _) (les_cons (give_osD (fun _ _ => rfl) (fun _ _ => rfl) rfl rfl rfl) (les_cons (AV.le_refl _) (les_nil))), trivial, rfl, rfl, rfl, rfl, trivial, rfl⟩, ?_⟩
        cbv
        injection h with h
        subst h
        refine ⟨(sparse 51 [(2, .c (.v (.bool y34)))] []), ?_, ?_⟩
        · exact le_sparse rfl ⟨AV.le_refl _, trivial⟩ trivial rfl
        · exact ⟨AV.le_refl _, trivial, rfl⟩

/-- impl.knownEntry$1 -/
noncomputable def F_impl_knownEntry_1_mbp (a0 : TSpatialEntry) (a1 : Int) : Option (Bool) :=
  some (std.eq a0.fId a1)
theorem run_impl_knownEntry_1_mbp (a0 : TSpatialEntry) (a1 : Int) (r : Bool) (h : F_impl_knownEntry_1_mbp a0 a1 = some r) : Fun Try.prog 167 [.agg [.v (.int .i64 a0.fId), .v (.int .i64 a0.fBox.fX0), .v (.int .i64 a0.fBox.fY0), .v (.int .i64 a0.fBox.fX1), .v (.int .i64 a0.fBox.fY1)], .c (.bp 1 (encI .i64 a1))] [] (.c (.v (.bool r))) [] true := by
  refine Fun.of_wp (oneOf []) tok mixed Try.func167 (by kernel_rfl) rfl Try.ntmps167 rfl trivial (fun _ => ⟨trivial, trivial⟩) ?_
  unfold F_impl_knownEntry_1_mbp at h
  generalize hLEN : @len = LEN at *
  generalize hGD : @gd = GD at *
  generalize hA : std = A at *
  generalize hP : Try.prog = P at *
  cbv
  injection h with h
  subst h
  refine ⟨(sparse 8 [(3, .c (.v (.bool (A.eq a0.fId a1))))] []), ?_, ?_⟩
  · exact le_sparse rfl ⟨AV.le_refl _, trivial⟩ trivial rfl
  · exact ⟨AV.le_refl _, trivial, rfl⟩

noncomputable def L_slices_IndexFunc_Limpl_SpatialEntry_impl_SpatialEntry_mbFimpl_knownEntry_1p_x2 (a0 : List TSpatialEntry) (a1_0 : Int) : (Int) → Option ((Int) ⊕ ((Int) ⊕ (Unit))) := fun x2 =>
  letO x2 fun v1 =>
  br (std.lt v1 (std.ofN (len a0)))
  (req (std.inR v1 (len a0)) <|
  (F_impl_knownEntry_1_mbp (gd a0 (std.toN v1)) a1_0).bind fun y15 =>
  br y15
  (some (.inr (.inl v1)))
  (some (.inl (std.add .i64 v1 1))))
  (some (.inr (.inr ())))
/-- impl.SpatialEntry] -/
noncomputable def F_slices_IndexFunc_Limpl_SpatialEntry_impl_SpatialEntry_mbFimpl_knownEntry_1p (a0 : List TSpatialEntry) (a1_0 : Int) : Option (Int) :=
  (whileP (σ := Int) (ρ := (Int) ⊕ (Unit)) (L_slices_IndexFunc_Limpl_SpatialEntry_impl_SpatialEntry_mbFimpl_knownEntry_1p_x2 a0 a1_0) 0).bind fun y3 =>
  (match y3 with
    | .inl y3k0 => (
        letO y3k0 fun w19 =>
        some w19)
    | .inr y3m0 =>
        some (-1))
theorem run_slices_IndexFunc_Limpl_SpatialEntry_impl_SpatialEntry_mbFimpl_knownEntry_1p (a0 : List TSpatialEntry) (a1_0 : Int) (r : Int) (h : F_slices_IndexFunc_Limpl_SpatialEntry_impl_SpatialEntry_mbFimpl_knownEntry_1p a0 a1_0 = some r) : Fun Try.prog 166 [.c (.bs (len a0) 5 (row gd (encSpatialEntry) a0)), .c (.fn 167 1 fun j => ([.bp 1 (encI .i64 a1_0)] : List AC).getD j .junk)] [] (.c (.v (.int .i64 r))) [] true := by
  refine Fun.of_wp (oneOf []) tok mixed Try.func166 (by kernel_rfl) rfl Try.ntmps166 rfl trivial (fun _ => ⟨trivial, trivial⟩) ?_
  unfold F_slices_IndexFunc_Limpl_SpatialEntry_impl_SpatialEntry_mbFimpl_knownEntry_1p at h
  unfold L_slices_IndexFunc_Limpl_SpatialEntry_impl_SpatialEntry_mbFimpl_knownEntry_1p_x2 at h
  have hf_impl_knownEntry_1_mbp := @run_impl_knownEntry_1_mbp
  generalize hLEN : @len = LEN at *
  generalize hGD : @gd = GD at *
  generalize hA : std = A at *
  generalize hP : Try.prog = P at *
  cbv
  replace h := of_bind h
  obtain ⟨y3, hr4, hN5⟩ := h
  refine loop_cut hr4 (fun x => (sparse 19 [(0, .c (.bs (LEN a0) 5 (row GD (encSpatialEntry) a0))), (1, .c (.fn 167 1 fun j => ([.bp 1 (encI .i64 a1_0)] : List AC).getD j .junk)), (7, .c (.v (.int .i64 (A.ofN (LEN a0))))), (8, .c (.v (.int .i64 x)))] [])) ?_ (fun y e s => (match y with | .inl w => e = .ret ∧ s.le (sparse 19 [(4, .c (.v (.int .i64 w)))] []) | .inr w0 => (fun (w : Unit) => e = .exit 0 ∧ s.le (sparse 19 [] [])) w0)) ?_ ?_
  · clear hr4 hN5
    show St.le _ _
    exact le_sparse rfl ⟨AV.le_refl _, AV.le_refl _, AV.le_refl _, AV.le_refl _, trivial⟩ trivial rfl
  · clear hr4 hN5
    intro x z9 h K7 hK8 hY6
    replace h := of_let h
    obtain ⟨v1, hv1, h⟩ := h
    have hv1 : v1 = x := hv1
    subst hv1
    cbv
    refine fork (fun b18 => ?_) (fun b18 => ?_)
    · replace h := of_br_t b18 h
      cbv
      replace h := of_req h
      obtain ⟨c14, h⟩ := h
      refine ⟨⟨c14, trivial⟩, ?_⟩
      replace h := of_bind h
      obtain ⟨y15, hy16, h⟩ := h
      refine ⟨{ args := [.agg [.v (.int .i64 (GD a0 (A.toN v1)).fId), .v (.int .i64 (GD a0 (A.toN v1)).fBox.fX0), .v (.int .i64 (GD a0 (A.toN v1)).fBox.fY0), .v (.int .i64 (GD a0 (A.toN v1)).fBox.fX1), .v (.int .i64 (GD a0 (A.toN v1)).fBox.fY1)], .c (.bp 1 (encI .i64 a1_0))], o0 := [], r := .c (.v (.bool y15)), o1 := [], fl := true, σ := [], τ := [] }, hf_impl_knownEntry_1_mbp _ _ _ hy16, ⟨les_cons (AV.le_refl _) (les_cons (le_bp (show 1 ≤ 1 from by decide) (by intro j hj; match j, hj with | 0, _ => exact rle_refl _ | (j_ + 1), h_ => exact absurd h_ (by omega))) (les_nil)), trivial, rfl, rfl, rfl, rfl, trivial, rfl⟩, ?_⟩
      cbv
      refine fork (fun b17 => ?_) (fun b17 => ?_)
      · replace h := of_br_t b17 h
        cbv
        injection h with h
        refine hY6 _ h.symm _ _ (And.intro rfl ?_) (by intro hh; cases hh)
        exact le_sparse rfl ⟨AV.le_refl _, trivial⟩ trivial rfl
      · replace h := of_br_f b17 h
        cbv
        injection h with h
        refine hK8 _ h.symm _ ?_
        exact le_sparse rfl ⟨AV.le_refl _, AV.le_refl _, AV.le_refl _, AV.le_refl _, trivial⟩ trivial rfl
    · replace h := of_br_f b18 h
      cbv
      injection h with h
      refine hY6 _ h.symm _ _ (And.intro rfl ?_) (by intro hh; cases hh)
      exact le_sparse rfl trivial trivial rfl
  · clear hr4
    have h := hN5
    clear hN5
    intro e12 s13 q11 hne
    rcases y3 with y3k0 | y3m0
    · replace h := h
      obtain ⟨rfl, q11⟩ := q11
      replace h := of_let h
      obtain ⟨w19, hw19, h⟩ := h
      have hw19 : w19 = y3k0 := hw19
      subst hw19
      cbv
      injection h with h
      subst h
      refine ⟨(sparse 19 [(4, .c (.v (.int .i64 w19)))] []), ?_, ?_⟩
      · refine St.le_trans q11 ?_
        exact le_sparse rfl ⟨AV.le_refl _, trivial⟩ trivial rfl
      · exact ⟨AV.le_refl _, trivial, rfl⟩
    · obtain ⟨rfl, q11⟩ := q11
      cbv
      refine ⟨_, q11, ?_⟩
      cbv
      injection h with h
      subst h
      refine ⟨(sparse 19 [(4, .c (.v (.int .i64 (-1))))] []), ?_, ?_⟩
      · exact le_sparse rfl ⟨AV.le_refl _, trivial⟩ trivial rfl
      · exact ⟨AV.le_refl _, trivial, rfl⟩

/-- impl.knownEntry -/
noncomputable def F_impl_knownEntry (a0 : TSpatialIndex) (a1 : Int) : Option (Int) :=
  (F_slices_IndexFunc_Limpl_SpatialEntry_impl_SpatialEntry_mbFimpl_knownEntry_1p a0.fEntries a1).bind fun y1 =>
  some y1
theorem run_impl_knownEntry (a0 : TSpatialIndex) (a1 : Int) (r : Int) (h : F_impl_knownEntry a0 a1 = some r) : Fun Try.prog 97 [.agg [.bs (len a0.fEntries) 5 (row gd (encSpatialEntry) a0.fEntries), .bs (len a0.fBuckets) 1 (row gd (encL len gd 1 (encI .i64)) a0.fBuckets)], .c (.v (.int .i64 a1))] [] (.c (.v (.int .i64 r))) [] true := by
  refine Fun.of_wp (oneOf []) tok mixed Try.func97 (by kernel_rfl) rfl Try.ntmps97 rfl trivial (fun _ => ⟨trivial, trivial⟩) ?_
  unfold F_impl_knownEntry at h
  have hf_slices_IndexFunc_Limpl_SpatialEntry_impl_SpatialEntry_mbFimpl_knownEntry_1p := @run_slices_IndexFunc_Limpl_SpatialEntry_impl_SpatialEntry_mbFimpl_knownEntry_1p
  generalize hLEN : @len = LEN at *
  generalize hGD : @gd = GD at *
  generalize hA : std = A at *
  generalize hP : Try.prog = P at *
  cbv
  replace h := of_bind h
  obtain ⟨y1, hy2, h⟩ := h
  refine ⟨{ args := [.c (.bs (LEN a0.fEntries) 5 (row GD (encSpatialEntry) a0.fEntries)), .c (.fn 167 1 fun j => ([.bp 1 (encI .i64 a1)] : List AC).getD j .junk)], o0 := [], r := .c (.v (.int .i64 y1)), o1 := [], fl := true, σ := [], τ := [] }, hf_slices_IndexFunc_Limpl_SpatialEntry_impl_SpatialEntry_mbFimpl_knownEntry_1p _ _ _ hy2, ⟨les_cons (AV.le_refl _) (les_cons (le_fn (by intro j hj; match j, hj with | 0, _ => exact le_bp (show 1 ≤ 1 from by decide) (by intro j hj; match j, hj with | 0, _ => exact rle_refl _ | (j_ + 1), h_ => exact absurd h_ (by omega)) | (j_ + 1), h_ => exact absurd h_ (by omega))) (les_nil)), trivial, rfl, rfl, rfl, rfl, trivial, rfl⟩, ?_⟩
  cbv
  injection h with h
  subst h
  refine ⟨(sparse 9 [(4, .c (.v (.int .i64 y1)))] []), ?_, ?_⟩
  · exact le_sparse rfl ⟨AV.le_refl _, trivial⟩ trivial rfl
  · exact ⟨AV.le_refl _, trivial, rfl⟩

/-- impl.SpatialEntry] -/
noncomputable def F_slices_Clone_Limpl_SpatialEntry_impl_SpatialEntry (a0 : List TSpatialEntry) : Option (List TSpatialEntry) :=
  nilB (len a0)
  (some ([] : List TSpatialEntry))
  (letO ([] : List TSpatialEntry) fun l1 =>
  req (std.room (std.nadd (len l1) (len a0)) 40) <|
  letO (l1 ++ a0) fun l3 =>
  some l3)
theorem run_slices_Clone_Limpl_SpatialEntry_impl_SpatialEntry (a0 : List TSpatialEntry) (r : List TSpatialEntry) (h : F_slices_Clone_Limpl_SpatialEntry_impl_SpatialEntry a0 = some r) : Fun Try.prog 100 [.c (.bs (len a0) 5 (row gd (encSpatialEntry) a0))] [] (.c (.os 64000 0 (len r))) [(64000, .arr .rw [] (len r) 5 (row gd (encSpatialEntry) r))] true := by
  refine Fun.of_wp (oneOf []) tok mixed Try.func100 (by kernel_rfl) rfl Try.ntmps100 rfl trivial (fun _ => ⟨trivial, ⟨fun i _ j _ => val_flat (vl_encSpatialEntry _ _), trivial⟩⟩) ?_
  unfold F_slices_Clone_Limpl_SpatialEntry_impl_SpatialEntry at h
  generalize hLEN : @len = LEN at *
  generalize hGD : @gd = GD at *
  generalize hA : std = A at *
  generalize hP : Try.prog = P at *
  cbv
  replace h := of_nilB h
  obtain ⟨h, hz7⟩ := h
  refine And.intro (fun hn6 => ?_) ?_
  · have h := hz7 hn6
    clear hz7
    cbv
    injection h with h
    subst h
    refine ⟨(sparse 8 [(2, .c (.os 64000 0 (LEN ([] : List TSpatialEntry))))] [(64000, .arr .rw [] (LEN ([] : List TSpatialEntry)) 5 (row GD (encSpatialEntry) ([] : List TSpatialEntry)))]), ?_, ?_⟩
    · refine St.le_trans (le_nilT 2 64000 5 (row GD (encSpatialEntry) ([] : List TSpatialEntry)) (by decide) rfl) ?_
      subst hLEN
      exact le_sparse rfl ⟨AV.le_refl _, trivial⟩ ⟨⟨fun hw => hw, fun c hc => (by cases hc), .inl rfl, rfl, rfl, fun i hi j hj => rfl⟩, trivial⟩ rfl
    · subst hLEN
      exact ⟨AV.le_refl _, ⟨⟨fun hw => hw, fun c hc => (by cases hc), .inl rfl, rfl, rfl, fun i hi j hj => rfl⟩, trivial⟩, rfl⟩
  · clear hz7
    cbv
    replace h := of_let h
    obtain ⟨l1, hl1, h⟩ := h
    have e2 : 0 = LEN l1 := by subst hl1 hLEN; rfl
    refine ⟨_, congrArg (fun n => AV.c (AC.os 320 0 n)) e2, _, row GD (encSpatialEntry) l1, e2, ?_, ?_⟩
    · intro i hi j hj
      rw [← e2] at hi
      subst hl1
      subst hGD
      omega
    cbv
    replace h := of_req h
    obtain ⟨c5, h⟩ := h
    replace h := of_let h
    obtain ⟨l3, hl3, h⟩ := h
    have e4 : A.nadd (LEN l1) (LEN a0) = LEN l3 := by subst hl3 hLEN hA; simp [std, len]
    refine ⟨c5, _, congrArg (fun n => AV.c (AC.os 320 0 n)) e4, _, row GD (encSpatialEntry) l3, e4, ?_, ?_⟩
    · subst hGD hLEN hA
      exact app_bs (pl_encSpatialEntry) hl3 (Nat.le_refl _)
    cbv
    injection h with h
    subst h
    refine ⟨(sparse 8 [(2, .c (.os 64000 0 (LEN l3)))] [(64000, .arr .rw [] (LEN l3) 5 (row GD (encSpatialEntry) l3))]), ?_, ?_⟩
    · refine St.le_trans (le_ren 320 64000 (by decide) rfl) ?_
      exact le_sparse rfl ⟨AV.le_refl _, trivial⟩ ⟨⟨fun hw => hw, fun c hc => (by cases hc), .inl rfl, rfl, rfl, fun i hi j hj => rfl⟩, trivial⟩ rfl
    · exact ⟨AV.le_refl _, ⟨⟨fun hw => hw, fun c hc => (by cases hc), .inl rfl, rfl, rfl, fun i hi j hj => rfl⟩, trivial⟩, rfl⟩

section
open Go.RowKit Go.Lib
set_option maxHeartbeats 4000000 in
set_option maxRecDepth 1000000 in
/-- slices.Delete: the elements behind those that are taken out lie further ahead, the cells behind are emptied -/
theorem calls_slices_Delete_Limpl_SpatialEntry_impl_SpatialEntry_mobb (blk off cap n i j : Nat) (D : List Value) (w : World) (hlen : D.length = n * 5) (hD : ∀ t u, D[t]? = some u → w.cell? ⟨blk, off + t, none⟩ = some u) (h1 : ∀ u ∈ D, u.oneCell' = true) (hfz : ∀ t, t < n * 5 → w.frozen? ⟨blk, off + t, none⟩ = false) (hcap : n ≤ cap) (hij : i < j) (hj : j ≤ n) :
    Calls Try.prog 99 #[.slice (some ⟨blk, off, none⟩) n cap, .int .i64 i, .int .i64 j] w fun e w' => e = .returned (.slice (some ⟨blk, off, none⟩) (n - (j - i)) cap) ∧ ∃ zs : List Value, zs.length = (j - i) * 5 ∧ (∀ u ∈ zs, u.oneCell' = true) ∧ w' = (w.drew.setCells blk (off + i * 5) (D.drop (j * 5))).setCells blk (off + (i + (n - j)) * 5) zs := by
  obtain ⟨news, hnews⟩ : ∃ news, news = D.drop (j * 5) := ⟨_, rfl⟩
  have hl : news.length = (n - j) * 5 := by rw [hnews, List.length_drop, hlen, Nat.sub_mul]
  obtain ⟨A, hA, hsrc⟩ : ∃ A : Addr, (if cap = j then some (⟨blk, off, none⟩ : Addr) else some ⟨blk, off + j * 5, none⟩) = some A ∧ Hid (∀ t u, news[t]? = some u → w.drew.cell? (A.add t) = some u) := by
    by_cases h : cap = j
    · refine ⟨⟨blk, off, none⟩, by simp [h], fun t u hu => ?_⟩
      have h00 : n - j = 0 := by omega
      have h0 : news.length = 0 := by rw [hl, h00, Nat.zero_mul]
      rw [List.length_eq_zero_iff.1 h0] at hu
      simp at hu
    · refine ⟨⟨blk, off + j * 5, none⟩, by simp [h], fun t u hu => ?_⟩
      rw [Addr.add_lit, Nat.add_assoc]
      exact hD _ u (by rw [hnews, List.getElem?_drop] at hu; exact hu)
  have s1 : Hid (news.length = (n - j) * 5) := hl
  have s2 : Hid (∀ u ∈ news, u.oneCell' = true) := fun u hu => h1 u (List.mem_of_mem_drop (by rw [hnews] at hu; exact hu))
  have hex : ∀ t, t < n * 5 → (w.cell? ⟨blk, off + t, none⟩).isSome = true := fun t ht => by
    rw [hD t (D[t]'(by omega)) (List.getElem?_eq_getElem (by omega))]; rfl
  have s3 : Hid (∀ t, t < news.length → (w.drew.cell? ⟨blk, off + i * 5 + t, none⟩).isSome = true ∧ w.drew.frozen? ⟨blk, off + i * 5 + t, none⟩ = false) := fun t ht => by
    rw [hl] at ht
    rw [Nat.add_assoc]
    exact ⟨hex _ (by omega), hfz _ (by omega)⟩
  obtain ⟨W1, hW1⟩ : ∃ W1, W1 = w.drew.setCells blk (off + i * 5) news := ⟨_, rfl⟩
  have hW : Hid (W1 = w.drew.setCells blk (off + i * 5) news) := hW1
  obtain ⟨z, hz⟩ : ∃ z, z = (Builtin.zeroCells d148.zero.cells (j - i)).toList := ⟨_, rfl⟩
  have hzs : d148.zero.cells.size = 5 := by kernel_rfl
  have hzl : z.length = (j - i) * 5 := by rw [hz, Array.length_toList, size_zeroCells, hzs]
  have hz1 : ∀ v ∈ z, v.oneCell' = true := by
    rw [hz]
    exact zeroCells_one _ (fun v hv => by
      have := Array.all_eq_true_iff_forall_mem.1 (show d148.zero.cells.all Value.oneCell' = true by kernel_rfl) v hv
      exact this) _
  have hcl : ∀ ty, (Builtin.clear_ #[75] ty #[.slice (some ⟨blk, off + (i + (n - j)) * 5, none⟩) (n - (i + (n - j))) (cap - (i + (n - j)))]).run Try.prog W1 = .ok (.tuple #[]) (W1.setCells blk (off + (i + (n - j)) * 5) z) := fun ty => by
    have e : n - (i + (n - j)) = j - i := by omega
    rw [e, hz]
    refine run_clear_cells W1 75 148 ty d148.zero (by kernel_rfl) (fun w => ?_) blk _ _ _ (by omega) ?_ ?_ ?_
    · exact run_zero tok (show T 148 = some d148 from rfl)
    · rw [← hz]; exact hz1
    · intro t ht
      rw [size_zeroCells, hzs] at ht
      rw [hW1, Nat.add_assoc]
      refine isSome_setCells blk _ _ _ (fun q hq => ?_) _ (hex _ ?_)
      · rw [hl] at hq
        rw [Nat.add_assoc]; exact hex _ (by omega)
      · omega
    · intro t ht
      rw [size_zeroCells, hzs] at ht
      rw [hW1, World.frozen?_setCells, Nat.add_assoc]
      exact hfz _ (by omega)
  have hX : Hid (∃ zs : List Value, zs.length = (j - i) * 5 ∧ (∀ u ∈ zs, u.oneCell' = true) ∧ W1.setCells blk (off + (i + (n - j)) * 5) z = (w.drew.setCells blk (off + i * 5) (D.drop (j * 5))).setCells blk (off + (i + (n - j)) * 5) zs) := ⟨z, hzl, hz1, by rw [hW1, hnews]⟩
  have hic : i ≤ cap := by omega
  have hjc : j ≤ cap := by omega
  have hne : ¬ (i = j) := by omega
  have hI : (Try.prog.info? 148).map (·.size) = some 5 := by kernel_rfl
  obtain ⟨i0, hi0, hz5⟩ : ∃ i0, Try.prog.info? 148 = some i0 ∧ i0.size = 5 := by
    cases h : Try.prog.info? 148 with
    | none => rw [h] at hI; cases hI
    | some i0 => rw [h] at hI; exact ⟨i0, rfl, by injection hI⟩
  have mixed : Try.prog.follows .mixedOrders = true := by kernel_rfl
  clear hW1 hex hzs hnews hl hz hzl hz1 hD h1 hfz
  go_enter Try.func99, Try.ntmps99
  go_wp2_with fail
  go_region_law_o (refine step_append_room rfl (.tmp 22) (.tmp 25) 75 rfl 148 i0 5 (by kernel_rfl) hi0 hz5 blk off i cap (by simp [Act.eval, Act.put]) A (n - j) (cap - j) news (by simp [Act.eval, Act.put, hA]) s1.out hsrc.out s2.out (by omega) s3.out ?_; rw [← hW.out])
  go_wp2
  go_ret
  refine ⟨by rw [show n - (j - i) = i + (n - j) by omega]; rfl, hX.out⟩
end
/-- slices.Delete[[]loop.example/g00890/impl.SpatialEntry,loop.example/g00890/impl.SpatialEntry] -/
noncomputable def F_slices_Delete_Limpl_SpatialEntry_impl_SpatialEntry_mobb (a0 : List TSpatialEntry) (a1 : Int) (a2 : Int) : Option (List TSpatialEntry) :=
  if 0 ≤ a1 ∧ a1 < a2 ∧ a2 ≤ (a0.length : Int) then some (a0.take a1.toNat ++ a0.drop a2.toNat) else none
theorem run_slices_Delete_Limpl_SpatialEntry_impl_SpatialEntry_mobb (a0 : List TSpatialEntry) (a1 : Int) (a2 : Int) (r : List TSpatialEntry) (h : F_slices_Delete_Limpl_SpatialEntry_impl_SpatialEntry_mobb a0 a1 a2 = some r) : Fun Try.prog 99 [.c (.os 5 0 (len a0)), .c (.v (.int .i64 a1)), .c (.v (.int .i64 a2))] [(5, .arr .rw [] (len a0) 5 (row gd (encSpatialEntry) a0))] (.c (.os 64000 0 (len r))) [(64000, .arr .rw [] (len r) 5 (row gd (encSpatialEntry) r))] true := by
  unfold F_slices_Delete_Limpl_SpatialEntry_impl_SpatialEntry_mobb at h
  split at h
  · rename_i h1
    injection h with h
    subst h
    obtain ⟨i, rfl⟩ : ∃ i : Nat, a1 = i := ⟨a1.toNat, by omega⟩
    obtain ⟨j, rfl⟩ : ∃ j : Nat, a2 = j := ⟨a2.toNat, by omega⟩
    rw [Int.toNat_natCast, Int.toNat_natCast]
    have e : len (a0.take i ++ a0.drop j) = len a0 - (j - i) := by
      show List.length _ = List.length _ - _
      rw [List.length_append, List.length_take, List.length_drop]; omega
    rw [e]
    exact Fun.delete Try.func99 (by kernel_rfl) (by kernel_rfl) 5 (fun blk off cap n i j D w h1 h2 h3 h4 h5 h6 h7 => calls_slices_Delete_Limpl_SpatialEntry_impl_SpatialEntry_mobb blk off cap n i j D w h1 h2 h3 h4 h5 h6 h7) (len a0) i j _ _ (by omega) (show j ≤ a0.length by omega)
      (fun t ht q hq => by show encSpatialEntry (gd _ t) q = encSpatialEntry (gd a0 _) q; rw [cut_get a0 i j t (by omega) (by omega)]) (fun t q => plain_nil (val_plain (vl_encSpatialEntry _ _))) (fun t q => val_flat (vl_encSpatialEntry _ _))
  · cases h

/-- impl.RemoveEntry -/
noncomputable def F_impl_RemoveEntry (a0 : TSpatialIndex) (a1 : Int) : Option (TSpatialIndex × Int) :=
  (F_impl_IsValidIndex (TSpatialIndex.mk a0.fEntries a0.fBuckets)).bind fun y1 =>
  br (!(y1))
  (some ((TSpatialIndex.mk ([] : List TSpatialEntry) ([] : List (List Int))), 1))
  ((F_impl_knownEntry (TSpatialIndex.mk a0.fEntries a0.fBuckets) a1).bind fun y3 =>
  br (std.lt y3 0)
  (some ((TSpatialIndex.mk ([] : List TSpatialEntry) ([] : List (List Int))), 5))
  ((F_slices_Clone_Limpl_SpatialEntry_impl_SpatialEntry a0.fEntries).bind fun y5 =>
  (F_slices_Delete_Limpl_SpatialEntry_impl_SpatialEntry_mobb y5 y3 (std.add .i64 y3 1)).bind fun y7 =>
  (F_impl_indexOf y7).bind fun y9 =>
  some (y9, 0)))
theorem run_impl_RemoveEntry (a0 : TSpatialIndex) (a1 : Int) (r : TSpatialIndex × Int) (h : F_impl_RemoveEntry a0 a1 = some r) : Fun Try.prog 37 [.agg [.bs (len a0.fEntries) 5 (row gd (encSpatialEntry) a0.fEntries), .bs (len a0.fBuckets) 1 (row gd (encL len gd 1 (encI .i64)) a0.fBuckets)], .c (.v (.int .i64 a1))] [] (.tup [.agg [.os 64000 0 (len r.1.fEntries), .os 64002 0 (len r.1.fBuckets)], .c (.v (.int .i64 r.2))]) [(64000, .arr .rw [] (len r.1.fEntries) 5 (row gd (encSpatialEntry) r.1.fEntries)), (64002, .arr .rw [] (len r.1.fBuckets) 1 (row gd (oncL len gd 1 (encI .i64)) r.1.fBuckets))] true := by
  refine Fun.of_wp (oneOf []) tok mixed Try.func37 (by kernel_rfl) rfl Try.ntmps37 rfl trivial (fun _ => ⟨(by simp [AV.flat, AV.flat1, AC.flat]), ⟨fun i _ j _ => val_flat (vl_encSpatialEntry _ _), fun i _ j _ => fl_oncL (fun _ _ => rfl) _ _, trivial⟩⟩) ?_
  unfold F_impl_RemoveEntry at h
  have hf_impl_IsValidIndex := @run_impl_IsValidIndex
  have hf_impl_indexOf := @run_impl_indexOf
  have hf_impl_knownEntry := @run_impl_knownEntry
  have hf_slices_Clone_Limpl_SpatialEntry_impl_SpatialEntry := @run_slices_Clone_Limpl_SpatialEntry_impl_SpatialEntry
  have hf_slices_Delete_Limpl_SpatialEntry_impl_SpatialEntry_mobb := @run_slices_Delete_Limpl_SpatialEntry_impl_SpatialEntry_mobb
  generalize hLEN : @len = LEN at *
  generalize hGD : @gd = GD at *
  generalize hA : std = A at *
  generalize hP : Try.prog = P at *
  cbv
  replace h := of_bind h
  obtain ⟨y1, hy2, h⟩ := h
  refine ⟨{ args := [.agg [.bs (LEN a0.fEntries) 5 (row GD (encSpatialEntry) a0.fEntries), .bs (LEN a0.fBuckets) 1 (row GD (encL LEN GD 1 (encI .i64)) a0.fBuckets)]], o0 := [], r := .c (.v (.bool y1)), o1 := [], fl := true, σ := [], τ := [] }, hf_impl_IsValidIndex _ _ hy2, ⟨les_cons (AV.le_refl _) (les_nil), trivial, rfl, rfl, rfl, rfl, trivial, rfl⟩, ?_⟩
  cbv
  refine fork (fun b12 => ?_) (fun b12 => ?_)
  · replace h := of_br_t b12 h
    cbv
    injection h with h
    subst h
    refine ⟨(sparse 25 [(4, .c (.ptr 256 0)), (5, .c (.v (.int .i64 1)))] [(256, .var [.os 64000 0 (LEN ([] : List TSpatialEntry)), .os 64002 0 (LEN ([] : List (List Int)))]), (64000, .arr .rw [] (LEN ([] : List TSpatialEntry)) 5 (row GD (encSpatialEntry) ([] : List TSpatialEntry))), (64002, .arr .rw [] (LEN ([] : List (List Int))) 1 (row GD (oncL LEN GD 1 (encI .i64)) ([] : List (List Int))))]), ?_, ?_⟩
    · refine St.le_trans (le_nilV 256 0 64000 5 (row GD (encSpatialEntry) ([] : List TSpatialEntry)) (by decide) (by decide) rfl rfl) ?_
      refine St.le_trans (le_nilV 256 1 64002 1 (row GD (oncL LEN GD 1 (encI .i64)) ([] : List (List Int))) (by decide) (by decide) rfl rfl) ?_
      subst hLEN
      exact le_sparse rfl ⟨AV.le_refl _, AV.le_refl _, trivial⟩ ⟨rfl, ⟨fun hw => hw, fun c hc => (by cases hc), .inl rfl, rfl, rfl, fun i hi j hj => rfl⟩, ⟨fun hw => hw, fun c hc => (by cases hc), .inl rfl, rfl, rfl, fun i hi j hj => rfl⟩, trivial⟩ rfl
    · subst hLEN
      exact ⟨AV.le_refl _, ⟨⟨fun hw => hw, fun c hc => (by cases hc), .inl rfl, rfl, rfl, fun i hi j hj => rfl⟩, ⟨fun hw => hw, fun c hc => (by cases hc), .inl rfl, rfl, rfl, fun i hi j hj => rfl⟩, trivial⟩, rfl⟩
  · replace h := of_br_f b12 h
    cbv
    replace h := of_bind h
    obtain ⟨y3, hy4, h⟩ := h
    refine ⟨{ args := [.agg [.bs (LEN a0.fEntries) 5 (row GD (encSpatialEntry) a0.fEntries), .bs (LEN a0.fBuckets) 1 (row GD (encL LEN GD 1 (encI .i64)) a0.fBuckets)], .c (.v (.int .i64 a1))], o0 := [], r := .c (.v (.int .i64 y3)), o1 := [], fl := true, σ := [], τ := [] }, hf_impl_knownEntry _ _ _ hy4, ⟨les_cons (AV.le_refl _) (les_cons (AV.le_refl _) (les_nil)), trivial, rfl, rfl, rfl, rfl, trivial, rfl⟩, ?_⟩
    cbv
    refine fork (fun b11 => ?_) (fun b11 => ?_)
    · replace h := of_br_t b11 h
      cbv
      injection h with h
      subst h
      refine ⟨(sparse 25 [(4, .c (.ptr 256 0)), (5, .c (.v (.int .i64 5)))] [(256, .var [.os 64000 0 (LEN ([] : List TSpatialEntry)), .os 64002 0 (LEN ([] : List (List Int)))]), (64000, .arr .rw [] (LEN ([] : List TSpatialEntry)) 5 (row GD (encSpatialEntry) ([] : List TSpatialEntry))), (64002, .arr .rw [] (LEN ([] : List (List Int))) 1 (row GD (oncL LEN GD 1 (encI .i64)) ([] : List (List Int))))]), ?_, ?_⟩
      · refine St.le_trans (le_nilV 256 0 64000 5 (row GD (encSpatialEntry) ([] : List TSpatialEntry)) (by decide) (by decide) rfl rfl) ?_
        refine St.le_trans (le_nilV 256 1 64002 1 (row GD (oncL LEN GD 1 (encI .i64)) ([] : List (List Int))) (by decide) (by decide) rfl rfl) ?_
        subst hLEN
        exact le_sparse rfl ⟨AV.le_refl _, AV.le_refl _, trivial⟩ ⟨rfl, ⟨fun hw => hw, fun c hc => (by cases hc), .inl rfl, rfl, rfl, fun i hi j hj => rfl⟩, ⟨fun hw => hw, fun c hc => (by cases hc), .inl rfl, rfl, rfl, fun i hi j hj => rfl⟩, trivial⟩ rfl
      · subst hLEN
        exact ⟨AV.le_refl _, ⟨⟨fun hw => hw, fun c hc => (by cases hc), .inl rfl, rfl, rfl, fun i hi j hj => rfl⟩, ⟨fun hw => hw, fun c hc => (by cases hc), .inl rfl, rfl, rfl, fun i hi j hj => rfl⟩, trivial⟩, rfl⟩
    · replace h := of_br_f b11 h
      cbv
      replace h := of_bind h
      obtain ⟨y5, hy6, h⟩ := h
      refine ⟨{ args := [.c (.bs (LEN a0.fEntries) 5 (row GD (encSpatialEntry) a0.fEntries))], o0 := [], r := .c (.os 64000 0 (LEN y5)), o1 := [(64000, .arr .rw [] (LEN y5) 5 (row GD (encSpatialEntry) y5))], fl := true, σ := [], τ := [(64000, 1216)] }, hf_slices_Clone_Limpl_SpatialEntry_impl_SpatialEntry _ _ hy6, ⟨les_cons (AV.le_refl _) (les_nil), trivial, rfl, rfl, rfl, rfl, ⟨fun h => absurd (show (64000 : Nat) % 2 = 1 from h) (by decide), trivial⟩, rfl⟩, _, rfl, _, _, rfl, fun _ _ _ _ => rfl, ?_⟩
      cbv
      replace h := of_bind h
      obtain ⟨y7, hy8, h⟩ := h
      refine ⟨{ args := [.c (.os 5 0 (LEN y5)), .c (.v (.int .i64 y3)), .c (.v (.int .i64 (A.add .i64 y3 1)))], o0 := [(5, .arr .rw [] (LEN y5) 5 (row GD (encSpatialEntry) y5))], r := .c (.os 64000 0 (LEN y7)), o1 := [(64000, .arr .rw [] (LEN y7) 5 (row GD (encSpatialEntry) y7))], fl := true, σ := [(5, 1216)], τ := [(64000, 1472)] }, hf_slices_Delete_Limpl_SpatialEntry_impl_SpatialEntry_mobb _ _ _ _ hy8, ⟨les_cons (AV.le_refl _) (les_cons (AV.le_refl _) (les_cons (AV.le_refl _) (les_nil))), ⟨⟨fun hw => hw, fun c hc => (by cases hc), .inl rfl, rfl, rfl, fun i hi j hj => rfl⟩, trivial⟩, rfl, rfl, rfl, rfl, ⟨fun h => absurd (show (64000 : Nat) % 2 = 1 from h) (by decide), trivial⟩, rfl⟩, _, rfl, _, _, rfl, fun _ _ _ _ => rfl, ?_⟩
      cbv
      replace h := of_bind h
      obtain ⟨y9, hy10, h⟩ := h
      refine ⟨{ args := [.c (.bs (LEN y7) 5 (row GD (encSpatialEntry) y7))], o0 := [], r := .agg [.os 64000 0 (LEN y9.fEntries), .os 64002 0 (LEN y9.fBuckets)], o1 := [(64000, .arr .rw [] (LEN y9.fEntries) 5 (row GD (encSpatialEntry) y9.fEntries)), (64002, .arr .rw [] (LEN y9.fBuckets) 1 (row GD (oncL LEN GD 1 (encI .i64)) y9.fBuckets))], fl := true, σ := [], τ := [(64000, 1536), (64002, 1538)] }, hf_impl_indexOf _ _ hy10, ⟨les_cons (give_os (pl_encSpatialEntry) rfl rfl rfl) (les_nil), trivial, rfl, rfl, rfl, rfl, ⟨fun h => absurd (show (64000 : Nat) % 2 = 1 from h) (by decide), fun h => absurd (show (64002 : Nat) % 2 = 1 from h) (by decide), trivial⟩, rfl⟩, _, rfl, _, _, rfl, fun _ _ _ _ => rfl, _, _, rfl, fun _ _ _ _ => rfl, ?_⟩
      cbv
      injection h with h
      subst h
      refine ⟨(sparse 25 [(4, .c (.ptr 256 0)), (5, .c (.v (.int .i64 0)))] [(256, .var [.os 64000 0 (LEN y9.fEntries), .os 64002 0 (LEN y9.fBuckets)]), (64000, .arr .rw [] (LEN y9.fEntries) 5 (row GD (encSpatialEntry) y9.fEntries)), (64002, .arr .rw [] (LEN y9.fBuckets) 1 (row GD (oncL LEN GD 1 (encI .i64)) y9.fBuckets))]), ?_, ?_⟩
      · refine St.le_trans (le_ren 1536 64000 (by decide) rfl) ?_
        refine St.le_trans (le_ren 1538 64002 (by decide) rfl) ?_
        exact le_sparse rfl ⟨AV.le_refl _, AV.le_refl _, trivial⟩ ⟨rfl, ⟨fun hw => hw, fun c hc => (by cases hc), .inl rfl, rfl, rfl, fun i hi j hj => rfl⟩, ⟨fun hw => hw, fun c hc => (by cases hc), .inl rfl, rfl, rfl, fun i hi j hj => rfl⟩, trivial⟩ rfl
      · exact ⟨AV.le_refl _, ⟨⟨fun hw => hw, fun c hc => (by cases hc), .inl rfl, rfl, rfl, fun i hi j hj => rfl⟩, ⟨fun hw => hw, fun c hc => (by cases hc), .inl rfl, rfl, rfl, fun i hi j hj => rfl⟩, trivial⟩, rfl⟩

/-- laws.eqRect -/
noncomputable def F_laws_eqRect (a0 : TRect) (a1 : TRect) : Option (Bool) :=
  br (std.not (std.eq a0.fX0 a1.fX0))
  (some false)
  (br (std.not (std.eq a0.fY0 a1.fY0))
  (some false)
  (br (std.not (std.eq a0.fX1 a1.fX1))
  (some false)
  (br (std.not (std.eq a0.fY1 a1.fY1))
  (some false)
  (some true))))
theorem run_laws_eqRect (a0 : TRect) (a1 : TRect) (r : Bool) (h : F_laws_eqRect a0 a1 = some r) : Fun Try.prog 198 [.agg [.v (.int .i64 a0.fX0), .v (.int .i64 a0.fY0), .v (.int .i64 a0.fX1), .v (.int .i64 a0.fY1)], .agg [.v (.int .i64 a1.fX0), .v (.int .i64 a1.fY0), .v (.int .i64 a1.fX1), .v (.int .i64 a1.fY1)]] [] (.c (.v (.bool r))) [] true := by
  refine Fun.of_wp (oneOf []) tok mixed Try.func198 (by kernel_rfl) rfl Try.ntmps198 rfl trivial (fun _ => ⟨trivial, trivial⟩) ?_
  unfold F_laws_eqRect at h
  generalize hLEN : @len = LEN at *
  generalize hGD : @gd = GD at *
  generalize hA : std = A at *
  generalize hP : Try.prog = P at *
  cbv
  refine fork (fun b4 => ?_) (fun b4 => ?_)
  · replace h := of_br_t b4 h
    cbv
    injection h with h
    subst h
    refine ⟨(sparse 25 [(4, .c (.v (.bool false)))] []), ?_, ?_⟩
    · exact le_sparse rfl ⟨AV.le_refl _, trivial⟩ trivial rfl
    · exact ⟨AV.le_refl _, trivial, rfl⟩
  · replace h := of_br_f b4 h
    cbv
    refine fork (fun b3 => ?_) (fun b3 => ?_)
    · replace h := of_br_t b3 h
      cbv
      injection h with h
      subst h
      refine ⟨(sparse 25 [(4, .c (.v (.bool false)))] []), ?_, ?_⟩
      · exact le_sparse rfl ⟨AV.le_refl _, trivial⟩ trivial rfl
      · exact ⟨AV.le_refl _, trivial, rfl⟩
    · replace h := of_br_f b3 h
      cbv
      refine fork (fun b2 => ?_) (fun b2 => ?_)
      · replace h := of_br_t b2 h
        cbv
        injection h with h
        subst h
        refine ⟨(sparse 25 [(4, .c (.v (.bool false)))] []), ?_, ?_⟩
        · exact le_sparse rfl ⟨AV.le_refl _, trivial⟩ trivial rfl
        · exact ⟨AV.le_refl _, trivial, rfl⟩
      · replace h := of_br_f b2 h
        cbv
        refine fork (fun b1 => ?_) (fun b1 => ?_)
        · replace h := of_br_t b1 h
          cbv
          injection h with h
          subst h
          refine ⟨(sparse 25 [(4, .c (.v (.bool false)))] []), ?_, ?_⟩
          · exact le_sparse rfl ⟨AV.le_refl _, trivial⟩ trivial rfl
          · exact ⟨AV.le_refl _, trivial, rfl⟩
        · replace h := of_br_f b1 h
          cbv
          injection h with h
          subst h
          refine ⟨(sparse 25 [(4, .c (.v (.bool true)))] []), ?_, ?_⟩
          · exact le_sparse rfl ⟨AV.le_refl _, trivial⟩ trivial rfl
          · exact ⟨AV.le_refl _, trivial, rfl⟩
/-- laws.eqSpatialEntry -/
noncomputable def F_laws_eqSpatialEntry (a0 : TSpatialEntry) (a1 : TSpatialEntry) : Option (Bool) :=
  br (std.not (std.eq a0.fId a1.fId))
  (some false)
  ((F_laws_eqRect a0.fBox a1.fBox).bind fun y1 =>
  br (!(y1))
  (some false)
  (some true))
theorem run_laws_eqSpatialEntry (a0 : TSpatialEntry) (a1 : TSpatialEntry) (r : Bool) (h : F_laws_eqSpatialEntry a0 a1 = some r) : Fun Try.prog 169 [.agg [.v (.int .i64 a0.fId), .v (.int .i64 a0.fBox.fX0), .v (.int .i64 a0.fBox.fY0), .v (.int .i64 a0.fBox.fX1), .v (.int .i64 a0.fBox.fY1)], .agg [.v (.int .i64 a1.fId), .v (.int .i64 a1.fBox.fX0), .v (.int .i64 a1.fBox.fY0), .v (.int .i64 a1.fBox.fX1), .v (.int .i64 a1.fBox.fY1)]] [] (.c (.v (.bool r))) [] true := by
  refine Fun.of_wp (oneOf []) tok mixed Try.func169 (by kernel_rfl) rfl Try.ntmps169 rfl trivial (fun _ => ⟨trivial, trivial⟩) ?_
  unfold F_laws_eqSpatialEntry at h
  have hf_laws_eqRect := @run_laws_eqRect
  generalize hLEN : @len = LEN at *
  generalize hGD : @gd = GD at *
  generalize hA : std = A at *
  generalize hP : Try.prog = P at *
  cbv
  refine fork (fun b4 => ?_) (fun b4 => ?_)
  · replace h := of_br_t b4 h
    cbv
    injection h with h
    subst h
    refine ⟨(sparse 16 [(4, .c (.v (.bool false)))] []), ?_, ?_⟩
    · exact le_sparse rfl ⟨AV.le_refl _, trivial⟩ trivial rfl
    · exact ⟨AV.le_refl _, trivial, rfl⟩
  · replace h := of_br_f b4 h
    cbv
    replace h := of_bind h
    obtain ⟨y1, hy2, h⟩ := h
    refine ⟨{ args := [.agg [.v (.int .i64 a0.fBox.fX0), .v (.int .i64 a0.fBox.fY0), .v (.int .i64 a0.fBox.fX1), .v (.int .i64 a0.fBox.fY1)], .agg [.v (.int .i64 a1.fBox.fX0), .v (.int .i64 a1.fBox.fY0), .v (.int .i64 a1.fBox.fX1), .v (.int .i64 a1.fBox.fY1)]], o0 := [], r := .c (.v (.bool y1)), o1 := [], fl := true, σ := [], τ := [] }, hf_laws_eqRect _ _ _ hy2, ⟨les_cons (AV.le_refl _) (les_cons (AV.le_refl _) (les_nil)), trivial, rfl, rfl, rfl, rfl, trivial, rfl⟩, ?_⟩
    cbv
    refine fork (fun b3 => ?_) (fun b3 => ?_)
    · replace h := of_br_t b3 h
      cbv
      injection h with h
      subst h
      refine ⟨(sparse 16 [(4, .c (.v (.bool false)))] []), ?_, ?_⟩
      · exact le_sparse rfl ⟨AV.le_refl _, trivial⟩ trivial rfl
      · exact ⟨AV.le_refl _, trivial, rfl⟩
    · replace h := of_br_f b3 h
      cbv
      injection h with h
      subst h
      refine ⟨(sparse 16 [(4, .c (.v (.bool true)))] []), ?_, ?_⟩
      · exact le_sparse rfl ⟨AV.le_refl _, trivial⟩ trivial rfl
      · exact ⟨AV.le_refl _, trivial, rfl⟩

noncomputable def L_laws_eqSpatialEntryS_x2 (a0 : List TSpatialEntry) (a1 : List TSpatialEntry) : (Int) → Option ((Int) ⊕ ((Unit) ⊕ (Unit))) := fun x2 =>
  letO x2 fun v1 =>
  br (std.lt v1 (std.ofN (len a0)))
  (req (std.inR v1 (len a0)) <|
  req (std.inR v1 (len a1)) <|
  (F_laws_eqSpatialEntry (gd a0 (std.toN v1)) (gd a1 (std.toN v1))).bind fun y16 =>
  br (!(y16))
  (some (.inr (.inl ())))
  (some (.inl (std.add .i64 v1 1))))
  (some (.inr (.inr ())))
/-- laws.eqSpatialEntryS -/
noncomputable def F_laws_eqSpatialEntryS (a0 : List TSpatialEntry) (a1 : List TSpatialEntry) : Option (Bool) :=
  br (std.not (std.eq (std.ofN (len a0)) (std.ofN (len a1))))
  (some false)
  ((whileP (σ := Int) (ρ := (Unit) ⊕ (Unit)) (L_laws_eqSpatialEntryS_x2 a0 a1) 0).bind fun y3 =>
  (match y3 with
    | .inl y3k0 => (
        some false)
    | .inr y3m0 =>
        some true))
theorem run_laws_eqSpatialEntryS (a0 : List TSpatialEntry) (a1 : List TSpatialEntry) (r : Bool) (h : F_laws_eqSpatialEntryS a0 a1 = some r) : Fun Try.prog 101 [.c (.bs (len a0) 5 (row gd (encSpatialEntry) a0)), .c (.bs (len a1) 5 (row gd (encSpatialEntry) a1))] [] (.c (.v (.bool r))) [] true := by
  refine Fun.of_wp (oneOf []) tok mixed Try.func101 (by kernel_rfl) rfl Try.ntmps101 rfl trivial (fun _ => ⟨trivial, trivial⟩) ?_
  unfold F_laws_eqSpatialEntryS at h
  unfold L_laws_eqSpatialEntryS_x2 at h
  have hf_laws_eqSpatialEntry := @run_laws_eqSpatialEntry
  generalize hLEN : @len = LEN at *
  generalize hGD : @gd = GD at *
  generalize hA : std = A at *
  generalize hP : Try.prog = P at *
  cbv
  refine fork (fun b20 => ?_) (fun b20 => ?_)
  · replace h := of_br_t b20 h
    cbv
    injection h with h
    subst h
    refine ⟨(sparse 27 [(4, .c (.v (.bool false)))] []), ?_, ?_⟩
    · exact le_sparse rfl ⟨AV.le_refl _, trivial⟩ trivial rfl
    · exact ⟨AV.le_refl _, trivial, rfl⟩
  · replace h := of_br_f b20 h
    cbv
    replace h := of_bind h
    obtain ⟨y3, hr4, hN5⟩ := h
    refine loop_cut hr4 (fun x => (sparse 27 [(0, .c (.bs (LEN a0) 5 (row GD (encSpatialEntry) a0))), (1, .c (.bs (LEN a1) 5 (row GD (encSpatialEntry) a1))), (5, .c (.v (.int .i64 x)))] [])) ?_ (fun y e s => (match y with | .inl w => e = .ret ∧ s.le (sparse 27 [(4, .c (.v (.bool false)))] []) | .inr w0 => (fun (w : Unit) => e = .exit 0 ∧ s.le (sparse 27 [] [])) w0)) ?_ ?_
    · clear hr4 hN5
      show St.le _ _
      exact le_sparse rfl ⟨AV.le_refl _, AV.le_refl _, AV.le_refl _, trivial⟩ trivial rfl
    · clear hr4 hN5
      intro x z9 h K7 hK8 hY6
      replace h := of_let h
      obtain ⟨v1, hv1, h⟩ := h
      have hv1 : v1 = x := hv1
      subst hv1
      cbv
      refine fork (fun b19 => ?_) (fun b19 => ?_)
      · replace h := of_br_t b19 h
        cbv
        replace h := of_req h
        obtain ⟨c14, h⟩ := h
        refine ⟨⟨c14, trivial⟩, ?_⟩
        replace h := of_req h
        obtain ⟨c15, h⟩ := h
        refine ⟨⟨c15, trivial⟩, ?_⟩
        replace h := of_bind h
        obtain ⟨y16, hy17, h⟩ := h
        refine ⟨{ args := [.agg [.v (.int .i64 (GD a0 (A.toN v1)).fId), .v (.int .i64 (GD a0 (A.toN v1)).fBox.fX0), .v (.int .i64 (GD a0 (A.toN v1)).fBox.fY0), .v (.int .i64 (GD a0 (A.toN v1)).fBox.fX1), .v (.int .i64 (GD a0 (A.toN v1)).fBox.fY1)], .agg [.v (.int .i64 (GD a1 (A.toN v1)).fId), .v (.int .i64 (GD a1 (A.toN v1)).fBox.fX0), .v (.int .i64 (GD a1 (A.toN v1)).fBox.fY0), .v (.int .i64 (GD a1 (A.toN v1)).fBox.fX1), .v (.int .i64 (GD a1 (A.toN v1)).fBox.fY1)]], o0 := [], r := .c (.v (.bool y16)), o1 := [], fl := true, σ := [], τ := [] }, hf_laws_eqSpatialEntry _ _ _ hy17, ⟨les_cons (AV.le_refl _) (les_cons (AV.le_refl _) (les_nil)), trivial, rfl, rfl, rfl, rfl, trivial, rfl⟩, ?_⟩
        cbv
        refine fork (fun b18 => ?_) (fun b18 => ?_)
        · replace h := of_br_t b18 h
          cbv
          injection h with h
          refine hY6 _ h.symm _ _ (And.intro rfl ?_) (by intro hh; cases hh)
          exact le_sparse rfl ⟨AV.le_refl _, trivial⟩ trivial rfl
        · replace h := of_br_f b18 h
          cbv
          injection h with h
          refine hK8 _ h.symm _ ?_
          exact le_sparse rfl ⟨AV.le_refl _, AV.le_refl _, AV.le_refl _, trivial⟩ trivial rfl
      · replace h := of_br_f b19 h
        cbv
        injection h with h
        refine hY6 _ h.symm _ _ (And.intro rfl ?_) (by intro hh; cases hh)
        exact le_sparse rfl trivial trivial rfl
    · clear hr4
      have h := hN5
      clear hN5
      intro e12 s13 q11 hne
      rcases y3 with y3k0 | y3m0
      · replace h := h
        obtain ⟨rfl, q11⟩ := q11
        cbv
        injection h with h
        subst h
        refine ⟨(sparse 27 [(4, .c (.v (.bool false)))] []), ?_, ?_⟩
        · refine St.le_trans q11 ?_
          exact le_sparse rfl ⟨AV.le_refl _, trivial⟩ trivial rfl
        · exact ⟨AV.le_refl _, trivial, rfl⟩
      · obtain ⟨rfl, q11⟩ := q11
        cbv
        refine ⟨_, q11, ?_⟩
        cbv
        injection h with h
        subst h
        refine ⟨(sparse 27 [(4, .c (.v (.bool true)))] []), ?_, ?_⟩
        · exact le_sparse rfl ⟨AV.le_refl _, trivial⟩ trivial rfl
        · exact ⟨AV.le_refl _, trivial, rfl⟩

noncomputable def L_laws_eqInt64S_x2 (a0 : List Int) (a1 : List Int) : (Int) → Option ((Int) ⊕ ((Unit) ⊕ (Unit))) := fun x2 =>
  letO x2 fun v1 =>
  br (std.lt v1 (std.ofN (len a0)))
  (req (std.inR v1 (len a0)) <|
  req (std.inR v1 (len a1)) <|
  br (std.not (std.eq (gd a0 (std.toN v1)) (gd a1 (std.toN v1))))
  (some (.inr (.inl ())))
  (some (.inl (std.add .i64 v1 1))))
  (some (.inr (.inr ())))
/-- laws.eqInt64S -/
noncomputable def F_laws_eqInt64S (a0 : List Int) (a1 : List Int) : Option (Bool) :=
  br (std.not (std.eq (std.ofN (len a0)) (std.ofN (len a1))))
  (some false)
  ((whileP (σ := Int) (ρ := (Unit) ⊕ (Unit)) (L_laws_eqInt64S_x2 a0 a1) 0).bind fun y3 =>
  (match y3 with
    | .inl y3k0 => (
        some false)
    | .inr y3m0 =>
        some true))
theorem run_laws_eqInt64S (a0 : List Int) (a1 : List Int) (r : Bool) (h : F_laws_eqInt64S a0 a1 = some r) : Fun Try.prog 18 [.c (.bs (len a0) 1 (row gd (encI .i64) a0)), .c (.bs (len a1) 1 (row gd (encI .i64) a1))] [] (.c (.v (.bool r))) [] true := by
  refine Fun.of_wp (oneOf []) tok mixed Try.func18 (by kernel_rfl) rfl Try.ntmps18 rfl trivial (fun _ => ⟨trivial, trivial⟩) ?_
  unfold F_laws_eqInt64S at h
  unfold L_laws_eqInt64S_x2 at h
  generalize hLEN : @len = LEN at *
  generalize hGD : @gd = GD at *
  generalize hA : std = A at *
  generalize hP : Try.prog = P at *
  cbv
  refine fork (fun b18 => ?_) (fun b18 => ?_)
  · replace h := of_br_t b18 h
    cbv
    injection h with h
    subst h
    refine ⟨(sparse 26 [(4, .c (.v (.bool false)))] []), ?_, ?_⟩
    · exact le_sparse rfl ⟨AV.le_refl _, trivial⟩ trivial rfl
    · exact ⟨AV.le_refl _, trivial, rfl⟩
  · replace h := of_br_f b18 h
    cbv
    replace h := of_bind h
    obtain ⟨y3, hr4, hN5⟩ := h
    refine loop_cut hr4 (fun x => (sparse 26 [(0, .c (.bs (LEN a0) 1 (row GD (encI .i64) a0))), (1, .c (.bs (LEN a1) 1 (row GD (encI .i64) a1))), (5, .c (.v (.int .i64 x)))] [])) ?_ (fun y e s => (match y with | .inl w => e = .ret ∧ s.le (sparse 26 [(4, .c (.v (.bool false)))] []) | .inr w0 => (fun (w : Unit) => e = .exit 0 ∧ s.le (sparse 26 [] [])) w0)) ?_ ?_
    · clear hr4 hN5
      show St.le _ _
      exact le_sparse rfl ⟨AV.le_refl _, AV.le_refl _, AV.le_refl _, trivial⟩ trivial rfl
    · clear hr4 hN5
      intro x z9 h K7 hK8 hY6
      replace h := of_let h
      obtain ⟨v1, hv1, h⟩ := h
      have hv1 : v1 = x := hv1
      subst hv1
      cbv
      refine fork (fun b17 => ?_) (fun b17 => ?_)
      · replace h := of_br_t b17 h
        cbv
        replace h := of_req h
        obtain ⟨c14, h⟩ := h
        refine ⟨⟨c14, trivial⟩, ?_⟩
        replace h := of_req h
        obtain ⟨c15, h⟩ := h
        refine ⟨⟨c15, trivial⟩, ?_⟩
        refine fork (fun b16 => ?_) (fun b16 => ?_)
        · replace h := of_br_t b16 h
          cbv
          injection h with h
          refine hY6 _ h.symm _ _ (And.intro rfl ?_) (by intro hh; cases hh)
          exact le_sparse rfl ⟨AV.le_refl _, trivial⟩ trivial rfl
        · replace h := of_br_f b16 h
          cbv
          injection h with h
          refine hK8 _ h.symm _ ?_
          exact le_sparse rfl ⟨AV.le_refl _, AV.le_refl _, AV.le_refl _, trivial⟩ trivial rfl
      · replace h := of_br_f b17 h
        cbv
        injection h with h
        refine hY6 _ h.symm _ _ (And.intro rfl ?_) (by intro hh; cases hh)
        exact le_sparse rfl trivial trivial rfl
    · clear hr4
      have h := hN5
      clear hN5
      intro e12 s13 q11 hne
      rcases y3 with y3k0 | y3m0
      · replace h := h
        obtain ⟨rfl, q11⟩ := q11
        cbv
        injection h with h
        subst h
        refine ⟨(sparse 26 [(4, .c (.v (.bool false)))] []), ?_, ?_⟩
        · refine St.le_trans q11 ?_
          exact le_sparse rfl ⟨AV.le_refl _, trivial⟩ trivial rfl
        · exact ⟨AV.le_refl _, trivial, rfl⟩
      · obtain ⟨rfl, q11⟩ := q11
        cbv
        refine ⟨_, q11, ?_⟩
        cbv
        injection h with h
        subst h
        refine ⟨(sparse 26 [(4, .c (.v (.bool true)))] []), ?_, ?_⟩
        · exact le_sparse rfl ⟨AV.le_refl _, trivial⟩ trivial rfl
        · exact ⟨AV.le_refl _, trivial, rfl⟩

noncomputable def L_laws_eqInt64SS_x2 (a0 : List (List Int)) (a1 : List (List Int)) : (Int) → Option ((Int) ⊕ ((Unit) ⊕ (Unit))) := fun x2 =>
  letO x2 fun v1 =>
  br (std.lt v1 (std.ofN (len a0)))
  (req (std.inR v1 (len a0)) <|
  req (std.inR v1 (len a1)) <|
  (F_laws_eqInt64S (gd a0 (std.toN v1)) (gd a1 (std.toN v1))).bind fun y16 =>
  br (!(y16))
  (some (.inr (.inl ())))
  (some (.inl (std.add .i64 v1 1))))
  (some (.inr (.inr ())))
/-- laws.eqInt64SS -/
noncomputable def F_laws_eqInt64SS (a0 : List (List Int)) (a1 : List (List Int)) : Option (Bool) :=
  br (std.not (std.eq (std.ofN (len a0)) (std.ofN (len a1))))
  (some false)
  ((whileP (σ := Int) (ρ := (Unit) ⊕ (Unit)) (L_laws_eqInt64SS_x2 a0 a1) 0).bind fun y3 =>
  (match y3 with
    | .inl y3k0 => (
        some false)
    | .inr y3m0 =>
        some true))
theorem run_laws_eqInt64SS (a0 : List (List Int)) (a1 : List (List Int)) (r : Bool) (h : F_laws_eqInt64SS a0 a1 = some r) : Fun Try.prog 102 [.c (.bs (len a0) 1 (row gd (encL len gd 1 (encI .i64)) a0)), .c (.bs (len a1) 1 (row gd (encL len gd 1 (encI .i64)) a1))] [] (.c (.v (.bool r))) [] true := by
  refine Fun.of_wp (oneOf []) tok mixed Try.func102 (by kernel_rfl) rfl Try.ntmps102 rfl trivial (fun _ => ⟨trivial, trivial⟩) ?_
  unfold F_laws_eqInt64SS at h
  unfold L_laws_eqInt64SS_x2 at h
  have hf_laws_eqInt64S := @run_laws_eqInt64S
  generalize hLEN : @len = LEN at *
  generalize hGD : @gd = GD at *
  generalize hA : std = A at *
  generalize hP : Try.prog = P at *
  cbv
  refine fork (fun b20 => ?_) (fun b20 => ?_)
  · replace h := of_br_t b20 h
    cbv
    injection h with h
    subst h
    refine ⟨(sparse 27 [(4, .c (.v (.bool false)))] []), ?_, ?_⟩
    · exact le_sparse rfl ⟨AV.le_refl _, trivial⟩ trivial rfl
    · exact ⟨AV.le_refl _, trivial, rfl⟩
  · replace h := of_br_f b20 h
    cbv
    replace h := of_bind h
    obtain ⟨y3, hr4, hN5⟩ := h
    refine loop_cut hr4 (fun x => (sparse 27 [(0, .c (.bs (LEN a0) 1 (row GD (encL LEN GD 1 (encI .i64)) a0))), (1, .c (.bs (LEN a1) 1 (row GD (encL LEN GD 1 (encI .i64)) a1))), (5, .c (.v (.int .i64 x)))] [])) ?_ (fun y e s => (match y with | .inl w => e = .ret ∧ s.le (sparse 27 [(4, .c (.v (.bool false)))] []) | .inr w0 => (fun (w : Unit) => e = .exit 0 ∧ s.le (sparse 27 [] [])) w0)) ?_ ?_
    · clear hr4 hN5
      show St.le _ _
      exact le_sparse rfl ⟨AV.le_refl _, AV.le_refl _, AV.le_refl _, trivial⟩ trivial rfl
    · clear hr4 hN5
      intro x z9 h K7 hK8 hY6
      replace h := of_let h
      obtain ⟨v1, hv1, h⟩ := h
      have hv1 : v1 = x := hv1
      subst hv1
      cbv
      refine fork (fun b19 => ?_) (fun b19 => ?_)
      · replace h := of_br_t b19 h
        cbv
        replace h := of_req h
        obtain ⟨c14, h⟩ := h
        refine ⟨⟨c14, trivial⟩, ?_⟩
        replace h := of_req h
        obtain ⟨c15, h⟩ := h
        refine ⟨⟨c15, trivial⟩, ?_⟩
        replace h := of_bind h
        obtain ⟨y16, hy17, h⟩ := h
        refine ⟨{ args := [.c (.bs (LEN (GD a0 (A.toN v1))) 1 (row GD (encI .i64) (GD a0 (A.toN v1)))), .c (.bs (LEN (GD a1 (A.toN v1))) 1 (row GD (encI .i64) (GD a1 (A.toN v1))))], o0 := [], r := .c (.v (.bool y16)), o1 := [], fl := true, σ := [], τ := [] }, hf_laws_eqInt64S _ _ _ hy17, ⟨les_cons (AV.le_refl _) (les_cons (AV.le_refl _) (les_nil)), trivial, rfl, rfl, rfl, rfl, trivial, rfl⟩, ?_⟩
        cbv
        refine fork (fun b18 => ?_) (fun b18 => ?_)
        · replace h := of_br_t b18 h
          cbv
          injection h with h
          refine hY6 _ h.symm _ _ (And.intro rfl ?_) (by intro hh; cases hh)
          exact le_sparse rfl ⟨AV.le_refl _, trivial⟩ trivial rfl
        · replace h := of_br_f b18 h
          cbv
          injection h with h
          refine hK8 _ h.symm _ ?_
          exact le_sparse rfl ⟨AV.le_refl _, AV.le_refl _, AV.le_refl _, trivial⟩ trivial rfl
      · replace h := of_br_f b19 h
        cbv
        injection h with h
        refine hY6 _ h.symm _ _ (And.intro rfl ?_) (by intro hh; cases hh)
        exact le_sparse rfl trivial trivial rfl
    · clear hr4
      have h := hN5
      clear hN5
      intro e12 s13 q11 hne
      rcases y3 with y3k0 | y3m0
      · replace h := h
        obtain ⟨rfl, q11⟩ := q11
        cbv
        injection h with h
        subst h
        refine ⟨(sparse 27 [(4, .c (.v (.bool false)))] []), ?_, ?_⟩
        · refine St.le_trans q11 ?_
          exact le_sparse rfl ⟨AV.le_refl _, trivial⟩ trivial rfl
        · exact ⟨AV.le_refl _, trivial, rfl⟩
      · obtain ⟨rfl, q11⟩ := q11
        cbv
        refine ⟨_, q11, ?_⟩
        cbv
        injection h with h
        subst h
        refine ⟨(sparse 27 [(4, .c (.v (.bool true)))] []), ?_, ?_⟩
        · exact le_sparse rfl ⟨AV.le_refl _, trivial⟩ trivial rfl
        · exact ⟨AV.le_refl _, trivial, rfl⟩

/-- laws.eqSpatialIndex -/
noncomputable def F_laws_eqSpatialIndex (a0 : TSpatialIndex) (a1 : TSpatialIndex) : Option (Bool) :=
  (F_laws_eqSpatialEntryS a0.fEntries a1.fEntries).bind fun y1 =>
  br (!(y1))
  (some false)
  ((F_laws_eqInt64SS a0.fBuckets a1.fBuckets).bind fun y3 =>
  br (!(y3))
  (some false)
  (some true))
theorem run_laws_eqSpatialIndex (a0 : TSpatialIndex) (a1 : TSpatialIndex) (r : Bool) (h : F_laws_eqSpatialIndex a0 a1 = some r) : Fun Try.prog 38 [.agg [.bs (len a0.fEntries) 5 (row gd (encSpatialEntry) a0.fEntries), .bs (len a0.fBuckets) 1 (row gd (encL len gd 1 (encI .i64)) a0.fBuckets)], .agg [.bs (len a1.fEntries) 5 (row gd (encSpatialEntry) a1.fEntries), .bs (len a1.fBuckets) 1 (row gd (encL len gd 1 (encI .i64)) a1.fBuckets)]] [] (.c (.v (.bool r))) [] true := by
  refine Fun.of_wp (oneOf []) tok mixed Try.func38 (by kernel_rfl) rfl Try.ntmps38 rfl trivial (fun _ => ⟨trivial, trivial⟩) ?_
  unfold F_laws_eqSpatialIndex at h
  have hf_laws_eqInt64SS := @run_laws_eqInt64SS
  have hf_laws_eqSpatialEntryS := @run_laws_eqSpatialEntryS
  generalize hLEN : @len = LEN at *
  generalize hGD : @gd = GD at *
  generalize hA : std = A at *
  generalize hP : Try.prog = P at *
  cbv
  replace h := of_bind h
  obtain ⟨y1, hy2, h⟩ := h
  refine ⟨{ args := [.c (.bs (LEN a0.fEntries) 5 (row GD (encSpatialEntry) a0.fEntries)), .c (.bs (LEN a1.fEntries) 5 (row GD (encSpatialEntry) a1.fEntries))], o0 := [], r := .c (.v (.bool y1)), o1 := [], fl := true, σ := [], τ := [] }, hf_laws_eqSpatialEntryS _ _ _ hy2, ⟨les_cons (AV.le_refl _) (les_cons (AV.le_refl _) (les_nil)), trivial, rfl, rfl, rfl, rfl, trivial, rfl⟩, ?_⟩
  cbv
  refine fork (fun b6 => ?_) (fun b6 => ?_)
  · replace h := of_br_t b6 h
    cbv
    injection h with h
    subst h
    refine ⟨(sparse 17 [(4, .c (.v (.bool false)))] []), ?_, ?_⟩
    · exact le_sparse rfl ⟨AV.le_refl _, trivial⟩ trivial rfl
    · exact ⟨AV.le_refl _, trivial, rfl⟩
  · replace h := of_br_f b6 h
    cbv
    replace h := of_bind h
    obtain ⟨y3, hy4, h⟩ := h
    refine ⟨{ args := [.c (.bs (LEN a0.fBuckets) 1 (row GD (encL LEN GD 1 (encI .i64)) a0.fBuckets)), .c (.bs (LEN a1.fBuckets) 1 (row GD (encL LEN GD 1 (encI .i64)) a1.fBuckets))], o0 := [], r := .c (.v (.bool y3)), o1 := [], fl := true, σ := [], τ := [] }, hf_laws_eqInt64SS _ _ _ hy4, ⟨les_cons (AV.le_refl _) (les_cons (AV.le_refl _) (les_nil)), trivial, rfl, rfl, rfl, rfl, trivial, rfl⟩, ?_⟩
    cbv
    refine fork (fun b5 => ?_) (fun b5 => ?_)
    · replace h := of_br_t b5 h
      cbv
      injection h with h
      subst h
      refine ⟨(sparse 17 [(4, .c (.v (.bool false)))] []), ?_, ?_⟩
      · exact le_sparse rfl ⟨AV.le_refl _, trivial⟩ trivial rfl
      · exact ⟨AV.le_refl _, trivial, rfl⟩
    · replace h := of_br_f b5 h
      cbv
      injection h with h
      subst h
      refine ⟨(sparse 17 [(4, .c (.v (.bool true)))] []), ?_, ?_⟩
      · exact le_sparse rfl ⟨AV.le_refl _, trivial⟩ trivial rfl
      · exact ⟨AV.le_refl _, trivial, rfl⟩

noncomputable def L_laws_markSpatialEntryS_mob_x4 (a0 : List TSpatialEntry) : (Int × Int × (List TSpatialEntry)) → Option ((Int × Int × (List TSpatialEntry)) ⊕ ((Int × (List TSpatialEntry)))) := fun x4 =>
  letO x4.1 fun v1 =>
  letO x4.2.1 fun v2 =>
  letO x4.2.2 fun v3 =>
  br (std.lt v2 (std.ofN (len a0)))
  (req (std.inR v2 (len a0)) <|
  req (len a0 = len v3) <|
  letO (List.set v3 (std.nadd 0 (std.toN v2)) (TSpatialEntry.mk v1 (gd v3 (std.nadd 0 (std.toN v2))).fBox)) fun l17 =>
  req (std.inR v2 (len a0)) <|
  req (len a0 = len l17) <|
  letO (List.set l17 (std.nadd 0 (std.toN v2)) (TSpatialEntry.mk (gd l17 (std.nadd 0 (std.toN v2))).fId (TRect.mk (std.add .i64 v1 1) (gd l17 (std.nadd 0 (std.toN v2))).fBox.fY0 (gd l17 (std.nadd 0 (std.toN v2))).fBox.fX1 (gd l17 (std.nadd 0 (std.toN v2))).fBox.fY1))) fun l19 =>
  req (std.inR v2 (len a0)) <|
  req (len a0 = len l19) <|
  letO (List.set l19 (std.nadd 0 (std.toN v2)) (TSpatialEntry.mk (gd l19 (std.nadd 0 (std.toN v2))).fId (TRect.mk (gd l19 (std.nadd 0 (std.toN v2))).fBox.fX0 (std.add .i64 (std.add .i64 v1 1) 1) (gd l19 (std.nadd 0 (std.toN v2))).fBox.fX1 (gd l19 (std.nadd 0 (std.toN v2))).fBox.fY1))) fun l21 =>
  req (std.inR v2 (len a0)) <|
  req (len a0 = len l21) <|
  letO (List.set l21 (std.nadd 0 (std.toN v2)) (TSpatialEntry.mk (gd l21 (std.nadd 0 (std.toN v2))).fId (TRect.mk (gd l21 (std.nadd 0 (std.toN v2))).fBox.fX0 (gd l21 (std.nadd 0 (std.toN v2))).fBox.fY0 (std.add .i64 (std.add .i64 (std.add .i64 v1 1) 1) 1) (gd l21 (std.nadd 0 (std.toN v2))).fBox.fY1))) fun l23 =>
  req (std.inR v2 (len a0)) <|
  req (len a0 = len l23) <|
  letO (List.set l23 (std.nadd 0 (std.toN v2)) (TSpatialEntry.mk (gd l23 (std.nadd 0 (std.toN v2))).fId (TRect.mk (gd l23 (std.nadd 0 (std.toN v2))).fBox.fX0 (gd l23 (std.nadd 0 (std.toN v2))).fBox.fY0 (gd l23 (std.nadd 0 (std.toN v2))).fBox.fX1 (std.add .i64 (std.add .i64 (std.add .i64 (std.add .i64 v1 1) 1) 1) 1)))) fun l25 =>
  some (.inl (std.add .i64 (std.add .i64 (std.add .i64 (std.add .i64 (std.add .i64 v1 1) 1) 1) 1) 1, std.add .i64 v2 1, l25)))
  (some (.inr (v1, v3)))
/-- laws.markSpatialEntryS -/
noncomputable def F_laws_markSpatialEntryS_mob (a0 : List TSpatialEntry) (a1 : Int) : Option (Int × (List TSpatialEntry)) :=
  (whileP (σ := Int × Int × (List TSpatialEntry)) (ρ := (Int × (List TSpatialEntry))) (L_laws_markSpatialEntryS_mob_x4 a0) (a1, 0, a0)).bind fun y5 =>
  letO y5 fun y5k0 =>
  letO y5k0.1 fun w32 =>
  letO y5k0.2 fun w33 =>
  req (len a0 = len w33) <|
  some (w32, w33)
theorem run_laws_markSpatialEntryS_mob (a0 : List TSpatialEntry) (a1 : Int) (r : Int × (List TSpatialEntry)) (h : F_laws_markSpatialEntryS_mob a0 a1 = some r) : Fun Try.prog 103 [.c (.os 5 0 (len a0)), .c (.v (.int .i64 a1))] [(5, .arr .rw [] (len a0) 5 (row gd (encSpatialEntry) a0))] (.c (.v (.int .i64 r.1))) [(5, .arr .rw [] (len r.2) 5 (row gd (encSpatialEntry) r.2))] true := by
  refine Fun.of_wp (oneOf []) tok mixed Try.func103 (by kernel_rfl) rfl Try.ntmps103 rfl ⟨fun i _ j _ k hk => (noref (plain_nil (pl_encSpatialEntry _ _)) hk).elim, trivial⟩ (fun _ => ⟨trivial, ⟨fun i _ j _ => val_flat (vl_encSpatialEntry _ _), trivial⟩⟩) ?_
  unfold F_laws_markSpatialEntryS_mob at h
  unfold L_laws_markSpatialEntryS_mob_x4 at h
  generalize hLEN : @len = LEN at *
  generalize hGD : @gd = GD at *
  generalize hA : std = A at *
  generalize hP : Try.prog = P at *
  cbv
  replace h := of_bind h
  obtain ⟨y5, hr6, hN7⟩ := h
  refine loop_cut hr6 (fun x => (sparse 52 [(0, .c (.os 5 0 (LEN a0))), (1, .c (.v (.int .i64 x.1))), (5, .c (.v (.int .i64 x.2.1)))] [(5, .arr .rw [] (LEN a0) 5 (row GD (encSpatialEntry) x.2.2))])) ?_ (fun y e s => (fun (w : Int × (List TSpatialEntry)) => e = .exit 0 ∧ s.le (sparse 52 [(1, .c (.v (.int .i64 w.1)))] [(5, .arr .rw [] (LEN a0) 5 (row GD (encSpatialEntry) w.2))])) y) ?_ ?_
  · clear hr6 hN7
    show St.le _ _
    exact le_sparse rfl ⟨AV.le_refl _, AV.le_refl _, AV.le_refl _, trivial⟩ ⟨⟨fun hw => hw, fun c hc => (by cases hc), .inl rfl, rfl, rfl, fun i hi j hj => rfl⟩, trivial⟩ rfl
  · clear hr6 hN7
    intro x z11 h K9 hK10 hY8
    obtain ⟨x0_, x1_, x2_⟩ := x
    replace h := of_let h
    obtain ⟨v1, hv1, h⟩ := h
    have hv1 : v1 = x0_ := hv1
    subst hv1
    replace h := of_let h
    obtain ⟨v2, hv2, h⟩ := h
    have hv2 : v2 = x1_ := hv2
    subst hv2
    replace h := of_let h
    obtain ⟨v3, hv3, h⟩ := h
    have hv3 : v3 = x2_ := hv3
    subst hv3
    cbv
    refine fork (fun b31 => ?_) (fun b31 => ?_)
    · replace h := of_br_t b31 h
      cbv
      replace h := of_req h
      obtain ⟨c16, h⟩ := h
      refine ⟨⟨c16, trivial⟩, ?_⟩
      replace h := of_req h
      obtain ⟨c30, h⟩ := h
      replace h := of_let h
      obtain ⟨l17, hl17, h⟩ := h
      refine And.intro (by first | exact (by subst hA; exact idx_lt c16) | (refine And.intro (by subst hA; exact idx_lt c16) ?_; first | trivial | exact ⟨trivial, trivial⟩)) ?_
      refine ⟨_, rfl, _, row GD (encSpatialEntry) l17, rfl, ?_, ?_⟩
      · subst hGD hLEN hA
        rw [c30] at c16
        refine upd_set hl17 (idx_lt c16) ?_ ?_
        · intro b hb hh
          match b, hb, hh with | 0, _, hh => exact rfl | 1, _, hh => exact (absurd hh (show ¬ (0 ≤ 1 ∧ 1 < 0 + 1) from by decide)) | 2, _, hh => exact (absurd hh (show ¬ (0 ≤ 2 ∧ 2 < 0 + 1) from by decide)) | 3, _, hh => exact (absurd hh (show ¬ (0 ≤ 3 ∧ 3 < 0 + 1) from by decide)) | 4, _, hh => exact (absurd hh (show ¬ (0 ≤ 4 ∧ 4 < 0 + 1) from by decide)) | (b_ + 5), h_, _ => exact absurd h_ (by omega)
        · intro b hb hh
          match b, hb, hh with | 0, _, hh => exact (absurd (show 0 ≤ 0 ∧ 0 < 0 + 1 from by decide) hh) | 1, _, hh => exact rfl | 2, _, hh => exact rfl | 3, _, hh => exact rfl | 4, _, hh => exact rfl | (b_ + 5), h_, _ => exact absurd h_ (by omega)
      cbv
      replace h := of_req h
      obtain ⟨c18, h⟩ := h
      refine ⟨⟨c18, trivial⟩, ?_⟩
      replace h := of_req h
      obtain ⟨c29, h⟩ := h
      replace h := of_let h
      obtain ⟨l19, hl19, h⟩ := h
      refine And.intro (by first | exact (by subst hA; exact idx_lt c18) | (refine And.intro (by subst hA; exact idx_lt c18) ?_; first | trivial | exact ⟨trivial, trivial⟩)) ?_
      refine ⟨_, rfl, _, row GD (encSpatialEntry) l19, rfl, ?_, ?_⟩
      · subst hGD hLEN hA
        rw [c29] at c18
        refine upd_set hl19 (idx_lt c18) ?_ ?_
        · intro b hb hh
          match b, hb, hh with | 0, _, hh => exact (absurd hh (show ¬ (1 ≤ 0 ∧ 0 < 1 + 1) from by decide)) | 1, _, hh => exact rfl | 2, _, hh => exact (absurd hh (show ¬ (1 ≤ 2 ∧ 2 < 1 + 1) from by decide)) | 3, _, hh => exact (absurd hh (show ¬ (1 ≤ 3 ∧ 3 < 1 + 1) from by decide)) | 4, _, hh => exact (absurd hh (show ¬ (1 ≤ 4 ∧ 4 < 1 + 1) from by decide)) | (b_ + 5), h_, _ => exact absurd h_ (by omega)
        · intro b hb hh
          match b, hb, hh with | 0, _, hh => exact rfl | 1, _, hh => exact (absurd (show 1 ≤ 1 ∧ 1 < 1 + 1 from by decide) hh) | 2, _, hh => exact rfl | 3, _, hh => exact rfl | 4, _, hh => exact rfl | (b_ + 5), h_, _ => exact absurd h_ (by omega)
      cbv
      replace h := of_req h
      obtain ⟨c20, h⟩ := h
      refine ⟨⟨c20, trivial⟩, ?_⟩
      replace h := of_req h
      obtain ⟨c28, h⟩ := h
      replace h := of_let h
      obtain ⟨l21, hl21, h⟩ := h
      refine And.intro (by first | exact (by subst hA; exact idx_lt c20) | (refine And.intro (by subst hA; exact idx_lt c20) ?_; first | trivial | exact ⟨trivial, trivial⟩)) ?_
      refine ⟨_, rfl, _, row GD (encSpatialEntry) l21, rfl, ?_, ?_⟩
      · subst hGD hLEN hA
        rw [c28] at c20
        refine upd_set hl21 (idx_lt c20) ?_ ?_
        · intro b hb hh
          match b, hb, hh with | 0, _, hh => exact (absurd hh (show ¬ (2 ≤ 0 ∧ 0 < 2 + 1) from by decide)) | 1, _, hh => exact (absurd hh (show ¬ (2 ≤ 1 ∧ 1 < 2 + 1) from by decide)) | 2, _, hh => exact rfl | 3, _, hh => exact (absurd hh (show ¬ (2 ≤ 3 ∧ 3 < 2 + 1) from by decide)) | 4, _, hh => exact (absurd hh (show ¬ (2 ≤ 4 ∧ 4 < 2 + 1) from by decide)) | (b_ + 5), h_, _ => exact absurd h_ (by omega)
        · intro b hb hh
          match b, hb, hh with | 0, _, hh => exact rfl | 1, _, hh => exact rfl | 2, _, hh => exact (absurd (show 2 ≤ 2 ∧ 2 < 2 + 1 from by decide) hh) | 3, _, hh => exact rfl | 4, _, hh => exact rfl | (b_ + 5), h_, _ => exact absurd h_ (by omega)
      cbv
      replace h := of_req h
      obtain ⟨c22, h⟩ := h
      refine ⟨⟨c22, trivial⟩, ?_⟩
      replace h := of_req h
      obtain ⟨c27, h⟩ := h
      replace h := of_let h
      obtain ⟨l23, hl23, h⟩ := h
      refine And.intro (by first | exact (by subst hA; exact idx_lt c22) | (refine And.intro (by subst hA; exact idx_lt c22) ?_; first | trivial | exact ⟨trivial, trivial⟩)) ?_
      refine ⟨_, rfl, _, row GD (encSpatialEntry) l23, rfl, ?_, ?_⟩
      · subst hGD hLEN hA
        rw [c27] at c22
        refine upd_set hl23 (idx_lt c22) ?_ ?_
        · intro b hb hh
          match b, hb, hh with | 0, _, hh => exact (absurd hh (show ¬ (3 ≤ 0 ∧ 0 < 3 + 1) from by decide)) | 1, _, hh => exact (absurd hh (show ¬ (3 ≤ 1 ∧ 1 < 3 + 1) from by decide)) | 2, _, hh => exact (absurd hh (show ¬ (3 ≤ 2 ∧ 2 < 3 + 1) from by decide)) | 3, _, hh => exact rfl | 4, _, hh => exact (absurd hh (show ¬ (3 ≤ 4 ∧ 4 < 3 + 1) from by decide)) | (b_ + 5), h_, _ => exact absurd h_ (by omega)
        · intro b hb hh
          match b, hb, hh with | 0, _, hh => exact rfl | 1, _, hh => exact rfl | 2, _, hh => exact rfl | 3, _, hh => exact (absurd (show 3 ≤ 3 ∧ 3 < 3 + 1 from by decide) hh) | 4, _, hh => exact rfl | (b_ + 5), h_, _ => exact absurd h_ (by omega)
      cbv
      replace h := of_req h
      obtain ⟨c24, h⟩ := h
      refine ⟨⟨c24, trivial⟩, ?_⟩
      replace h := of_req h
      obtain ⟨c26, h⟩ := h
      replace h := of_let h
      obtain ⟨l25, hl25, h⟩ := h
      refine And.intro (by first | exact (by subst hA; exact idx_lt c24) | (refine And.intro (by subst hA; exact idx_lt c24) ?_; first | trivial | exact ⟨trivial, trivial⟩)) ?_
      refine ⟨_, rfl, _, row GD (encSpatialEntry) l25, rfl, ?_, ?_⟩
      · subst hGD hLEN hA
        rw [c26] at c24
        refine upd_set hl25 (idx_lt c24) ?_ ?_
        · intro b hb hh
          match b, hb, hh with | 0, _, hh => exact (absurd hh (show ¬ (4 ≤ 0 ∧ 0 < 4 + 1) from by decide)) | 1, _, hh => exact (absurd hh (show ¬ (4 ≤ 1 ∧ 1 < 4 + 1) from by decide)) | 2, _, hh => exact (absurd hh (show ¬ (4 ≤ 2 ∧ 2 < 4 + 1) from by decide)) | 3, _, hh => exact (absurd hh (show ¬ (4 ≤ 3 ∧ 3 < 4 + 1) from by decide)) | 4, _, hh => exact rfl | (b_ + 5), h_, _ => exact absurd h_ (by omega)
        · intro b hb hh
          match b, hb, hh with | 0, _, hh => exact rfl | 1, _, hh => exact rfl | 2, _, hh => exact rfl | 3, _, hh => exact rfl | 4, _, hh => exact (absurd (show 4 ≤ 4 ∧ 4 < 4 + 1 from by decide) hh) | (b_ + 5), h_, _ => exact absurd h_ (by omega)
      cbv
      injection h with h
      refine hK10 _ h.symm _ ?_
      exact le_sparse rfl ⟨AV.le_refl _, AV.le_refl _, AV.le_refl _, trivial⟩ ⟨⟨fun hw => hw, fun c hc => (by cases hc), .inl rfl, rfl, rfl, fun i hi j hj => rfl⟩, trivial⟩ rfl
    · replace h := of_br_f b31 h
      cbv
      injection h with h
      refine hY8 _ h.symm _ _ (And.intro rfl ?_) (by intro hh; cases hh)
      exact le_sparse rfl ⟨AV.le_refl _, trivial⟩ ⟨⟨fun hw => hw, fun c hc => (by cases hc), .inl rfl, rfl, rfl, fun i hi j hj => rfl⟩, trivial⟩ rfl
  · clear hr6
    have h := hN7
    clear hN7
    intro e14 s15 q13 hne
    replace h := of_let h
    obtain ⟨y5k0, hyk, h⟩ := h
    have hyk : y5k0 = y5 := hyk
    subst hyk
    obtain ⟨rfl, q13⟩ := q13
    obtain ⟨y5k0_0, y5k0_1⟩ := y5k0
    replace h := of_let h
    obtain ⟨w32, hw32, h⟩ := h
    have hw32 : w32 = y5k0_0 := hw32
    subst hw32
    replace h := of_let h
    obtain ⟨w33, hw33, h⟩ := h
    have hw33 : w33 = y5k0_1 := hw33
    subst hw33
    cbv
    refine ⟨_, q13, ?_⟩
    cbv
    replace h := of_req h
    obtain ⟨c34, h⟩ := h
    injection h with h
    subst h
    refine ⟨(sparse 52 [(4, .c (.v (.int .i64 w32)))] [(5, .arr .rw [] (LEN w33) 5 (row GD (encSpatialEntry) w33))]), ?_, ?_⟩
    · rw [c34]
      exact le_sparse rfl ⟨AV.le_refl _, trivial⟩ ⟨⟨fun hw => hw, fun c hc => (by cases hc), .inl rfl, rfl, rfl, fun i hi j hj => rfl⟩, trivial⟩ rfl
    · exact ⟨AV.le_refl _, ⟨⟨fun hw => hw, fun c hc => (by cases hc), .inl rfl, rfl, rfl, fun i hi j hj => rfl⟩, trivial⟩, rfl⟩

noncomputable def L_laws_markInt64S_mob_x4 (a0 : List Int) : (Int × Int × (List Int)) → Option ((Int × Int × (List Int)) ⊕ ((Int × (List Int)))) := fun x4 =>
  letO x4.1 fun v1 =>
  letO x4.2.1 fun v2 =>
  letO x4.2.2 fun v3 =>
  br (std.lt v2 (std.ofN (len a0)))
  (req (std.inR v2 (len a0)) <|
  req (len a0 = len v3) <|
  letO (List.set v3 (std.nadd 0 (std.toN v2)) v1) fun l17 =>
  some (.inl (std.add .i64 v1 1, std.add .i64 v2 1, l17)))
  (some (.inr (v1, v3)))
/-- laws.markInt64S -/
noncomputable def F_laws_markInt64S_mob (a0 : List Int) (a1 : Int) : Option (Int × (List Int)) :=
  (whileP (σ := Int × Int × (List Int)) (ρ := (Int × (List Int))) (L_laws_markInt64S_mob_x4 a0) (a1, 0, a0)).bind fun y5 =>
  letO y5 fun y5k0 =>
  letO y5k0.1 fun w20 =>
  letO y5k0.2 fun w21 =>
  req (len a0 = len w21) <|
  some (w20, w21)
theorem run_laws_markInt64S_mob (a0 : List Int) (a1 : Int) (r : Int × (List Int)) (h : F_laws_markInt64S_mob a0 a1 = some r) : Fun Try.prog 20 [.c (.os 5 0 (len a0)), .c (.v (.int .i64 a1))] [(5, .arr .rw [] (len a0) 1 (row gd (encI .i64) a0))] (.c (.v (.int .i64 r.1))) [(5, .arr .rw [] (len r.2) 1 (row gd (encI .i64) r.2))] true := by
  refine Fun.of_wp (oneOf []) tok mixed Try.func20 (by kernel_rfl) rfl Try.ntmps20 rfl ⟨fun i _ j _ k hk => (noref (plain_nil (rfl)) hk).elim, trivial⟩ (fun _ => ⟨trivial, ⟨fun i _ j _ => val_flat (rfl), trivial⟩⟩) ?_
  unfold F_laws_markInt64S_mob at h
  unfold L_laws_markInt64S_mob_x4 at h
  generalize hLEN : @len = LEN at *
  generalize hGD : @gd = GD at *
  generalize hA : std = A at *
  generalize hP : Try.prog = P at *
  cbv
  replace h := of_bind h
  obtain ⟨y5, hr6, hN7⟩ := h
  refine loop_cut hr6 (fun x => (sparse 19 [(0, .c (.os 5 0 (LEN a0))), (1, .c (.v (.int .i64 x.1))), (5, .c (.v (.int .i64 x.2.1)))] [(5, .arr .rw [] (LEN a0) 1 (row GD (encI .i64) x.2.2))])) ?_ (fun y e s => (fun (w : Int × (List Int)) => e = .exit 0 ∧ s.le (sparse 19 [(1, .c (.v (.int .i64 w.1)))] [(5, .arr .rw [] (LEN a0) 1 (row GD (encI .i64) w.2))])) y) ?_ ?_
  · clear hr6 hN7
    show St.le _ _
    exact le_sparse rfl ⟨AV.le_refl _, AV.le_refl _, AV.le_refl _, trivial⟩ ⟨⟨fun hw => hw, fun c hc => (by cases hc), .inl rfl, rfl, rfl, fun i hi j hj => rfl⟩, trivial⟩ rfl
  · clear hr6 hN7
    intro x z11 h K9 hK10 hY8
    obtain ⟨x0_, x1_, x2_⟩ := x
    replace h := of_let h
    obtain ⟨v1, hv1, h⟩ := h
    have hv1 : v1 = x0_ := hv1
    subst hv1
    replace h := of_let h
    obtain ⟨v2, hv2, h⟩ := h
    have hv2 : v2 = x1_ := hv2
    subst hv2
    replace h := of_let h
    obtain ⟨v3, hv3, h⟩ := h
    have hv3 : v3 = x2_ := hv3
    subst hv3
    cbv
    refine fork (fun b19 => ?_) (fun b19 => ?_)
    · replace h := of_br_t b19 h
      cbv
      replace h := of_req h
      obtain ⟨c16, h⟩ := h
      refine ⟨⟨c16, trivial⟩, ?_⟩
      replace h := of_req h
      obtain ⟨c18, h⟩ := h
      replace h := of_let h
      obtain ⟨l17, hl17, h⟩ := h
      refine And.intro (by first | exact (by subst hA; exact idx_lt c16) | (refine And.intro (by subst hA; exact idx_lt c16) ?_; first | trivial | exact ⟨trivial, trivial⟩)) ?_
      refine ⟨_, rfl, _, row GD (encI .i64) l17, rfl, ?_, ?_⟩
      · subst hGD hLEN hA
        rw [c18] at c16
        refine upd_set hl17 (idx_lt c16) ?_ ?_
        · intro b hb hh
          match b, hb, hh with | 0, _, hh => exact rfl | (b_ + 1), h_, _ => exact absurd h_ (by omega)
        · intro b hb hh
          match b, hb, hh with | 0, _, hh => exact (absurd (show 0 ≤ 0 ∧ 0 < 0 + 1 from by decide) hh) | (b_ + 1), h_, _ => exact absurd h_ (by omega)
      cbv
      injection h with h
      refine hK10 _ h.symm _ ?_
      exact le_sparse rfl ⟨AV.le_refl _, AV.le_refl _, AV.le_refl _, trivial⟩ ⟨⟨fun hw => hw, fun c hc => (by cases hc), .inl rfl, rfl, rfl, fun i hi j hj => rfl⟩, trivial⟩ rfl
    · replace h := of_br_f b19 h
      cbv
      injection h with h
      refine hY8 _ h.symm _ _ (And.intro rfl ?_) (by intro hh; cases hh)
      exact le_sparse rfl ⟨AV.le_refl _, trivial⟩ ⟨⟨fun hw => hw, fun c hc => (by cases hc), .inl rfl, rfl, rfl, fun i hi j hj => rfl⟩, trivial⟩ rfl
  · clear hr6
    have h := hN7
    clear hN7
    intro e14 s15 q13 hne
    replace h := of_let h
    obtain ⟨y5k0, hyk, h⟩ := h
    have hyk : y5k0 = y5 := hyk
    subst hyk
    obtain ⟨rfl, q13⟩ := q13
    obtain ⟨y5k0_0, y5k0_1⟩ := y5k0
    replace h := of_let h
    obtain ⟨w20, hw20, h⟩ := h
    have hw20 : w20 = y5k0_0 := hw20
    subst hw20
    replace h := of_let h
    obtain ⟨w21, hw21, h⟩ := h
    have hw21 : w21 = y5k0_1 := hw21
    subst hw21
    cbv
    refine ⟨_, q13, ?_⟩
    cbv
    replace h := of_req h
    obtain ⟨c22, h⟩ := h
    injection h with h
    subst h
    refine ⟨(sparse 19 [(4, .c (.v (.int .i64 w20)))] [(5, .arr .rw [] (LEN w21) 1 (row GD (encI .i64) w21))]), ?_, ?_⟩
    · rw [c22]
      exact le_sparse rfl ⟨AV.le_refl _, trivial⟩ ⟨⟨fun hw => hw, fun c hc => (by cases hc), .inl rfl, rfl, rfl, fun i hi j hj => rfl⟩, trivial⟩ rfl
    · exact ⟨AV.le_refl _, ⟨⟨fun hw => hw, fun c hc => (by cases hc), .inl rfl, rfl, rfl, fun i hi j hj => rfl⟩, trivial⟩, rfl⟩

noncomputable def L_laws_markInt64SS_mob_x4 (a0 : List (List Int)) : (Int × Int × (List (List Int))) → Option ((Int × Int × (List (List Int))) ⊕ ((Int × (List (List Int))))) := fun x4 =>
  letO x4.1 fun v1 =>
  letO x4.2.1 fun v2 =>
  letO x4.2.2 fun v3 =>
  br (std.lt v2 (std.ofN (len a0)))
  (((
        req (std.inR v2 (len a0)) <|
        (F_laws_markInt64S_mob (gd v3 (std.nadd 0 (std.toN v2))) v1).bind fun y25 =>
        req (len y25.2 = len (gd v3 (std.nadd 0 (std.toN v2)))) <|
        req (len a0 = len v3) <|
        letO (List.set v3 (std.nadd 0 (std.toN v2)) y25.2) fun l27 =>
        some (y25.1, l27)
    ) : Option (Int × (List (List Int)))).bind fun y16 =>
  letO y16.1 fun w22 =>
  letO y16.2 fun w23 =>
  some (.inl (w22, std.add .i64 v2 1, w23)))
  (some (.inr (v1, v3)))
/-- laws.markInt64SS -/
noncomputable def F_laws_markInt64SS_mob (a0 : List (List Int)) (a1 : Int) : Option (Int × (List (List Int))) :=
  (whileP (σ := Int × Int × (List (List Int))) (ρ := (Int × (List (List Int)))) (L_laws_markInt64SS_mob_x4 a0) (a1, 0, a0)).bind fun y5 =>
  letO y5 fun y5k0 =>
  letO y5k0.1 fun w31 =>
  letO y5k0.2 fun w32 =>
  req (len a0 = len w32) <|
  some (w31, w32)
theorem run_laws_markInt64SS_mob (a0 : List (List Int)) (a1 : Int) (r : Int × (List (List Int))) (h : F_laws_markInt64SS_mob a0 a1 = some r) : Fun Try.prog 104 [.c (.os 5 0 (len a0)), .c (.v (.int .i64 a1))] [(5, .arr .rw [] (len a0) 1 (row gd (oncL len gd 1 (encI .i64)) a0))] (.c (.v (.int .i64 r.1))) [(5, .arr .rw [] (len r.2) 1 (row gd (oncL len gd 1 (encI .i64)) r.2))] true := by
  refine Fun.of_wp (oneOf [4]) tok mixed Try.func104 (by kernel_rfl) rfl Try.ntmps104 rfl ⟨fun i _ j _ k hk => (noref (rfl) hk).elim, trivial⟩ (fun _ => ⟨trivial, ⟨fun i _ j _ => fl_oncL (fun _ _ => rfl) _ _, trivial⟩⟩) ?_
  unfold F_laws_markInt64SS_mob at h
  unfold L_laws_markInt64SS_mob_x4 at h
  have hf_laws_markInt64S_mob := @run_laws_markInt64S_mob
  generalize hLEN : @len = LEN at *
  generalize hGD : @gd = GD at *
  generalize hA : std = A at *
  generalize hP : Try.prog = P at *
  cbv
  replace h := of_bind h
  obtain ⟨y5, hr6, hN7⟩ := h
  refine loop_cut hr6 (fun x => (sparse 19 [(0, .c (.os 5 0 (LEN a0))), (1, .c (.v (.int .i64 x.1))), (5, .c (.v (.int .i64 x.2.1)))] [(5, .arr .rw [] (LEN a0) 1 (row GD (oncL LEN GD 1 (encI .i64)) x.2.2))])) ?_ (fun y e s => (fun (w : Int × (List (List Int))) => e = .exit 0 ∧ s.le (sparse 19 [(1, .c (.v (.int .i64 w.1)))] [(5, .arr .rw [] (LEN a0) 1 (row GD (oncL LEN GD 1 (encI .i64)) w.2))])) y) ?_ ?_
  · clear hr6 hN7
    show St.le _ _
    exact le_sparse rfl ⟨AV.le_refl _, AV.le_refl _, AV.le_refl _, trivial⟩ ⟨⟨fun hw => hw, fun c hc => (by cases hc), .inl rfl, rfl, rfl, fun i hi j hj => rfl⟩, trivial⟩ rfl
  · clear hr6 hN7
    intro x z11 h K9 hK10 hY8
    obtain ⟨x0_, x1_, x2_⟩ := x
    replace h := of_let h
    obtain ⟨v1, hv1, h⟩ := h
    have hv1 : v1 = x0_ := hv1
    subst hv1
    replace h := of_let h
    obtain ⟨v2, hv2, h⟩ := h
    have hv2 : v2 = x1_ := hv2
    subst hv2
    replace h := of_let h
    obtain ⟨v3, hv3, h⟩ := h
    have hv3 : v3 = x2_ := hv3
    subst hv3
    cbv
    refine fork (fun b30 => ?_) (fun b30 => ?_)
    · replace h := of_br_t b30 h
      cbv
      replace h := of_bind h
      obtain ⟨y16, hy17, h⟩ := h
      obtain ⟨S20, hS21⟩ : ∃ S, S = (sparse 19 [(0, .c (.os 5 0 (LEN a0))), (1, .c (.v (.int .i64 y16.1))), (5, .c (.v (.int .i64 v2)))] [(5, .arr .rw [] (LEN a0) 1 (row GD (oncL LEN GD 1 (encI .i64)) y16.2))]) := ⟨_, rfl⟩
      refine ⟨S20, ?_, ?_⟩
      · clear h
        have h := hy17
        clear hy17
        cbv
        replace h := of_req h
        obtain ⟨c24, h⟩ := h
        refine ⟨⟨c24, trivial⟩, ?_⟩
        refine And.intro (by first | exact (by subst hA; exact idx_lt c24) | (refine And.intro (by subst hA; exact idx_lt c24) ?_; first | trivial | exact ⟨trivial, trivial⟩)) ?_
        refine ⟨_, rfl, _, (patchC (row GD (oncL LEN GD 1 (encI .i64)) v3) (A.nadd 0 (A.toN v2)) [.os 962 0 (LEN (GD v3 (A.nadd 0 (A.toN v2))))]), rfl, ?_, ?_⟩
        · refine patch_of ?_
          intro j hj
          match j, hj with | 0, _ => (rfl) | (j_ + 1), h_ => exact absurd h_ (by omega)
        refine ⟨_, row GD (encI .i64) (GD v3 (A.nadd 0 (A.toN v2))), rfl, ?_, ?_⟩
        · exact fun i _ j _ => plain_cp (rfl)
        cbv
        replace h := of_bind h
        obtain ⟨y25, hy26, h⟩ := h
        replace h := of_req h
        obtain ⟨c29, h⟩ := h
        refine ⟨{ args := [.c (.os 5 0 (LEN (GD v3 (A.nadd 0 (A.toN v2))))), .c (.v (.int .i64 v1))], o0 := [(5, .arr .rw [] (LEN (GD v3 (A.nadd 0 (A.toN v2)))) 1 (row GD (encI .i64) (GD v3 (A.nadd 0 (A.toN v2)))))], r := .c (.v (.int .i64 y25.1)), o1 := [(5, .arr .rw [] (LEN y25.2) 1 (row GD (encI .i64) y25.2))], fl := true, σ := [(5, 962)], τ := [(5, 962)] }, hf_laws_markInt64S_mob _ _ _ hy26, ⟨les_cons (AV.le_refl _) (les_cons (AV.le_refl _) (les_nil)), ⟨⟨fun hw => hw, fun c hc => (by cases hc), .inl rfl, rfl, rfl, fun i hi j hj => rfl⟩, trivial⟩, rfl, rfl, rfl, rfl, ⟨fun _ => ⟨c29.symm, rfl, fun c h => h⟩, trivial⟩, rfl⟩, _, rfl, LEN (GD v3 (A.nadd 0 (A.toN v2))), _, c29, fun _ _ _ _ => rfl, ?_⟩
        cbv
        replace h := of_req h
        obtain ⟨c28, h⟩ := h
        replace h := of_let h
        obtain ⟨l27, hl27, h⟩ := h
        injection h with h
        subst h
        subst hS21
        show St.le _ _
        refine St.le_trans (le_foldP 5 0 962 rfl rfl rfl (by decide) (by subst hA; exact idx_lt c24) (by decide) rfl (fun _ _ => rfl)) ?_
        exact le_sparse rfl ⟨AV.le_refl _, AV.le_refl _, AV.le_refl _, trivial⟩ ⟨⟨fun hw => hw, fun c hc => (by cases hc), .inr (fun i _ j _ z hz => (noref (rfl) hz).elim), rfl, rfl, (by subst hGD hLEN hA; exact patch_set hl27 (idx_lt (by rw [← c28]; exact c24)) (by intro j hj; match j, hj with | 0, _ => exact (by first | rfl | exact congrArg (fun n => AC.ow n _ _) (Eq.symm (by assumption))) | (j_ + 1), h_ => exact absurd h_ (by omega)))⟩, trivial⟩ rfl
      · clear hy17
        subst hS21
        obtain ⟨y16_0, y16_1⟩ := y16
        replace h := of_let h
        obtain ⟨w22, hw22, h⟩ := h
        have hw22 : w22 = y16_0 := hw22
        subst hw22
        replace h := of_let h
        obtain ⟨w23, hw23, h⟩ := h
        have hw23 : w23 = y16_1 := hw23
        subst hw23
        cbv
        injection h with h
        refine hK10 _ h.symm _ ?_
        exact le_sparse rfl ⟨AV.le_refl _, AV.le_refl _, AV.le_refl _, trivial⟩ ⟨⟨fun hw => hw, fun c hc => (by cases hc), .inl rfl, rfl, rfl, fun i hi j hj => rfl⟩, trivial⟩ rfl
    · replace h := of_br_f b30 h
      cbv
      injection h with h
      refine hY8 _ h.symm _ _ (And.intro rfl ?_) (by intro hh; cases hh)
      exact le_sparse rfl ⟨AV.le_refl _, trivial⟩ ⟨⟨fun hw => hw, fun c hc => (by cases hc), .inl rfl, rfl, rfl, fun i hi j hj => rfl⟩, trivial⟩ rfl
  · clear hr6
    have h := hN7
    clear hN7
    intro e14 s15 q13 hne
    replace h := of_let h
    obtain ⟨y5k0, hyk, h⟩ := h
    have hyk : y5k0 = y5 := hyk
    subst hyk
    obtain ⟨rfl, q13⟩ := q13
    obtain ⟨y5k0_0, y5k0_1⟩ := y5k0
    replace h := of_let h
    obtain ⟨w31, hw31, h⟩ := h
    have hw31 : w31 = y5k0_0 := hw31
    subst hw31
    replace h := of_let h
    obtain ⟨w32, hw32, h⟩ := h
    have hw32 : w32 = y5k0_1 := hw32
    subst hw32
    cbv
    refine ⟨_, q13, ?_⟩
    cbv
    replace h := of_req h
    obtain ⟨c33, h⟩ := h
    injection h with h
    subst h
    refine ⟨(sparse 19 [(4, .c (.v (.int .i64 w31)))] [(5, .arr .rw [] (LEN w32) 1 (row GD (oncL LEN GD 1 (encI .i64)) w32))]), ?_, ?_⟩
    · rw [c33]
      exact le_sparse rfl ⟨AV.le_refl _, trivial⟩ ⟨⟨fun hw => hw, fun c hc => (by cases hc), .inl rfl, rfl, rfl, fun i hi j hj => rfl⟩, trivial⟩ rfl
    · exact ⟨AV.le_refl _, ⟨⟨fun hw => hw, fun c hc => (by cases hc), .inl rfl, rfl, rfl, fun i hi j hj => rfl⟩, trivial⟩, rfl⟩

/-- laws.markSpatialIndex -/
noncomputable def F_laws_markSpatialIndex_moob (a0 : TSpatialIndex) (a1 : Int) : Option (Int × (List TSpatialEntry) × (List (List Int))) :=
  (F_laws_markSpatialEntryS_mob a0.fEntries a1).bind fun y1 =>
  req (len y1.2 = len a0.fEntries) <|
  (F_laws_markInt64SS_mob a0.fBuckets y1.1).bind fun y3 =>
  req (len y3.2 = len a0.fBuckets) <|
  req (len a0.fEntries = len y1.2) <|
  req (len a0.fBuckets = len y3.2) <|
  some (y3.1, y1.2, y3.2)
theorem run_laws_markSpatialIndex_moob (a0 : TSpatialIndex) (a1 : Int) (r : Int × (List TSpatialEntry) × (List (List Int))) (h : F_laws_markSpatialIndex_moob a0 a1 = some r) : Fun Try.prog 39 [.agg [.os 5 0 (len a0.fEntries), .os 7 0 (len a0.fBuckets)], .c (.v (.int .i64 a1))] [(5, .arr .rw [] (len a0.fEntries) 5 (row gd (encSpatialEntry) a0.fEntries)), (7, .arr .rw [] (len a0.fBuckets) 1 (row gd (oncL len gd 1 (encI .i64)) a0.fBuckets))] (.c (.v (.int .i64 r.1))) [(5, .arr .rw [] (len r.2.1) 5 (row gd (encSpatialEntry) r.2.1)), (7, .arr .rw [] (len r.2.2) 1 (row gd (oncL len gd 1 (encI .i64)) r.2.2))] true := by
  refine Fun.of_wp (oneOf []) tok mixed Try.func39 (by kernel_rfl) rfl Try.ntmps39 rfl ⟨fun i _ j _ k hk => (noref (plain_nil (pl_encSpatialEntry _ _)) hk).elim, fun i _ j _ k hk => (noref (rfl) hk).elim, trivial⟩ (fun _ => ⟨trivial, ⟨fun i _ j _ => val_flat (vl_encSpatialEntry _ _), fun i _ j _ => fl_oncL (fun _ _ => rfl) _ _, trivial⟩⟩) ?_
  unfold F_laws_markSpatialIndex_moob at h
  have hf_laws_markInt64SS_mob := @run_laws_markInt64SS_mob
  have hf_laws_markSpatialEntryS_mob := @run_laws_markSpatialEntryS_mob
  generalize hLEN : @len = LEN at *
  generalize hGD : @gd = GD at *
  generalize hA : std = A at *
  generalize hP : Try.prog = P at *
  cbv
  replace h := of_bind h
  obtain ⟨y1, hy2, h⟩ := h
  replace h := of_req h
  obtain ⟨c8, h⟩ := h
  refine ⟨{ args := [.c (.os 5 0 (LEN a0.fEntries)), .c (.v (.int .i64 a1))], o0 := [(5, .arr .rw [] (LEN a0.fEntries) 5 (row GD (encSpatialEntry) a0.fEntries))], r := .c (.v (.int .i64 y1.1)), o1 := [(5, .arr .rw [] (LEN y1.2) 5 (row GD (encSpatialEntry) y1.2))], fl := true, σ := [(5, 5)], τ := [(5, 5)] }, hf_laws_markSpatialEntryS_mob _ _ _ hy2, ⟨les_cons (AV.le_refl _) (les_cons (AV.le_refl _) (les_nil)), ⟨⟨fun hw => hw, fun c hc => (by cases hc), .inl rfl, rfl, rfl, fun i hi j hj => rfl⟩, trivial⟩, rfl, rfl, rfl, rfl, ⟨fun _ => ⟨c8.symm, rfl, fun c h => h⟩, trivial⟩, rfl⟩, _, rfl, LEN a0.fEntries, _, c8, fun _ _ _ _ => rfl, ?_⟩
  cbv
  replace h := of_bind h
  obtain ⟨y3, hy4, h⟩ := h
  replace h := of_req h
  obtain ⟨c7, h⟩ := h
  refine ⟨{ args := [.c (.os 5 0 (LEN a0.fBuckets)), .c (.v (.int .i64 y1.1))], o0 := [(5, .arr .rw [] (LEN a0.fBuckets) 1 (row GD (oncL LEN GD 1 (encI .i64)) a0.fBuckets))], r := .c (.v (.int .i64 y3.1)), o1 := [(5, .arr .rw [] (LEN y3.2) 1 (row GD (oncL LEN GD 1 (encI .i64)) y3.2))], fl := true, σ := [(5, 7)], τ := [(5, 7)] }, hf_laws_markInt64SS_mob _ _ _ hy4, ⟨les_cons (AV.le_refl _) (les_cons (AV.le_refl _) (les_nil)), ⟨⟨fun hw => hw, fun c hc => (by cases hc), .inl rfl, rfl, rfl, fun i hi j hj => rfl⟩, trivial⟩, rfl, rfl, rfl, rfl, ⟨fun _ => ⟨c7.symm, rfl, fun c h => h⟩, trivial⟩, rfl⟩, _, rfl, LEN a0.fBuckets, _, c7, fun _ _ _ _ => rfl, ?_⟩
  cbv
  replace h := of_req h
  obtain ⟨c5, h⟩ := h
  replace h := of_req h
  obtain ⟨c6, h⟩ := h
  injection h with h
  subst h
  refine ⟨(sparse 14 [(4, .c (.v (.int .i64 y3.1)))] [(5, .arr .rw [] (LEN y1.2) 5 (row GD (encSpatialEntry) y1.2)), (7, .arr .rw [] (LEN y3.2) 1 (row GD (oncL LEN GD 1 (encI .i64)) y3.2))]), ?_, ?_⟩
  · rw [c5]
    rw [c6]
    exact le_sparse rfl ⟨AV.le_refl _, trivial⟩ ⟨⟨fun hw => hw, fun c hc => (by cases hc), .inl rfl, rfl, rfl, fun i hi j hj => rfl⟩, ⟨fun hw => hw, fun c hc => (by cases hc), .inl rfl, rfl, rfl, fun i hi j hj => rfl⟩, trivial⟩ rfl
  · exact ⟨AV.le_refl _, ⟨⟨fun hw => hw, fun c hc => (by cases hc), .inl rfl, rfl, rfl, fun i hi j hj => rfl⟩, ⟨fun hw => hw, fun c hc => (by cases hc), .inl rfl, rfl, rfl, fun i hi j hj => rfl⟩, trivial⟩, rfl⟩

noncomputable def L_laws_heldSpatialEntryS_x3 (a0 : List TSpatialEntry) : (Int × Int) → Option ((Int × Int) ⊕ ((Int) ⊕ (Int))) := fun x3 =>
  letO x3.1 fun v1 =>
  letO x3.2 fun v2 =>
  br (std.lt v2 (std.ofN (len a0)))
  (req (std.inR v2 (len a0)) <|
  br (std.not (std.eq (gd a0 (std.toN v2)).fId v1))
  (some (.inr (.inl (-1))))
  (req (std.inR v2 (len a0)) <|
  br (std.not (std.eq (gd a0 (std.toN v2)).fBox.fX0 (std.add .i64 v1 1)))
  (some (.inr (.inl (-1))))
  (req (std.inR v2 (len a0)) <|
  br (std.not (std.eq (gd a0 (std.toN v2)).fBox.fY0 (std.add .i64 (std.add .i64 v1 1) 1)))
  (some (.inr (.inl (-1))))
  (req (std.inR v2 (len a0)) <|
  br (std.not (std.eq (gd a0 (std.toN v2)).fBox.fX1 (std.add .i64 (std.add .i64 (std.add .i64 v1 1) 1) 1)))
  (some (.inr (.inl (-1))))
  (req (std.inR v2 (len a0)) <|
  br (std.not (std.eq (gd a0 (std.toN v2)).fBox.fY1 (std.add .i64 (std.add .i64 (std.add .i64 (std.add .i64 v1 1) 1) 1) 1)))
  (some (.inr (.inl (-1))))
  (some (.inl (std.add .i64 (std.add .i64 (std.add .i64 (std.add .i64 (std.add .i64 v1 1) 1) 1) 1) 1, std.add .i64 v2 1))))))))
  (some (.inr (.inr v1)))
/-- laws.heldSpatialEntryS -/
noncomputable def F_laws_heldSpatialEntryS (a0 : List TSpatialEntry) (a1 : Int) : Option (Int) :=
  (whileP (σ := Int × Int) (ρ := (Int) ⊕ (Int)) (L_laws_heldSpatialEntryS_x3 a0) (a1, 0)).bind fun y4 =>
  (match y4 with
    | .inl y4k0 => (
        letO y4k0 fun w26 =>
        some w26)
    | .inr y4m0 =>
        letO y4m0 fun y4k1 =>
        letO y4k1 fun w27 =>
        some w27)
theorem run_laws_heldSpatialEntryS (a0 : List TSpatialEntry) (a1 : Int) (r : Int) (h : F_laws_heldSpatialEntryS a0 a1 = some r) : Fun Try.prog 105 [.c (.bs (len a0) 5 (row gd (encSpatialEntry) a0)), .c (.v (.int .i64 a1))] [] (.c (.v (.int .i64 r))) [] true := by
  refine Fun.of_wp (oneOf []) tok mixed Try.func105 (by kernel_rfl) rfl Try.ntmps105 rfl trivial (fun _ => ⟨trivial, trivial⟩) ?_
  unfold F_laws_heldSpatialEntryS at h
  unfold L_laws_heldSpatialEntryS_x3 at h
  generalize hLEN : @len = LEN at *
  generalize hGD : @gd = GD at *
  generalize hA : std = A at *
  generalize hP : Try.prog = P at *
  cbv
  replace h := of_bind h
  obtain ⟨y4, hr5, hN6⟩ := h
  refine loop_cut hr5 (fun x => (sparse 62 [(0, .c (.bs (LEN a0) 5 (row GD (encSpatialEntry) a0))), (1, .c (.v (.int .i64 x.1))), (5, .c (.v (.int .i64 x.2)))] [])) ?_ (fun y e s => (match y with | .inl w => e = .ret ∧ s.le (sparse 62 [(4, .c (.v (.int .i64 w)))] []) | .inr w0 => (fun (w : Int) => e = .exit 0 ∧ s.le (sparse 62 [(1, .c (.v (.int .i64 w)))] [])) w0)) ?_ ?_
  · clear hr5 hN6
    show St.le _ _
    exact le_sparse rfl ⟨AV.le_refl _, AV.le_refl _, AV.le_refl _, trivial⟩ trivial rfl
  · clear hr5 hN6
    intro x z10 h K8 hK9 hY7
    obtain ⟨x0_, x1_⟩ := x
    replace h := of_let h
    obtain ⟨v1, hv1, h⟩ := h
    have hv1 : v1 = x0_ := hv1
    subst hv1
    replace h := of_let h
    obtain ⟨v2, hv2, h⟩ := h
    have hv2 : v2 = x1_ := hv2
    subst hv2
    cbv
    refine fork (fun b25 => ?_) (fun b25 => ?_)
    · replace h := of_br_t b25 h
      cbv
      replace h := of_req h
      obtain ⟨c15, h⟩ := h
      refine ⟨⟨c15, trivial⟩, ?_⟩
      refine fork (fun b24 => ?_) (fun b24 => ?_)
      · replace h := of_br_t b24 h
        cbv
        injection h with h
        refine hY7 _ h.symm _ _ (And.intro rfl ?_) (by intro hh; cases hh)
        exact le_sparse rfl ⟨AV.le_refl _, trivial⟩ trivial rfl
      · replace h := of_br_f b24 h
        cbv
        replace h := of_req h
        obtain ⟨c16, h⟩ := h
        refine ⟨⟨c16, trivial⟩, ?_⟩
        refine fork (fun b23 => ?_) (fun b23 => ?_)
        · replace h := of_br_t b23 h
          cbv
          injection h with h
          refine hY7 _ h.symm _ _ (And.intro rfl ?_) (by intro hh; cases hh)
          exact le_sparse rfl ⟨AV.le_refl _, trivial⟩ trivial rfl
        · replace h := of_br_f b23 h
          cbv
          replace h := of_req h
          obtain ⟨c17, h⟩ := h
          refine ⟨⟨c17, trivial⟩, ?_⟩
          refine fork (fun b22 => ?_) (fun b22 => ?_)
          · replace h := of_br_t b22 h
            cbv
            injection h with h
            refine hY7 _ h.symm _ _ (And.intro rfl ?_) (by intro hh; cases hh)
            exact le_sparse rfl ⟨AV.le_refl _, trivial⟩ trivial rfl
          · replace h := of_br_f b22 h
            cbv
            replace h := of_req h
            obtain ⟨c18, h⟩ := h
            refine ⟨⟨c18, trivial⟩, ?_⟩
            refine fork (fun b21 => ?_) (fun b21 => ?_)
            · replace h := of_br_t b21 h
              cbv
              injection h with h
              refine hY7 _ h.symm _ _ (And.intro rfl ?_) (by intro hh; cases hh)
              exact le_sparse rfl ⟨AV.le_refl _, trivial⟩ trivial rfl
            · replace h := of_br_f b21 h
              cbv
              replace h := of_req h
              obtain ⟨c19, h⟩ := h
              refine ⟨⟨c19, trivial⟩, ?_⟩
              refine fork (fun b20 => ?_) (fun b20 => ?_)
              · replace h := of_br_t b20 h
                cbv
                injection h with h
                refine hY7 _ h.symm _ _ (And.intro rfl ?_) (by intro hh; cases hh)
                exact le_sparse rfl ⟨AV.le_refl _, trivial⟩ trivial rfl
              · replace h := of_br_f b20 h
                cbv
                injection h with h
                refine hK9 _ h.symm _ ?_
                exact le_sparse rfl ⟨AV.le_refl _, AV.le_refl _, AV.le_refl _, trivial⟩ trivial rfl
    · replace h := of_br_f b25 h
      cbv
      injection h with h
      refine hY7 _ h.symm _ _ (And.intro rfl ?_) (by intro hh; cases hh)
      exact le_sparse rfl ⟨AV.le_refl _, trivial⟩ trivial rfl
  · clear hr5
    have h := hN6
    clear hN6
    intro e13 s14 q12 hne
    rcases y4 with y4k0 | y4m0
    · replace h := h
      obtain ⟨rfl, q12⟩ := q12
      replace h := of_let h
      obtain ⟨w26, hw26, h⟩ := h
      have hw26 : w26 = y4k0 := hw26
      subst hw26
      cbv
      injection h with h
      subst h
      refine ⟨(sparse 62 [(4, .c (.v (.int .i64 w26)))] []), ?_, ?_⟩
      · refine St.le_trans q12 ?_
        exact le_sparse rfl ⟨AV.le_refl _, trivial⟩ trivial rfl
      · exact ⟨AV.le_refl _, trivial, rfl⟩
    · replace h := of_let h
      obtain ⟨y4k1, hyk, h⟩ := h
      have hyk : y4k1 = y4m0 := hyk
      subst hyk
      obtain ⟨rfl, q12⟩ := q12
      replace h := of_let h
      obtain ⟨w27, hw27, h⟩ := h
      have hw27 : w27 = y4k1 := hw27
      subst hw27
      cbv
      refine ⟨_, q12, ?_⟩
      cbv
      injection h with h
      subst h
      refine ⟨(sparse 62 [(4, .c (.v (.int .i64 w27)))] []), ?_, ?_⟩
      · exact le_sparse rfl ⟨AV.le_refl _, trivial⟩ trivial rfl
      · exact ⟨AV.le_refl _, trivial, rfl⟩

noncomputable def L_laws_heldInt64S_x3 (a0 : List Int) : (Int × Int) → Option ((Int × Int) ⊕ ((Int) ⊕ (Int))) := fun x3 =>
  letO x3.1 fun v1 =>
  letO x3.2 fun v2 =>
  br (std.lt v2 (std.ofN (len a0)))
  (req (std.inR v2 (len a0)) <|
  br (std.not (std.eq (gd a0 (std.toN v2)) v1))
  (some (.inr (.inl (-1))))
  (some (.inl (std.add .i64 v1 1, std.add .i64 v2 1))))
  (some (.inr (.inr v1)))
/-- laws.heldInt64S -/
noncomputable def F_laws_heldInt64S (a0 : List Int) (a1 : Int) : Option (Int) :=
  (whileP (σ := Int × Int) (ρ := (Int) ⊕ (Int)) (L_laws_heldInt64S_x3 a0) (a1, 0)).bind fun y4 =>
  (match y4 with
    | .inl y4k0 => (
        letO y4k0 fun w18 =>
        some w18)
    | .inr y4m0 =>
        letO y4m0 fun y4k1 =>
        letO y4k1 fun w19 =>
        some w19)
theorem run_laws_heldInt64S (a0 : List Int) (a1 : Int) (r : Int) (h : F_laws_heldInt64S a0 a1 = some r) : Fun Try.prog 22 [.c (.bs (len a0) 1 (row gd (encI .i64) a0)), .c (.v (.int .i64 a1))] [] (.c (.v (.int .i64 r))) [] true := by
  refine Fun.of_wp (oneOf []) tok mixed Try.func22 (by kernel_rfl) rfl Try.ntmps22 rfl trivial (fun _ => ⟨trivial, trivial⟩) ?_
  unfold F_laws_heldInt64S at h
  unfold L_laws_heldInt64S_x3 at h
  generalize hLEN : @len = LEN at *
  generalize hGD : @gd = GD at *
  generalize hA : std = A at *
  generalize hP : Try.prog = P at *
  cbv
  replace h := of_bind h
  obtain ⟨y4, hr5, hN6⟩ := h
  refine loop_cut hr5 (fun x => (sparse 21 [(0, .c (.bs (LEN a0) 1 (row GD (encI .i64) a0))), (1, .c (.v (.int .i64 x.1))), (5, .c (.v (.int .i64 x.2)))] [])) ?_ (fun y e s => (match y with | .inl w => e = .ret ∧ s.le (sparse 21 [(4, .c (.v (.int .i64 w)))] []) | .inr w0 => (fun (w : Int) => e = .exit 0 ∧ s.le (sparse 21 [(1, .c (.v (.int .i64 w)))] [])) w0)) ?_ ?_
  · clear hr5 hN6
    show St.le _ _
    exact le_sparse rfl ⟨AV.le_refl _, AV.le_refl _, AV.le_refl _, trivial⟩ trivial rfl
  · clear hr5 hN6
    intro x z10 h K8 hK9 hY7
    obtain ⟨x0_, x1_⟩ := x
    replace h := of_let h
    obtain ⟨v1, hv1, h⟩ := h
    have hv1 : v1 = x0_ := hv1
    subst hv1
    replace h := of_let h
    obtain ⟨v2, hv2, h⟩ := h
    have hv2 : v2 = x1_ := hv2
    subst hv2
    cbv
    refine fork (fun b17 => ?_) (fun b17 => ?_)
    · replace h := of_br_t b17 h
      cbv
      replace h := of_req h
      obtain ⟨c15, h⟩ := h
      refine ⟨⟨c15, trivial⟩, ?_⟩
      refine fork (fun b16 => ?_) (fun b16 => ?_)
      · replace h := of_br_t b16 h
        cbv
        injection h with h
        refine hY7 _ h.symm _ _ (And.intro rfl ?_) (by intro hh; cases hh)
        exact le_sparse rfl ⟨AV.le_refl _, trivial⟩ trivial rfl
      · replace h := of_br_f b16 h
        cbv
        injection h with h
        refine hK9 _ h.symm _ ?_
        exact le_sparse rfl ⟨AV.le_refl _, AV.le_refl _, AV.le_refl _, trivial⟩ trivial rfl
    · replace h := of_br_f b17 h
      cbv
      injection h with h
      refine hY7 _ h.symm _ _ (And.intro rfl ?_) (by intro hh; cases hh)
      exact le_sparse rfl ⟨AV.le_refl _, trivial⟩ trivial rfl
  · clear hr5
    have h := hN6
    clear hN6
    intro e13 s14 q12 hne
    rcases y4 with y4k0 | y4m0
    · replace h := h
      obtain ⟨rfl, q12⟩ := q12
      replace h := of_let h
      obtain ⟨w18, hw18, h⟩ := h
      have hw18 : w18 = y4k0 := hw18
      subst hw18
      cbv
      injection h with h
      subst h
      refine ⟨(sparse 21 [(4, .c (.v (.int .i64 w18)))] []), ?_, ?_⟩
      · refine St.le_trans q12 ?_
        exact le_sparse rfl ⟨AV.le_refl _, trivial⟩ trivial rfl
      · exact ⟨AV.le_refl _, trivial, rfl⟩
    · replace h := of_let h
      obtain ⟨y4k1, hyk, h⟩ := h
      have hyk : y4k1 = y4m0 := hyk
      subst hyk
      obtain ⟨rfl, q12⟩ := q12
      replace h := of_let h
      obtain ⟨w19, hw19, h⟩ := h
      have hw19 : w19 = y4k1 := hw19
      subst hw19
      cbv
      refine ⟨_, q12, ?_⟩
      cbv
      injection h with h
      subst h
      refine ⟨(sparse 21 [(4, .c (.v (.int .i64 w19)))] []), ?_, ?_⟩
      · exact le_sparse rfl ⟨AV.le_refl _, trivial⟩ trivial rfl
      · exact ⟨AV.le_refl _, trivial, rfl⟩

noncomputable def L_laws_heldInt64SS_x3 (a0 : List (List Int)) : (Int × Int) → Option ((Int × Int) ⊕ ((Int) ⊕ (Int))) := fun x3 =>
  letO x3.1 fun v1 =>
  letO x3.2 fun v2 =>
  br (std.lt v2 (std.ofN (len a0)))
  (req (std.inR v2 (len a0)) <|
  (F_laws_heldInt64S (gd a0 (std.toN v2)) v1).bind fun y16 =>
  br (std.lt y16 0)
  (some (.inr (.inl (-1))))
  (some (.inl (y16, std.add .i64 v2 1))))
  (some (.inr (.inr v1)))
/-- laws.heldInt64SS -/
noncomputable def F_laws_heldInt64SS (a0 : List (List Int)) (a1 : Int) : Option (Int) :=
  (whileP (σ := Int × Int) (ρ := (Int) ⊕ (Int)) (L_laws_heldInt64SS_x3 a0) (a1, 0)).bind fun y4 =>
  (match y4 with
    | .inl y4k0 => (
        letO y4k0 fun w20 =>
        some w20)
    | .inr y4m0 =>
        letO y4m0 fun y4k1 =>
        letO y4k1 fun w21 =>
        some w21)
theorem run_laws_heldInt64SS (a0 : List (List Int)) (a1 : Int) (r : Int) (h : F_laws_heldInt64SS a0 a1 = some r) : Fun Try.prog 106 [.c (.bs (len a0) 1 (row gd (encL len gd 1 (encI .i64)) a0)), .c (.v (.int .i64 a1))] [] (.c (.v (.int .i64 r))) [] true := by
  refine Fun.of_wp (oneOf []) tok mixed Try.func106 (by kernel_rfl) rfl Try.ntmps106 rfl trivial (fun _ => ⟨trivial, trivial⟩) ?_
  unfold F_laws_heldInt64SS at h
  unfold L_laws_heldInt64SS_x3 at h
  have hf_laws_heldInt64S := @run_laws_heldInt64S
  generalize hLEN : @len = LEN at *
  generalize hGD : @gd = GD at *
  generalize hA : std = A at *
  generalize hP : Try.prog = P at *
  cbv
  replace h := of_bind h
  obtain ⟨y4, hr5, hN6⟩ := h
  refine loop_cut hr5 (fun x => (sparse 21 [(0, .c (.bs (LEN a0) 1 (row GD (encL LEN GD 1 (encI .i64)) a0))), (1, .c (.v (.int .i64 x.1))), (5, .c (.v (.int .i64 x.2)))] [])) ?_ (fun y e s => (match y with | .inl w => e = .ret ∧ s.le (sparse 21 [(4, .c (.v (.int .i64 w)))] []) | .inr w0 => (fun (w : Int) => e = .exit 0 ∧ s.le (sparse 21 [(1, .c (.v (.int .i64 w)))] [])) w0)) ?_ ?_
  · clear hr5 hN6
    show St.le _ _
    exact le_sparse rfl ⟨AV.le_refl _, AV.le_refl _, AV.le_refl _, trivial⟩ trivial rfl
  · clear hr5 hN6
    intro x z10 h K8 hK9 hY7
    obtain ⟨x0_, x1_⟩ := x
    replace h := of_let h
    obtain ⟨v1, hv1, h⟩ := h
    have hv1 : v1 = x0_ := hv1
    subst hv1
    replace h := of_let h
    obtain ⟨v2, hv2, h⟩ := h
    have hv2 : v2 = x1_ := hv2
    subst hv2
    cbv
    refine fork (fun b19 => ?_) (fun b19 => ?_)
    · replace h := of_br_t b19 h
      cbv
      replace h := of_req h
      obtain ⟨c15, h⟩ := h
      refine ⟨⟨c15, trivial⟩, ?_⟩
      replace h := of_bind h
      obtain ⟨y16, hy17, h⟩ := h
      refine ⟨{ args := [.c (.bs (LEN (GD a0 (A.toN v2))) 1 (row GD (encI .i64) (GD a0 (A.toN v2)))), .c (.v (.int .i64 v1))], o0 := [], r := .c (.v (.int .i64 y16)), o1 := [], fl := true, σ := [], τ := [] }, hf_laws_heldInt64S _ _ _ hy17, ⟨les_cons (AV.le_refl _) (les_cons (AV.le_refl _) (les_nil)), trivial, rfl, rfl, rfl, rfl, trivial, rfl⟩, ?_⟩
      cbv
      refine fork (fun b18 => ?_) (fun b18 => ?_)
      · replace h := of_br_t b18 h
        cbv
        injection h with h
        refine hY7 _ h.symm _ _ (And.intro rfl ?_) (by intro hh; cases hh)
        exact le_sparse rfl ⟨AV.le_refl _, trivial⟩ trivial rfl
      · replace h := of_br_f b18 h
        cbv
        injection h with h
        refine hK9 _ h.symm _ ?_
        exact le_sparse rfl ⟨AV.le_refl _, AV.le_refl _, AV.le_refl _, trivial⟩ trivial rfl
    · replace h := of_br_f b19 h
      cbv
      injection h with h
      refine hY7 _ h.symm _ _ (And.intro rfl ?_) (by intro hh; cases hh)
      exact le_sparse rfl ⟨AV.le_refl _, trivial⟩ trivial rfl
  · clear hr5
    have h := hN6
    clear hN6
    intro e13 s14 q12 hne
    rcases y4 with y4k0 | y4m0
    · replace h := h
      obtain ⟨rfl, q12⟩ := q12
      replace h := of_let h
      obtain ⟨w20, hw20, h⟩ := h
      have hw20 : w20 = y4k0 := hw20
      subst hw20
      cbv
      injection h with h
      subst h
      refine ⟨(sparse 21 [(4, .c (.v (.int .i64 w20)))] []), ?_, ?_⟩
      · refine St.le_trans q12 ?_
        exact le_sparse rfl ⟨AV.le_refl _, trivial⟩ trivial rfl
      · exact ⟨AV.le_refl _, trivial, rfl⟩
    · replace h := of_let h
      obtain ⟨y4k1, hyk, h⟩ := h
      have hyk : y4k1 = y4m0 := hyk
      subst hyk
      obtain ⟨rfl, q12⟩ := q12
      replace h := of_let h
      obtain ⟨w21, hw21, h⟩ := h
      have hw21 : w21 = y4k1 := hw21
      subst hw21
      cbv
      refine ⟨_, q12, ?_⟩
      cbv
      injection h with h
      subst h
      refine ⟨(sparse 21 [(4, .c (.v (.int .i64 w21)))] []), ?_, ?_⟩
      · exact le_sparse rfl ⟨AV.le_refl _, trivial⟩ trivial rfl
      · exact ⟨AV.le_refl _, trivial, rfl⟩
/-- laws.heldSpatialIndex -/
noncomputable def F_laws_heldSpatialIndex (a0 : TSpatialIndex) (a1 : Int) : Option (Int) :=
  (F_laws_heldSpatialEntryS a0.fEntries a1).bind fun y1 =>
  br (std.lt y1 0)
  (some (-1))
  ((F_laws_heldInt64SS a0.fBuckets y1).bind fun y3 =>
  br (std.lt y3 0)
  (some (-1))
  (some y3))
theorem run_laws_heldSpatialIndex (a0 : TSpatialIndex) (a1 : Int) (r : Int) (h : F_laws_heldSpatialIndex a0 a1 = some r) : Fun Try.prog 40 [.agg [.bs (len a0.fEntries) 5 (row gd (encSpatialEntry) a0.fEntries), .bs (len a0.fBuckets) 1 (row gd (encL len gd 1 (encI .i64)) a0.fBuckets)], .c (.v (.int .i64 a1))] [] (.c (.v (.int .i64 r))) [] true := by
  refine Fun.of_wp (oneOf []) tok mixed Try.func40 (by kernel_rfl) rfl Try.ntmps40 rfl trivial (fun _ => ⟨trivial, trivial⟩) ?_
  unfold F_laws_heldSpatialIndex at h
  have hf_laws_heldInt64SS := @run_laws_heldInt64SS
  have hf_laws_heldSpatialEntryS := @run_laws_heldSpatialEntryS
  generalize hLEN : @len = LEN at *
  generalize hGD : @gd = GD at *
  generalize hA : std = A at *
  generalize hP : Try.prog = P at *
  cbv
  replace h := of_bind h
  obtain ⟨y1, hy2, h⟩ := h
  refine ⟨{ args := [.c (.bs (LEN a0.fEntries) 5 (row GD (encSpatialEntry) a0.fEntries)), .c (.v (.int .i64 a1))], o0 := [], r := .c (.v (.int .i64 y1)), o1 := [], fl := true, σ := [], τ := [] }, hf_laws_heldSpatialEntryS _ _ _ hy2, ⟨les_cons (AV.le_refl _) (les_cons (AV.le_refl _) (les_nil)), trivial, rfl, rfl, rfl, rfl, trivial, rfl⟩, ?_⟩
  cbv
  refine fork (fun b6 => ?_) (fun b6 => ?_)
  · replace h := of_br_t b6 h
    cbv
    injection h with h
    subst h
    refine ⟨(sparse 18 [(4, .c (.v (.int .i64 (-1))))] []), ?_, ?_⟩
    · exact le_sparse rfl ⟨AV.le_refl _, trivial⟩ trivial rfl
    · exact ⟨AV.le_refl _, trivial, rfl⟩
  · replace h := of_br_f b6 h
    cbv
    replace h := of_bind h
    obtain ⟨y3, hy4, h⟩ := h
    refine ⟨{ args := [.c (.bs (LEN a0.fBuckets) 1 (row GD (encL LEN GD 1 (encI .i64)) a0.fBuckets)), .c (.v (.int .i64 y1))], o0 := [], r := .c (.v (.int .i64 y3)), o1 := [], fl := true, σ := [], τ := [] }, hf_laws_heldInt64SS _ _ _ hy4, ⟨les_cons (AV.le_refl _) (les_cons (AV.le_refl _) (les_nil)), trivial, rfl, rfl, rfl, rfl, trivial, rfl⟩, ?_⟩
    cbv
    refine fork (fun b5 => ?_) (fun b5 => ?_)
    · replace h := of_br_t b5 h
      cbv
      injection h with h
      subst h
      refine ⟨(sparse 18 [(4, .c (.v (.int .i64 (-1))))] []), ?_, ?_⟩
      · exact le_sparse rfl ⟨AV.le_refl _, trivial⟩ trivial rfl
      · exact ⟨AV.le_refl _, trivial, rfl⟩
    · replace h := of_br_f b5 h
      cbv
      injection h with h
      subst h
      refine ⟨(sparse 18 [(4, .c (.v (.int .i64 y3)))] []), ?_, ?_⟩
      · exact le_sparse rfl ⟨AV.le_refl _, trivial⟩ trivial rfl
      · exact ⟨AV.le_refl _, trivial, rfl⟩

/-- laws.FnExactRemoveEntry -/
noncomputable def F_laws_FnExactRemoveEntry (a0 : TSpatialIndex) (a1 : Int) : Option (Bool) :=
  (F_laws_szSpatialIndex a0 1048576).bind fun y1 =>
  br (std.lt y1 0)
  (some true)
  ((F_laws_toSpatialIndex a0).bind fun y3 =>
  (F_spec_RemoveEntry y3 a1).bind fun y5 =>
  (F_laws_toSpatialIndex a0).bind fun y7 =>
  (F_impl_RemoveEntry y7 a1).bind fun y9 =>
  ((
        (F_laws_eqSpatialIndex y9.1 y5.1).bind fun y18 =>
        br (!(y18))
        (some true)
        (some (std.not (std.eq y9.2 y5.2)))
    ) : Option (Bool)).bind fun y11 =>
  letO y11 fun w17 =>
  br w17
  (some false)
  ((F_laws_toSpatialIndex a0).bind fun y21 =>
  (F_laws_eqSpatialIndex y7 y21).bind fun y23 =>
  br (!(y23))
  (some false)
  ((F_laws_markSpatialIndex_moob y7 1).bind fun y25 =>
  req (len y25.2.1 = len y7.fEntries) <|
  req (len y25.2.2 = len y7.fBuckets) <|
  ((
        br (std.lt y25.1 0)
        (some true)
        ((F_laws_eqSpatialIndex y9.1 y5.1).bind fun y34 =>
        br (!(y34))
        (some true)
        (some (std.not (std.eq y9.2 y5.2))))
    ) : Option (Bool)).bind fun y27 =>
  letO y27 fun w33 =>
  br w33
  (some false)
  ((F_laws_markSpatialIndex_moob y9.1 1).bind fun y38 =>
  req (len y38.2.1 = len y9.1.fEntries) <|
  req (len y38.2.2 = len y9.1.fBuckets) <|
  (F_laws_heldSpatialIndex (TSpatialIndex.mk y38.2.1 y38.2.2) 1).bind fun y40 =>
  req (len y9.1.fEntries = len y38.2.1) <|
  req (len y9.1.fBuckets = len y38.2.2) <|
  br (std.lt y40 0)
  (some false)
  (br (std.not (std.eq y40 y38.1))
  (some false)
  ((F_laws_toSpatialIndex a0).bind fun y42 =>
  (F_impl_RemoveEntry y42 a1).bind fun y44 =>
  ((
        (F_laws_eqSpatialIndex y44.1 y5.1).bind fun y53 =>
        br (!(y53))
        (some true)
        (some (std.not (std.eq y44.2 y5.2)))
    ) : Option (Bool)).bind fun y46 =>
  letO y46 fun w52 =>
  br w52
  (some false)
  ((F_laws_heldSpatialIndex (TSpatialIndex.mk y38.2.1 y38.2.2) 1).bind fun y56 =>
  req (len y9.1.fEntries = len y38.2.1) <|
  req (len y9.1.fBuckets = len y38.2.2) <|
  br (std.lt y56 0)
  (some false)
  (br (std.not (std.eq y56 y38.1))
  (some false)
  (some true)))))))))
theorem run_laws_FnExactRemoveEntry (a0 : TSpatialIndex) (a1 : Int) (r : Bool) (h : F_laws_FnExactRemoveEntry a0 a1 = some r) : Fun Try.prog 7 [.agg [.bs (len a0.fEntries) 5 (row gd (encSpatialEntry) a0.fEntries), .bs (len a0.fBuckets) 1 (row gd (encL len gd 1 (encI .i64)) a0.fBuckets)], .c (.v (.int .i64 a1))] [] (.c (.v (.bool r))) [] true := by
  refine Fun.of_wp (oneOf [8, 14, 25]) tok mixed Try.func7 (by kernel_rfl) rfl Try.ntmps7 rfl trivial (fun _ => ⟨trivial, trivial⟩) ?_
  unfold F_laws_FnExactRemoveEntry at h
  have hf_impl_RemoveEntry := @run_impl_RemoveEntry
  have hf_laws_eqSpatialIndex := @run_laws_eqSpatialIndex
  have hf_laws_heldSpatialIndex := @run_laws_heldSpatialIndex
  have hf_laws_markSpatialIndex_moob := @run_laws_markSpatialIndex_moob
  have hf_laws_szSpatialIndex := @run_laws_szSpatialIndex
  have hf_laws_toSpatialIndex := @run_laws_toSpatialIndex
  have hf_spec_RemoveEntry := @run_spec_RemoveEntry
  generalize hLEN : @len = LEN at *
  generalize hGD : @gd = GD at *
  generalize hA : std = A at *
  generalize hP : Try.prog = P at *
  cbv
  replace h := of_bind h
  obtain ⟨y1, hy2, h⟩ := h
  refine ⟨{ args := [.agg [.bs (LEN a0.fEntries) 5 (row GD (encSpatialEntry) a0.fEntries), .bs (LEN a0.fBuckets) 1 (row GD (encL LEN GD 1 (encI .i64)) a0.fBuckets)], .c (.v (.int .i64 1048576))], o0 := [], r := .c (.v (.int .i64 y1)), o1 := [], fl := true, σ := [], τ := [] }, hf_laws_szSpatialIndex _ _ _ hy2, ⟨les_cons (AV.le_refl _) (les_cons (AV.le_refl _) (les_nil)), trivial, rfl, rfl, rfl, rfl, trivial, rfl⟩, ?_⟩
  cbv
  refine fork (fun b74 => ?_) (fun b74 => ?_)
  · replace h := of_br_t b74 h
    cbv
    injection h with h
    subst h
    refine ⟨(sparse 101 [(4, .c (.v (.bool true)))] []), ?_, ?_⟩
    · exact le_sparse rfl ⟨AV.le_refl _, trivial⟩ trivial rfl
    · exact ⟨AV.le_refl _, trivial, rfl⟩
  · replace h := of_br_f b74 h
    cbv
    replace h := of_bind h
    obtain ⟨y3, hy4, h⟩ := h
    refine ⟨{ args := [.agg [.bs (LEN a0.fEntries) 5 (row GD (encSpatialEntry) a0.fEntries), .bs (LEN a0.fBuckets) 1 (row GD (encL LEN GD 1 (encI .i64)) a0.fBuckets)]], o0 := [], r := .agg [.os 64000 0 (LEN y3.fEntries), .os 64002 0 (LEN y3.fBuckets)], o1 := [(64000, .arr .rw [] (LEN y3.fEntries) 5 (row GD (encSpatialEntry) y3.fEntries)), (64002, .arr .rw [] (LEN y3.fBuckets) 1 (row GD (oncL LEN GD 1 (encI .i64)) y3.fBuckets))], fl := true, σ := [], τ := [(64000, 1472), (64002, 1474)] }, hf_laws_toSpatialIndex _ _ hy4, ⟨les_cons (AV.le_refl _) (les_nil), trivial, rfl, rfl, rfl, rfl, ⟨fun h => absurd (show (64000 : Nat) % 2 = 1 from h) (by decide), fun h => absurd (show (64002 : Nat) % 2 = 1 from h) (by decide), trivial⟩, rfl⟩, _, rfl, _, _, rfl, fun _ _ _ _ => rfl, _, _, rfl, fun _ _ _ _ => rfl, ?_⟩
    cbv
    replace h := of_bind h
    obtain ⟨y5, hy6, h⟩ := h
    refine ⟨{ args := [.agg [.bs (LEN y3.fEntries) 5 (row GD (encSpatialEntry) y3.fEntries), .bs (LEN y3.fBuckets) 1 (row GD (encL LEN GD 1 (encI .i64)) y3.fBuckets)], .c (.v (.int .i64 a1))], o0 := [], r := .tup [.agg [.os 64000 0 (LEN y5.1.fEntries), .os 64002 0 (LEN y5.1.fBuckets)], .c (.v (.int .i64 y5.2))], o1 := [(64000, .arr .rw [] (LEN y5.1.fEntries) 5 (row GD (encSpatialEntry) y5.1.fEntries)), (64002, .arr .rw [] (LEN y5.1.fBuckets) 1 (row GD (oncL LEN GD 1 (encI .i64)) y5.1.fBuckets))], fl := true, σ := [], τ := [(64000, 1600), (64002, 1602)] }, hf_spec_RemoveEntry _ _ _ hy6, ⟨les_cons (le_agg ⟨give_os (pl_encSpatialEntry) rfl rfl rfl, give_osD (fun _ _ => rfl) (fun _ _ => rfl) rfl rfl rfl, trivial⟩) (les_cons (AV.le_refl _) (les_nil)), trivial, rfl, rfl, rfl, rfl, ⟨fun h => absurd (show (64000 : Nat) % 2 = 1 from h) (by decide), fun h => absurd (show (64002 : Nat) % 2 = 1 from h) (by decide), trivial⟩, rfl⟩, _, rfl, _, _, rfl, fun _ _ _ _ => rfl, _, _, rfl, fun _ _ _ _ => rfl, ?_⟩
    cbv
    replace h := of_bind h
    obtain ⟨y7, hy8, h⟩ := h
    refine ⟨{ args := [.agg [.bs (LEN a0.fEntries) 5 (row GD (encSpatialEntry) a0.fEntries), .bs (LEN a0.fBuckets) 1 (row GD (encL LEN GD 1 (encI .i64)) a0.fBuckets)]], o0 := [], r := .agg [.os 64000 0 (LEN y7.fEntries), .os 64002 0 (LEN y7.fBuckets)], o1 := [(64000, .arr .rw [] (LEN y7.fEntries) 5 (row GD (encSpatialEntry) y7.fEntries)), (64002, .arr .rw [] (LEN y7.fBuckets) 1 (row GD (oncL LEN GD 1 (encI .i64)) y7.fBuckets))], fl := true, σ := [], τ := [(64000, 1856), (64002, 1858)] }, hf_laws_toSpatialIndex _ _ hy8, ⟨les_cons (AV.le_refl _) (les_nil), trivial, rfl, rfl, rfl, rfl, ⟨fun h => absurd (show (64000 : Nat) % 2 = 1 from h) (by decide), fun h => absurd (show (64002 : Nat) % 2 = 1 from h) (by decide), trivial⟩, rfl⟩, _, rfl, _, _, rfl, fun _ _ _ _ => rfl, _, _, rfl, fun _ _ _ _ => rfl, ?_⟩
    cbv
    replace h := of_bind h
    obtain ⟨y9, hy10, h⟩ := h
    refine ⟨{ args := [.agg [.bs (LEN y7.fEntries) 5 (row GD (encSpatialEntry) y7.fEntries), .bs (LEN y7.fBuckets) 1 (row GD (encL LEN GD 1 (encI .i64)) y7.fBuckets)], .c (.v (.int .i64 a1))], o0 := [], r := .tup [.agg [.os 64000 0 (LEN y9.1.fEntries), .os 64002 0 (LEN y9.1.fBuckets)], .c (.v (.int .i64 y9.2))], o1 := [(64000, .arr .rw [] (LEN y9.1.fEntries) 5 (row GD (encSpatialEntry) y9.1.fEntries)), (64002, .arr .rw [] (LEN y9.1.fBuckets) 1 (row GD (oncL LEN GD 1 (encI .i64)) y9.1.fBuckets))], fl := true, σ := [], τ := [(64000, 2112), (64002, 2114)] }, hf_impl_RemoveEntry _ _ _ hy10, ⟨les_cons (le_agg ⟨give_os (pl_encSpatialEntry) rfl rfl rfl, give_osD (fun _ _ => rfl) (fun _ _ => rfl) rfl rfl rfl, trivial⟩) (les_cons (AV.le_refl _) (les_nil)), trivial, rfl, rfl, rfl, rfl, ⟨fun h => absurd (show (64000 : Nat) % 2 = 1 from h) (by decide), fun h => absurd (show (64002 : Nat) % 2 = 1 from h) (by decide), trivial⟩, rfl⟩, _, rfl, _, _, rfl, fun _ _ _ _ => rfl, _, _, rfl, fun _ _ _ _ => rfl, ?_⟩
    cbv
    replace h := of_bind h
    obtain ⟨y11, hy12, h⟩ := h
    obtain ⟨S15, hS16⟩ : ∃ S, S = (sparse 101 [(1, .c (.v (.int .i64 a1))), (2, .c (.ptr 128 0)), (6, .c (.ptr 384 0)), (7, .c (.v (.int .i64 y5.2))), (8, .c (.ptr 512 0)), (9, .c (.ptr 576 0)), (10, .c (.v (.int .i64 y9.2))), (44, .c (.v (.bool y11)))] [(128, .var [.bs (LEN a0.fEntries) 5 (row GD (encSpatialEntry) a0.fEntries), .bs (LEN a0.fBuckets) 1 (row GD (encL LEN GD 1 (encI .i64)) a0.fBuckets)]), (384, .var [.os 1600 0 (LEN y5.1.fEntries), .os 1602 0 (LEN y5.1.fBuckets)]), (512, .var [.os 1856 0 (LEN y7.fEntries), .os 1858 0 (LEN y7.fBuckets)]), (576, .var [.os 2112 0 (LEN y9.1.fEntries), .os 2114 0 (LEN y9.1.fBuckets)]), (1600, .arr .rw [] (LEN y5.1.fEntries) 5 (row GD (encSpatialEntry) y5.1.fEntries)), (1602, .arr .rw [] (LEN y5.1.fBuckets) 1 (row GD (oncL LEN GD 1 (encI .i64)) y5.1.fBuckets)), (1856, .arr .rw [] (LEN y7.fEntries) 5 (row GD (encSpatialEntry) y7.fEntries)), (1858, .arr .rw [] (LEN y7.fBuckets) 1 (row GD (oncL LEN GD 1 (encI .i64)) y7.fBuckets)), (2112, .arr .rw [] (LEN y9.1.fEntries) 5 (row GD (encSpatialEntry) y9.1.fEntries)), (2114, .arr .rw [] (LEN y9.1.fBuckets) 1 (row GD (oncL LEN GD 1 (encI .i64)) y9.1.fBuckets))]) := ⟨_, rfl⟩
    refine ⟨S15, ?_, ?_⟩
    · clear h
      have h := hy12
      clear hy12
      cbv
      replace h := of_bind h
      obtain ⟨y18, hy19, h⟩ := h
      refine ⟨{ args := [.agg [.bs (LEN y9.1.fEntries) 5 (row GD (encSpatialEntry) y9.1.fEntries), .bs (LEN y9.1.fBuckets) 1 (row GD (encL LEN GD 1 (encI .i64)) y9.1.fBuckets)], .agg [.bs (LEN y5.1.fEntries) 5 (row GD (encSpatialEntry) y5.1.fEntries), .bs (LEN y5.1.fBuckets) 1 (row GD (encL LEN GD 1 (encI .i64)) y5.1.fBuckets)]], o0 := [], r := .c (.v (.bool y18)), o1 := [], fl := true, σ := [], τ := [] }, hf_laws_eqSpatialIndex _ _ _ hy19, ⟨les_cons (le_agg ⟨give_os (pl_encSpatialEntry) rfl rfl rfl, give_osD (fun _ _ => rfl) (fun _ _ => rfl) rfl rfl rfl, trivial⟩) (les_cons (le_agg ⟨give_os (pl_encSpatialEntry) rfl rfl rfl, give_osD (fun _ _ => rfl) (fun _ _ => rfl) rfl rfl rfl, trivial⟩) (les_nil)), trivial, rfl, rfl, rfl, rfl, trivial, rfl⟩, ?_⟩
      cbv
      refine fork (fun b20 => ?_) (fun b20 => ?_)
      · replace h := of_br_t b20 h
        cbv
        injection h with h
        subst h
        subst hS16
        show St.le _ _
        exact le_sparse rfl ⟨AV.le_refl _, AV.le_refl _, AV.le_refl _, AV.le_refl _, AV.le_refl _, AV.le_refl _, AV.le_refl _, AV.le_refl _, trivial⟩ ⟨rfl, rfl, rfl, rfl, ⟨fun hw => hw, fun c hc => (by cases hc), .inl rfl, rfl, rfl, fun i hi j hj => rfl⟩, ⟨fun hw => hw, fun c hc => (by cases hc), .inl rfl, rfl, rfl, fun i hi j hj => rfl⟩, ⟨fun hw => hw, fun c hc => (by cases hc), .inl rfl, rfl, rfl, fun i hi j hj => rfl⟩, ⟨fun hw => hw, fun c hc => (by cases hc), .inl rfl, rfl, rfl, fun i hi j hj => rfl⟩, ⟨fun hw => hw, fun c hc => (by cases hc), .inl rfl, rfl, rfl, fun i hi j hj => rfl⟩, ⟨fun hw => hw, fun c hc => (by cases hc), .inl rfl, rfl, rfl, fun i hi j hj => rfl⟩, trivial⟩ rfl
      · replace h := of_br_f b20 h
        cbv
        injection h with h
        subst h
        subst hS16
        show St.le _ _
        exact le_sparse rfl ⟨AV.le_refl _, AV.le_refl _, AV.le_refl _, AV.le_refl _, AV.le_refl _, AV.le_refl _, AV.le_refl _, AV.le_refl _, trivial⟩ ⟨rfl, rfl, rfl, rfl, ⟨fun hw => hw, fun c hc => (by cases hc), .inl rfl, rfl, rfl, fun i hi j hj => rfl⟩, ⟨fun hw => hw, fun c hc => (by cases hc), .inl rfl, rfl, rfl, fun i hi j hj => rfl⟩, ⟨fun hw => hw, fun c hc => (by cases hc), .inl rfl, rfl, rfl, fun i hi j hj => rfl⟩, ⟨fun hw => hw, fun c hc => (by cases hc), .inl rfl, rfl, rfl, fun i hi j hj => rfl⟩, ⟨fun hw => hw, fun c hc => (by cases hc), .inl rfl, rfl, rfl, fun i hi j hj => rfl⟩, ⟨fun hw => hw, fun c hc => (by cases hc), .inl rfl, rfl, rfl, fun i hi j hj => rfl⟩, trivial⟩ rfl
    · clear hy12
      subst hS16
      replace h := of_let h
      obtain ⟨w17, hw17, h⟩ := h
      have hw17 : w17 = y11 := hw17
      subst hw17
      cbv
      refine fork (fun b73 => ?_) (fun b73 => ?_)
      · replace h := of_br_t b73 h
        cbv
        injection h with h
        subst h
        refine ⟨(sparse 101 [(4, .c (.v (.bool false)))] []), ?_, ?_⟩
        · exact le_sparse rfl ⟨AV.le_refl _, trivial⟩ trivial rfl
        · exact ⟨AV.le_refl _, trivial, rfl⟩
      · replace h := of_br_f b73 h
        cbv
        replace h := of_bind h
        obtain ⟨y21, hy22, h⟩ := h
        refine ⟨{ args := [.agg [.bs (LEN a0.fEntries) 5 (row GD (encSpatialEntry) a0.fEntries), .bs (LEN a0.fBuckets) 1 (row GD (encL LEN GD 1 (encI .i64)) a0.fBuckets)]], o0 := [], r := .agg [.os 64000 0 (LEN y21.fEntries), .os 64002 0 (LEN y21.fBuckets)], o1 := [(64000, .arr .rw [] (LEN y21.fEntries) 5 (row GD (encSpatialEntry) y21.fEntries)), (64002, .arr .rw [] (LEN y21.fBuckets) 1 (row GD (oncL LEN GD 1 (encI .i64)) y21.fBuckets))], fl := true, σ := [], τ := [(64000, 3008), (64002, 3010)] }, hf_laws_toSpatialIndex _ _ hy22, ⟨les_cons (AV.le_refl _) (les_nil), trivial, rfl, rfl, rfl, rfl, ⟨fun h => absurd (show (64000 : Nat) % 2 = 1 from h) (by decide), fun h => absurd (show (64002 : Nat) % 2 = 1 from h) (by decide), trivial⟩, rfl⟩, _, rfl, _, _, rfl, fun _ _ _ _ => rfl, _, _, rfl, fun _ _ _ _ => rfl, ?_⟩
        cbv
        replace h := of_bind h
        obtain ⟨y23, hy24, h⟩ := h
        refine ⟨{ args := [.agg [.bs (LEN y7.fEntries) 5 (row GD (encSpatialEntry) y7.fEntries), .bs (LEN y7.fBuckets) 1 (row GD (encL LEN GD 1 (encI .i64)) y7.fBuckets)], .agg [.bs (LEN y21.fEntries) 5 (row GD (encSpatialEntry) y21.fEntries), .bs (LEN y21.fBuckets) 1 (row GD (encL LEN GD 1 (encI .i64)) y21.fBuckets)]], o0 := [], r := .c (.v (.bool y23)), o1 := [], fl := true, σ := [], τ := [] }, hf_laws_eqSpatialIndex _ _ _ hy24, ⟨les_cons (le_agg ⟨give_os (pl_encSpatialEntry) rfl rfl rfl, give_osD (fun _ _ => rfl) (fun _ _ => rfl) rfl rfl rfl, trivial⟩) (les_cons (le_agg ⟨give_os (pl_encSpatialEntry) rfl rfl rfl, give_osD (fun _ _ => rfl) (fun _ _ => rfl) rfl rfl rfl, trivial⟩) (les_nil)), trivial, rfl, rfl, rfl, rfl, trivial, rfl⟩, ?_⟩
        cbv
        refine fork (fun b72 => ?_) (fun b72 => ?_)
        · replace h := of_br_t b72 h
          cbv
          injection h with h
          subst h
          refine ⟨(sparse 101 [(4, .c (.v (.bool false)))] []), ?_, ?_⟩
          · exact le_sparse rfl ⟨AV.le_refl _, trivial⟩ trivial rfl
          · exact ⟨AV.le_refl _, trivial, rfl⟩
        · replace h := of_br_f b72 h
          cbv
          replace h := of_bind h
          obtain ⟨y25, hy26, h⟩ := h
          replace h := of_req h
          obtain ⟨c70, h⟩ := h
          replace h := of_req h
          obtain ⟨c71, h⟩ := h
          refine ⟨{ args := [.agg [.os 5 0 (LEN y7.fEntries), .os 7 0 (LEN y7.fBuckets)], .c (.v (.int .i64 1))], o0 := [(5, .arr .rw [] (LEN y7.fEntries) 5 (row GD (encSpatialEntry) y7.fEntries)), (7, .arr .rw [] (LEN y7.fBuckets) 1 (row GD (oncL LEN GD 1 (encI .i64)) y7.fBuckets))], r := .c (.v (.int .i64 y25.1)), o1 := [(5, .arr .rw [] (LEN y25.2.1) 5 (row GD (encSpatialEntry) y25.2.1)), (7, .arr .rw [] (LEN y25.2.2) 1 (row GD (oncL LEN GD 1 (encI .i64)) y25.2.2))], fl := true, σ := [(5, 1856), (7, 1858)], τ := [(5, 1856), (7, 1858)] }, hf_laws_markSpatialIndex_moob _ _ _ hy26, ⟨les_cons (AV.le_refl _) (les_cons (AV.le_refl _) (les_nil)), ⟨⟨fun hw => hw, fun c hc => (by cases hc), .inl rfl, rfl, rfl, fun i hi j hj => rfl⟩, ⟨fun hw => hw, fun c hc => (by cases hc), .inl rfl, rfl, rfl, fun i hi j hj => rfl⟩, trivial⟩, rfl, rfl, rfl, rfl, ⟨fun _ => ⟨c70.symm, rfl, fun c h => h⟩, fun _ => ⟨c71.symm, rfl, fun c h => h⟩, trivial⟩, rfl⟩, _, rfl, LEN y7.fEntries, _, c70, fun _ _ _ _ => rfl, LEN y7.fBuckets, _, c71, fun _ _ _ _ => rfl, ?_⟩
          cbv
          replace h := of_bind h
          obtain ⟨y27, hy28, h⟩ := h
          obtain ⟨S31, hS32⟩ : ∃ S, S = (sparse 101 [(1, .c (.v (.int .i64 a1))), (2, .c (.ptr 128 0)), (6, .c (.ptr 384 0)), (7, .c (.v (.int .i64 y5.2))), (9, .c (.ptr 576 0)), (65, .c (.v (.bool y27)))] [(128, .var [.bs (LEN a0.fEntries) 5 (row GD (encSpatialEntry) a0.fEntries), .bs (LEN a0.fBuckets) 1 (row GD (encL LEN GD 1 (encI .i64)) a0.fBuckets)]), (384, .var [.os 1600 0 (LEN y5.1.fEntries), .os 1602 0 (LEN y5.1.fBuckets)]), (576, .var [.os 2112 0 (LEN y9.1.fEntries), .os 2114 0 (LEN y9.1.fBuckets)]), (1600, .arr .rw [] (LEN y5.1.fEntries) 5 (row GD (encSpatialEntry) y5.1.fEntries)), (1602, .arr .rw [] (LEN y5.1.fBuckets) 1 (row GD (oncL LEN GD 1 (encI .i64)) y5.1.fBuckets)), (2112, .arr .rw [] (LEN y9.1.fEntries) 5 (row GD (encSpatialEntry) y9.1.fEntries)), (2114, .arr .rw [] (LEN y9.1.fBuckets) 1 (row GD (oncL LEN GD 1 (encI .i64)) y9.1.fBuckets))]) := ⟨_, rfl⟩
          refine ⟨S31, ?_, ?_⟩
          · clear h
            have h := hy28
            clear hy28
            cbv
            refine fork (fun b37 => ?_) (fun b37 => ?_)
            · replace h := of_br_t b37 h
              cbv
              injection h with h
              subst h
              subst hS32
              show St.le _ _
              exact le_sparse rfl ⟨AV.le_refl _, AV.le_refl _, AV.le_refl _, AV.le_refl _, AV.le_refl _, AV.le_refl _, trivial⟩ ⟨rfl, rfl, rfl, ⟨fun hw => hw, fun c hc => (by cases hc), .inl rfl, rfl, rfl, fun i hi j hj => rfl⟩, ⟨fun hw => hw, fun c hc => (by cases hc), .inl rfl, rfl, rfl, fun i hi j hj => rfl⟩, ⟨fun hw => hw, fun c hc => (by cases hc), .inl rfl, rfl, rfl, fun i hi j hj => rfl⟩, ⟨fun hw => hw, fun c hc => (by cases hc), .inl rfl, rfl, rfl, fun i hi j hj => rfl⟩, trivial⟩ rfl
            · replace h := of_br_f b37 h
              cbv
              replace h := of_bind h
              obtain ⟨y34, hy35, h⟩ := h
              refine ⟨{ args := [.agg [.bs (LEN y9.1.fEntries) 5 (row GD (encSpatialEntry) y9.1.fEntries), .bs (LEN y9.1.fBuckets) 1 (row GD (encL LEN GD 1 (encI .i64)) y9.1.fBuckets)], .agg [.bs (LEN y5.1.fEntries) 5 (row GD (encSpatialEntry) y5.1.fEntries), .bs (LEN y5.1.fBuckets) 1 (row GD (encL LEN GD 1 (encI .i64)) y5.1.fBuckets)]], o0 := [], r := .c (.v (.bool y34)), o1 := [], fl := true, σ := [], τ := [] }, hf_laws_eqSpatialIndex _ _ _ hy35, ⟨les_cons (le_agg ⟨give_os (pl_encSpatialEntry) rfl rfl rfl, give_osD (fun _ _ => rfl) (fun _ _ => rfl) rfl rfl rfl, trivial⟩) (les_cons (le_agg ⟨give_os (pl_encSpatialEntry) rfl rfl rfl, give_osD (fun _ _ => rfl) (fun _ _ => rfl) rfl rfl rfl, trivial⟩) (les_nil)), trivial, rfl, rfl, rfl, rfl, trivial, rfl⟩, ?_⟩
              cbv
              refine fork (fun b36 => ?_) (fun b36 => ?_)
              · replace h := of_br_t b36 h
                cbv
                injection h with h
                subst h
                subst hS32
                show St.le _ _
                exact le_sparse rfl ⟨AV.le_refl _, AV.le_refl _, AV.le_refl _, AV.le_refl _, AV.le_refl _, AV.le_refl _, trivial⟩ ⟨rfl, rfl, rfl, ⟨fun hw => hw, fun c hc => (by cases hc), .inl rfl, rfl, rfl, fun i hi j hj => rfl⟩, ⟨fun hw => hw, fun c hc => (by cases hc), .inl rfl, rfl, rfl, fun i hi j hj => rfl⟩, ⟨fun hw => hw, fun c hc => (by cases hc), .inl rfl, rfl, rfl, fun i hi j hj => rfl⟩, ⟨fun hw => hw, fun c hc => (by cases hc), .inl rfl, rfl, rfl, fun i hi j hj => rfl⟩, trivial⟩ rfl
              · replace h := of_br_f b36 h
                cbv
                injection h with h
                subst h
                subst hS32
                show St.le _ _
                exact le_sparse rfl ⟨AV.le_refl _, AV.le_refl _, AV.le_refl _, AV.le_refl _, AV.le_refl _, AV.le_refl _, trivial⟩ ⟨rfl, rfl, rfl, ⟨fun hw => hw, fun c hc => (by cases hc), .inl rfl, rfl, rfl, fun i hi j hj => rfl⟩, ⟨fun hw => hw, fun c hc => (by cases hc), .inl rfl, rfl, rfl, fun i hi j hj => rfl⟩, ⟨fun hw => hw, fun c hc => (by cases hc), .inl rfl, rfl, rfl, fun i hi j hj => rfl⟩, ⟨fun hw => hw, fun c hc => (by cases hc), .inl rfl, rfl, rfl, fun i hi j hj => rfl⟩, trivial⟩ rfl
          · clear hy28
            subst hS32
            replace h := of_let h
            obtain ⟨w33, hw33, h⟩ := h
            have hw33 : w33 = y27 := hw33
            subst hw33
            cbv
            refine fork (fun b69 => ?_) (fun b69 => ?_)
            · replace h := of_br_t b69 h
              cbv
              injection h with h
              subst h
              refine ⟨(sparse 101 [(4, .c (.v (.bool false)))] []), ?_, ?_⟩
              · exact le_sparse rfl ⟨AV.le_refl _, trivial⟩ trivial rfl
              · exact ⟨AV.le_refl _, trivial, rfl⟩
            · replace h := of_br_f b69 h
              cbv
              replace h := of_bind h
              obtain ⟨y38, hy39, h⟩ := h
              replace h := of_req h
              obtain ⟨c67, h⟩ := h
              replace h := of_req h
              obtain ⟨c68, h⟩ := h
              refine ⟨{ args := [.agg [.os 5 0 (LEN y9.1.fEntries), .os 7 0 (LEN y9.1.fBuckets)], .c (.v (.int .i64 1))], o0 := [(5, .arr .rw [] (LEN y9.1.fEntries) 5 (row GD (encSpatialEntry) y9.1.fEntries)), (7, .arr .rw [] (LEN y9.1.fBuckets) 1 (row GD (oncL LEN GD 1 (encI .i64)) y9.1.fBuckets))], r := .c (.v (.int .i64 y38.1)), o1 := [(5, .arr .rw [] (LEN y38.2.1) 5 (row GD (encSpatialEntry) y38.2.1)), (7, .arr .rw [] (LEN y38.2.2) 1 (row GD (oncL LEN GD 1 (encI .i64)) y38.2.2))], fl := true, σ := [(5, 2112), (7, 2114)], τ := [(5, 2112), (7, 2114)] }, hf_laws_markSpatialIndex_moob _ _ _ hy39, ⟨les_cons (AV.le_refl _) (les_cons (AV.le_refl _) (les_nil)), ⟨⟨fun hw => hw, fun c hc => (by cases hc), .inl rfl, rfl, rfl, fun i hi j hj => rfl⟩, ⟨fun hw => hw, fun c hc => (by cases hc), .inl rfl, rfl, rfl, fun i hi j hj => rfl⟩, trivial⟩, rfl, rfl, rfl, rfl, ⟨fun _ => ⟨c67.symm, rfl, fun c h => h⟩, fun _ => ⟨c68.symm, rfl, fun c h => h⟩, trivial⟩, rfl⟩, _, rfl, LEN y9.1.fEntries, _, c67, fun _ _ _ _ => rfl, LEN y9.1.fBuckets, _, c68, fun _ _ _ _ => rfl, ?_⟩
              cbv
              replace h := of_bind h
              obtain ⟨y40, hy41, h⟩ := h
              replace h := of_req h
              obtain ⟨c65, h⟩ := h
              replace h := of_req h
              obtain ⟨c66, h⟩ := h
              refine ⟨{ args := [.agg [.bs (LEN y38.2.1) 5 (row GD (encSpatialEntry) y38.2.1), .bs (LEN y38.2.2) 1 (row GD (encL LEN GD 1 (encI .i64)) y38.2.2)], .c (.v (.int .i64 1))], o0 := [], r := .c (.v (.int .i64 y40)), o1 := [], fl := true, σ := [], τ := [] }, hf_laws_heldSpatialIndex _ _ _ hy41, ⟨les_cons (le_agg ⟨give_os (pl_encSpatialEntry) rfl rfl c65, give_osD (fun _ _ => rfl) (fun _ _ => rfl) rfl rfl c66, trivial⟩) (les_cons (AV.le_refl _) (les_nil)), trivial, rfl, rfl, rfl, rfl, trivial, rfl⟩, ?_⟩
              cbv
              refine fork (fun b64 => ?_) (fun b64 => ?_)
              · replace h := of_br_t b64 h
                cbv
                injection h with h
                subst h
                refine ⟨(sparse 101 [(4, .c (.v (.bool false)))] []), ?_, ?_⟩
                · exact le_sparse rfl ⟨AV.le_refl _, trivial⟩ trivial rfl
                · exact ⟨AV.le_refl _, trivial, rfl⟩
              · replace h := of_br_f b64 h
                cbv
                refine fork (fun b63 => ?_) (fun b63 => ?_)
                · replace h := of_br_t b63 h
                  cbv
                  injection h with h
                  subst h
                  refine ⟨(sparse 101 [(4, .c (.v (.bool false)))] []), ?_, ?_⟩
                  · exact le_sparse rfl ⟨AV.le_refl _, trivial⟩ trivial rfl
                  · exact ⟨AV.le_refl _, trivial, rfl⟩
                · replace h := of_br_f b63 h
                  cbv
                  replace h := of_bind h
                  obtain ⟨y42, hy43, h⟩ := h
                  refine ⟨{ args := [.agg [.bs (LEN a0.fEntries) 5 (row GD (encSpatialEntry) a0.fEntries), .bs (LEN a0.fBuckets) 1 (row GD (encL LEN GD 1 (encI .i64)) a0.fBuckets)]], o0 := [], r := .agg [.os 64000 0 (LEN y42.fEntries), .os 64002 0 (LEN y42.fBuckets)], o1 := [(64000, .arr .rw [] (LEN y42.fEntries) 5 (row GD (encSpatialEntry) y42.fEntries)), (64002, .arr .rw [] (LEN y42.fBuckets) 1 (row GD (oncL LEN GD 1 (encI .i64)) y42.fBuckets))], fl := true, σ := [], τ := [(64000, 5056), (64002, 5058)] }, hf_laws_toSpatialIndex _ _ hy43, ⟨les_cons (AV.le_refl _) (les_nil), trivial, rfl, rfl, rfl, rfl, ⟨fun h => absurd (show (64000 : Nat) % 2 = 1 from h) (by decide), fun h => absurd (show (64002 : Nat) % 2 = 1 from h) (by decide), trivial⟩, rfl⟩, _, rfl, _, _, rfl, fun _ _ _ _ => rfl, _, _, rfl, fun _ _ _ _ => rfl, ?_⟩
                  cbv
                  replace h := of_bind h
                  obtain ⟨y44, hy45, h⟩ := h
                  refine ⟨{ args := [.agg [.bs (LEN y42.fEntries) 5 (row GD (encSpatialEntry) y42.fEntries), .bs (LEN y42.fBuckets) 1 (row GD (encL LEN GD 1 (encI .i64)) y42.fBuckets)], .c (.v (.int .i64 a1))], o0 := [], r := .tup [.agg [.os 64000 0 (LEN y44.1.fEntries), .os 64002 0 (LEN y44.1.fBuckets)], .c (.v (.int .i64 y44.2))], o1 := [(64000, .arr .rw [] (LEN y44.1.fEntries) 5 (row GD (encSpatialEntry) y44.1.fEntries)), (64002, .arr .rw [] (LEN y44.1.fBuckets) 1 (row GD (oncL LEN GD 1 (encI .i64)) y44.1.fBuckets))], fl := true, σ := [], τ := [(64000, 5184), (64002, 5186)] }, hf_impl_RemoveEntry _ _ _ hy45, ⟨les_cons (le_agg ⟨give_os (pl_encSpatialEntry) rfl rfl rfl, give_osD (fun _ _ => rfl) (fun _ _ => rfl) rfl rfl rfl, trivial⟩) (les_cons (AV.le_refl _) (les_nil)), trivial, rfl, rfl, rfl, rfl, ⟨fun h => absurd (show (64000 : Nat) % 2 = 1 from h) (by decide), fun h => absurd (show (64002 : Nat) % 2 = 1 from h) (by decide), trivial⟩, rfl⟩, _, rfl, _, _, rfl, fun _ _ _ _ => rfl, _, _, rfl, fun _ _ _ _ => rfl, ?_⟩
                  cbv
                  replace h := of_bind h
                  obtain ⟨y46, hy47, h⟩ := h
                  obtain ⟨S50, hS51⟩ : ∃ S, S = (sparse 101 [(9, .c (.ptr 576 0)), (12, .c (.v (.int .i64 y38.1))), (92, .c (.v (.bool y46)))] [(576, .var [.os 2112 0 (LEN y9.1.fEntries), .os 2114 0 (LEN y9.1.fBuckets)]), (2112, .arr .rw [] (LEN y9.1.fEntries) 5 (row GD (encSpatialEntry) y38.2.1)), (2114, .arr .rw [] (LEN y9.1.fBuckets) 1 (row GD (oncL LEN GD 1 (encI .i64)) y38.2.2))]) := ⟨_, rfl⟩
                  refine ⟨S50, ?_, ?_⟩
                  · clear h
                    have h := hy47
                    clear hy47
                    cbv
                    replace h := of_bind h
                    obtain ⟨y53, hy54, h⟩ := h
                    refine ⟨{ args := [.agg [.bs (LEN y44.1.fEntries) 5 (row GD (encSpatialEntry) y44.1.fEntries), .bs (LEN y44.1.fBuckets) 1 (row GD (encL LEN GD 1 (encI .i64)) y44.1.fBuckets)], .agg [.bs (LEN y5.1.fEntries) 5 (row GD (encSpatialEntry) y5.1.fEntries), .bs (LEN y5.1.fBuckets) 1 (row GD (encL LEN GD 1 (encI .i64)) y5.1.fBuckets)]], o0 := [], r := .c (.v (.bool y53)), o1 := [], fl := true, σ := [], τ := [] }, hf_laws_eqSpatialIndex _ _ _ hy54, ⟨les_cons (le_agg ⟨give_os (pl_encSpatialEntry) rfl rfl rfl, give_osD (fun _ _ => rfl) (fun _ _ => rfl) rfl rfl rfl, trivial⟩) (les_cons (le_agg ⟨give_os (pl_encSpatialEntry) rfl rfl rfl, give_osD (fun _ _ => rfl) (fun _ _ => rfl) rfl rfl rfl, trivial⟩) (les_nil)), trivial, rfl, rfl, rfl, rfl, trivial, rfl⟩, ?_⟩
                    cbv
                    refine fork (fun b55 => ?_) (fun b55 => ?_)
                    · replace h := of_br_t b55 h
                      cbv
                      injection h with h
                      subst h
                      subst hS51
                      show St.le _ _
                      exact le_sparse rfl ⟨AV.le_refl _, AV.le_refl _, AV.le_refl _, trivial⟩ ⟨rfl, ⟨fun hw => hw, fun c hc => (by cases hc), .inl rfl, rfl, rfl, fun i hi j hj => rfl⟩, ⟨fun hw => hw, fun c hc => (by cases hc), .inl rfl, rfl, rfl, fun i hi j hj => rfl⟩, trivial⟩ rfl
                    · replace h := of_br_f b55 h
                      cbv
                      injection h with h
                      subst h
                      subst hS51
                      show St.le _ _
                      exact le_sparse rfl ⟨AV.le_refl _, AV.le_refl _, AV.le_refl _, trivial⟩ ⟨rfl, ⟨fun hw => hw, fun c hc => (by cases hc), .inl rfl, rfl, rfl, fun i hi j hj => rfl⟩, ⟨fun hw => hw, fun c hc => (by cases hc), .inl rfl, rfl, rfl, fun i hi j hj => rfl⟩, trivial⟩ rfl
                  · clear hy47
                    subst hS51
                    replace h := of_let h
                    obtain ⟨w52, hw52, h⟩ := h
                    have hw52 : w52 = y46 := hw52
                    subst hw52
                    cbv
                    refine fork (fun b62 => ?_) (fun b62 => ?_)
                    · replace h := of_br_t b62 h
                      cbv
                      injection h with h
                      subst h
                      refine ⟨(sparse 101 [(4, .c (.v (.bool false)))] []), ?_, ?_⟩
                      · exact le_sparse rfl ⟨AV.le_refl _, trivial⟩ trivial rfl
                      · exact ⟨AV.le_refl _, trivial, rfl⟩
                    · replace h := of_br_f b62 h
                      cbv
                      replace h := of_bind h
                      obtain ⟨y56, hy57, h⟩ := h
                      replace h := of_req h
                      obtain ⟨c60, h⟩ := h
                      replace h := of_req h
                      obtain ⟨c61, h⟩ := h
                      refine ⟨{ args := [.agg [.bs (LEN y38.2.1) 5 (row GD (encSpatialEntry) y38.2.1), .bs (LEN y38.2.2) 1 (row GD (encL LEN GD 1 (encI .i64)) y38.2.2)], .c (.v (.int .i64 1))], o0 := [], r := .c (.v (.int .i64 y56)), o1 := [], fl := true, σ := [], τ := [] }, hf_laws_heldSpatialIndex _ _ _ hy57, ⟨les_cons (le_agg ⟨give_os (pl_encSpatialEntry) rfl rfl c60, give_osD (fun _ _ => rfl) (fun _ _ => rfl) rfl rfl c61, trivial⟩) (les_cons (AV.le_refl _) (les_nil)), trivial, rfl, rfl, rfl, rfl, trivial, rfl⟩, ?_⟩
                      cbv
                      refine fork (fun b59 => ?_) (fun b59 => ?_)
                      · replace h := of_br_t b59 h
                        cbv
                        injection h with h
                        subst h
                        refine ⟨(sparse 101 [(4, .c (.v (.bool false)))] []), ?_, ?_⟩
                        · exact le_sparse rfl ⟨AV.le_refl _, trivial⟩ trivial rfl
                        · exact ⟨AV.le_refl _, trivial, rfl⟩
                      · replace h := of_br_f b59 h
                        cbv
                        refine fork (fun b58 => ?_) (fun b58 => ?_)
                        · replace h := of_br_t b58 h
                          cbv
                          injection h with h
                          subst h
                          refine ⟨(sparse 101 [(4, .c (.v (.bool false)))] []), ?_, ?_⟩
                          · exact le_sparse rfl ⟨AV.le_refl _, trivial⟩ trivial rfl
                          · exact ⟨AV.le_refl _, trivial, rfl⟩
                        · replace h := of_br_f b58 h
                          cbv
                          injection h with h
                          subst h
                          refine ⟨(sparse 101 [(4, .c (.v (.bool true)))] []), ?_, ?_⟩
                          · exact le_sparse rfl ⟨AV.le_refl _, trivial⟩ trivial rfl
                          · exact ⟨AV.le_refl _, trivial, rfl⟩
end Go.Proofs.Ytnmfighfidaglaa.AM
