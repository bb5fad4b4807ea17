/-
  What the functions that the law reaches compute, and that they do. No condition.
-/
import Derived.Test.YtnmfighfidaglaaAmIW
import Derived.Test.YtnmfighfidaglaaAmE
namespace Go.Proofs.Ytnmfighfidaglaa.AM
open Go Go.Proofs Go.RowKit
set_option linter.unusedVariables false
set_option linter.unusedSimpArgs false
set_option maxRecDepth 100000

/-- laws.eqSpatialEntry -/
noncomputable def F_laws_eqSpatialEntry (a0 : TSpatialEntry) (a1 : TSpatialEntry) : Option (Bool) :=
  br (std.not (std.eq a0.fId a1.fId))
  (some false)
  ((F_laws_eqRect a0.fBox a1.fBox).bind fun y1 =>
  br (!(y1))
  (some false)
  (some true))
theorem run_laws_eqSpatialEntry (a0 : TSpatialEntry) (a1 : TSpatialEntry) (r : Bool) (h : F_laws_eqSpatialEntry a0 a1 = some r) : Fun Try.prog 169 [.agg [.v (.int .i64 a0.fId), .v (.int .i64 a0.fBox.fX0), .v (.int .i64 a0.fBox.fY0), .v (.int .i64 a0.fBox.fX1), .v (.int .i64 a0.fBox.fY1)], .agg [.v (.int .i64 a1.fId), .v (.int .i64 a1.fBox.fX0), .v (.int .i64 a1.fBox.fY0), .v (.int .i64 a1.fBox.fX1), .v (.int .i64 a1.fBox.fY1)]] [] (.c (.v (.bool r))) [] true := by
  refine Fun.of_wp (oneOf []) tok mixed Try.func169 (by kernel_rfl) rfl Try.ntmps169 rfl trivial (fun _ => ⟨trivial, trivial⟩) ?_
  unfold F_laws_eqSpatialEntry at h
  have hf_laws_eqRect := @run_laws_eqRect
  generalize hLEN : @len = LEN at *
  generalize hGD : @gd = GD at *
  generalize hA : std = A at *
  generalize hP : Try.prog = P at *
  cbv
  refine fork (fun b4 => ?_) (fun b4 => ?_)
  · replace h := of_br_t b4 h
    cbv
    injection h with h
    subst h
    refine ⟨(sparse 16 [(4, .c (.v (.bool false)))] []), ?_, ?_⟩
    · exact le_sparse rfl ⟨AV.le_refl _, trivial⟩ trivial rfl
    · exact ⟨AV.le_refl _, trivial, rfl⟩
  · replace h := of_br_f b4 h
    cbv
    replace h := of_bind h
    obtain ⟨y1, hy2, h⟩ := h
    refine ⟨{ args := [.agg [.v (.int .i64 a0.fBox.fX0), .v (.int .i64 a0.fBox.fY0), .v (.int .i64 a0.fBox.fX1), .v (.int .i64 a0.fBox.fY1)], .agg [.v (.int .i64 a1.fBox.fX0), .v (.int .i64 a1.fBox.fY0), .v (.int .i64 a1.fBox.fX1), .v (.int .i64 a1.fBox.fY1)]], o0 := [], r := .c (.v (.bool y1)), o1 := [], fl := true, σ := [], τ := [] }, hf_laws_eqRect _ _ _ hy2, ⟨les_cons (AV.le_refl _) (les_cons (AV.le_refl _) (les_nil)), trivial, rfl, rfl, rfl, rfl, trivial, rfl⟩, ?_⟩
    cbv
    refine fork (fun b3 => ?_) (fun b3 => ?_)
    · replace h := of_br_t b3 h
      cbv
      injection h with h
      subst h
      refine ⟨(sparse 16 [(4, .c (.v (.bool false)))] []), ?_, ?_⟩
      · exact le_sparse rfl ⟨AV.le_refl _, trivial⟩ trivial rfl
      · exact ⟨AV.le_refl _, trivial, rfl⟩
    · replace h := of_br_f b3 h
      cbv
      injection h with h
      subst h
      refine ⟨(sparse 16 [(4, .c (.v (.bool true)))] []), ?_, ?_⟩
      · exact le_sparse rfl ⟨AV.le_refl _, trivial⟩ trivial rfl
      · exact ⟨AV.le_refl _, trivial, rfl⟩

noncomputable def L_laws_eqSpatialEntryS_x2 (a0 : List TSpatialEntry) (a1 : List TSpatialEntry) : (Int) → Option ((Int) ⊕ ((Unit) ⊕ (Unit))) := fun x2 =>
  letO x2 fun v1 =>
  br (std.lt v1 (std.ofN (len a0)))
  (req (std.inR v1 (len a0)) <|
  req (std.inR v1 (len a1)) <|
  (F_laws_eqSpatialEntry (gd a0 (std.toN v1)) (gd a1 (std.toN v1))).bind fun y16 =>
  br (!(y16))
  (some (.inr (.inl ())))
  (some (.inl (std.add .i64 v1 1))))
  (some (.inr (.inr ())))
/-- laws.eqSpatialEntryS -/
noncomputable def F_laws_eqSpatialEntryS (a0 : List TSpatialEntry) (a1 : List TSpatialEntry) : Option (Bool) :=
  br (std.not (std.eq (std.ofN (len a0)) (std.ofN (len a1))))
  (some false)
  ((whileP (σ := Int) (ρ := (Unit) ⊕ (Unit)) (L_laws_eqSpatialEntryS_x2 a0 a1) 0).bind fun y3 =>
  (match y3 with
    | .inl y3k0 => (
        some false)
    | .inr y3m0 =>
        some true))
theorem run_laws_eqSpatialEntryS (a0 : List TSpatialEntry) (a1 : List TSpatialEntry) (r : Bool) (h : F_laws_eqSpatialEntryS a0 a1 = some r) : Fun Try.prog 101 [.c (.bs (len a0) 5 (row gd (encSpatialEntry) a0)), .c (.bs (len a1) 5 (row gd (encSpatialEntry) a1))] [] (.c (.v (.bool r))) [] true := by
  refine Fun.of_wp (oneOf []) tok mixed Try.func101 (by kernel_rfl) rfl Try.ntmps101 rfl trivial (fun _ => ⟨trivial, trivial⟩) ?_
  unfold F_laws_eqSpatialEntryS at h
  unfold L_laws_eqSpatialEntryS_x2 at h
  have hf_laws_eqSpatialEntry := @run_laws_eqSpatialEntry
  generalize hLEN : @len = LEN at *
  generalize hGD : @gd = GD at *
  generalize hA : std = A at *
  generalize hP : Try.prog = P at *
  cbv
  refine fork (fun b20 => ?_) (fun b20 => ?_)
  · replace h := of_br_t b20 h
    cbv
    injection h with h
    subst h
    refine ⟨(sparse 27 [(4, .c (.v (.bool false)))] []), ?_, ?_⟩
    · exact le_sparse rfl ⟨AV.le_refl _, trivial⟩ trivial rfl
    · exact ⟨AV.le_refl _, trivial, rfl⟩
  · replace h := of_br_f b20 h
    cbv
    replace h := of_bind h
    obtain ⟨y3, hr4, hN5⟩ := h
    refine loop_cut hr4 (fun x => (sparse 27 [(0, .c (.bs (LEN a0) 5 (row GD (encSpatialEntry) a0))), (1, .c (.bs (LEN a1) 5 (row GD (encSpatialEntry) a1))), (5, .c (.v (.int .i64 x)))] [])) ?_ (fun y e s => (match y with | .inl w => e = .ret ∧ s.le (sparse 27 [(4, .c (.v (.bool false)))] []) | .inr w0 => (fun (w : Unit) => e = .exit 0 ∧ s.le (sparse 27 [] [])) w0)) ?_ ?_
    · clear hr4 hN5
      show St.le _ _
      exact le_sparse rfl ⟨AV.le_refl _, AV.le_refl _, AV.le_refl _, trivial⟩ trivial rfl
    · clear hr4 hN5
      intro x z9 h K7 hK8 hY6
      replace h := of_let h
      obtain ⟨v1, hv1, h⟩ := h
      have hv1 : v1 = x := hv1
      subst hv1
      cbv
      refine fork (fun b19 => ?_) (fun b19 => ?_)
      · replace h := of_br_t b19 h
        cbv
        replace h := of_req h
        obtain ⟨c14, h⟩ := h
        refine ⟨⟨c14, trivial⟩, ?_⟩
        replace h := of_req h
        obtain ⟨c15, h⟩ := h
        refine ⟨⟨c15, trivial⟩, ?_⟩
        replace h := of_bind h
        obtain ⟨y16, hy17, h⟩ := h
        refine ⟨{ args := [.agg [.v (.int .i64 (GD a0 (A.toN v1)).fId), .v (.int .i64 (GD a0 (A.toN v1)).fBox.fX0), .v (.int .i64 (GD a0 (A.toN v1)).fBox.fY0), .v (.int .i64 (GD a0 (A.toN v1)).fBox.fX1), .v (.int .i64 (GD a0 (A.toN v1)).fBox.fY1)], .agg [.v (.int .i64 (GD a1 (A.toN v1)).fId), .v (.int .i64 (GD a1 (A.toN v1)).fBox.fX0), .v (.int .i64 (GD a1 (A.toN v1)).fBox.fY0), .v (.int .i64 (GD a1 (A.toN v1)).fBox.fX1), .v (.int .i64 (GD a1 (A.toN v1)).fBox.fY1)]], o0 := [], r := .c (.v (.bool y16)), o1 := [], fl := true, σ := [], τ := [] }, hf_laws_eqSpatialEntry _ _ _ hy17, ⟨les_cons (AV.le_refl _) (les_cons (AV.le_refl _) (les_nil)), trivial, rfl, rfl, rfl, rfl, trivial, rfl⟩, ?_⟩
        cbv
        refine fork (fun b18 => ?_) (fun b18 => ?_)
        · replace h := of_br_t b18 h
          cbv
          injection h with h
          refine hY6 _ h.symm _ _ (And.intro rfl ?_) (by intro hh; cases hh)
          exact le_sparse rfl ⟨AV.le_refl _, trivial⟩ trivial rfl
        · replace h := of_br_f b18 h
          cbv
          injection h with h
          refine hK8 _ h.symm _ ?_
          exact le_sparse rfl ⟨AV.le_refl _, AV.le_refl _, AV.le_refl _, trivial⟩ trivial rfl
      · replace h := of_br_f b19 h
        cbv
        injection h with h
        refine hY6 _ h.symm _ _ (And.intro rfl ?_) (by intro hh; cases hh)
        exact le_sparse rfl trivial trivial rfl
    · clear hr4
      have h := hN5
      clear hN5
      intro e12 s13 q11 hne
      rcases y3 with y3k0 | y3m0
      · replace h := h
        obtain ⟨rfl, q11⟩ := q11
        cbv
        injection h with h
        subst h
        refine ⟨(sparse 27 [(4, .c (.v (.bool false)))] []), ?_, ?_⟩
        · refine St.le_trans q11 ?_
          exact le_sparse rfl ⟨AV.le_refl _, trivial⟩ trivial rfl
        · exact ⟨AV.le_refl _, trivial, rfl⟩
      · obtain ⟨rfl, q11⟩ := q11
        cbv
        refine ⟨_, q11, ?_⟩
        cbv
        injection h with h
        subst h
        refine ⟨(sparse 27 [(4, .c (.v (.bool true)))] []), ?_, ?_⟩
        · exact le_sparse rfl ⟨AV.le_refl _, trivial⟩ trivial rfl
        · exact ⟨AV.le_refl _, trivial, rfl⟩

noncomputable def L_laws_eqInt64S_x2 (a0 : List Int) (a1 : List Int) : (Int) → Option ((Int) ⊕ ((Unit) ⊕ (Unit))) := fun x2 =>
  letO x2 fun v1 =>
  br (std.lt v1 (std.ofN (len a0)))
  (req (std.inR v1 (len a0)) <|
  req (std.inR v1 (len a1)) <|
  br (std.not (std.eq (gd a0 (std.toN v1)) (gd a1 (std.toN v1))))
  (some (.inr (.inl ())))
  (some (.inl (std.add .i64 v1 1))))
  (some (.inr (.inr ())))
/-- laws.eqInt64S -/
noncomputable def F_laws_eqInt64S (a0 : List Int) (a1 : List Int) : Option (Bool) :=
  br (std.not (std.eq (std.ofN (len a0)) (std.ofN (len a1))))
  (some false)
  ((whileP (σ := Int) (ρ := (Unit) ⊕ (Unit)) (L_laws_eqInt64S_x2 a0 a1) 0).bind fun y3 =>
  (match y3 with
    | .inl y3k0 => (
        some false)
    | .inr y3m0 =>
        some true))
theorem run_laws_eqInt64S (a0 : List Int) (a1 : List Int) (r : Bool) (h : F_laws_eqInt64S a0 a1 = some r) : Fun Try.prog 18 [.c (.bs (len a0) 1 (row gd (encI .i64) a0)), .c (.bs (len a1) 1 (row gd (encI .i64) a1))] [] (.c (.v (.bool r))) [] true := by
  refine Fun.of_wp (oneOf []) tok mixed Try.func18 (by kernel_rfl) rfl Try.ntmps18 rfl trivial (fun _ => ⟨trivial, trivial⟩) ?_
  unfold F_laws_eqInt64S at h
  unfold L_laws_eqInt64S_x2 at h
  generalize hLEN : @len = LEN at *
  generalize hGD : @gd = GD at *
  generalize hA : std = A at *
  generalize hP : Try.prog = P at *
  cbv
  refine fork (fun b18 => ?_) (fun b18 => ?_)
  · replace h := of_br_t b18 h
    cbv
    injection h with h
    subst h
    refine ⟨(sparse 26 [(4, .c (.v (.bool false)))] []), ?_, ?_⟩
    · exact le_sparse rfl ⟨AV.le_refl _, trivial⟩ trivial rfl
    · exact ⟨AV.le_refl _, trivial, rfl⟩
  · replace h := of_br_f b18 h
    cbv
    replace h := of_bind h
    obtain ⟨y3, hr4, hN5⟩ := h
    refine loop_cut hr4 (fun x => (sparse 26 [(0, .c (.bs (LEN a0) 1 (row GD (encI .i64) a0))), (1, .c (.bs (LEN a1) 1 (row GD (encI .i64) a1))), (5, .c (.v (.int .i64 x)))] [])) ?_ (fun y e s => (match y with | .inl w => e = .ret ∧ s.le (sparse 26 [(4, .c (.v (.bool false)))] []) | .inr w0 => (fun (w : Unit) => e = .exit 0 ∧ s.le (sparse 26 [] [])) w0)) ?_ ?_
    · clear hr4 hN5
      show St.le _ _
      exact le_sparse rfl ⟨AV.le_refl _, AV.le_refl _, AV.le_refl _, trivial⟩ trivial rfl
    · clear hr4 hN5
      intro x z9 h K7 hK8 hY6
      replace h := of_let h
      obtain ⟨v1, hv1, h⟩ := h
      have hv1 : v1 = x := hv1
      subst hv1
      cbv
      refine fork (fun b17 => ?_) (fun b17 => ?_)
      · replace h := of_br_t b17 h
        cbv
        replace h := of_req h
        obtain ⟨c14, h⟩ := h
        refine ⟨⟨c14, trivial⟩, ?_⟩
        replace h := of_req h
        obtain ⟨c15, h⟩ := h
        refine ⟨⟨c15, trivial⟩, ?_⟩
        refine fork (fun b16 => ?_) (fun b16 => ?_)
        · replace h := of_br_t b16 h
          cbv
          injection h with h
          refine hY6 _ h.symm _ _ (And.intro rfl ?_) (by intro hh; cases hh)
          exact le_sparse rfl ⟨AV.le_refl _, trivial⟩ trivial rfl
        · replace h := of_br_f b16 h
          cbv
          injection h with h
          refine hK8 _ h.symm _ ?_
          exact le_sparse rfl ⟨AV.le_refl _, AV.le_refl _, AV.le_refl _, trivial⟩ trivial rfl
      · replace h := of_br_f b17 h
        cbv
        injection h with h
        refine hY6 _ h.symm _ _ (And.intro rfl ?_) (by intro hh; cases hh)
        exact le_sparse rfl trivial trivial rfl
    · clear hr4
      have h := hN5
      clear hN5
      intro e12 s13 q11 hne
      rcases y3 with y3k0 | y3m0
      · replace h := h
        obtain ⟨rfl, q11⟩ := q11
        cbv
        injection h with h
        subst h
        refine ⟨(sparse 26 [(4, .c (.v (.bool false)))] []), ?_, ?_⟩
        · refine St.le_trans q11 ?_
          exact le_sparse rfl ⟨AV.le_refl _, trivial⟩ trivial rfl
        · exact ⟨AV.le_refl _, trivial, rfl⟩
      · obtain ⟨rfl, q11⟩ := q11
        cbv
        refine ⟨_, q11, ?_⟩
        cbv
        injection h with h
        subst h
        refine ⟨(sparse 26 [(4, .c (.v (.bool true)))] []), ?_, ?_⟩
        · exact le_sparse rfl ⟨AV.le_refl _, trivial⟩ trivial rfl
        · exact ⟨AV.le_refl _, trivial, rfl⟩

noncomputable def L_laws_eqInt64SS_x2 (a0 : List (List Int)) (a1 : List (List Int)) : (Int) → Option ((Int) ⊕ ((Unit) ⊕ (Unit))) := fun x2 =>
  letO x2 fun v1 =>
  br (std.lt v1 (std.ofN (len a0)))
  (req (std.inR v1 (len a0)) <|
  req (std.inR v1 (len a1)) <|
  (F_laws_eqInt64S (gd a0 (std.toN v1)) (gd a1 (std.toN v1))).bind fun y16 =>
  br (!(y16))
  (some (.inr (.inl ())))
  (some (.inl (std.add .i64 v1 1))))
  (some (.inr (.inr ())))
/-- laws.eqInt64SS -/
noncomputable def F_laws_eqInt64SS (a0 : List (List Int)) (a1 : List (List Int)) : Option (Bool) :=
  br (std.not (std.eq (std.ofN (len a0)) (std.ofN (len a1))))
  (some false)
  ((whileP (σ := Int) (ρ := (Unit) ⊕ (Unit)) (L_laws_eqInt64SS_x2 a0 a1) 0).bind fun y3 =>
  (match y3 with
    | .inl y3k0 => (
        some false)
    | .inr y3m0 =>
        some true))
theorem run_laws_eqInt64SS (a0 : List (List Int)) (a1 : List (List Int)) (r : Bool) (h : F_laws_eqInt64SS a0 a1 = some r) : Fun Try.prog 102 [.c (.bs (len a0) 1 (row gd (encL len gd 1 (encI .i64)) a0)), .c (.bs (len a1) 1 (row gd (encL len gd 1 (encI .i64)) a1))] [] (.c (.v (.bool r))) [] true := by
  refine Fun.of_wp (oneOf []) tok mixed Try.func102 (by kernel_rfl) rfl Try.ntmps102 rfl trivial (fun _ => ⟨trivial, trivial⟩) ?_
  unfold F_laws_eqInt64SS at h
  unfold L_laws_eqInt64SS_x2 at h
  have hf_laws_eqInt64S := @run_laws_eqInt64S
  generalize hLEN : @len = LEN at *
  generalize hGD : @gd = GD at *
  generalize hA : std = A at *
  generalize hP : Try.prog = P at *
  cbv
  refine fork (fun b20 => ?_) (fun b20 => ?_)
  · replace h := of_br_t b20 h
    cbv
    injection h with h
    subst h
    refine ⟨(sparse 27 [(4, .c (.v (.bool false)))] []), ?_, ?_⟩
    · exact le_sparse rfl ⟨AV.le_refl _, trivial⟩ trivial rfl
    · exact ⟨AV.le_refl _, trivial, rfl⟩
  · replace h := of_br_f b20 h
    cbv
    replace h := of_bind h
    obtain ⟨y3, hr4, hN5⟩ := h
    refine loop_cut hr4 (fun x => (sparse 27 [(0, .c (.bs (LEN a0) 1 (row GD (encL LEN GD 1 (encI .i64)) a0))), (1, .c (.bs (LEN a1) 1 (row GD (encL LEN GD 1 (encI .i64)) a1))), (5, .c (.v (.int .i64 x)))] [])) ?_ (fun y e s => (match y with | .inl w => e = .ret ∧ s.le (sparse 27 [(4, .c (.v (.bool false)))] []) | .inr w0 => (fun (w : Unit) => e = .exit 0 ∧ s.le (sparse 27 [] [])) w0)) ?_ ?_
    · clear hr4 hN5
      show St.le _ _
      exact le_sparse rfl ⟨AV.le_refl _, AV.le_refl _, AV.le_refl _, trivial⟩ trivial rfl
    · clear hr4 hN5
      intro x z9 h K7 hK8 hY6
      replace h := of_let h
      obtain ⟨v1, hv1, h⟩ := h
      have hv1 : v1 = x := hv1
      subst hv1
      cbv
      refine fork (fun b19 => ?_) (fun b19 => ?_)
      · replace h := of_br_t b19 h
        cbv
        replace h := of_req h
        obtain ⟨c14, h⟩ := h
        refine ⟨⟨c14, trivial⟩, ?_⟩
        replace h := of_req h
        obtain ⟨c15, h⟩ := h
        refine ⟨⟨c15, trivial⟩, ?_⟩
        replace h := of_bind h
        obtain ⟨y16, hy17, h⟩ := h
        refine ⟨{ args := [.c (.bs (LEN (GD a0 (A.toN v1))) 1 (row GD (encI .i64) (GD a0 (A.toN v1)))), .c (.bs (LEN (GD a1 (A.toN v1))) 1 (row GD (encI .i64) (GD a1 (A.toN v1))))], o0 := [], r := .c (.v (.bool y16)), o1 := [], fl := true, σ := [], τ := [] }, hf_laws_eqInt64S _ _ _ hy17, ⟨les_cons (AV.le_refl _) (les_cons (AV.le_refl _) (les_nil)), trivial, rfl, rfl, rfl, rfl, trivial, rfl⟩, ?_⟩
        cbv
        refine fork (fun b18 => ?_) (fun b18 => ?_)
        · replace h := of_br_t b18 h
          cbv
          injection h with h
          refine hY6 _ h.symm _ _ (And.intro rfl ?_) (by intro hh; cases hh)
          exact le_sparse rfl ⟨AV.le_refl _, trivial⟩ trivial rfl
        · replace h := of_br_f b18 h
          cbv
          injection h with h
          refine hK8 _ h.symm _ ?_
          exact le_sparse rfl ⟨AV.le_refl _, AV.le_refl _, AV.le_refl _, trivial⟩ trivial rfl
      · replace h := of_br_f b19 h
        cbv
        injection h with h
        refine hY6 _ h.symm _ _ (And.intro rfl ?_) (by intro hh; cases hh)
        exact le_sparse rfl trivial trivial rfl
    · clear hr4
      have h := hN5
      clear hN5
      intro e12 s13 q11 hne
      rcases y3 with y3k0 | y3m0
      · replace h := h
        obtain ⟨rfl, q11⟩ := q11
        cbv
        injection h with h
        subst h
        refine ⟨(sparse 27 [(4, .c (.v (.bool false)))] []), ?_, ?_⟩
        · refine St.le_trans q11 ?_
          exact le_sparse rfl ⟨AV.le_refl _, trivial⟩ trivial rfl
        · exact ⟨AV.le_refl _, trivial, rfl⟩
      · obtain ⟨rfl, q11⟩ := q11
        cbv
        refine ⟨_, q11, ?_⟩
        cbv
        injection h with h
        subst h
        refine ⟨(sparse 27 [(4, .c (.v (.bool true)))] []), ?_, ?_⟩
        · exact le_sparse rfl ⟨AV.le_refl _, trivial⟩ trivial rfl
        · exact ⟨AV.le_refl _, trivial, rfl⟩

/-- laws.eqSpatialIndex -/
noncomputable def F_laws_eqSpatialIndex (a0 : TSpatialIndex) (a1 : TSpatialIndex) : Option (Bool) :=
  (F_laws_eqSpatialEntryS a0.fEntries a1.fEntries).bind fun y1 =>
  br (!(y1))
  (some false)
  ((F_laws_eqInt64SS a0.fBuckets a1.fBuckets).bind fun y3 =>
  br (!(y3))
  (some false)
  (some true))
theorem run_laws_eqSpatialIndex (a0 : TSpatialIndex) (a1 : TSpatialIndex) (r : Bool) (h : F_laws_eqSpatialIndex a0 a1 = some r) : Fun Try.prog 38 [.agg [.bs (len a0.fEntries) 5 (row gd (encSpatialEntry) a0.fEntries), .bs (len a0.fBuckets) 1 (row gd (encL len gd 1 (encI .i64)) a0.fBuckets)], .agg [.bs (len a1.fEntries) 5 (row gd (encSpatialEntry) a1.fEntries), .bs (len a1.fBuckets) 1 (row gd (encL len gd 1 (encI .i64)) a1.fBuckets)]] [] (.c (.v (.bool r))) [] true := by
  refine Fun.of_wp (oneOf []) tok mixed Try.func38 (by kernel_rfl) rfl Try.ntmps38 rfl trivial (fun _ => ⟨trivial, trivial⟩) ?_
  unfold F_laws_eqSpatialIndex at h
  have hf_laws_eqInt64SS := @run_laws_eqInt64SS
  have hf_laws_eqSpatialEntryS := @run_laws_eqSpatialEntryS
  generalize hLEN : @len = LEN at *
  generalize hGD : @gd = GD at *
  generalize hA : std = A at *
  generalize hP : Try.prog = P at *
  cbv
  replace h := of_bind h
  obtain ⟨y1, hy2, h⟩ := h
  refine ⟨{ args := [.c (.bs (LEN a0.fEntries) 5 (row GD (encSpatialEntry) a0.fEntries)), .c (.bs (LEN a1.fEntries) 5 (row GD (encSpatialEntry) a1.fEntries))], o0 := [], r := .c (.v (.bool y1)), o1 := [], fl := true, σ := [], τ := [] }, hf_laws_eqSpatialEntryS _ _ _ hy2, ⟨les_cons (AV.le_refl _) (les_cons (AV.le_refl _) (les_nil)), trivial, rfl, rfl, rfl, rfl, trivial, rfl⟩, ?_⟩
  cbv
  refine fork (fun b6 => ?_) (fun b6 => ?_)
  · replace h := of_br_t b6 h
    cbv
    injection h with h
    subst h
    refine ⟨(sparse 17 [(4, .c (.v (.bool false)))] []), ?_, ?_⟩
    · exact le_sparse rfl ⟨AV.le_refl _, trivial⟩ trivial rfl
    · exact ⟨AV.le_refl _, trivial, rfl⟩
  · replace h := of_br_f b6 h
    cbv
    replace h := of_bind h
    obtain ⟨y3, hy4, h⟩ := h
    refine ⟨{ args := [.c (.bs (LEN a0.fBuckets) 1 (row GD (encL LEN GD 1 (encI .i64)) a0.fBuckets)), .c (.bs (LEN a1.fBuckets) 1 (row GD (encL LEN GD 1 (encI .i64)) a1.fBuckets))], o0 := [], r := .c (.v (.bool y3)), o1 := [], fl := true, σ := [], τ := [] }, hf_laws_eqInt64SS _ _ _ hy4, ⟨les_cons (AV.le_refl _) (les_cons (AV.le_refl _) (les_nil)), trivial, rfl, rfl, rfl, rfl, trivial, rfl⟩, ?_⟩
    cbv
    refine fork (fun b5 => ?_) (fun b5 => ?_)
    · replace h := of_br_t b5 h
      cbv
      injection h with h
      subst h
      refine ⟨(sparse 17 [(4, .c (.v (.bool false)))] []), ?_, ?_⟩
      · exact le_sparse rfl ⟨AV.le_refl _, trivial⟩ trivial rfl
      · exact ⟨AV.le_refl _, trivial, rfl⟩
    · replace h := of_br_f b5 h
      cbv
      injection h with h
      subst h
      refine ⟨(sparse 17 [(4, .c (.v (.bool true)))] []), ?_, ?_⟩
      · exact le_sparse rfl ⟨AV.le_refl _, trivial⟩ trivial rfl
      · exact ⟨AV.le_refl _, trivial, rfl⟩

noncomputable def L_laws_markSpatialEntryS_mob_x4 (a0 : List TSpatialEntry) : (Int × Int × (List TSpatialEntry)) → Option ((Int × Int × (List TSpatialEntry)) ⊕ ((Int × (List TSpatialEntry)))) := fun x4 =>
  letO x4.1 fun v1 =>
  letO x4.2.1 fun v2 =>
  letO x4.2.2 fun v3 =>
  br (std.lt v2 (std.ofN (len a0)))
  (req (std.inR v2 (len a0)) <|
  req (len a0 = len v3) <|
  letO (List.set v3 (std.nadd 0 (std.toN v2)) (TSpatialEntry.mk v1 (gd v3 (std.nadd 0 (std.toN v2))).fBox)) fun l17 =>
  req (std.inR v2 (len a0)) <|
  req (len a0 = len l17) <|
  letO (List.set l17 (std.nadd 0 (std.toN v2)) (TSpatialEntry.mk (gd l17 (std.nadd 0 (std.toN v2))).fId (TRect.mk (std.add .i64 v1 1) (gd l17 (std.nadd 0 (std.toN v2))).fBox.fY0 (gd l17 (std.nadd 0 (std.toN v2))).fBox.fX1 (gd l17 (std.nadd 0 (std.toN v2))).fBox.fY1))) fun l19 =>
  req (std.inR v2 (len a0)) <|
  req (len a0 = len l19) <|
  letO (List.set l19 (std.nadd 0 (std.toN v2)) (TSpatialEntry.mk (gd l19 (std.nadd 0 (std.toN v2))).fId (TRect.mk (gd l19 (std.nadd 0 (std.toN v2))).fBox.fX0 (std.add .i64 (std.add .i64 v1 1) 1) (gd l19 (std.nadd 0 (std.toN v2))).fBox.fX1 (gd l19 (std.nadd 0 (std.toN v2))).fBox.fY1))) fun l21 =>
  req (std.inR v2 (len a0)) <|
  req (len a0 = len l21) <|
  letO (List.set l21 (std.nadd 0 (std.toN v2)) (TSpatialEntry.mk (gd l21 (std.nadd 0 (std.toN v2))).fId (TRect.mk (gd l21 (std.nadd 0 (std.toN v2))).fBox.fX0 (gd l21 (std.nadd 0 (std.toN v2))).fBox.fY0 (std.add .i64 (std.add .i64 (std.add .i64 v1 1) 1) 1) (gd l21 (std.nadd 0 (std.toN v2))).fBox.fY1))) fun l23 =>
  req (std.inR v2 (len a0)) <|
  req (len a0 = len l23) <|
  letO (List.set l23 (std.nadd 0 (std.toN v2)) (TSpatialEntry.mk (gd l23 (std.nadd 0 (std.toN v2))).fId (TRect.mk (gd l23 (std.nadd 0 (std.toN v2))).fBox.fX0 (gd l23 (std.nadd 0 (std.toN v2))).fBox.fY0 (gd l23 (std.nadd 0 (std.toN v2))).fBox.fX1 (std.add .i64 (std.add .i64 (std.add .i64 (std.add .i64 v1 1) 1) 1) 1)))) fun l25 =>
  some (.inl (std.add .i64 (std.add .i64 (std.add .i64 (std.add .i64 (std.add .i64 v1 1) 1) 1) 1) 1, std.add .i64 v2 1, l25)))
  (some (.inr (v1, v3)))
/-- laws.markSpatialEntryS -/
noncomputable def F_laws_markSpatialEntryS_mob (a0 : List TSpatialEntry) (a1 : Int) : Option (Int × (List TSpatialEntry)) :=
  (whileP (σ := Int × Int × (List TSpatialEntry)) (ρ := (Int × (List TSpatialEntry))) (L_laws_markSpatialEntryS_mob_x4 a0) (a1, 0, a0)).bind fun y5 =>
  letO y5 fun y5k0 =>
  letO y5k0.1 fun w32 =>
  letO y5k0.2 fun w33 =>
  req (len a0 = len w33) <|
  some (w32, w33)
theorem run_laws_markSpatialEntryS_mob (a0 : List TSpatialEntry) (a1 : Int) (r : Int × (List TSpatialEntry)) (h : F_laws_markSpatialEntryS_mob a0 a1 = some r) : Fun Try.prog 103 [.c (.os 5 0 (len a0)), .c (.v (.int .i64 a1))] [(5, .arr .rw [] (len a0) 5 (row gd (encSpatialEntry) a0))] (.c (.v (.int .i64 r.1))) [(5, .arr .rw [] (len r.2) 5 (row gd (encSpatialEntry) r.2))] true := by
  refine Fun.of_wp (oneOf []) tok mixed Try.func103 (by kernel_rfl) rfl Try.ntmps103 rfl ⟨fun i _ j _ k hk => (noref (plain_nil (pl_encSpatialEntry _ _)) hk).elim, trivial⟩ (fun _ => ⟨trivial, ⟨fun i _ j _ => val_flat (vl_encSpatialEntry _ _), trivial⟩⟩) ?_
  unfold F_laws_markSpatialEntryS_mob at h
  unfold L_laws_markSpatialEntryS_mob_x4 at h
  generalize hLEN : @len = LEN at *
  generalize hGD : @gd = GD at *
  generalize hA : std = A at *
  generalize hP : Try.prog = P at *
  cbv
  replace h := of_bind h
  obtain ⟨y5, hr6, hN7⟩ := h
  refine loop_cut hr6 (fun x => (sparse 52 [(0, .c (.os 5 0 (LEN a0))), (1, .c (.v (.int .i64 x.1))), (5, .c (.v (.int .i64 x.2.1)))] [(5, .arr .rw [] (LEN a0) 5 (row GD (encSpatialEntry) x.2.2))])) ?_ (fun y e s => (fun (w : Int × (List TSpatialEntry)) => e = .exit 0 ∧ s.le (sparse 52 [(1, .c (.v (.int .i64 w.1)))] [(5, .arr .rw [] (LEN a0) 5 (row GD (encSpatialEntry) w.2))])) y) ?_ ?_
  · clear hr6 hN7
    show St.le _ _
    exact le_sparse rfl ⟨AV.le_refl _, AV.le_refl _, AV.le_refl _, trivial⟩ ⟨⟨fun hw => hw, fun c hc => (by cases hc), .inl rfl, rfl, rfl, fun i hi j hj => rfl⟩, trivial⟩ rfl
  · clear hr6 hN7
    intro x z11 h K9 hK10 hY8
    obtain ⟨x0_, x1_, x2_⟩ := x
    replace h := of_let h
    obtain ⟨v1, hv1, h⟩ := h
    have hv1 : v1 = x0_ := hv1
    subst hv1
    replace h := of_let h
    obtain ⟨v2, hv2, h⟩ := h
    have hv2 : v2 = x1_ := hv2
    subst hv2
    replace h := of_let h
    obtain ⟨v3, hv3, h⟩ := h
    have hv3 : v3 = x2_ := hv3
    subst hv3
    cbv
    refine fork (fun b31 => ?_) (fun b31 => ?_)
    · replace h := of_br_t b31 h
      cbv
      replace h := of_req h
      obtain ⟨c16, h⟩ := h
      refine ⟨⟨c16, trivial⟩, ?_⟩
      replace h := of_req h
      obtain ⟨c30, h⟩ := h
      replace h := of_let h
      obtain ⟨l17, hl17, h⟩ := h
      refine And.intro (by first | exact (by subst hA; exact idx_lt c16) | (refine And.intro (by subst hA; exact idx_lt c16) ?_; first | trivial | exact ⟨trivial, trivial⟩)) ?_
      refine ⟨_, rfl, _, row GD (encSpatialEntry) l17, rfl, ?_, ?_⟩
      · subst hGD hLEN hA
        rw [c30] at c16
        refine upd_set hl17 (idx_lt c16) ?_ ?_
        · intro b hb hh
          match b, hb, hh with | 0, _, hh => exact rfl | 1, _, hh => exact (absurd hh (show ¬ (0 ≤ 1 ∧ 1 < 0 + 1) from by decide)) | 2, _, hh => exact (absurd hh (show ¬ (0 ≤ 2 ∧ 2 < 0 + 1) from by decide)) | 3, _, hh => exact (absurd hh (show ¬ (0 ≤ 3 ∧ 3 < 0 + 1) from by decide)) | 4, _, hh => exact (absurd hh (show ¬ (0 ≤ 4 ∧ 4 < 0 + 1) from by decide)) | (b_ + 5), h_, _ => exact absurd h_ (by omega)
        · intro b hb hh
          match b, hb, hh with | 0, _, hh => exact (absurd (show 0 ≤ 0 ∧ 0 < 0 + 1 from by decide) hh) | 1, _, hh => exact rfl | 2, _, hh => exact rfl | 3, _, hh => exact rfl | 4, _, hh => exact rfl | (b_ + 5), h_, _ => exact absurd h_ (by omega)
      cbv
      replace h := of_req h
      obtain ⟨c18, h⟩ := h
      refine ⟨⟨c18, trivial⟩, ?_⟩
      replace h := of_req h
      obtain ⟨c29, h⟩ := h
      replace h := of_let h
      obtain ⟨l19, hl19, h⟩ := h
      refine And.intro (by first | exact (by subst hA; exact idx_lt c18) | (refine And.intro (by subst hA; exact idx_lt c18) ?_; first | trivial | exact ⟨trivial, trivial⟩)) ?_
      refine ⟨_, rfl, _, row GD (encSpatialEntry) l19, rfl, ?_, ?_⟩
      · subst hGD hLEN hA
        rw [c29] at c18
        refine upd_set hl19 (idx_lt c18) ?_ ?_
        · intro b hb hh
          match b, hb, hh with | 0, _, hh => exact (absurd hh (show ¬ (1 ≤ 0 ∧ 0 < 1 + 1) from by decide)) | 1, _, hh => exact rfl | 2, _, hh => exact (absurd hh (show ¬ (1 ≤ 2 ∧ 2 < 1 + 1) from by decide)) | 3, _, hh => exact (absurd hh (show ¬ (1 ≤ 3 ∧ 3 < 1 + 1) from by decide)) | 4, _, hh => exact (absurd hh (show ¬ (1 ≤ 4 ∧ 4 < 1 + 1) from by decide)) | (b_ + 5), h_, _ => exact absurd h_ (by omega)
        · intro b hb hh
          match b, hb, hh with | 0, _, hh => exact rfl | 1, _, hh => exact (absurd (show 1 ≤ 1 ∧ 1 < 1 + 1 from by decide) hh) | 2, _, hh => exact rfl | 3, _, hh => exact rfl | 4, _, hh => exact rfl | (b_ + 5), h_, _ => exact absurd h_ (by omega)
      cbv
      replace h := of_req h
      obtain ⟨c20, h⟩ := h
      refine ⟨⟨c20, trivial⟩, ?_⟩
      replace h := of_req h
      obtain ⟨c28, h⟩ := h
      replace h := of_let h
      obtain ⟨l21, hl21, h⟩ := h
      refine And.intro (by first | exact (by subst hA; exact idx_lt c20) | (refine And.intro (by subst hA; exact idx_lt c20) ?_; first | trivial | exact ⟨trivial, trivial⟩)) ?_
      refine ⟨_, rfl, _, row GD (encSpatialEntry) l21, rfl, ?_, ?_⟩
      · subst hGD hLEN hA
        rw [c28] at c20
        refine upd_set hl21 (idx_lt c20) ?_ ?_
        · intro b hb hh
          match b, hb, hh with | 0, _, hh => exact (absurd hh (show ¬ (2 ≤ 0 ∧ 0 < 2 + 1) from by decide)) | 1, _, hh => exact (absurd hh (show ¬ (2 ≤ 1 ∧ 1 < 2 + 1) from by decide)) | 2, _, hh => exact rfl | 3, _, hh => exact (absurd hh (show ¬ (2 ≤ 3 ∧ 3 < 2 + 1) from by decide)) | 4, _, hh => exact (absurd hh (show ¬ (2 ≤ 4 ∧ 4 < 2 + 1) from by decide)) | (b_ + 5), h_, _ => exact absurd h_ (by omega)
        · intro b hb hh
          match b, hb, hh with | 0, _, hh => exact rfl | 1, _, hh => exact rfl | 2, _, hh => exact (absurd (show 2 ≤ 2 ∧ 2 < 2 + 1 from by decide) hh) | 3, _, hh => exact rfl | 4, _, hh => exact rfl | (b_ + 5), h_, _ => exact absurd h_ (by omega)
      cbv
      replace h := of_req h
      obtain ⟨c22, h⟩ := h
      refine ⟨⟨c22, trivial⟩, ?_⟩
      replace h := of_req h
      obtain ⟨c27, h⟩ := h
      replace h := of_let h
      obtain ⟨l23, hl23, h⟩ := h
      refine And.intro (by first | exact (by subst hA; exact idx_lt c22) | (refine And.intro (by subst hA; exact idx_lt c22) ?_; first | trivial | exact ⟨trivial, trivial⟩)) ?_
      refine ⟨_, rfl, _, row GD (encSpatialEntry) l23, rfl, ?_, ?_⟩
      · subst hGD hLEN hA
        rw [c27] at c22
        refine upd_set hl23 (idx_lt c22) ?_ ?_
        · intro b hb hh
          match b, hb, hh with | 0, _, hh => exact (absurd hh (show ¬ (3 ≤ 0 ∧ 0 < 3 + 1) from by decide)) | 1, _, hh => exact (absurd hh (show ¬ (3 ≤ 1 ∧ 1 < 3 + 1) from by decide)) | 2, _, hh => exact (absurd hh (show ¬ (3 ≤ 2 ∧ 2 < 3 + 1) from by decide)) | 3, _, hh => exact rfl | 4, _, hh => exact (absurd hh (show ¬ (3 ≤ 4 ∧ 4 < 3 + 1) from by decide)) | (b_ + 5), h_, _ => exact absurd h_ (by omega)
        · intro b hb hh
          match b, hb, hh with | 0, _, hh => exact rfl | 1, _, hh => exact rfl | 2, _, hh => exact rfl | 3, _, hh => exact (absurd (show 3 ≤ 3 ∧ 3 < 3 + 1 from by decide) hh) | 4, _, hh => exact rfl | (b_ + 5), h_, _ => exact absurd h_ (by omega)
      cbv
      replace h := of_req h
      obtain ⟨c24, h⟩ := h
      refine ⟨⟨c24, trivial⟩, ?_⟩
      replace h := of_req h
      obtain ⟨c26, h⟩ := h
      replace h := of_let h
      obtain ⟨l25, hl25, h⟩ := h
      refine And.intro (by first | exact (by subst hA; exact idx_lt c24) | (refine And.intro (by subst hA; exact idx_lt c24) ?_; first | trivial | exact ⟨trivial, trivial⟩)) ?_
      refine ⟨_, rfl, _, row GD (encSpatialEntry) l25, rfl, ?_, ?_⟩
      · subst hGD hLEN hA
        rw [c26] at c24
        refine upd_set hl25 (idx_lt c24) ?_ ?_
        · intro b hb hh
          match b, hb, hh with | 0, _, hh => exact (absurd hh (show ¬ (4 ≤ 0 ∧ 0 < 4 + 1) from by decide)) | 1, _, hh => exact (absurd hh (show ¬ (4 ≤ 1 ∧ 1 < 4 + 1) from by decide)) | 2, _, hh => exact (absurd hh (show ¬ (4 ≤ 2 ∧ 2 < 4 + 1) from by decide)) | 3, _, hh => exact (absurd hh (show ¬ (4 ≤ 3 ∧ 3 < 4 + 1) from by decide)) | 4, _, hh => exact rfl | (b_ + 5), h_, _ => exact absurd h_ (by omega)
        · intro b hb hh
          match b, hb, hh with | 0, _, hh => exact rfl | 1, _, hh => exact rfl | 2, _, hh => exact rfl | 3, _, hh => exact rfl | 4, _, hh => exact (absurd (show 4 ≤ 4 ∧ 4 < 4 + 1 from by decide) hh) | (b_ + 5), h_, _ => exact absurd h_ (by omega)
      cbv
      injection h with h
      refine hK10 _ h.symm _ ?_
      exact le_sparse rfl ⟨AV.le_refl _, AV.le_refl _, AV.le_refl _, trivial⟩ ⟨⟨fun hw => hw, fun c hc => (by cases hc), .inl rfl, rfl, rfl, fun i hi j hj => rfl⟩, trivial⟩ rfl
    · replace h := of_br_f b31 h
      cbv
      injection h with h
      refine hY8 _ h.symm _ _ (And.intro rfl ?_) (by intro hh; cases hh)
      exact le_sparse rfl ⟨AV.le_refl _, trivial⟩ ⟨⟨fun hw => hw, fun c hc => (by cases hc), .inl rfl, rfl, rfl, fun i hi j hj => rfl⟩, trivial⟩ rfl
  · clear hr6
    have h := hN7
    clear hN7
    intro e14 s15 q13 hne
    replace h := of_let h
    obtain ⟨y5k0, hyk, h⟩ := h
    have hyk : y5k0 = y5 := hyk
    subst hyk
    obtain ⟨rfl, q13⟩ := q13
    obtain ⟨y5k0_0, y5k0_1⟩ := y5k0
    replace h := of_let h
    obtain ⟨w32, hw32, h⟩ := h
    have hw32 : w32 = y5k0_0 := hw32
    subst hw32
    replace h := of_let h
    obtain ⟨w33, hw33, h⟩ := h
    have hw33 : w33 = y5k0_1 := hw33
    subst hw33
    cbv
    refine ⟨_, q13, ?_⟩
    cbv
    replace h := of_req h
    obtain ⟨c34, h⟩ := h
    injection h with h
    subst h
    refine ⟨(sparse 52 [(4, .c (.v (.int .i64 w32)))] [(5, .arr .rw [] (LEN w33) 5 (row GD (encSpatialEntry) w33))]), ?_, ?_⟩
    · rw [c34]
      exact le_sparse rfl ⟨AV.le_refl _, trivial⟩ ⟨⟨fun hw => hw, fun c hc => (by cases hc), .inl rfl, rfl, rfl, fun i hi j hj => rfl⟩, trivial⟩ rfl
    · exact ⟨AV.le_refl _, ⟨⟨fun hw => hw, fun c hc => (by cases hc), .inl rfl, rfl, rfl, fun i hi j hj => rfl⟩, trivial⟩, rfl⟩
noncomputable def L_laws_markInt64S_mob_x4 (a0 : List Int) : (Int × Int × (List Int)) → Option ((Int × Int × (List Int)) ⊕ ((Int × (List Int)))) := fun x4 =>
  letO x4.1 fun v1 =>
  letO x4.2.1 fun v2 =>
  letO x4.2.2 fun v3 =>
  br (std.lt v2 (std.ofN (len a0)))
  (req (std.inR v2 (len a0)) <|
  req (len a0 = len v3) <|
  letO (List.set v3 (std.nadd 0 (std.toN v2)) v1) fun l17 =>
  some (.inl (std.add .i64 v1 1, std.add .i64 v2 1, l17)))
  (some (.inr (v1, v3)))
/-- laws.markInt64S -/
noncomputable def F_laws_markInt64S_mob (a0 : List Int) (a1 : Int) : Option (Int × (List Int)) :=
  (whileP (σ := Int × Int × (List Int)) (ρ := (Int × (List Int))) (L_laws_markInt64S_mob_x4 a0) (a1, 0, a0)).bind fun y5 =>
  letO y5 fun y5k0 =>
  letO y5k0.1 fun w20 =>
  letO y5k0.2 fun w21 =>
  req (len a0 = len w21) <|
  some (w20, w21)
theorem run_laws_markInt64S_mob (a0 : List Int) (a1 : Int) (r : Int × (List Int)) (h : F_laws_markInt64S_mob a0 a1 = some r) : Fun Try.prog 20 [.c (.os 5 0 (len a0)), .c (.v (.int .i64 a1))] [(5, .arr .rw [] (len a0) 1 (row gd (encI .i64) a0))] (.c (.v (.int .i64 r.1))) [(5, .arr .rw [] (len r.2) 1 (row gd (encI .i64) r.2))] true := by
  refine Fun.of_wp (oneOf []) tok mixed Try.func20 (by kernel_rfl) rfl Try.ntmps20 rfl ⟨fun i _ j _ k hk => (noref (plain_nil (rfl)) hk).elim, trivial⟩ (fun _ => ⟨trivial, ⟨fun i _ j _ => val_flat (rfl), trivial⟩⟩) ?_
  unfold F_laws_markInt64S_mob at h
  unfold L_laws_markInt64S_mob_x4 at h
  generalize hLEN : @len = LEN at *
  generalize hGD : @gd = GD at *
  generalize hA : std = A at *
  generalize hP : Try.prog = P at *
  cbv
  replace h := of_bind h
  obtain ⟨y5, hr6, hN7⟩ := h
  refine loop_cut hr6 (fun x => (sparse 19 [(0, .c (.os 5 0 (LEN a0))), (1, .c (.v (.int .i64 x.1))), (5, .c (.v (.int .i64 x.2.1)))] [(5, .arr .rw [] (LEN a0) 1 (row GD (encI .i64) x.2.2))])) ?_ (fun y e s => (fun (w : Int × (List Int)) => e = .exit 0 ∧ s.le (sparse 19 [(1, .c (.v (.int .i64 w.1)))] [(5, .arr .rw [] (LEN a0) 1 (row GD (encI .i64) w.2))])) y) ?_ ?_
  · clear hr6 hN7
    show St.le _ _
    exact le_sparse rfl ⟨AV.le_refl _, AV.le_refl _, AV.le_refl _, trivial⟩ ⟨⟨fun hw => hw, fun c hc => (by cases hc), .inl rfl, rfl, rfl, fun i hi j hj => rfl⟩, trivial⟩ rfl
  · clear hr6 hN7
    intro x z11 h K9 hK10 hY8
    obtain ⟨x0_, x1_, x2_⟩ := x
    replace h := of_let h
    obtain ⟨v1, hv1, h⟩ := h
    have hv1 : v1 = x0_ := hv1
    subst hv1
    replace h := of_let h
    obtain ⟨v2, hv2, h⟩ := h
    have hv2 : v2 = x1_ := hv2
    subst hv2
    replace h := of_let h
    obtain ⟨v3, hv3, h⟩ := h
    have hv3 : v3 = x2_ := hv3
    subst hv3
    cbv
    refine fork (fun b19 => ?_) (fun b19 => ?_)
    · replace h := of_br_t b19 h
      cbv
      replace h := of_req h
      obtain ⟨c16, h⟩ := h
      refine ⟨⟨c16, trivial⟩, ?_⟩
      replace h := of_req h
      obtain ⟨c18, h⟩ := h
      replace h := of_let h
      obtain ⟨l17, hl17, h⟩ := h
      refine And.intro (by first | exact (by subst hA; exact idx_lt c16) | (refine And.intro (by subst hA; exact idx_lt c16) ?_; first | trivial | exact ⟨trivial, trivial⟩)) ?_
      refine ⟨_, rfl, _, row GD (encI .i64) l17, rfl, ?_, ?_⟩
      · subst hGD hLEN hA
        rw [c18] at c16
        refine upd_set hl17 (idx_lt c16) ?_ ?_
        · intro b hb hh
          match b, hb, hh with | 0, _, hh => exact rfl | (b_ + 1), h_, _ => exact absurd h_ (by omega)
        · intro b hb hh
          match b, hb, hh with | 0, _, hh => exact (absurd (show 0 ≤ 0 ∧ 0 < 0 + 1 from by decide) hh) | (b_ + 1), h_, _ => exact absurd h_ (by omega)
      cbv
      injection h with h
      refine hK10 _ h.symm _ ?_
      exact le_sparse rfl ⟨AV.le_refl _, AV.le_refl _, AV.le_refl _, trivial⟩ ⟨⟨fun hw => hw, fun c hc => (by cases hc), .inl rfl, rfl, rfl, fun i hi j hj => rfl⟩, trivial⟩ rfl
    · replace h := of_br_f b19 h
      cbv
      injection h with h
      refine hY8 _ h.symm _ _ (And.intro rfl ?_) (by intro hh; cases hh)
      exact le_sparse rfl ⟨AV.le_refl _, trivial⟩ ⟨⟨fun hw => hw, fun c hc => (by cases hc), .inl rfl, rfl, rfl, fun i hi j hj => rfl⟩, trivial⟩ rfl
  · clear hr6
    have h := hN7
    clear hN7
    intro e14 s15 q13 hne
    replace h := of_let h
    obtain ⟨y5k0, hyk, h⟩ := h
    have hyk : y5k0 = y5 := hyk
    subst hyk
    obtain ⟨rfl, q13⟩ := q13
    obtain ⟨y5k0_0, y5k0_1⟩ := y5k0
    replace h := of_let h
    obtain ⟨w20, hw20, h⟩ := h
    have hw20 : w20 = y5k0_0 := hw20
    subst hw20
    replace h := of_let h
    obtain ⟨w21, hw21, h⟩ := h
    have hw21 : w21 = y5k0_1 := hw21
    subst hw21
    cbv
    refine ⟨_, q13, ?_⟩
    cbv
    replace h := of_req h
    obtain ⟨c22, h⟩ := h
    injection h with h
    subst h
    refine ⟨(sparse 19 [(4, .c (.v (.int .i64 w20)))] [(5, .arr .rw [] (LEN w21) 1 (row GD (encI .i64) w21))]), ?_, ?_⟩
    · rw [c22]
      exact le_sparse rfl ⟨AV.le_refl _, trivial⟩ ⟨⟨fun hw => hw, fun c hc => (by cases hc), .inl rfl, rfl, rfl, fun i hi j hj => rfl⟩, trivial⟩ rfl
    · exact ⟨AV.le_refl _, ⟨⟨fun hw => hw, fun c hc => (by cases hc), .inl rfl, rfl, rfl, fun i hi j hj => rfl⟩, trivial⟩, rfl⟩

noncomputable def L_laws_markInt64SS_mob_x4 (a0 : List (List Int)) : (Int × Int × (List (List Int))) → Option ((Int × Int × (List (List Int))) ⊕ ((Int × (List (List Int))))) := fun x4 =>
  letO x4.1 fun v1 =>
  letO x4.2.1 fun v2 =>
  letO x4.2.2 fun v3 =>
  br (std.lt v2 (std.ofN (len a0)))
  (((
        req (std.inR v2 (len a0)) <|
        (F_laws_markInt64S_mob (gd v3 (std.nadd 0 (std.toN v2))) v1).bind fun y25 =>
        req (len y25.2 = len (gd v3 (std.nadd 0 (std.toN v2)))) <|
        req (len a0 = len v3) <|
        letO (List.set v3 (std.nadd 0 (std.toN v2)) y25.2) fun l27 =>
        some (y25.1, l27)
    ) : Option (Int × (List (List Int)))).bind fun y16 =>
  letO y16.1 fun w22 =>
  letO y16.2 fun w23 =>
  some (.inl (w22, std.add .i64 v2 1, w23)))
  (some (.inr (v1, v3)))
/-- laws.markInt64SS -/
noncomputable def F_laws_markInt64SS_mob (a0 : List (List Int)) (a1 : Int) : Option (Int × (List (List Int))) :=
  (whileP (σ := Int × Int × (List (List Int))) (ρ := (Int × (List (List Int)))) (L_laws_markInt64SS_mob_x4 a0) (a1, 0, a0)).bind fun y5 =>
  letO y5 fun y5k0 =>
  letO y5k0.1 fun w31 =>
  letO y5k0.2 fun w32 =>
  req (len a0 = len w32) <|
  some (w31, w32)
theorem run_laws_markInt64SS_mob (a0 : List (List Int)) (a1 : Int) (r : Int × (List (List Int))) (h : F_laws_markInt64SS_mob a0 a1 = some r) : Fun Try.prog 104 [.c (.os 5 0 (len a0)), .c (.v (.int .i64 a1))] [(5, .arr .rw [] (len a0) 1 (row gd (oncL len gd 1 (encI .i64)) a0))] (.c (.v (.int .i64 r.1))) [(5, .arr .rw [] (len r.2) 1 (row gd (oncL len gd 1 (encI .i64)) r.2))] true := by
  refine Fun.of_wp (oneOf [4]) tok mixed Try.func104 (by kernel_rfl) rfl Try.ntmps104 rfl ⟨fun i _ j _ k hk => (noref (rfl) hk).elim, trivial⟩ (fun _ => ⟨trivial, ⟨fun i _ j _ => fl_oncL (fun _ _ => rfl) _ _, trivial⟩⟩) ?_
  unfold F_laws_markInt64SS_mob at h
  unfold L_laws_markInt64SS_mob_x4 at h
  have hf_laws_markInt64S_mob := @run_laws_markInt64S_mob
  generalize hLEN : @len = LEN at *
  generalize hGD : @gd = GD at *
  generalize hA : std = A at *
  generalize hP : Try.prog = P at *
  cbv
  replace h := of_bind h
  obtain ⟨y5, hr6, hN7⟩ := h
  refine loop_cut hr6 (fun x => (sparse 19 [(0, .c (.os 5 0 (LEN a0))), (1, .c (.v (.int .i64 x.1))), (5, .c (.v (.int .i64 x.2.1)))] [(5, .arr .rw [] (LEN a0) 1 (row GD (oncL LEN GD 1 (encI .i64)) x.2.2))])) ?_ (fun y e s => (fun (w : Int × (List (List Int))) => e = .exit 0 ∧ s.le (sparse 19 [(1, .c (.v (.int .i64 w.1)))] [(5, .arr .rw [] (LEN a0) 1 (row GD (oncL LEN GD 1 (encI .i64)) w.2))])) y) ?_ ?_
  · clear hr6 hN7
    show St.le _ _
    exact le_sparse rfl ⟨AV.le_refl _, AV.le_refl _, AV.le_refl _, trivial⟩ ⟨⟨fun hw => hw, fun c hc => (by cases hc), .inl rfl, rfl, rfl, fun i hi j hj => rfl⟩, trivial⟩ rfl
  · clear hr6 hN7
    intro x z11 h K9 hK10 hY8
    obtain ⟨x0_, x1_, x2_⟩ := x
    replace h := of_let h
    obtain ⟨v1, hv1, h⟩ := h
    have hv1 : v1 = x0_ := hv1
    subst hv1
    replace h := of_let h
    obtain ⟨v2, hv2, h⟩ := h
    have hv2 : v2 = x1_ := hv2
    subst hv2
    replace h := of_let h
    obtain ⟨v3, hv3, h⟩ := h
    have hv3 : v3 = x2_ := hv3
    subst hv3
    cbv
    refine fork (fun b30 => ?_) (fun b30 => ?_)
    · replace h := of_br_t b30 h
      cbv
      replace h := of_bind h
      obtain ⟨y16, hy17, h⟩ := h
      obtain ⟨S20, hS21⟩ : ∃ S, S = (sparse 19 [(0, .c (.os 5 0 (LEN a0))), (1, .c (.v (.int .i64 y16.1))), (5, .c (.v (.int .i64 v2)))] [(5, .arr .rw [] (LEN a0) 1 (row GD (oncL LEN GD 1 (encI .i64)) y16.2))]) := ⟨_, rfl⟩
      refine ⟨S20, ?_, ?_⟩
      · clear h
        have h := hy17
        clear hy17
        cbv
        replace h := of_req h
        obtain ⟨c24, h⟩ := h
        refine ⟨⟨c24, trivial⟩, ?_⟩
        refine And.intro (by first | exact (by subst hA; exact idx_lt c24) | (refine And.intro (by subst hA; exact idx_lt c24) ?_; first | trivial | exact ⟨trivial, trivial⟩)) ?_
        refine ⟨_, rfl, _, (patchC (row GD (oncL LEN GD 1 (encI .i64)) v3) (A.nadd 0 (A.toN v2)) [.os 962 0 (LEN (GD v3 (A.nadd 0 (A.toN v2))))]), rfl, ?_, ?_⟩
        · refine patch_of ?_
          intro j hj
          match j, hj with | 0, _ => (rfl) | (j_ + 1), h_ => exact absurd h_ (by omega)
        refine ⟨_, row GD (encI .i64) (GD v3 (A.nadd 0 (A.toN v2))), rfl, ?_, ?_⟩
        · exact fun i _ j _ => plain_cp (rfl)
        cbv
        replace h := of_bind h
        obtain ⟨y25, hy26, h⟩ := h
        replace h := of_req h
        obtain ⟨c29, h⟩ := h
        refine ⟨{ args := [.c (.os 5 0 (LEN (GD v3 (A.nadd 0 (A.toN v2))))), .c (.v (.int .i64 v1))], o0 := [(5, .arr .rw [] (LEN (GD v3 (A.nadd 0 (A.toN v2)))) 1 (row GD (encI .i64) (GD v3 (A.nadd 0 (A.toN v2)))))], r := .c (.v (.int .i64 y25.1)), o1 := [(5, .arr .rw [] (LEN y25.2) 1 (row GD (encI .i64) y25.2))], fl := true, σ := [(5, 962)], τ := [(5, 962)] }, hf_laws_markInt64S_mob _ _ _ hy26, ⟨les_cons (AV.le_refl _) (les_cons (AV.le_refl _) (les_nil)), ⟨⟨fun hw => hw, fun c hc => (by cases hc), .inl rfl, rfl, rfl, fun i hi j hj => rfl⟩, trivial⟩, rfl, rfl, rfl, rfl, ⟨fun _ => ⟨c29.symm, rfl, fun c h => h⟩, trivial⟩, rfl⟩, _, rfl, LEN (GD v3 (A.nadd 0 (A.toN v2))), _, c29, fun _ _ _ _ => rfl, ?_⟩
        cbv
        replace h := of_req h
        obtain ⟨c28, h⟩ := h
        replace h := of_let h
        obtain ⟨l27, hl27, h⟩ := h
        injection h with h
        subst h
        subst hS21
        show St.le _ _
        refine St.le_trans (le_foldP 5 0 962 rfl rfl rfl (by decide) (by subst hA; exact idx_lt c24) (by decide) rfl (fun _ _ => rfl)) ?_
        exact le_sparse rfl ⟨AV.le_refl _, AV.le_refl _, AV.le_refl _, trivial⟩ ⟨⟨fun hw => hw, fun c hc => (by cases hc), .inr (fun i _ j _ z hz => (noref (rfl) hz).elim), rfl, rfl, (by subst hGD hLEN hA; exact patch_set hl27 (idx_lt (by rw [← c28]; exact c24)) (by intro j hj; match j, hj with | 0, _ => exact (by first | rfl | exact congrArg (fun n => AC.ow n _ _) (Eq.symm (by assumption))) | (j_ + 1), h_ => exact absurd h_ (by omega)))⟩, trivial⟩ rfl
      · clear hy17
        subst hS21
        obtain ⟨y16_0, y16_1⟩ := y16
        replace h := of_let h
        obtain ⟨w22, hw22, h⟩ := h
        have hw22 : w22 = y16_0 := hw22
        subst hw22
        replace h := of_let h
        obtain ⟨w23, hw23, h⟩ := h
        have hw23 : w23 = y16_1 := hw23
        subst hw23
        cbv
        injection h with h
        refine hK10 _ h.symm _ ?_
        exact le_sparse rfl ⟨AV.le_refl _, AV.le_refl _, AV.le_refl _, trivial⟩ ⟨⟨fun hw => hw, fun c hc => (by cases hc), .inl rfl, rfl, rfl, fun i hi j hj => rfl⟩, trivial⟩ rfl
    · replace h := of_br_f b30 h
      cbv
      injection h with h
      refine hY8 _ h.symm _ _ (And.intro rfl ?_) (by intro hh; cases hh)
      exact le_sparse rfl ⟨AV.le_refl _, trivial⟩ ⟨⟨fun hw => hw, fun c hc => (by cases hc), .inl rfl, rfl, rfl, fun i hi j hj => rfl⟩, trivial⟩ rfl
  · clear hr6
    have h := hN7
    clear hN7
    intro e14 s15 q13 hne
    replace h := of_let h
    obtain ⟨y5k0, hyk, h⟩ := h
    have hyk : y5k0 = y5 := hyk
    subst hyk
    obtain ⟨rfl, q13⟩ := q13
    obtain ⟨y5k0_0, y5k0_1⟩ := y5k0
    replace h := of_let h
    obtain ⟨w31, hw31, h⟩ := h
    have hw31 : w31 = y5k0_0 := hw31
    subst hw31
    replace h := of_let h
    obtain ⟨w32, hw32, h⟩ := h
    have hw32 : w32 = y5k0_1 := hw32
    subst hw32
    cbv
    refine ⟨_, q13, ?_⟩
    cbv
    replace h := of_req h
    obtain ⟨c33, h⟩ := h
    injection h with h
    subst h
    refine ⟨(sparse 19 [(4, .c (.v (.int .i64 w31)))] [(5, .arr .rw [] (LEN w32) 1 (row GD (oncL LEN GD 1 (encI .i64)) w32))]), ?_, ?_⟩
    · rw [c33]
      exact le_sparse rfl ⟨AV.le_refl _, trivial⟩ ⟨⟨fun hw => hw, fun c hc => (by cases hc), .inl rfl, rfl, rfl, fun i hi j hj => rfl⟩, trivial⟩ rfl
    · exact ⟨AV.le_refl _, ⟨⟨fun hw => hw, fun c hc => (by cases hc), .inl rfl, rfl, rfl, fun i hi j hj => rfl⟩, trivial⟩, rfl⟩

/-- laws.markSpatialIndex -/
noncomputable def F_laws_markSpatialIndex_moob (a0 : TSpatialIndex) (a1 : Int) : Option (Int × (List TSpatialEntry) × (List (List Int))) :=
  (F_laws_markSpatialEntryS_mob a0.fEntries a1).bind fun y1 =>
  req (len y1.2 = len a0.fEntries) <|
  (F_laws_markInt64SS_mob a0.fBuckets y1.1).bind fun y3 =>
  req (len y3.2 = len a0.fBuckets) <|
  req (len a0.fEntries = len y1.2) <|
  req (len a0.fBuckets = len y3.2) <|
  some (y3.1, y1.2, y3.2)
theorem run_laws_markSpatialIndex_moob (a0 : TSpatialIndex) (a1 : Int) (r : Int × (List TSpatialEntry) × (List (List Int))) (h : F_laws_markSpatialIndex_moob a0 a1 = some r) : Fun Try.prog 39 [.agg [.os 5 0 (len a0.fEntries), .os 7 0 (len a0.fBuckets)], .c (.v (.int .i64 a1))] [(5, .arr .rw [] (len a0.fEntries) 5 (row gd (encSpatialEntry) a0.fEntries)), (7, .arr .rw [] (len a0.fBuckets) 1 (row gd (oncL len gd 1 (encI .i64)) a0.fBuckets))] (.c (.v (.int .i64 r.1))) [(5, .arr .rw [] (len r.2.1) 5 (row gd (encSpatialEntry) r.2.1)), (7, .arr .rw [] (len r.2.2) 1 (row gd (oncL len gd 1 (encI .i64)) r.2.2))] true := by
  refine Fun.of_wp (oneOf []) tok mixed Try.func39 (by kernel_rfl) rfl Try.ntmps39 rfl ⟨fun i _ j _ k hk => (noref (plain_nil (pl_encSpatialEntry _ _)) hk).elim, fun i _ j _ k hk => (noref (rfl) hk).elim, trivial⟩ (fun _ => ⟨trivial, ⟨fun i _ j _ => val_flat (vl_encSpatialEntry _ _), fun i _ j _ => fl_oncL (fun _ _ => rfl) _ _, trivial⟩⟩) ?_
  unfold F_laws_markSpatialIndex_moob at h
  have hf_laws_markInt64SS_mob := @run_laws_markInt64SS_mob
  have hf_laws_markSpatialEntryS_mob := @run_laws_markSpatialEntryS_mob
  generalize hLEN : @len = LEN at *
  generalize hGD : @gd = GD at *
  generalize hA : std = A at *
  generalize hP : Try.prog = P at *
  cbv
  replace h := of_bind h
  obtain ⟨y1, hy2, h⟩ := h
  replace h := of_req h
  obtain ⟨c8, h⟩ := h
  refine ⟨{ args := [.c (.os 5 0 (LEN a0.fEntries)), .c (.v (.int .i64 a1))], o0 := [(5, .arr .rw [] (LEN a0.fEntries) 5 (row GD (encSpatialEntry) a0.fEntries))], r := .c (.v (.int .i64 y1.1)), o1 := [(5, .arr .rw [] (LEN y1.2) 5 (row GD (encSpatialEntry) y1.2))], fl := true, σ := [(5, 5)], τ := [(5, 5)] }, hf_laws_markSpatialEntryS_mob _ _ _ hy2, ⟨les_cons (AV.le_refl _) (les_cons (AV.le_refl _) (les_nil)), ⟨⟨fun hw => hw, fun c hc => (by cases hc), .inl rfl, rfl, rfl, fun i hi j hj => rfl⟩, trivial⟩, rfl, rfl, rfl, rfl, ⟨fun _ => ⟨c8.symm, rfl, fun c h => h⟩, trivial⟩, rfl⟩, _, rfl, LEN a0.fEntries, _, c8, fun _ _ _ _ => rfl, ?_⟩
  cbv
  replace h := of_bind h
  obtain ⟨y3, hy4, h⟩ := h
  replace h := of_req h
  obtain ⟨c7, h⟩ := h
  refine ⟨{ args := [.c (.os 5 0 (LEN a0.fBuckets)), .c (.v (.int .i64 y1.1))], o0 := [(5, .arr .rw [] (LEN a0.fBuckets) 1 (row GD (oncL LEN GD 1 (encI .i64)) a0.fBuckets))], r := .c (.v (.int .i64 y3.1)), o1 := [(5, .arr .rw [] (LEN y3.2) 1 (row GD (oncL LEN GD 1 (encI .i64)) y3.2))], fl := true, σ := [(5, 7)], τ := [(5, 7)] }, hf_laws_markInt64SS_mob _ _ _ hy4, ⟨les_cons (AV.le_refl _) (les_cons (AV.le_refl _) (les_nil)), ⟨⟨fun hw => hw, fun c hc => (by cases hc), .inl rfl, rfl, rfl, fun i hi j hj => rfl⟩, trivial⟩, rfl, rfl, rfl, rfl, ⟨fun _ => ⟨c7.symm, rfl, fun c h => h⟩, trivial⟩, rfl⟩, _, rfl, LEN a0.fBuckets, _, c7, fun _ _ _ _ => rfl, ?_⟩
  cbv
  replace h := of_req h
  obtain ⟨c5, h⟩ := h
  replace h := of_req h
  obtain ⟨c6, h⟩ := h
  injection h with h
  subst h
  refine ⟨(sparse 14 [(4, .c (.v (.int .i64 y3.1)))] [(5, .arr .rw [] (LEN y1.2) 5 (row GD (encSpatialEntry) y1.2)), (7, .arr .rw [] (LEN y3.2) 1 (row GD (oncL LEN GD 1 (encI .i64)) y3.2))]), ?_, ?_⟩
  · rw [c5]
    rw [c6]
    exact le_sparse rfl ⟨AV.le_refl _, trivial⟩ ⟨⟨fun hw => hw, fun c hc => (by cases hc), .inl rfl, rfl, rfl, fun i hi j hj => rfl⟩, ⟨fun hw => hw, fun c hc => (by cases hc), .inl rfl, rfl, rfl, fun i hi j hj => rfl⟩, trivial⟩ rfl
  · exact ⟨AV.le_refl _, ⟨⟨fun hw => hw, fun c hc => (by cases hc), .inl rfl, rfl, rfl, fun i hi j hj => rfl⟩, ⟨fun hw => hw, fun c hc => (by cases hc), .inl rfl, rfl, rfl, fun i hi j hj => rfl⟩, trivial⟩, rfl⟩

noncomputable def L_laws_heldSpatialEntryS_x3 (a0 : List TSpatialEntry) : (Int × Int) → Option ((Int × Int) ⊕ ((Int) ⊕ (Int))) := fun x3 =>
  letO x3.1 fun v1 =>
  letO x3.2 fun v2 =>
  br (std.lt v2 (std.ofN (len a0)))
  (req (std.inR v2 (len a0)) <|
  br (std.not (std.eq (gd a0 (std.toN v2)).fId v1))
  (some (.inr (.inl (-1))))
  (req (std.inR v2 (len a0)) <|
  br (std.not (std.eq (gd a0 (std.toN v2)).fBox.fX0 (std.add .i64 v1 1)))
  (some (.inr (.inl (-1))))
  (req (std.inR v2 (len a0)) <|
  br (std.not (std.eq (gd a0 (std.toN v2)).fBox.fY0 (std.add .i64 (std.add .i64 v1 1) 1)))
  (some (.inr (.inl (-1))))
  (req (std.inR v2 (len a0)) <|
  br (std.not (std.eq (gd a0 (std.toN v2)).fBox.fX1 (std.add .i64 (std.add .i64 (std.add .i64 v1 1) 1) 1)))
  (some (.inr (.inl (-1))))
  (req (std.inR v2 (len a0)) <|
  br (std.not (std.eq (gd a0 (std.toN v2)).fBox.fY1 (std.add .i64 (std.add .i64 (std.add .i64 (std.add .i64 v1 1) 1) 1) 1)))
  (some (.inr (.inl (-1))))
  (some (.inl (std.add .i64 (std.add .i64 (std.add .i64 (std.add .i64 (std.add .i64 v1 1) 1) 1) 1) 1, std.add .i64 v2 1))))))))
  (some (.inr (.inr v1)))
/-- laws.heldSpatialEntryS -/
noncomputable def F_laws_heldSpatialEntryS (a0 : List TSpatialEntry) (a1 : Int) : Option (Int) :=
  (whileP (σ := Int × Int) (ρ := (Int) ⊕ (Int)) (L_laws_heldSpatialEntryS_x3 a0) (a1, 0)).bind fun y4 =>
  (match y4 with
    | .inl y4k0 => (
        letO y4k0 fun w26 =>
        some w26)
    | .inr y4m0 =>
        letO y4m0 fun y4k1 =>
        letO y4k1 fun w27 =>
        some w27)
theorem run_laws_heldSpatialEntryS (a0 : List TSpatialEntry) (a1 : Int) (r : Int) (h : F_laws_heldSpatialEntryS a0 a1 = some r) : Fun Try.prog 105 [.c (.bs (len a0) 5 (row gd (encSpatialEntry) a0)), .c (.v (.int .i64 a1))] [] (.c (.v (.int .i64 r))) [] true := by
  refine Fun.of_wp (oneOf []) tok mixed Try.func105 (by kernel_rfl) rfl Try.ntmps105 rfl trivial (fun _ => ⟨trivial, trivial⟩) ?_
  unfold F_laws_heldSpatialEntryS at h
  unfold L_laws_heldSpatialEntryS_x3 at h
  generalize hLEN : @len = LEN at *
  generalize hGD : @gd = GD at *
  generalize hA : std = A at *
  generalize hP : Try.prog = P at *
  cbv
  replace h := of_bind h
  obtain ⟨y4, hr5, hN6⟩ := h
  refine loop_cut hr5 (fun x => (sparse 62 [(0, .c (.bs (LEN a0) 5 (row GD (encSpatialEntry) a0))), (1, .c (.v (.int .i64 x.1))), (5, .c (.v (.int .i64 x.2)))] [])) ?_ (fun y e s => (match y with | .inl w => e = .ret ∧ s.le (sparse 62 [(4, .c (.v (.int .i64 w)))] []) | .inr w0 => (fun (w : Int) => e = .exit 0 ∧ s.le (sparse 62 [(1, .c (.v (.int .i64 w)))] [])) w0)) ?_ ?_
  · clear hr5 hN6
    show St.le _ _
    exact le_sparse rfl ⟨AV.le_refl _, AV.le_refl _, AV.le_refl _, trivial⟩ trivial rfl
  · clear hr5 hN6
    intro x z10 h K8 hK9 hY7
    obtain ⟨x0_, x1_⟩ := x
    replace h := of_let h
    obtain ⟨v1, hv1, h⟩ := h
    have hv1 : v1 = x0_ := hv1
    subst hv1
    replace h := of_let h
    obtain ⟨v2, hv2, h⟩ := h
    have hv2 : v2 = x1_ := hv2
    subst hv2
    cbv
    refine fork (fun b25 => ?_) (fun b25 => ?_)
    · replace h := of_br_t b25 h
      cbv
      replace h := of_req h
      obtain ⟨c15, h⟩ := h
      refine ⟨⟨c15, trivial⟩, ?_⟩
      refine fork (fun b24 => ?_) (fun b24 => ?_)
      · replace h := of_br_t b24 h
        cbv
        injection h with h
        refine hY7 _ h.symm _ _ (And.intro rfl ?_) (by intro hh; cases hh)
        exact le_sparse rfl ⟨AV.le_refl _, trivial⟩ trivial rfl
      · replace h := of_br_f b24 h
        cbv
        replace h := of_req h
        obtain ⟨c16, h⟩ := h
        refine ⟨⟨c16, trivial⟩, ?_⟩
        refine fork (fun b23 => ?_) (fun b23 => ?_)
        · replace h := of_br_t b23 h
          cbv
          injection h with h
          refine hY7 _ h.symm _ _ (And.intro rfl ?_) (by intro hh; cases hh)
          exact le_sparse rfl ⟨AV.le_refl _, trivial⟩ trivial rfl
        · replace h := of_br_f b23 h
          cbv
          replace h := of_req h
          obtain ⟨c17, h⟩ := h
          refine ⟨⟨c17, trivial⟩, ?_⟩
          refine fork (fun b22 => ?_) (fun b22 => ?_)
          · replace h := of_br_t b22 h
            cbv
            injection h with h
            refine hY7 _ h.symm _ _ (And.intro rfl ?_) (by intro hh; cases hh)
            exact le_sparse rfl ⟨AV.le_refl _, trivial⟩ trivial rfl
          · replace h := of_br_f b22 h
            cbv
            replace h := of_req h
            obtain ⟨c18, h⟩ := h
            refine ⟨⟨c18, trivial⟩, ?_⟩
            refine fork (fun b21 => ?_) (fun b21 => ?_)
            · replace h := of_br_t b21 h
              cbv
              injection h with h
              refine hY7 _ h.symm _ _ (And.intro rfl ?_) (by intro hh; cases hh)
              exact le_sparse rfl ⟨AV.le_refl _, trivial⟩ trivial rfl
            · replace h := of_br_f b21 h
              cbv
              replace h := of_req h
              obtain ⟨c19, h⟩ := h
              refine ⟨⟨c19, trivial⟩, ?_⟩
              refine fork (fun b20 => ?_) (fun b20 => ?_)
              · replace h := of_br_t b20 h
                cbv
                injection h with h
                refine hY7 _ h.symm _ _ (And.intro rfl ?_) (by intro hh; cases hh)
                exact le_sparse rfl ⟨AV.le_refl _, trivial⟩ trivial rfl
              · replace h := of_br_f b20 h
                cbv
                injection h with h
                refine hK9 _ h.symm _ ?_
                exact le_sparse rfl ⟨AV.le_refl _, AV.le_refl _, AV.le_refl _, trivial⟩ trivial rfl
    · replace h := of_br_f b25 h
      cbv
      injection h with h
      refine hY7 _ h.symm _ _ (And.intro rfl ?_) (by intro hh; cases hh)
      exact le_sparse rfl ⟨AV.le_refl _, trivial⟩ trivial rfl
  · clear hr5
    have h := hN6
    clear hN6
    intro e13 s14 q12 hne
    rcases y4 with y4k0 | y4m0
    · replace h := h
      obtain ⟨rfl, q12⟩ := q12
      replace h := of_let h
      obtain ⟨w26, hw26, h⟩ := h
      have hw26 : w26 = y4k0 := hw26
      subst hw26
      cbv
      injection h with h
      subst h
      refine ⟨(sparse 62 [(4, .c (.v (.int .i64 w26)))] []), ?_, ?_⟩
      · refine St.le_trans q12 ?_
        exact le_sparse rfl ⟨AV.le_refl _, trivial⟩ trivial rfl
      · exact ⟨AV.le_refl _, trivial, rfl⟩
    · replace h := of_let h
      obtain ⟨y4k1, hyk, h⟩ := h
      have hyk : y4k1 = y4m0 := hyk
      subst hyk
      obtain ⟨rfl, q12⟩ := q12
      replace h := of_let h
      obtain ⟨w27, hw27, h⟩ := h
      have hw27 : w27 = y4k1 := hw27
      subst hw27
      cbv
      refine ⟨_, q12, ?_⟩
      cbv
      injection h with h
      subst h
      refine ⟨(sparse 62 [(4, .c (.v (.int .i64 w27)))] []), ?_, ?_⟩
      · exact le_sparse rfl ⟨AV.le_refl _, trivial⟩ trivial rfl
      · exact ⟨AV.le_refl _, trivial, rfl⟩

noncomputable def L_laws_heldInt64S_x3 (a0 : List Int) : (Int × Int) → Option ((Int × Int) ⊕ ((Int) ⊕ (Int))) := fun x3 =>
  letO x3.1 fun v1 =>
  letO x3.2 fun v2 =>
  br (std.lt v2 (std.ofN (len a0)))
  (req (std.inR v2 (len a0)) <|
  br (std.not (std.eq (gd a0 (std.toN v2)) v1))
  (some (.inr (.inl (-1))))
  (some (.inl (std.add .i64 v1 1, std.add .i64 v2 1))))
  (some (.inr (.inr v1)))
/-- laws.heldInt64S -/
noncomputable def F_laws_heldInt64S (a0 : List Int) (a1 : Int) : Option (Int) :=
  (whileP (σ := Int × Int) (ρ := (Int) ⊕ (Int)) (L_laws_heldInt64S_x3 a0) (a1, 0)).bind fun y4 =>
  (match y4 with
    | .inl y4k0 => (
        letO y4k0 fun w18 =>
        some w18)
    | .inr y4m0 =>
        letO y4m0 fun y4k1 =>
        letO y4k1 fun w19 =>
        some w19)
theorem run_laws_heldInt64S (a0 : List Int) (a1 : Int) (r : Int) (h : F_laws_heldInt64S a0 a1 = some r) : Fun Try.prog 22 [.c (.bs (len a0) 1 (row gd (encI .i64) a0)), .c (.v (.int .i64 a1))] [] (.c (.v (.int .i64 r))) [] true := by
  refine Fun.of_wp (oneOf []) tok mixed Try.func22 (by kernel_rfl) rfl Try.ntmps22 rfl trivial (fun _ => ⟨trivial, trivial⟩) ?_
  unfold F_laws_heldInt64S at h
  unfold L_laws_heldInt64S_x3 at h
  generalize hLEN : @len = LEN at *
  generalize hGD : @gd = GD at *
  generalize hA : std = A at *
  generalize hP : Try.prog = P at *
  cbv
  replace h := of_bind h
  obtain ⟨y4, hr5, hN6⟩ := h
  refine loop_cut hr5 (fun x => (sparse 21 [(0, .c (.bs (LEN a0) 1 (row GD (encI .i64) a0))), (1, .c (.v (.int .i64 x.1))), (5, .c (.v (.int .i64 x.2)))] [])) ?_ (fun y e s => (match y with | .inl w => e = .ret ∧ s.le (sparse 21 [(4, .c (.v (.int .i64 w)))] []) | .inr w0 => (fun (w : Int) => e = .exit 0 ∧ s.le (sparse 21 [(1, .c (.v (.int .i64 w)))] [])) w0)) ?_ ?_
  · clear hr5 hN6
    show St.le _ _
    exact le_sparse rfl ⟨AV.le_refl _, AV.le_refl _, AV.le_refl _, trivial⟩ trivial rfl
  · clear hr5 hN6
    intro x z10 h K8 hK9 hY7
    obtain ⟨x0_, x1_⟩ := x
    replace h := of_let h
    obtain ⟨v1, hv1, h⟩ := h
    have hv1 : v1 = x0_ := hv1
    subst hv1
    replace h := of_let h
    obtain ⟨v2, hv2, h⟩ := h
    have hv2 : v2 = x1_ := hv2
    subst hv2
    cbv
    refine fork (fun b17 => ?_) (fun b17 => ?_)
    · replace h := of_br_t b17 h
      cbv
      replace h := of_req h
      obtain ⟨c15, h⟩ := h
      refine ⟨⟨c15, trivial⟩, ?_⟩
      refine fork (fun b16 => ?_) (fun b16 => ?_)
      · replace h := of_br_t b16 h
        cbv
        injection h with h
        refine hY7 _ h.symm _ _ (And.intro rfl ?_) (by intro hh; cases hh)
        exact le_sparse rfl ⟨AV.le_refl _, trivial⟩ trivial rfl
      · replace h := of_br_f b16 h
        cbv
        injection h with h
        refine hK9 _ h.symm _ ?_
        exact le_sparse rfl ⟨AV.le_refl _, AV.le_refl _, AV.le_refl _, trivial⟩ trivial rfl
    · replace h := of_br_f b17 h
      cbv
      injection h with h
      refine hY7 _ h.symm _ _ (And.intro rfl ?_) (by intro hh; cases hh)
      exact le_sparse rfl ⟨AV.le_refl _, trivial⟩ trivial rfl
  · clear hr5
    have h := hN6
    clear hN6
    intro e13 s14 q12 hne
    rcases y4 with y4k0 | y4m0
    · replace h := h
      obtain ⟨rfl, q12⟩ := q12
      replace h := of_let h
      obtain ⟨w18, hw18, h⟩ := h
      have hw18 : w18 = y4k0 := hw18
      subst hw18
      cbv
      injection h with h
      subst h
      refine ⟨(sparse 21 [(4, .c (.v (.int .i64 w18)))] []), ?_, ?_⟩
      · refine St.le_trans q12 ?_
        exact le_sparse rfl ⟨AV.le_refl _, trivial⟩ trivial rfl
      · exact ⟨AV.le_refl _, trivial, rfl⟩
    · replace h := of_let h
      obtain ⟨y4k1, hyk, h⟩ := h
      have hyk : y4k1 = y4m0 := hyk
      subst hyk
      obtain ⟨rfl, q12⟩ := q12
      replace h := of_let h
      obtain ⟨w19, hw19, h⟩ := h
      have hw19 : w19 = y4k1 := hw19
      subst hw19
      cbv
      refine ⟨_, q12, ?_⟩
      cbv
      injection h with h
      subst h
      refine ⟨(sparse 21 [(4, .c (.v (.int .i64 w19)))] []), ?_, ?_⟩
      · exact le_sparse rfl ⟨AV.le_refl _, trivial⟩ trivial rfl
      · exact ⟨AV.le_refl _, trivial, rfl⟩

noncomputable def L_laws_heldInt64SS_x3 (a0 : List (List Int)) : (Int × Int) → Option ((Int × Int) ⊕ ((Int) ⊕ (Int))) := fun x3 =>
  letO x3.1 fun v1 =>
  letO x3.2 fun v2 =>
  br (std.lt v2 (std.ofN (len a0)))
  (req (std.inR v2 (len a0)) <|
  (F_laws_heldInt64S (gd a0 (std.toN v2)) v1).bind fun y16 =>
  br (std.lt y16 0)
  (some (.inr (.inl (-1))))
  (some (.inl (y16, std.add .i64 v2 1))))
  (some (.inr (.inr v1)))
/-- laws.heldInt64SS -/
noncomputable def F_laws_heldInt64SS (a0 : List (List Int)) (a1 : Int) : Option (Int) :=
  (whileP (σ := Int × Int) (ρ := (Int) ⊕ (Int)) (L_laws_heldInt64SS_x3 a0) (a1, 0)).bind fun y4 =>
  (match y4 with
    | .inl y4k0 => (
        letO y4k0 fun w20 =>
        some w20)
    | .inr y4m0 =>
        letO y4m0 fun y4k1 =>
        letO y4k1 fun w21 =>
        some w21)
theorem run_laws_heldInt64SS (a0 : List (List Int)) (a1 : Int) (r : Int) (h : F_laws_heldInt64SS a0 a1 = some r) : Fun Try.prog 106 [.c (.bs (len a0) 1 (row gd (encL len gd 1 (encI .i64)) a0)), .c (.v (.int .i64 a1))] [] (.c (.v (.int .i64 r))) [] true := by
  refine Fun.of_wp (oneOf []) tok mixed Try.func106 (by kernel_rfl) rfl Try.ntmps106 rfl trivial (fun _ => ⟨trivial, trivial⟩) ?_
  unfold F_laws_heldInt64SS at h
  unfold L_laws_heldInt64SS_x3 at h
  have hf_laws_heldInt64S := @run_laws_heldInt64S
  generalize hLEN : @len = LEN at *
  generalize hGD : @gd = GD at *
  generalize hA : std = A at *
  generalize hP : Try.prog = P at *
  cbv
  replace h := of_bind h
  obtain ⟨y4, hr5, hN6⟩ := h
  refine loop_cut hr5 (fun x => (sparse 21 [(0, .c (.bs (LEN a0) 1 (row GD (encL LEN GD 1 (encI .i64)) a0))), (1, .c (.v (.int .i64 x.1))), (5, .c (.v (.int .i64 x.2)))] [])) ?_ (fun y e s => (match y with | .inl w => e = .ret ∧ s.le (sparse 21 [(4, .c (.v (.int .i64 w)))] []) | .inr w0 => (fun (w : Int) => e = .exit 0 ∧ s.le (sparse 21 [(1, .c (.v (.int .i64 w)))] [])) w0)) ?_ ?_
  · clear hr5 hN6
    show St.le _ _
    exact le_sparse rfl ⟨AV.le_refl _, AV.le_refl _, AV.le_refl _, trivial⟩ trivial rfl
  · clear hr5 hN6
    intro x z10 h K8 hK9 hY7
    obtain ⟨x0_, x1_⟩ := x
    replace h := of_let h
    obtain ⟨v1, hv1, h⟩ := h
    have hv1 : v1 = x0_ := hv1
    subst hv1
    replace h := of_let h
    obtain ⟨v2, hv2, h⟩ := h
    have hv2 : v2 = x1_ := hv2
    subst hv2
    cbv
    refine fork (fun b19 => ?_) (fun b19 => ?_)
    · replace h := of_br_t b19 h
      cbv
      replace h := of_req h
      obtain ⟨c15, h⟩ := h
      refine ⟨⟨c15, trivial⟩, ?_⟩
      replace h := of_bind h
      obtain ⟨y16, hy17, h⟩ := h
      refine ⟨{ args := [.c (.bs (LEN (GD a0 (A.toN v2))) 1 (row GD (encI .i64) (GD a0 (A.toN v2)))), .c (.v (.int .i64 v1))], o0 := [], r := .c (.v (.int .i64 y16)), o1 := [], fl := true, σ := [], τ := [] }, hf_laws_heldInt64S _ _ _ hy17, ⟨les_cons (AV.le_refl _) (les_cons (AV.le_refl _) (les_nil)), trivial, rfl, rfl, rfl, rfl, trivial, rfl⟩, ?_⟩
      cbv
      refine fork (fun b18 => ?_) (fun b18 => ?_)
      · replace h := of_br_t b18 h
        cbv
        injection h with h
        refine hY7 _ h.symm _ _ (And.intro rfl ?_) (by intro hh; cases hh)
        exact le_sparse rfl ⟨AV.le_refl _, trivial⟩ trivial rfl
      · replace h := of_br_f b18 h
        cbv
        injection h with h
        refine hK9 _ h.symm _ ?_
        exact le_sparse rfl ⟨AV.le_refl _, AV.le_refl _, AV.le_refl _, trivial⟩ trivial rfl
    · replace h := of_br_f b19 h
      cbv
      injection h with h
      refine hY7 _ h.symm _ _ (And.intro rfl ?_) (by intro hh; cases hh)
      exact le_sparse rfl ⟨AV.le_refl _, trivial⟩ trivial rfl
  · clear hr5
    have h := hN6
    clear hN6
    intro e13 s14 q12 hne
    rcases y4 with y4k0 | y4m0
    · replace h := h
      obtain ⟨rfl, q12⟩ := q12
      replace h := of_let h
      obtain ⟨w20, hw20, h⟩ := h
      have hw20 : w20 = y4k0 := hw20
      subst hw20
      cbv
      injection h with h
      subst h
      refine ⟨(sparse 21 [(4, .c (.v (.int .i64 w20)))] []), ?_, ?_⟩
      · refine St.le_trans q12 ?_
        exact le_sparse rfl ⟨AV.le_refl _, trivial⟩ trivial rfl
      · exact ⟨AV.le_refl _, trivial, rfl⟩
    · replace h := of_let h
      obtain ⟨y4k1, hyk, h⟩ := h
      have hyk : y4k1 = y4m0 := hyk
      subst hyk
      obtain ⟨rfl, q12⟩ := q12
      replace h := of_let h
      obtain ⟨w21, hw21, h⟩ := h
      have hw21 : w21 = y4k1 := hw21
      subst hw21
      cbv
      refine ⟨_, q12, ?_⟩
      cbv
      injection h with h
      subst h
      refine ⟨(sparse 21 [(4, .c (.v (.int .i64 w21)))] []), ?_, ?_⟩
      · exact le_sparse rfl ⟨AV.le_refl _, trivial⟩ trivial rfl
      · exact ⟨AV.le_refl _, trivial, rfl⟩
/-- laws.heldSpatialIndex -/
noncomputable def F_laws_heldSpatialIndex (a0 : TSpatialIndex) (a1 : Int) : Option (Int) :=
  (F_laws_heldSpatialEntryS a0.fEntries a1).bind fun y1 =>
  br (std.lt y1 0)
  (some (-1))
  ((F_laws_heldInt64SS a0.fBuckets y1).bind fun y3 =>
  br (std.lt y3 0)
  (some (-1))
  (some y3))
theorem run_laws_heldSpatialIndex (a0 : TSpatialIndex) (a1 : Int) (r : Int) (h : F_laws_heldSpatialIndex a0 a1 = some r) : Fun Try.prog 40 [.agg [.bs (len a0.fEntries) 5 (row gd (encSpatialEntry) a0.fEntries), .bs (len a0.fBuckets) 1 (row gd (encL len gd 1 (encI .i64)) a0.fBuckets)], .c (.v (.int .i64 a1))] [] (.c (.v (.int .i64 r))) [] true := by
  refine Fun.of_wp (oneOf []) tok mixed Try.func40 (by kernel_rfl) rfl Try.ntmps40 rfl trivial (fun _ => ⟨trivial, trivial⟩) ?_
  unfold F_laws_heldSpatialIndex at h
  have hf_laws_heldInt64SS := @run_laws_heldInt64SS
  have hf_laws_heldSpatialEntryS := @run_laws_heldSpatialEntryS
  generalize hLEN : @len = LEN at *
  generalize hGD : @gd = GD at *
  generalize hA : std = A at *
  generalize hP : Try.prog = P at *
  cbv
  replace h := of_bind h
  obtain ⟨y1, hy2, h⟩ := h
  refine ⟨{ args := [.c (.bs (LEN a0.fEntries) 5 (row GD (encSpatialEntry) a0.fEntries)), .c (.v (.int .i64 a1))], o0 := [], r := .c (.v (.int .i64 y1)), o1 := [], fl := true, σ := [], τ := [] }, hf_laws_heldSpatialEntryS _ _ _ hy2, ⟨les_cons (AV.le_refl _) (les_cons (AV.le_refl _) (les_nil)), trivial, rfl, rfl, rfl, rfl, trivial, rfl⟩, ?_⟩
  cbv
  refine fork (fun b6 => ?_) (fun b6 => ?_)
  · replace h := of_br_t b6 h
    cbv
    injection h with h
    subst h
    refine ⟨(sparse 18 [(4, .c (.v (.int .i64 (-1))))] []), ?_, ?_⟩
    · exact le_sparse rfl ⟨AV.le_refl _, trivial⟩ trivial rfl
    · exact ⟨AV.le_refl _, trivial, rfl⟩
  · replace h := of_br_f b6 h
    cbv
    replace h := of_bind h
    obtain ⟨y3, hy4, h⟩ := h
    refine ⟨{ args := [.c (.bs (LEN a0.fBuckets) 1 (row GD (encL LEN GD 1 (encI .i64)) a0.fBuckets)), .c (.v (.int .i64 y1))], o0 := [], r := .c (.v (.int .i64 y3)), o1 := [], fl := true, σ := [], τ := [] }, hf_laws_heldInt64SS _ _ _ hy4, ⟨les_cons (AV.le_refl _) (les_cons (AV.le_refl _) (les_nil)), trivial, rfl, rfl, rfl, rfl, trivial, rfl⟩, ?_⟩
    cbv
    refine fork (fun b5 => ?_) (fun b5 => ?_)
    · replace h := of_br_t b5 h
      cbv
      injection h with h
      subst h
      refine ⟨(sparse 18 [(4, .c (.v (.int .i64 (-1))))] []), ?_, ?_⟩
      · exact le_sparse rfl ⟨AV.le_refl _, trivial⟩ trivial rfl
      · exact ⟨AV.le_refl _, trivial, rfl⟩
    · replace h := of_br_f b5 h
      cbv
      injection h with h
      subst h
      refine ⟨(sparse 18 [(4, .c (.v (.int .i64 y3)))] []), ?_, ?_⟩
      · exact le_sparse rfl ⟨AV.le_refl _, trivial⟩ trivial rfl
      · exact ⟨AV.le_refl _, trivial, rfl⟩

/-- laws.FnExactInsertEntry -/
noncomputable def F_laws_FnExactInsertEntry (a0 : TSpatialIndex) (a1 : Int) (a2 : TRect) : Option (Bool) :=
  (F_laws_szSpatialIndex a0 1048576).bind fun y1 =>
  br (std.lt y1 0)
  (some true)
  ((F_laws_toSpatialIndex a0).bind fun y3 =>
  (F_laws_toRect a2).bind fun y5 =>
  (F_spec_InsertEntry y3 a1 y5).bind fun y7 =>
  (F_laws_toSpatialIndex a0).bind fun y9 =>
  (F_laws_toRect a2).bind fun y11 =>
  (F_impl_InsertEntry y9 a1 y11).bind fun y13 =>
  ((
        (F_laws_eqSpatialIndex y13.1 y7.1).bind fun y22 =>
        br (!(y22))
        (some true)
        (some (std.not (std.eq y13.2 y7.2)))
    ) : Option (Bool)).bind fun y15 =>
  letO y15 fun w21 =>
  br w21
  (some false)
  ((F_laws_toSpatialIndex a0).bind fun y25 =>
  (F_laws_eqSpatialIndex y9 y25).bind fun y27 =>
  br (!(y27))
  (some false)
  ((F_laws_markSpatialIndex_moob y9 1).bind fun y29 =>
  req (len y29.2.1 = len y9.fEntries) <|
  req (len y29.2.2 = len y9.fBuckets) <|
  ((
        br (std.lt y29.1 0)
        (some true)
        ((F_laws_eqSpatialIndex y13.1 y7.1).bind fun y38 =>
        br (!(y38))
        (some true)
        (some (std.not (std.eq y13.2 y7.2))))
    ) : Option (Bool)).bind fun y31 =>
  letO y31 fun w37 =>
  br w37
  (some false)
  ((F_laws_markSpatialIndex_moob y13.1 1).bind fun y42 =>
  req (len y42.2.1 = len y13.1.fEntries) <|
  req (len y42.2.2 = len y13.1.fBuckets) <|
  (F_laws_heldSpatialIndex (TSpatialIndex.mk y42.2.1 y42.2.2) 1).bind fun y44 =>
  req (len y13.1.fEntries = len y42.2.1) <|
  req (len y13.1.fBuckets = len y42.2.2) <|
  br (std.lt y44 0)
  (some false)
  (br (std.not (std.eq y44 y42.1))
  (some false)
  ((F_laws_toSpatialIndex a0).bind fun y46 =>
  (F_laws_toRect a2).bind fun y48 =>
  (F_impl_InsertEntry y46 a1 y48).bind fun y50 =>
  ((
        (F_laws_eqSpatialIndex y50.1 y7.1).bind fun y59 =>
        br (!(y59))
        (some true)
        (some (std.not (std.eq y50.2 y7.2)))
    ) : Option (Bool)).bind fun y52 =>
  letO y52 fun w58 =>
  br w58
  (some false)
  ((F_laws_heldSpatialIndex (TSpatialIndex.mk y42.2.1 y42.2.2) 1).bind fun y62 =>
  req (len y13.1.fEntries = len y42.2.1) <|
  req (len y13.1.fBuckets = len y42.2.2) <|
  br (std.lt y62 0)
  (some false)
  (br (std.not (std.eq y62 y42.1))
  (some false)
  (some true)))))))))
theorem run_laws_FnExactInsertEntry (a0 : TSpatialIndex) (a1 : Int) (a2 : TRect) (r : Bool) (h : F_laws_FnExactInsertEntry a0 a1 a2 = some r) : Fun Try.prog 8 [.agg [.bs (len a0.fEntries) 5 (row gd (encSpatialEntry) a0.fEntries), .bs (len a0.fBuckets) 1 (row gd (encL len gd 1 (encI .i64)) a0.fBuckets)], .c (.v (.int .i64 a1)), .agg [.v (.int .i64 a2.fX0), .v (.int .i64 a2.fY0), .v (.int .i64 a2.fX1), .v (.int .i64 a2.fY1)]] [] (.c (.v (.bool r))) [] true := by
  refine Fun.of_wp (oneOf [8, 14, 25]) tok mixed Try.func8 (by kernel_rfl) rfl Try.ntmps8 rfl trivial (fun _ => ⟨trivial, trivial⟩) ?_
  unfold F_laws_FnExactInsertEntry at h
  have hf_impl_InsertEntry := @run_impl_InsertEntry
  have hf_laws_eqSpatialIndex := @run_laws_eqSpatialIndex
  have hf_laws_heldSpatialIndex := @run_laws_heldSpatialIndex
  have hf_laws_markSpatialIndex_moob := @run_laws_markSpatialIndex_moob
  have hf_laws_szSpatialIndex := @run_laws_szSpatialIndex
  have hf_laws_toRect := @run_laws_toRect
  have hf_laws_toSpatialIndex := @run_laws_toSpatialIndex
  have hf_spec_InsertEntry := @run_spec_InsertEntry
  generalize hLEN : @len = LEN at *
  generalize hGD : @gd = GD at *
  generalize hA : std = A at *
  generalize hP : Try.prog = P at *
  cbv
  replace h := of_bind h
  obtain ⟨y1, hy2, h⟩ := h
  refine ⟨{ args := [.agg [.bs (LEN a0.fEntries) 5 (row GD (encSpatialEntry) a0.fEntries), .bs (LEN a0.fBuckets) 1 (row GD (encL LEN GD 1 (encI .i64)) a0.fBuckets)], .c (.v (.int .i64 1048576))], o0 := [], r := .c (.v (.int .i64 y1)), o1 := [], fl := true, σ := [], τ := [] }, hf_laws_szSpatialIndex _ _ _ hy2, ⟨les_cons (AV.le_refl _) (les_cons (AV.le_refl _) (les_nil)), trivial, rfl, rfl, rfl, rfl, trivial, rfl⟩, ?_⟩
  cbv
  refine fork (fun b80 => ?_) (fun b80 => ?_)
  · replace h := of_br_t b80 h
    cbv
    injection h with h
    subst h
    refine ⟨(sparse 109 [(6, .c (.v (.bool true)))] []), ?_, ?_⟩
    · exact le_sparse rfl ⟨AV.le_refl _, trivial⟩ trivial rfl
    · exact ⟨AV.le_refl _, trivial, rfl⟩
  · replace h := of_br_f b80 h
    cbv
    replace h := of_bind h
    obtain ⟨y3, hy4, h⟩ := h
    refine ⟨{ args := [.agg [.bs (LEN a0.fEntries) 5 (row GD (encSpatialEntry) a0.fEntries), .bs (LEN a0.fBuckets) 1 (row GD (encL LEN GD 1 (encI .i64)) a0.fBuckets)]], o0 := [], r := .agg [.os 64000 0 (LEN y3.fEntries), .os 64002 0 (LEN y3.fBuckets)], o1 := [(64000, .arr .rw [] (LEN y3.fEntries) 5 (row GD (encSpatialEntry) y3.fEntries)), (64002, .arr .rw [] (LEN y3.fBuckets) 1 (row GD (oncL LEN GD 1 (encI .i64)) y3.fBuckets))], fl := true, σ := [], τ := [(64000, 1600), (64002, 1602)] }, hf_laws_toSpatialIndex _ _ hy4, ⟨les_cons (AV.le_refl _) (les_nil), trivial, rfl, rfl, rfl, rfl, ⟨fun h => absurd (show (64000 : Nat) % 2 = 1 from h) (by decide), fun h => absurd (show (64002 : Nat) % 2 = 1 from h) (by decide), trivial⟩, rfl⟩, _, rfl, _, _, rfl, fun _ _ _ _ => rfl, _, _, rfl, fun _ _ _ _ => rfl, ?_⟩
    cbv
    replace h := of_bind h
    obtain ⟨y5, hy6, h⟩ := h
    refine ⟨{ args := [.agg [.v (.int .i64 a2.fX0), .v (.int .i64 a2.fY0), .v (.int .i64 a2.fX1), .v (.int .i64 a2.fY1)]], o0 := [], r := .agg [.v (.int .i64 y5.fX0), .v (.int .i64 y5.fY0), .v (.int .i64 y5.fX1), .v (.int .i64 y5.fY1)], o1 := [], fl := true, σ := [], τ := [] }, hf_laws_toRect _ _ hy6, ⟨les_cons (AV.le_refl _) (les_nil), trivial, rfl, rfl, rfl, rfl, trivial, rfl⟩, ?_⟩
    cbv
    replace h := of_bind h
    obtain ⟨y7, hy8, h⟩ := h
    refine ⟨{ args := [.agg [.bs (LEN y3.fEntries) 5 (row GD (encSpatialEntry) y3.fEntries), .bs (LEN y3.fBuckets) 1 (row GD (encL LEN GD 1 (encI .i64)) y3.fBuckets)], .c (.v (.int .i64 a1)), .agg [.v (.int .i64 y5.fX0), .v (.int .i64 y5.fY0), .v (.int .i64 y5.fX1), .v (.int .i64 y5.fY1)]], o0 := [], r := .tup [.agg [.os 64000 0 (LEN y7.1.fEntries), .os 64002 0 (LEN y7.1.fBuckets)], .c (.v (.int .i64 y7.2))], o1 := [(64000, .arr .rw [] (LEN y7.1.fEntries) 5 (row GD (encSpatialEntry) y7.1.fEntries)), (64002, .arr .rw [] (LEN y7.1.fBuckets) 1 (row GD (oncL LEN GD 1 (encI .i64)) y7.1.fBuckets))], fl := true, σ := [], τ := [(64000, 1856), (64002, 1858)] }, hf_spec_InsertEntry _ _ _ _ hy8, ⟨les_cons (le_agg ⟨give_os (pl_encSpatialEntry) rfl rfl rfl, give_osD (fun _ _ => rfl) (fun _ _ => rfl) rfl rfl rfl, trivial⟩) (les_cons (AV.le_refl _) (les_cons (AV.le_refl _) (les_nil))), trivial, rfl, rfl, rfl, rfl, ⟨fun h => absurd (show (64000 : Nat) % 2 = 1 from h) (by decide), fun h => absurd (show (64002 : Nat) % 2 = 1 from h) (by decide), trivial⟩, rfl⟩, _, rfl, _, _, rfl, fun _ _ _ _ => rfl, _, _, rfl, fun _ _ _ _ => rfl, ?_⟩
    cbv
    replace h := of_bind h
    obtain ⟨y9, hy10, h⟩ := h
    refine ⟨{ args := [.agg [.bs (LEN a0.fEntries) 5 (row GD (encSpatialEntry) a0.fEntries), .bs (LEN a0.fBuckets) 1 (row GD (encL LEN GD 1 (encI .i64)) a0.fBuckets)]], o0 := [], r := .agg [.os 64000 0 (LEN y9.fEntries), .os 64002 0 (LEN y9.fBuckets)], o1 := [(64000, .arr .rw [] (LEN y9.fEntries) 5 (row GD (encSpatialEntry) y9.fEntries)), (64002, .arr .rw [] (LEN y9.fBuckets) 1 (row GD (oncL LEN GD 1 (encI .i64)) y9.fBuckets))], fl := true, σ := [], τ := [(64000, 2112), (64002, 2114)] }, hf_laws_toSpatialIndex _ _ hy10, ⟨les_cons (AV.le_refl _) (les_nil), trivial, rfl, rfl, rfl, rfl, ⟨fun h => absurd (show (64000 : Nat) % 2 = 1 from h) (by decide), fun h => absurd (show (64002 : Nat) % 2 = 1 from h) (by decide), trivial⟩, rfl⟩, _, rfl, _, _, rfl, fun _ _ _ _ => rfl, _, _, rfl, fun _ _ _ _ => rfl, ?_⟩
    cbv
    replace h := of_bind h
    obtain ⟨y11, hy12, h⟩ := h
    refine ⟨{ args := [.agg [.v (.int .i64 a2.fX0), .v (.int .i64 a2.fY0), .v (.int .i64 a2.fX1), .v (.int .i64 a2.fY1)]], o0 := [], r := .agg [.v (.int .i64 y11.fX0), .v (.int .i64 y11.fY0), .v (.int .i64 y11.fX1), .v (.int .i64 y11.fY1)], o1 := [], fl := true, σ := [], τ := [] }, hf_laws_toRect _ _ hy12, ⟨les_cons (AV.le_refl _) (les_nil), trivial, rfl, rfl, rfl, rfl, trivial, rfl⟩, ?_⟩
    cbv
    replace h := of_bind h
    obtain ⟨y13, hy14, h⟩ := h
    refine ⟨{ args := [.agg [.bs (LEN y9.fEntries) 5 (row GD (encSpatialEntry) y9.fEntries), .bs (LEN y9.fBuckets) 1 (row GD (encL LEN GD 1 (encI .i64)) y9.fBuckets)], .c (.v (.int .i64 a1)), .agg [.v (.int .i64 y11.fX0), .v (.int .i64 y11.fY0), .v (.int .i64 y11.fX1), .v (.int .i64 y11.fY1)]], o0 := [], r := .tup [.agg [.os 64000 0 (LEN y13.1.fEntries), .os 64002 0 (LEN y13.1.fBuckets)], .c (.v (.int .i64 y13.2))], o1 := [(64000, .arr .rw [] (LEN y13.1.fEntries) 5 (row GD (encSpatialEntry) y13.1.fEntries)), (64002, .arr .rw [] (LEN y13.1.fBuckets) 1 (row GD (oncL LEN GD 1 (encI .i64)) y13.1.fBuckets))], fl := true, σ := [], τ := [(64000, 2496), (64002, 2498)] }, hf_impl_InsertEntry _ _ _ _ hy14, ⟨les_cons (le_agg ⟨give_os (pl_encSpatialEntry) rfl rfl rfl, give_osD (fun _ _ => rfl) (fun _ _ => rfl) rfl rfl rfl, trivial⟩) (les_cons (AV.le_refl _) (les_cons (AV.le_refl _) (les_nil))), trivial, rfl, rfl, rfl, rfl, ⟨fun h => absurd (show (64000 : Nat) % 2 = 1 from h) (by decide), fun h => absurd (show (64002 : Nat) % 2 = 1 from h) (by decide), trivial⟩, rfl⟩, _, rfl, _, _, rfl, fun _ _ _ _ => rfl, _, _, rfl, fun _ _ _ _ => rfl, ?_⟩
    cbv
    replace h := of_bind h
    obtain ⟨y15, hy16, h⟩ := h
    obtain ⟨S19, hS20⟩ : ∃ S, S = (sparse 109 [(1, .c (.v (.int .i64 a1))), (3, .c (.ptr 192 0)), (5, .c (.ptr 320 0)), (8, .c (.ptr 512 0)), (9, .c (.v (.int .i64 y7.2))), (10, .c (.ptr 640 0)), (11, .c (.ptr 704 0)), (12, .c (.v (.int .i64 y13.2))), (50, .c (.v (.bool y15)))] [(192, .var [.bs (LEN a0.fEntries) 5 (row GD (encSpatialEntry) a0.fEntries), .bs (LEN a0.fBuckets) 1 (row GD (encL LEN GD 1 (encI .i64)) a0.fBuckets)]), (320, .var [.v (.int .i64 a2.fX0), .v (.int .i64 a2.fY0), .v (.int .i64 a2.fX1), .v (.int .i64 a2.fY1)]), (512, .var [.os 1856 0 (LEN y7.1.fEntries), .os 1858 0 (LEN y7.1.fBuckets)]), (640, .var [.os 2112 0 (LEN y9.fEntries), .os 2114 0 (LEN y9.fBuckets)]), (704, .var [.os 2496 0 (LEN y13.1.fEntries), .os 2498 0 (LEN y13.1.fBuckets)]), (1856, .arr .rw [] (LEN y7.1.fEntries) 5 (row GD (encSpatialEntry) y7.1.fEntries)), (1858, .arr .rw [] (LEN y7.1.fBuckets) 1 (row GD (oncL LEN GD 1 (encI .i64)) y7.1.fBuckets)), (2112, .arr .rw [] (LEN y9.fEntries) 5 (row GD (encSpatialEntry) y9.fEntries)), (2114, .arr .rw [] (LEN y9.fBuckets) 1 (row GD (oncL LEN GD 1 (encI .i64)) y9.fBuckets)), (2496, .arr .rw [] (LEN y13.1.fEntries) 5 (row GD (encSpatialEntry) y13.1.fEntries)), (2498, .arr .rw [] (LEN y13.1.fBuckets) 1 (row GD (oncL LEN GD 1 (encI .i64)) y13.1.fBuckets))]) := ⟨_, rfl⟩
    refine ⟨S19, ?_, ?_⟩
    · clear h
      have h := hy16
      clear hy16
      cbv
      replace h := of_bind h
      obtain ⟨y22, hy23, h⟩ := h
      refine ⟨{ args := [.agg [.bs (LEN y13.1.fEntries) 5 (row GD (encSpatialEntry) y13.1.fEntries), .bs (LEN y13.1.fBuckets) 1 (row GD (encL LEN GD 1 (encI .i64)) y13.1.fBuckets)], .agg [.bs (LEN y7.1.fEntries) 5 (row GD (encSpatialEntry) y7.1.fEntries), .bs (LEN y7.1.fBuckets) 1 (row GD (encL LEN GD 1 (encI .i64)) y7.1.fBuckets)]], o0 := [], r := .c (.v (.bool y22)), o1 := [], fl := true, σ := [], τ := [] }, hf_laws_eqSpatialIndex _ _ _ hy23, ⟨les_cons (le_agg ⟨give_os (pl_encSpatialEntry) rfl rfl rfl, give_osD (fun _ _ => rfl) (fun _ _ => rfl) rfl rfl rfl, trivial⟩) (les_cons (le_agg ⟨give_os (pl_encSpatialEntry) rfl rfl rfl, give_osD (fun _ _ => rfl) (fun _ _ => rfl) rfl rfl rfl, trivial⟩) (les_nil)), trivial, rfl, rfl, rfl, rfl, trivial, rfl⟩, ?_⟩
      cbv
      refine fork (fun b24 => ?_) (fun b24 => ?_)
      · replace h := of_br_t b24 h
        cbv
        injection h with h
        subst h
        subst hS20
        show St.le _ _
        exact le_sparse rfl ⟨AV.le_refl _, AV.le_refl _, AV.le_refl _, AV.le_refl _, AV.le_refl _, AV.le_refl _, AV.le_refl _, AV.le_refl _, AV.le_refl _, trivial⟩ ⟨rfl, rfl, rfl, rfl, rfl, ⟨fun hw => hw, fun c hc => (by cases hc), .inl rfl, rfl, rfl, fun i hi j hj => rfl⟩, ⟨fun hw => hw, fun c hc => (by cases hc), .inl rfl, rfl, rfl, fun i hi j hj => rfl⟩, ⟨fun hw => hw, fun c hc => (by cases hc), .inl rfl, rfl, rfl, fun i hi j hj => rfl⟩, ⟨fun hw => hw, fun c hc => (by cases hc), .inl rfl, rfl, rfl, fun i hi j hj => rfl⟩, ⟨fun hw => hw, fun c hc => (by cases hc), .inl rfl, rfl, rfl, fun i hi j hj => rfl⟩, ⟨fun hw => hw, fun c hc => (by cases hc), .inl rfl, rfl, rfl, fun i hi j hj => rfl⟩, trivial⟩ rfl
      · replace h := of_br_f b24 h
        cbv
        injection h with h
        subst h
        subst hS20
        show St.le _ _
        exact le_sparse rfl ⟨AV.le_refl _, AV.le_refl _, AV.le_refl _, AV.le_refl _, AV.le_refl _, AV.le_refl _, AV.le_refl _, AV.le_refl _, AV.le_refl _, trivial⟩ ⟨rfl, rfl, rfl, rfl, rfl, ⟨fun hw => hw, fun c hc => (by cases hc), .inl rfl, rfl, rfl, fun i hi j hj => rfl⟩, ⟨fun hw => hw, fun c hc => (by cases hc), .inl rfl, rfl, rfl, fun i hi j hj => rfl⟩, ⟨fun hw => hw, fun c hc => (by cases hc), .inl rfl, rfl, rfl, fun i hi j hj => rfl⟩, ⟨fun hw => hw, fun c hc => (by cases hc), .inl rfl, rfl, rfl, fun i hi j hj => rfl⟩, ⟨fun hw => hw, fun c hc => (by cases hc), .inl rfl, rfl, rfl, fun i hi j hj => rfl⟩, ⟨fun hw => hw, fun c hc => (by cases hc), .inl rfl, rfl, rfl, fun i hi j hj => rfl⟩, trivial⟩ rfl
    · clear hy16
      subst hS20
      replace h := of_let h
      obtain ⟨w21, hw21, h⟩ := h
      have hw21 : w21 = y15 := hw21
      subst hw21
      cbv
      refine fork (fun b79 => ?_) (fun b79 => ?_)
      · replace h := of_br_t b79 h
        cbv
        injection h with h
        subst h
        refine ⟨(sparse 109 [(6, .c (.v (.bool false)))] []), ?_, ?_⟩
        · exact le_sparse rfl ⟨AV.le_refl _, trivial⟩ trivial rfl
        · exact ⟨AV.le_refl _, trivial, rfl⟩
      · replace h := of_br_f b79 h
        cbv
        replace h := of_bind h
        obtain ⟨y25, hy26, h⟩ := h
        refine ⟨{ args := [.agg [.bs (LEN a0.fEntries) 5 (row GD (encSpatialEntry) a0.fEntries), .bs (LEN a0.fBuckets) 1 (row GD (encL LEN GD 1 (encI .i64)) a0.fBuckets)]], o0 := [], r := .agg [.os 64000 0 (LEN y25.fEntries), .os 64002 0 (LEN y25.fBuckets)], o1 := [(64000, .arr .rw [] (LEN y25.fEntries) 5 (row GD (encSpatialEntry) y25.fEntries)), (64002, .arr .rw [] (LEN y25.fBuckets) 1 (row GD (oncL LEN GD 1 (encI .i64)) y25.fBuckets))], fl := true, σ := [], τ := [(64000, 3392), (64002, 3394)] }, hf_laws_toSpatialIndex _ _ hy26, ⟨les_cons (AV.le_refl _) (les_nil), trivial, rfl, rfl, rfl, rfl, ⟨fun h => absurd (show (64000 : Nat) % 2 = 1 from h) (by decide), fun h => absurd (show (64002 : Nat) % 2 = 1 from h) (by decide), trivial⟩, rfl⟩, _, rfl, _, _, rfl, fun _ _ _ _ => rfl, _, _, rfl, fun _ _ _ _ => rfl, ?_⟩
        cbv
        replace h := of_bind h
        obtain ⟨y27, hy28, h⟩ := h
        refine ⟨{ args := [.agg [.bs (LEN y9.fEntries) 5 (row GD (encSpatialEntry) y9.fEntries), .bs (LEN y9.fBuckets) 1 (row GD (encL LEN GD 1 (encI .i64)) y9.fBuckets)], .agg [.bs (LEN y25.fEntries) 5 (row GD (encSpatialEntry) y25.fEntries), .bs (LEN y25.fBuckets) 1 (row GD (encL LEN GD 1 (encI .i64)) y25.fBuckets)]], o0 := [], r := .c (.v (.bool y27)), o1 := [], fl := true, σ := [], τ := [] }, hf_laws_eqSpatialIndex _ _ _ hy28, ⟨les_cons (le_agg ⟨give_os (pl_encSpatialEntry) rfl rfl rfl, give_osD (fun _ _ => rfl) (fun _ _ => rfl) rfl rfl rfl, trivial⟩) (les_cons (le_agg ⟨give_os (pl_encSpatialEntry) rfl rfl rfl, give_osD (fun _ _ => rfl) (fun _ _ => rfl) rfl rfl rfl, trivial⟩) (les_nil)), trivial, rfl, rfl, rfl, rfl, trivial, rfl⟩, ?_⟩
        cbv
        refine fork (fun b78 => ?_) (fun b78 => ?_)
        · replace h := of_br_t b78 h
          cbv
          injection h with h
          subst h
          refine ⟨(sparse 109 [(6, .c (.v (.bool false)))] []), ?_, ?_⟩
          · exact le_sparse rfl ⟨AV.le_refl _, trivial⟩ trivial rfl
          · exact ⟨AV.le_refl _, trivial, rfl⟩
        · replace h := of_br_f b78 h
          cbv
          replace h := of_bind h
          obtain ⟨y29, hy30, h⟩ := h
          replace h := of_req h
          obtain ⟨c76, h⟩ := h
          replace h := of_req h
          obtain ⟨c77, h⟩ := h
          refine ⟨{ args := [.agg [.os 5 0 (LEN y9.fEntries), .os 7 0 (LEN y9.fBuckets)], .c (.v (.int .i64 1))], o0 := [(5, .arr .rw [] (LEN y9.fEntries) 5 (row GD (encSpatialEntry) y9.fEntries)), (7, .arr .rw [] (LEN y9.fBuckets) 1 (row GD (oncL LEN GD 1 (encI .i64)) y9.fBuckets))], r := .c (.v (.int .i64 y29.1)), o1 := [(5, .arr .rw [] (LEN y29.2.1) 5 (row GD (encSpatialEntry) y29.2.1)), (7, .arr .rw [] (LEN y29.2.2) 1 (row GD (oncL LEN GD 1 (encI .i64)) y29.2.2))], fl := true, σ := [(5, 2112), (7, 2114)], τ := [(5, 2112), (7, 2114)] }, hf_laws_markSpatialIndex_moob _ _ _ hy30, ⟨les_cons (AV.le_refl _) (les_cons (AV.le_refl _) (les_nil)), ⟨⟨fun hw => hw, fun c hc => (by cases hc), .inl rfl, rfl, rfl, fun i hi j hj => rfl⟩, ⟨fun hw => hw, fun c hc => (by cases hc), .inl rfl, rfl, rfl, fun i hi j hj => rfl⟩, trivial⟩, rfl, rfl, rfl, rfl, ⟨fun _ => ⟨c76.symm, rfl, fun c h => h⟩, fun _ => ⟨c77.symm, rfl, fun c h => h⟩, trivial⟩, rfl⟩, _, rfl, LEN y9.fEntries, _, c76, fun _ _ _ _ => rfl, LEN y9.fBuckets, _, c77, fun _ _ _ _ => rfl, ?_⟩
          cbv
          replace h := of_bind h
          obtain ⟨y31, hy32, h⟩ := h
          obtain ⟨S35, hS36⟩ : ∃ S, S = (sparse 109 [(1, .c (.v (.int .i64 a1))), (3, .c (.ptr 192 0)), (5, .c (.ptr 320 0)), (8, .c (.ptr 512 0)), (9, .c (.v (.int .i64 y7.2))), (11, .c (.ptr 704 0)), (71, .c (.v (.bool y31)))] [(192, .var [.bs (LEN a0.fEntries) 5 (row GD (encSpatialEntry) a0.fEntries), .bs (LEN a0.fBuckets) 1 (row GD (encL LEN GD 1 (encI .i64)) a0.fBuckets)]), (320, .var [.v (.int .i64 a2.fX0), .v (.int .i64 a2.fY0), .v (.int .i64 a2.fX1), .v (.int .i64 a2.fY1)]), (512, .var [.os 1856 0 (LEN y7.1.fEntries), .os 1858 0 (LEN y7.1.fBuckets)]), (704, .var [.os 2496 0 (LEN y13.1.fEntries), .os 2498 0 (LEN y13.1.fBuckets)]), (1856, .arr .rw [] (LEN y7.1.fEntries) 5 (row GD (encSpatialEntry) y7.1.fEntries)), (1858, .arr .rw [] (LEN y7.1.fBuckets) 1 (row GD (oncL LEN GD 1 (encI .i64)) y7.1.fBuckets)), (2496, .arr .rw [] (LEN y13.1.fEntries) 5 (row GD (encSpatialEntry) y13.1.fEntries)), (2498, .arr .rw [] (LEN y13.1.fBuckets) 1 (row GD (oncL LEN GD 1 (encI .i64)) y13.1.fBuckets))]) := ⟨_, rfl⟩
          refine ⟨S35, ?_, ?_⟩
          · clear h
            have h := hy32
            clear hy32
            cbv
            refine fork (fun b41 => ?_) (fun b41 => ?_)
            · replace h := of_br_t b41 h
              cbv
              injection h with h
              subst h
              subst hS36
              show St.le _ _
              exact le_sparse rfl ⟨AV.le_refl _, AV.le_refl _, AV.le_refl _, AV.le_refl _, AV.le_refl _, AV.le_refl _, AV.le_refl _, trivial⟩ ⟨rfl, rfl, rfl, rfl, ⟨fun hw => hw, fun c hc => (by cases hc), .inl rfl, rfl, rfl, fun i hi j hj => rfl⟩, ⟨fun hw => hw, fun c hc => (by cases hc), .inl rfl, rfl, rfl, fun i hi j hj => rfl⟩, ⟨fun hw => hw, fun c hc => (by cases hc), .inl rfl, rfl, rfl, fun i hi j hj => rfl⟩, ⟨fun hw => hw, fun c hc => (by cases hc), .inl rfl, rfl, rfl, fun i hi j hj => rfl⟩, trivial⟩ rfl
            · replace h := of_br_f b41 h
              cbv
              replace h := of_bind h
              obtain ⟨y38, hy39, h⟩ := h
              refine ⟨{ args := [.agg [.bs (LEN y13.1.fEntries) 5 (row GD (encSpatialEntry) y13.1.fEntries), .bs (LEN y13.1.fBuckets) 1 (row GD (encL LEN GD 1 (encI .i64)) y13.1.fBuckets)], .agg [.bs (LEN y7.1.fEntries) 5 (row GD (encSpatialEntry) y7.1.fEntries), .bs (LEN y7.1.fBuckets) 1 (row GD (encL LEN GD 1 (encI .i64)) y7.1.fBuckets)]], o0 := [], r := .c (.v (.bool y38)), o1 := [], fl := true, σ := [], τ := [] }, hf_laws_eqSpatialIndex _ _ _ hy39, ⟨les_cons (le_agg ⟨give_os (pl_encSpatialEntry) rfl rfl rfl, give_osD (fun _ _ => rfl) (fun _ _ => rfl) rfl rfl rfl, trivial⟩) (les_cons (le_agg ⟨give_os (pl_encSpatialEntry) rfl rfl rfl, give_osD (fun _ _ => rfl) (fun _ _ => rfl) rfl rfl rfl, trivial⟩) (les_nil)), trivial, rfl, rfl, rfl, rfl, trivial, rfl⟩, ?_⟩
              cbv
              refine fork (fun b40 => ?_) (fun b40 => ?_)
              · replace h := of_br_t b40 h
                cbv
                injection h with h
                subst h
                subst hS36
                show St.le _ _
                exact le_sparse rfl ⟨AV.le_refl _, AV.le_refl _, AV.le_refl _, AV.le_refl _, AV.le_refl _, AV.le_refl _, AV.le_refl _, trivial⟩ ⟨rfl, rfl, rfl, rfl, ⟨fun hw => hw, fun c hc => (by cases hc), .inl rfl, rfl, rfl, fun i hi j hj => rfl⟩, ⟨fun hw => hw, fun c hc => (by cases hc), .inl rfl, rfl, rfl, fun i hi j hj => rfl⟩, ⟨fun hw => hw, fun c hc => (by cases hc), .inl rfl, rfl, rfl, fun i hi j hj => rfl⟩, ⟨fun hw => hw, fun c hc => (by cases hc), .inl rfl, rfl, rfl, fun i hi j hj => rfl⟩, trivial⟩ rfl
              · replace h := of_br_f b40 h
                cbv
                injection h with h
                subst h
                subst hS36
                show St.le _ _
                exact le_sparse rfl ⟨AV.le_refl _, AV.le_refl _, AV.le_refl _, AV.le_refl _, AV.le_refl _, AV.le_refl _, AV.le_refl _, trivial⟩ ⟨rfl, rfl, rfl, rfl, ⟨fun hw => hw, fun c hc => (by cases hc), .inl rfl, rfl, rfl, fun i hi j hj => rfl⟩, ⟨fun hw => hw, fun c hc => (by cases hc), .inl rfl, rfl, rfl, fun i hi j hj => rfl⟩, ⟨fun hw => hw, fun c hc => (by cases hc), .inl rfl, rfl, rfl, fun i hi j hj => rfl⟩, ⟨fun hw => hw, fun c hc => (by cases hc), .inl rfl, rfl, rfl, fun i hi j hj => rfl⟩, trivial⟩ rfl
          · clear hy32
            subst hS36
            replace h := of_let h
            obtain ⟨w37, hw37, h⟩ := h
            have hw37 : w37 = y31 := hw37
            subst hw37
            cbv
            refine fork (fun b75 => ?_) (fun b75 => ?_)
            · replace h := of_br_t b75 h
              cbv
              injection h with h
              subst h
              refine ⟨(sparse 109 [(6, .c (.v (.bool false)))] []), ?_, ?_⟩
              · exact le_sparse rfl ⟨AV.le_refl _, trivial⟩ trivial rfl
              · exact ⟨AV.le_refl _, trivial, rfl⟩
            · replace h := of_br_f b75 h
              cbv
              replace h := of_bind h
              obtain ⟨y42, hy43, h⟩ := h
              replace h := of_req h
              obtain ⟨c73, h⟩ := h
              replace h := of_req h
              obtain ⟨c74, h⟩ := h
              refine ⟨{ args := [.agg [.os 5 0 (LEN y13.1.fEntries), .os 7 0 (LEN y13.1.fBuckets)], .c (.v (.int .i64 1))], o0 := [(5, .arr .rw [] (LEN y13.1.fEntries) 5 (row GD (encSpatialEntry) y13.1.fEntries)), (7, .arr .rw [] (LEN y13.1.fBuckets) 1 (row GD (oncL LEN GD 1 (encI .i64)) y13.1.fBuckets))], r := .c (.v (.int .i64 y42.1)), o1 := [(5, .arr .rw [] (LEN y42.2.1) 5 (row GD (encSpatialEntry) y42.2.1)), (7, .arr .rw [] (LEN y42.2.2) 1 (row GD (oncL LEN GD 1 (encI .i64)) y42.2.2))], fl := true, σ := [(5, 2496), (7, 2498)], τ := [(5, 2496), (7, 2498)] }, hf_laws_markSpatialIndex_moob _ _ _ hy43, ⟨les_cons (AV.le_refl _) (les_cons (AV.le_refl _) (les_nil)), ⟨⟨fun hw => hw, fun c hc => (by cases hc), .inl rfl, rfl, rfl, fun i hi j hj => rfl⟩, ⟨fun hw => hw, fun c hc => (by cases hc), .inl rfl, rfl, rfl, fun i hi j hj => rfl⟩, trivial⟩, rfl, rfl, rfl, rfl, ⟨fun _ => ⟨c73.symm, rfl, fun c h => h⟩, fun _ => ⟨c74.symm, rfl, fun c h => h⟩, trivial⟩, rfl⟩, _, rfl, LEN y13.1.fEntries, _, c73, fun _ _ _ _ => rfl, LEN y13.1.fBuckets, _, c74, fun _ _ _ _ => rfl, ?_⟩
              cbv
              replace h := of_bind h
              obtain ⟨y44, hy45, h⟩ := h
              replace h := of_req h
              obtain ⟨c71, h⟩ := h
              replace h := of_req h
              obtain ⟨c72, h⟩ := h
              refine ⟨{ args := [.agg [.bs (LEN y42.2.1) 5 (row GD (encSpatialEntry) y42.2.1), .bs (LEN y42.2.2) 1 (row GD (encL LEN GD 1 (encI .i64)) y42.2.2)], .c (.v (.int .i64 1))], o0 := [], r := .c (.v (.int .i64 y44)), o1 := [], fl := true, σ := [], τ := [] }, hf_laws_heldSpatialIndex _ _ _ hy45, ⟨les_cons (le_agg ⟨give_os (pl_encSpatialEntry) rfl rfl c71, give_osD (fun _ _ => rfl) (fun _ _ => rfl) rfl rfl c72, trivial⟩) (les_cons (AV.le_refl _) (les_nil)), trivial, rfl, rfl, rfl, rfl, trivial, rfl⟩, ?_⟩
              cbv
              refine fork (fun b70 => ?_) (fun b70 => ?_)
              · replace h := of_br_t b70 h
                cbv
                injection h with h
                subst h
                refine ⟨(sparse 109 [(6, .c (.v (.bool false)))] []), ?_, ?_⟩
                · exact le_sparse rfl ⟨AV.le_refl _, trivial⟩ trivial rfl
                · exact ⟨AV.le_refl _, trivial, rfl⟩
              · replace h := of_br_f b70 h
                cbv
                refine fork (fun b69 => ?_) (fun b69 => ?_)
                · replace h := of_br_t b69 h
                  cbv
                  injection h with h
                  subst h
                  refine ⟨(sparse 109 [(6, .c (.v (.bool false)))] []), ?_, ?_⟩
                  · exact le_sparse rfl ⟨AV.le_refl _, trivial⟩ trivial rfl
                  · exact ⟨AV.le_refl _, trivial, rfl⟩
                · replace h := of_br_f b69 h
                  cbv
                  replace h := of_bind h
                  obtain ⟨y46, hy47, h⟩ := h
                  refine ⟨{ args := [.agg [.bs (LEN a0.fEntries) 5 (row GD (encSpatialEntry) a0.fEntries), .bs (LEN a0.fBuckets) 1 (row GD (encL LEN GD 1 (encI .i64)) a0.fBuckets)]], o0 := [], r := .agg [.os 64000 0 (LEN y46.fEntries), .os 64002 0 (LEN y46.fBuckets)], o1 := [(64000, .arr .rw [] (LEN y46.fEntries) 5 (row GD (encSpatialEntry) y46.fEntries)), (64002, .arr .rw [] (LEN y46.fBuckets) 1 (row GD (oncL LEN GD 1 (encI .i64)) y46.fBuckets))], fl := true, σ := [], τ := [(64000, 5440), (64002, 5442)] }, hf_laws_toSpatialIndex _ _ hy47, ⟨les_cons (AV.le_refl _) (les_nil), trivial, rfl, rfl, rfl, rfl, ⟨fun h => absurd (show (64000 : Nat) % 2 = 1 from h) (by decide), fun h => absurd (show (64002 : Nat) % 2 = 1 from h) (by decide), trivial⟩, rfl⟩, _, rfl, _, _, rfl, fun _ _ _ _ => rfl, _, _, rfl, fun _ _ _ _ => rfl, ?_⟩
                  cbv
                  replace h := of_bind h
                  obtain ⟨y48, hy49, h⟩ := h
                  refine ⟨{ args := [.agg [.v (.int .i64 a2.fX0), .v (.int .i64 a2.fY0), .v (.int .i64 a2.fX1), .v (.int .i64 a2.fY1)]], o0 := [], r := .agg [.v (.int .i64 y48.fX0), .v (.int .i64 y48.fY0), .v (.int .i64 y48.fX1), .v (.int .i64 y48.fY1)], o1 := [], fl := true, σ := [], τ := [] }, hf_laws_toRect _ _ hy49, ⟨les_cons (AV.le_refl _) (les_nil), trivial, rfl, rfl, rfl, rfl, trivial, rfl⟩, ?_⟩
                  cbv
                  replace h := of_bind h
                  obtain ⟨y50, hy51, h⟩ := h
                  refine ⟨{ args := [.agg [.bs (LEN y46.fEntries) 5 (row GD (encSpatialEntry) y46.fEntries), .bs (LEN y46.fBuckets) 1 (row GD (encL LEN GD 1 (encI .i64)) y46.fBuckets)], .c (.v (.int .i64 a1)), .agg [.v (.int .i64 y48.fX0), .v (.int .i64 y48.fY0), .v (.int .i64 y48.fX1), .v (.int .i64 y48.fY1)]], o0 := [], r := .tup [.agg [.os 64000 0 (LEN y50.1.fEntries), .os 64002 0 (LEN y50.1.fBuckets)], .c (.v (.int .i64 y50.2))], o1 := [(64000, .arr .rw [] (LEN y50.1.fEntries) 5 (row GD (encSpatialEntry) y50.1.fEntries)), (64002, .arr .rw [] (LEN y50.1.fBuckets) 1 (row GD (oncL LEN GD 1 (encI .i64)) y50.1.fBuckets))], fl := true, σ := [], τ := [(64000, 5696), (64002, 5698)] }, hf_impl_InsertEntry _ _ _ _ hy51, ⟨les_cons (le_agg ⟨give_os (pl_encSpatialEntry) rfl rfl rfl, give_osD (fun _ _ => rfl) (fun _ _ => rfl) rfl rfl rfl, trivial⟩) (les_cons (AV.le_refl _) (les_cons (AV.le_refl _) (les_nil))), trivial, rfl, rfl, rfl, rfl, ⟨fun h => absurd (show (64000 : Nat) % 2 = 1 from h) (by decide), fun h => absurd (show (64002 : Nat) % 2 = 1 from h) (by decide), trivial⟩, rfl⟩, _, rfl, _, _, rfl, fun _ _ _ _ => rfl, _, _, rfl, fun _ _ _ _ => rfl, ?_⟩
                  cbv
                  replace h := of_bind h
                  obtain ⟨y52, hy53, h⟩ := h
                  obtain ⟨S56, hS57⟩ : ∃ S, S = (sparse 109 [(11, .c (.ptr 704 0)), (14, .c (.v (.int .i64 y42.1))), (100, .c (.v (.bool y52)))] [(704, .var [.os 2496 0 (LEN y13.1.fEntries), .os 2498 0 (LEN y13.1.fBuckets)]), (2496, .arr .rw [] (LEN y13.1.fEntries) 5 (row GD (encSpatialEntry) y42.2.1)), (2498, .arr .rw [] (LEN y13.1.fBuckets) 1 (row GD (oncL LEN GD 1 (encI .i64)) y42.2.2))]) := ⟨_, rfl⟩
                  refine ⟨S56, ?_, ?_⟩
                  · clear h
                    have h := hy53
                    clear hy53
                    cbv
                    replace h := of_bind h
                    obtain ⟨y59, hy60, h⟩ := h
                    refine ⟨{ args := [.agg [.bs (LEN y50.1.fEntries) 5 (row GD (encSpatialEntry) y50.1.fEntries), .bs (LEN y50.1.fBuckets) 1 (row GD (encL LEN GD 1 (encI .i64)) y50.1.fBuckets)], .agg [.bs (LEN y7.1.fEntries) 5 (row GD (encSpatialEntry) y7.1.fEntries), .bs (LEN y7.1.fBuckets) 1 (row GD (encL LEN GD 1 (encI .i64)) y7.1.fBuckets)]], o0 := [], r := .c (.v (.bool y59)), o1 := [], fl := true, σ := [], τ := [] }, hf_laws_eqSpatialIndex _ _ _ hy60, ⟨les_cons (le_agg ⟨give_os (pl_encSpatialEntry) rfl rfl rfl, give_osD (fun _ _ => rfl) (fun _ _ => rfl) rfl rfl rfl, trivial⟩) (les_cons (le_agg ⟨give_os (pl_encSpatialEntry) rfl rfl rfl, give_osD (fun _ _ => rfl) (fun _ _ => rfl) rfl rfl rfl, trivial⟩) (les_nil)), trivial, rfl, rfl, rfl, rfl, trivial, rfl⟩, ?_⟩
                    cbv
                    refine fork (fun b61 => ?_) (fun b61 => ?_)
                    · replace h := of_br_t b61 h
                      cbv
                      injection h with h
                      subst h
                      subst hS57
                      show St.le _ _
                      exact le_sparse rfl ⟨AV.le_refl _, AV.le_refl _, AV.le_refl _, trivial⟩ ⟨rfl, ⟨fun hw => hw, fun c hc => (by cases hc), .inl rfl, rfl, rfl, fun i hi j hj => rfl⟩, ⟨fun hw => hw, fun c hc => (by cases hc), .inl rfl, rfl, rfl, fun i hi j hj => rfl⟩, trivial⟩ rfl
                    · replace h := of_br_f b61 h
                      cbv
                      injection h with h
                      subst h
                      subst hS57
                      show St.le _ _
                      exact le_sparse rfl ⟨AV.le_refl _, AV.le_refl _, AV.le_refl _, trivial⟩ ⟨rfl, ⟨fun hw => hw, fun c hc => (by cases hc), .inl rfl, rfl, rfl, fun i hi j hj => rfl⟩, ⟨fun hw => hw, fun c hc => (by cases hc), .inl rfl, rfl, rfl, fun i hi j hj => rfl⟩, trivial⟩ rfl
                  · clear hy53
                    subst hS57
                    replace h := of_let h
                    obtain ⟨w58, hw58, h⟩ := h
                    have hw58 : w58 = y52 := hw58
                    subst hw58
                    cbv
                    refine fork (fun b68 => ?_) (fun b68 => ?_)
                    · replace h := of_br_t b68 h
                      cbv
                      injection h with h
                      subst h
                      refine ⟨(sparse 109 [(6, .c (.v (.bool false)))] []), ?_, ?_⟩
                      · exact le_sparse rfl ⟨AV.le_refl _, trivial⟩ trivial rfl
                      · exact ⟨AV.le_refl _, trivial, rfl⟩
                    · replace h := of_br_f b68 h
                      cbv
                      replace h := of_bind h
                      obtain ⟨y62, hy63, h⟩ := h
                      replace h := of_req h
                      obtain ⟨c66, h⟩ := h
                      replace h := of_req h
                      obtain ⟨c67, h⟩ := h
                      refine ⟨{ args := [.agg [.bs (LEN y42.2.1) 5 (row GD (encSpatialEntry) y42.2.1), .bs (LEN y42.2.2) 1 (row GD (encL LEN GD 1 (encI .i64)) y42.2.2)], .c (.v (.int .i64 1))], o0 := [], r := .c (.v (.int .i64 y62)), o1 := [], fl := true, σ := [], τ := [] }, hf_laws_heldSpatialIndex _ _ _ hy63, ⟨les_cons (le_agg ⟨give_os (pl_encSpatialEntry) rfl rfl c66, give_osD (fun _ _ => rfl) (fun _ _ => rfl) rfl rfl c67, trivial⟩) (les_cons (AV.le_refl _) (les_nil)), trivial, rfl, rfl, rfl, rfl, trivial, rfl⟩, ?_⟩
                      cbv
                      refine fork (fun b65 => ?_) (fun b65 => ?_)
                      · replace h := of_br_t b65 h
                        cbv
                        injection h with h
                        subst h
                        refine ⟨(sparse 109 [(6, .c (.v (.bool false)))] []), ?_, ?_⟩
                        · exact le_sparse rfl ⟨AV.le_refl _, trivial⟩ trivial rfl
                        · exact ⟨AV.le_refl _, trivial, rfl⟩
                      · replace h := of_br_f b65 h
                        cbv
                        refine fork (fun b64 => ?_) (fun b64 => ?_)
                        · replace h := of_br_t b64 h
                          cbv
                          injection h with h
                          subst h
                          refine ⟨(sparse 109 [(6, .c (.v (.bool false)))] []), ?_, ?_⟩
                          · exact le_sparse rfl ⟨AV.le_refl _, trivial⟩ trivial rfl
                          · exact ⟨AV.le_refl _, trivial, rfl⟩
                        · replace h := of_br_f b64 h
                          cbv
                          injection h with h
                          subst h
                          refine ⟨(sparse 109 [(6, .c (.v (.bool true)))] []), ?_, ?_⟩
                          · exact le_sparse rfl ⟨AV.le_refl _, trivial⟩ trivial rfl
                          · exact ⟨AV.le_refl _, trivial, rfl⟩
theorem op_2 (d : Nat) : Opens T (d + 1) 2 (clI .i64) (wfI .i64) := op_int .i64 (show T 2 = some d2 from rfl) rfl
def clRect (e : TRect) : List AC := clI .i64 e.fX0 ++ (clI .i64 e.fY0 ++ (clI .i64 e.fX1 ++ (clI .i64 e.fY1 ++ ([]))))
def wfRect (e : TRect) : Prop := wfI .i64 e.fX0 ∧ wfI .i64 e.fY0 ∧ wfI .i64 e.fX1 ∧ wfI .i64 e.fY1
theorem op_35 (d : Nat) : Opens T (d + 2) 35 (clRect) (wfRect) := by
  intro cs hs
  obtain ⟨a0, b0, rfl, h0, a1, b1, rfl, h1, a2, b2, rfl, h2, a3, b3, rfl, h3, rfl⟩ := hs
  obtain ⟨e0, w0, r0⟩ := op_2 (d + 0) a0 h0
  obtain ⟨e1, w1, r1⟩ := op_2 (d + 0) a1 h1
  obtain ⟨e2, w2, r2⟩ := op_2 (d + 0) a2 h2
  obtain ⟨e3, w3, r3⟩ := op_2 (d + 0) a3 h3
  exact ⟨TRect.mk e0 e1 e2 e3, ⟨w0, w1, w2, w3⟩, rlist_app r0 (rlist_app r1 (rlist_app r2 (rlist_app r3 (trivial))))⟩
def clSpatialEntry (e : TSpatialEntry) : List AC := clI .i64 e.fId ++ (clRect e.fBox ++ ([]))
def wfSpatialEntry (e : TSpatialEntry) : Prop := wfI .i64 e.fId ∧ wfRect e.fBox
theorem op_191 (d : Nat) : Opens T (d + 3) 191 (clSpatialEntry) (wfSpatialEntry) := by
  intro cs hs
  obtain ⟨a0, b0, rfl, h0, a1, b1, rfl, h1, rfl⟩ := hs
  obtain ⟨e0, w0, r0⟩ := op_2 (d + 1) a0 h0
  obtain ⟨e1, w1, r1⟩ := op_35 (d + 0) a1 h1
  exact ⟨TSpatialEntry.mk e0 e1, ⟨w0, w1⟩, rlist_app r0 (rlist_app r1 (trivial))⟩
theorem op_70 (d : Nat) : Opens T (d + 4) 70 (clL 5 (encSpatialEntry)) (wfL wfSpatialEntry) := op_slice (e := 191) (sz := 5) (show T 70 = some d70 from rfl) rfl (show T 191 = some d191 from rfl) rfl (fun x j hj => by match j, hj with | 0, _ => rfl | 1, _ => rfl | 2, _ => rfl | 3, _ => rfl | 4, _ => rfl | (j_ + 5), h_ => exact absurd h_ (by omega)) (op_191 d)
theorem op_23 (d : Nat) : Opens T (d + 2) 23 (clL 1 (encI .i64)) (wfL (wfI .i64)) := op_slice (e := 2) (sz := 1) (show T 23 = some d23 from rfl) rfl (show T 2 = some d2 from rfl) rfl (fun x j hj => by match j, hj with | 0, _ => rfl | (j_ + 1), h_ => exact absurd h_ (by omega)) (op_2 d)
theorem op_71 (d : Nat) : Opens T (d + 3) 71 (clL 1 (encL len gd 1 (encI .i64))) (wfL (wfL (wfI .i64))) := op_slice (e := 23) (sz := 1) (show T 71 = some d71 from rfl) rfl (show T 23 = some d23 from rfl) rfl (fun x j hj => by match j, hj with | 0, _ => rfl | (j_ + 1), h_ => exact absurd h_ (by omega)) (op_23 d)
def clSpatialIndex (e : TSpatialIndex) : List AC := clL 5 (encSpatialEntry) e.fEntries ++ (clL 1 (encL len gd 1 (encI .i64)) e.fBuckets ++ ([]))
def wfSpatialIndex (e : TSpatialIndex) : Prop := wfL wfSpatialEntry e.fEntries ∧ wfL (wfL (wfI .i64)) e.fBuckets
theorem op_73 (d : Nat) : Opens T (d + 5) 73 (clSpatialIndex) (wfSpatialIndex) := by
  intro cs hs
  obtain ⟨a0, b0, rfl, h0, a1, b1, rfl, h1, rfl⟩ := hs
  obtain ⟨e0, w0, r0⟩ := op_70 (d + 0) a0 h0
  obtain ⟨e1, w1, r1⟩ := op_71 (d + 1) a1 h1
  exact ⟨TSpatialIndex.mk e0 e1, ⟨w0, w1⟩, rlist_app r0 (rlist_app r1 (trivial))⟩
theorem open_73 {H : Type} {enc : TypeId × Value → H} {W : World} {spare : Nat → Bool} {held : Bool} {r : Reach} {base : Nat} {v : Value} {x : DataW H} {ps : List MemPlace}
    (hv : Value.okWide Try.prog W r base 73 v) (h : DataW.Trod enc Try.prog W 0 spare held 73 v x ps) : ∃ e : TSpatialIndex, wfSpatialIndex e ∧ RelV (RelI (fun b => b < W.heap.size) W) (.agg [.bs (len e.fEntries) 5 (row gd (encSpatialEntry) e.fEntries), .bs (len e.fBuckets) 1 (row gd (encL len gd 1 (encI .i64)) e.fBuckets)]) v :=
  opened_agg tok (op_73 0) (by kernel_rfl) (tok 73 d73 rfl).1 hv h
theorem open_35 {H : Type} {enc : TypeId × Value → H} {W : World} {spare : Nat → Bool} {held : Bool} {r : Reach} {base : Nat} {v : Value} {x : DataW H} {ps : List MemPlace}
    (hv : Value.okWide Try.prog W r base 35 v) (h : DataW.Trod enc Try.prog W 0 spare held 35 v x ps) : ∃ e : TRect, wfRect e ∧ RelV (RelI (fun b => b < W.heap.size) W) (.agg [.v (.int .i64 e.fX0), .v (.int .i64 e.fY0), .v (.int .i64 e.fX1), .v (.int .i64 e.fY1)]) v :=
  opened_agg tok (op_35 0) (by kernel_rfl) (tok 35 d35 rfl).1 hv h
end Go.Proofs.Ytnmfighfidaglaa.AM
