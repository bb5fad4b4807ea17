/-
  What the functions that the law reaches compute, and that they do. No condition.
-/
import Derived.Test.YtmdlnjeppemipaaAmBX
import Derived.Test.YtmdlnjeppemipaaAmE
namespace Go.Proofs.Ytmdlnjeppemipaa.AM
open Go Go.Proofs Go.RowKit
set_option linter.unusedVariables false
set_option linter.unusedSimpArgs false
set_option maxRecDepth 100000

/-- laws.eqShape -/
noncomputable def F_laws_eqShape (a0 : TShape) (a1 : TShape) : Option (Bool) :=
  br (std.not (std.eq a0.fLayer a1.fLayer))
  (some false)
  ((F_laws_eqRect a0.fBox a1.fBox).bind fun y1 =>
  br (!(y1))
  (some false)
  (some true))
theorem run_laws_eqShape (a0 : TShape) (a1 : TShape) (r : Bool) (h : F_laws_eqShape a0 a1 = some r) : Fun Try.prog 77 [.agg [.v (.int .i64 a0.fLayer), .v (.int .i64 a0.fBox.fX0), .v (.int .i64 a0.fBox.fY0), .v (.int .i64 a0.fBox.fX1), .v (.int .i64 a0.fBox.fY1)], .agg [.v (.int .i64 a1.fLayer), .v (.int .i64 a1.fBox.fX0), .v (.int .i64 a1.fBox.fY0), .v (.int .i64 a1.fBox.fX1), .v (.int .i64 a1.fBox.fY1)]] [] (.c (.v (.bool r))) [] true := by
  refine Fun.of_wp (oneOf []) tok mixed Try.func77 (by kernel_rfl) rfl Try.ntmps77 rfl trivial (fun _ => ⟨trivial, trivial⟩) ?_
  unfold F_laws_eqShape at h
  have hf_laws_eqRect := @run_laws_eqRect
  generalize hLEN : @len = LEN at *
  generalize hGD : @gd = GD at *
  generalize hA : std = A at *
  generalize hP : Try.prog = P at *
  cbv
  refine fork (fun b4 => ?_) (fun b4 => ?_)
  · replace h := of_br_t b4 h
    cbv
    injection h with h
    subst h
    refine ⟨(sparse 16 [(4, .c (.v (.bool false)))] []), ?_, ?_⟩
    · exact le_sparse rfl ⟨AV.le_refl _, trivial⟩ trivial rfl
    · exact ⟨AV.le_refl _, trivial, rfl⟩
  · replace h := of_br_f b4 h
    cbv
    replace h := of_bind h
    obtain ⟨y1, hy2, h⟩ := h
    refine ⟨{ args := [.agg [.v (.int .i64 a0.fBox.fX0), .v (.int .i64 a0.fBox.fY0), .v (.int .i64 a0.fBox.fX1), .v (.int .i64 a0.fBox.fY1)], .agg [.v (.int .i64 a1.fBox.fX0), .v (.int .i64 a1.fBox.fY0), .v (.int .i64 a1.fBox.fX1), .v (.int .i64 a1.fBox.fY1)]], o0 := [], r := .c (.v (.bool y1)), o1 := [], fl := true, σ := [], τ := [] }, hf_laws_eqRect _ _ _ hy2, ⟨les_cons (AV.le_refl _) (les_cons (AV.le_refl _) (les_nil)), trivial, rfl, rfl, rfl, rfl, trivial, rfl⟩, ?_⟩
    cbv
    refine fork (fun b3 => ?_) (fun b3 => ?_)
    · replace h := of_br_t b3 h
      cbv
      injection h with h
      subst h
      refine ⟨(sparse 16 [(4, .c (.v (.bool false)))] []), ?_, ?_⟩
      · exact le_sparse rfl ⟨AV.le_refl _, trivial⟩ trivial rfl
      · exact ⟨AV.le_refl _, trivial, rfl⟩
    · replace h := of_br_f b3 h
      cbv
      injection h with h
      subst h
      refine ⟨(sparse 16 [(4, .c (.v (.bool true)))] []), ?_, ?_⟩
      · exact le_sparse rfl ⟨AV.le_refl _, trivial⟩ trivial rfl
      · exact ⟨AV.le_refl _, trivial, rfl⟩

noncomputable def L_laws_eqShapeS_x2 (a0 : List TShape) (a1 : List TShape) : (Int) → Option ((Int) ⊕ ((Unit) ⊕ (Unit))) := fun x2 =>
  letO x2 fun v1 =>
  br (std.lt v1 (std.ofN (len a0)))
  (req (std.inR v1 (len a0)) <|
  req (std.inR v1 (len a1)) <|
  (F_laws_eqShape (gd a0 (std.toN v1)) (gd a1 (std.toN v1))).bind fun y16 =>
  br (!(y16))
  (some (.inr (.inl ())))
  (some (.inl (std.add .i64 v1 1))))
  (some (.inr (.inr ())))
/-- laws.eqShapeS -/
noncomputable def F_laws_eqShapeS (a0 : List TShape) (a1 : List TShape) : Option (Bool) :=
  br (std.not (std.eq (std.ofN (len a0)) (std.ofN (len a1))))
  (some false)
  ((whileP (σ := Int) (ρ := (Unit) ⊕ (Unit)) (L_laws_eqShapeS_x2 a0 a1) 0).bind fun y3 =>
  (match y3 with
    | .inl y3k0 => (
        some false)
    | .inr y3m0 =>
        some true))
theorem run_laws_eqShapeS (a0 : List TShape) (a1 : List TShape) (r : Bool) (h : F_laws_eqShapeS a0 a1 = some r) : Fun Try.prog 151 [.c (.bs (len a0) 5 (row gd (encShape) a0)), .c (.bs (len a1) 5 (row gd (encShape) a1))] [] (.c (.v (.bool r))) [] true := by
  refine Fun.of_wp (oneOf []) tok mixed Try.func151 (by kernel_rfl) rfl Try.ntmps151 rfl trivial (fun _ => ⟨trivial, trivial⟩) ?_
  unfold F_laws_eqShapeS at h
  unfold L_laws_eqShapeS_x2 at h
  have hf_laws_eqShape := @run_laws_eqShape
  generalize hLEN : @len = LEN at *
  generalize hGD : @gd = GD at *
  generalize hA : std = A at *
  generalize hP : Try.prog = P at *
  cbv
  refine fork (fun b20 => ?_) (fun b20 => ?_)
  · replace h := of_br_t b20 h
    cbv
    injection h with h
    subst h
    refine ⟨(sparse 27 [(4, .c (.v (.bool false)))] []), ?_, ?_⟩
    · exact le_sparse rfl ⟨AV.le_refl _, trivial⟩ trivial rfl
    · exact ⟨AV.le_refl _, trivial, rfl⟩
  · replace h := of_br_f b20 h
    cbv
    replace h := of_bind h
    obtain ⟨y3, hr4, hN5⟩ := h
    refine loop_cut hr4 (fun x => (sparse 27 [(0, .c (.bs (LEN a0) 5 (row GD (encShape) a0))), (1, .c (.bs (LEN a1) 5 (row GD (encShape) a1))), (5, .c (.v (.int .i64 x)))] [])) ?_ (fun y e s => (match y with | .inl w => e = .ret ∧ s.le (sparse 27 [(4, .c (.v (.bool false)))] []) | .inr w0 => (fun (w : Unit) => e = .exit 0 ∧ s.le (sparse 27 [] [])) w0)) ?_ ?_
    · clear hr4 hN5
      show St.le _ _
      exact le_sparse rfl ⟨AV.le_refl _, AV.le_refl _, AV.le_refl _, trivial⟩ trivial rfl
    · clear hr4 hN5
      intro x z9 h K7 hK8 hY6
      replace h := of_let h
      obtain ⟨v1, hv1, h⟩ := h
      have hv1 : v1 = x := hv1
      subst hv1
      cbv
      refine fork (fun b19 => ?_) (fun b19 => ?_)
      · replace h := of_br_t b19 h
        cbv
        replace h := of_req h
        obtain ⟨c14, h⟩ := h
        refine ⟨⟨c14, trivial⟩, ?_⟩
        replace h := of_req h
        obtain ⟨c15, h⟩ := h
        refine ⟨⟨c15, trivial⟩, ?_⟩
        replace h := of_bind h
        obtain ⟨y16, hy17, h⟩ := h
        refine ⟨{ args := [.agg [.v (.int .i64 (GD a0 (A.toN v1)).fLayer), .v (.int .i64 (GD a0 (A.toN v1)).fBox.fX0), .v (.int .i64 (GD a0 (A.toN v1)).fBox.fY0), .v (.int .i64 (GD a0 (A.toN v1)).fBox.fX1), .v (.int .i64 (GD a0 (A.toN v1)).fBox.fY1)], .agg [.v (.int .i64 (GD a1 (A.toN v1)).fLayer), .v (.int .i64 (GD a1 (A.toN v1)).fBox.fX0), .v (.int .i64 (GD a1 (A.toN v1)).fBox.fY0), .v (.int .i64 (GD a1 (A.toN v1)).fBox.fX1), .v (.int .i64 (GD a1 (A.toN v1)).fBox.fY1)]], o0 := [], r := .c (.v (.bool y16)), o1 := [], fl := true, σ := [], τ := [] }, hf_laws_eqShape _ _ _ hy17, ⟨les_cons (AV.le_refl _) (les_cons (AV.le_refl _) (les_nil)), trivial, rfl, rfl, rfl, rfl, trivial, rfl⟩, ?_⟩
        cbv
        refine fork (fun b18 => ?_) (fun b18 => ?_)
        · replace h := of_br_t b18 h
          cbv
          injection h with h
          refine hY6 _ h.symm _ _ (And.intro rfl ?_) (by intro hh; cases hh)
          exact le_sparse rfl ⟨AV.le_refl _, trivial⟩ trivial rfl
        · replace h := of_br_f b18 h
          cbv
          injection h with h
          refine hK8 _ h.symm _ ?_
          exact le_sparse rfl ⟨AV.le_refl _, AV.le_refl _, AV.le_refl _, trivial⟩ trivial rfl
      · replace h := of_br_f b19 h
        cbv
        injection h with h
        refine hY6 _ h.symm _ _ (And.intro rfl ?_) (by intro hh; cases hh)
        exact le_sparse rfl trivial trivial rfl
    · clear hr4
      have h := hN5
      clear hN5
      intro e12 s13 q11 hne
      rcases y3 with y3k0 | y3m0
      · replace h := h
        obtain ⟨rfl, q11⟩ := q11
        cbv
        injection h with h
        subst h
        refine ⟨(sparse 27 [(4, .c (.v (.bool false)))] []), ?_, ?_⟩
        · refine St.le_trans q11 ?_
          exact le_sparse rfl ⟨AV.le_refl _, trivial⟩ trivial rfl
        · exact ⟨AV.le_refl _, trivial, rfl⟩
      · obtain ⟨rfl, q11⟩ := q11
        cbv
        refine ⟨_, q11, ?_⟩
        cbv
        injection h with h
        subst h
        refine ⟨(sparse 27 [(4, .c (.v (.bool true)))] []), ?_, ?_⟩
        · exact le_sparse rfl ⟨AV.le_refl _, trivial⟩ trivial rfl
        · exact ⟨AV.le_refl _, trivial, rfl⟩

/-- laws.eqPoint -/
noncomputable def F_laws_eqPoint (a0 : TPoint) (a1 : TPoint) : Option (Bool) :=
  br (std.not (std.eq a0.fX a1.fX))
  (some false)
  (br (std.not (std.eq a0.fY a1.fY))
  (some false)
  (some true))
theorem run_laws_eqPoint (a0 : TPoint) (a1 : TPoint) (r : Bool) (h : F_laws_eqPoint a0 a1 = some r) : Fun Try.prog 122 [.agg [.v (.int .i64 a0.fX), .v (.int .i64 a0.fY)], .agg [.v (.int .i64 a1.fX), .v (.int .i64 a1.fY)]] [] (.c (.v (.bool r))) [] true := by
  refine Fun.of_wp (oneOf []) tok mixed Try.func122 (by kernel_rfl) rfl Try.ntmps122 rfl trivial (fun _ => ⟨trivial, trivial⟩) ?_
  unfold F_laws_eqPoint at h
  generalize hLEN : @len = LEN at *
  generalize hGD : @gd = GD at *
  generalize hA : std = A at *
  generalize hP : Try.prog = P at *
  cbv
  refine fork (fun b2 => ?_) (fun b2 => ?_)
  · replace h := of_br_t b2 h
    cbv
    injection h with h
    subst h
    refine ⟨(sparse 15 [(4, .c (.v (.bool false)))] []), ?_, ?_⟩
    · exact le_sparse rfl ⟨AV.le_refl _, trivial⟩ trivial rfl
    · exact ⟨AV.le_refl _, trivial, rfl⟩
  · replace h := of_br_f b2 h
    cbv
    refine fork (fun b1 => ?_) (fun b1 => ?_)
    · replace h := of_br_t b1 h
      cbv
      injection h with h
      subst h
      refine ⟨(sparse 15 [(4, .c (.v (.bool false)))] []), ?_, ?_⟩
      · exact le_sparse rfl ⟨AV.le_refl _, trivial⟩ trivial rfl
      · exact ⟨AV.le_refl _, trivial, rfl⟩
    · replace h := of_br_f b1 h
      cbv
      injection h with h
      subst h
      refine ⟨(sparse 15 [(4, .c (.v (.bool true)))] []), ?_, ?_⟩
      · exact le_sparse rfl ⟨AV.le_refl _, trivial⟩ trivial rfl
      · exact ⟨AV.le_refl _, trivial, rfl⟩

/-- laws.eqLabel -/
noncomputable def F_laws_eqLabel (a0 : TLabel) (a1 : TLabel) : Option (Bool) :=
  br (std.not (std.eq a0.fLayer a1.fLayer))
  (some false)
  ((F_laws_eqPoint a0.fAt a1.fAt).bind fun y1 =>
  br (!(y1))
  (some false)
  (br (std.not (std.seq a0.fName a1.fName))
  (some false)
  (some true)))
theorem run_laws_eqLabel (a0 : TLabel) (a1 : TLabel) (r : Bool) (h : F_laws_eqLabel a0 a1 = some r) : Fun Try.prog 78 [.agg [.v (.int .i64 a0.fLayer), .v (.int .i64 a0.fAt.fX), .v (.int .i64 a0.fAt.fY), .v (.string a0.fName)], .agg [.v (.int .i64 a1.fLayer), .v (.int .i64 a1.fAt.fX), .v (.int .i64 a1.fAt.fY), .v (.string a1.fName)]] [] (.c (.v (.bool r))) [] true := by
  refine Fun.of_wp (oneOf []) tok mixed Try.func78 (by kernel_rfl) rfl Try.ntmps78 rfl trivial (fun _ => ⟨trivial, trivial⟩) ?_
  unfold F_laws_eqLabel at h
  have hf_laws_eqPoint := @run_laws_eqPoint
  generalize hLEN : @len = LEN at *
  generalize hGD : @gd = GD at *
  generalize hA : std = A at *
  generalize hP : Try.prog = P at *
  cbv
  refine fork (fun b5 => ?_) (fun b5 => ?_)
  · replace h := of_br_t b5 h
    cbv
    injection h with h
    subst h
    refine ⟨(sparse 21 [(4, .c (.v (.bool false)))] []), ?_, ?_⟩
    · exact le_sparse rfl ⟨AV.le_refl _, trivial⟩ trivial rfl
    · exact ⟨AV.le_refl _, trivial, rfl⟩
  · replace h := of_br_f b5 h
    cbv
    replace h := of_bind h
    obtain ⟨y1, hy2, h⟩ := h
    refine ⟨{ args := [.agg [.v (.int .i64 a0.fAt.fX), .v (.int .i64 a0.fAt.fY)], .agg [.v (.int .i64 a1.fAt.fX), .v (.int .i64 a1.fAt.fY)]], o0 := [], r := .c (.v (.bool y1)), o1 := [], fl := true, σ := [], τ := [] }, hf_laws_eqPoint _ _ _ hy2, ⟨les_cons (AV.le_refl _) (les_cons (AV.le_refl _) (les_nil)), trivial, rfl, rfl, rfl, rfl, trivial, rfl⟩, ?_⟩
    cbv
    refine fork (fun b4 => ?_) (fun b4 => ?_)
    · replace h := of_br_t b4 h
      cbv
      injection h with h
      subst h
      refine ⟨(sparse 21 [(4, .c (.v (.bool false)))] []), ?_, ?_⟩
      · exact le_sparse rfl ⟨AV.le_refl _, trivial⟩ trivial rfl
      · exact ⟨AV.le_refl _, trivial, rfl⟩
    · replace h := of_br_f b4 h
      cbv
      refine fork (fun b3 => ?_) (fun b3 => ?_)
      · replace h := of_br_t b3 h
        cbv
        injection h with h
        subst h
        refine ⟨(sparse 21 [(4, .c (.v (.bool false)))] []), ?_, ?_⟩
        · exact le_sparse rfl ⟨AV.le_refl _, trivial⟩ trivial rfl
        · exact ⟨AV.le_refl _, trivial, rfl⟩
      · replace h := of_br_f b3 h
        cbv
        injection h with h
        subst h
        refine ⟨(sparse 21 [(4, .c (.v (.bool true)))] []), ?_, ?_⟩
        · exact le_sparse rfl ⟨AV.le_refl _, trivial⟩ trivial rfl
        · exact ⟨AV.le_refl _, trivial, rfl⟩

noncomputable def L_laws_eqLabelS_x2 (a0 : List TLabel) (a1 : List TLabel) : (Int) → Option ((Int) ⊕ ((Unit) ⊕ (Unit))) := fun x2 =>
  letO x2 fun v1 =>
  br (std.lt v1 (std.ofN (len a0)))
  (req (std.inR v1 (len a0)) <|
  req (std.inR v1 (len a1)) <|
  (F_laws_eqLabel (gd a0 (std.toN v1)) (gd a1 (std.toN v1))).bind fun y16 =>
  br (!(y16))
  (some (.inr (.inl ())))
  (some (.inl (std.add .i64 v1 1))))
  (some (.inr (.inr ())))
/-- laws.eqLabelS -/
noncomputable def F_laws_eqLabelS (a0 : List TLabel) (a1 : List TLabel) : Option (Bool) :=
  br (std.not (std.eq (std.ofN (len a0)) (std.ofN (len a1))))
  (some false)
  ((whileP (σ := Int) (ρ := (Unit) ⊕ (Unit)) (L_laws_eqLabelS_x2 a0 a1) 0).bind fun y3 =>
  (match y3 with
    | .inl y3k0 => (
        some false)
    | .inr y3m0 =>
        some true))
theorem run_laws_eqLabelS (a0 : List TLabel) (a1 : List TLabel) (r : Bool) (h : F_laws_eqLabelS a0 a1 = some r) : Fun Try.prog 152 [.c (.bs (len a0) 4 (row gd (encLabel) a0)), .c (.bs (len a1) 4 (row gd (encLabel) a1))] [] (.c (.v (.bool r))) [] true := by
  refine Fun.of_wp (oneOf []) tok mixed Try.func152 (by kernel_rfl) rfl Try.ntmps152 rfl trivial (fun _ => ⟨trivial, trivial⟩) ?_
  unfold F_laws_eqLabelS at h
  unfold L_laws_eqLabelS_x2 at h
  have hf_laws_eqLabel := @run_laws_eqLabel
  generalize hLEN : @len = LEN at *
  generalize hGD : @gd = GD at *
  generalize hA : std = A at *
  generalize hP : Try.prog = P at *
  cbv
  refine fork (fun b20 => ?_) (fun b20 => ?_)
  · replace h := of_br_t b20 h
    cbv
    injection h with h
    subst h
    refine ⟨(sparse 27 [(4, .c (.v (.bool false)))] []), ?_, ?_⟩
    · exact le_sparse rfl ⟨AV.le_refl _, trivial⟩ trivial rfl
    · exact ⟨AV.le_refl _, trivial, rfl⟩
  · replace h := of_br_f b20 h
    cbv
    replace h := of_bind h
    obtain ⟨y3, hr4, hN5⟩ := h
    refine loop_cut hr4 (fun x => (sparse 27 [(0, .c (.bs (LEN a0) 4 (row GD (encLabel) a0))), (1, .c (.bs (LEN a1) 4 (row GD (encLabel) a1))), (5, .c (.v (.int .i64 x)))] [])) ?_ (fun y e s => (match y with | .inl w => e = .ret ∧ s.le (sparse 27 [(4, .c (.v (.bool false)))] []) | .inr w0 => (fun (w : Unit) => e = .exit 0 ∧ s.le (sparse 27 [] [])) w0)) ?_ ?_
    · clear hr4 hN5
      show St.le _ _
      exact le_sparse rfl ⟨AV.le_refl _, AV.le_refl _, AV.le_refl _, trivial⟩ trivial rfl
    · clear hr4 hN5
      intro x z9 h K7 hK8 hY6
      replace h := of_let h
      obtain ⟨v1, hv1, h⟩ := h
      have hv1 : v1 = x := hv1
      subst hv1
      cbv
      refine fork (fun b19 => ?_) (fun b19 => ?_)
      · replace h := of_br_t b19 h
        cbv
        replace h := of_req h
        obtain ⟨c14, h⟩ := h
        refine ⟨⟨c14, trivial⟩, ?_⟩
        replace h := of_req h
        obtain ⟨c15, h⟩ := h
        refine ⟨⟨c15, trivial⟩, ?_⟩
        replace h := of_bind h
        obtain ⟨y16, hy17, h⟩ := h
        refine ⟨{ args := [.agg [.v (.int .i64 (GD a0 (A.toN v1)).fLayer), .v (.int .i64 (GD a0 (A.toN v1)).fAt.fX), .v (.int .i64 (GD a0 (A.toN v1)).fAt.fY), .v (.string (GD a0 (A.toN v1)).fName)], .agg [.v (.int .i64 (GD a1 (A.toN v1)).fLayer), .v (.int .i64 (GD a1 (A.toN v1)).fAt.fX), .v (.int .i64 (GD a1 (A.toN v1)).fAt.fY), .v (.string (GD a1 (A.toN v1)).fName)]], o0 := [], r := .c (.v (.bool y16)), o1 := [], fl := true, σ := [], τ := [] }, hf_laws_eqLabel _ _ _ hy17, ⟨les_cons (AV.le_refl _) (les_cons (AV.le_refl _) (les_nil)), trivial, rfl, rfl, rfl, rfl, trivial, rfl⟩, ?_⟩
        cbv
        refine fork (fun b18 => ?_) (fun b18 => ?_)
        · replace h := of_br_t b18 h
          cbv
          injection h with h
          refine hY6 _ h.symm _ _ (And.intro rfl ?_) (by intro hh; cases hh)
          exact le_sparse rfl ⟨AV.le_refl _, trivial⟩ trivial rfl
        · replace h := of_br_f b18 h
          cbv
          injection h with h
          refine hK8 _ h.symm _ ?_
          exact le_sparse rfl ⟨AV.le_refl _, AV.le_refl _, AV.le_refl _, trivial⟩ trivial rfl
      · replace h := of_br_f b19 h
        cbv
        injection h with h
        refine hY6 _ h.symm _ _ (And.intro rfl ?_) (by intro hh; cases hh)
        exact le_sparse rfl trivial trivial rfl
    · clear hr4
      have h := hN5
      clear hN5
      intro e12 s13 q11 hne
      rcases y3 with y3k0 | y3m0
      · replace h := h
        obtain ⟨rfl, q11⟩ := q11
        cbv
        injection h with h
        subst h
        refine ⟨(sparse 27 [(4, .c (.v (.bool false)))] []), ?_, ?_⟩
        · refine St.le_trans q11 ?_
          exact le_sparse rfl ⟨AV.le_refl _, trivial⟩ trivial rfl
        · exact ⟨AV.le_refl _, trivial, rfl⟩
      · obtain ⟨rfl, q11⟩ := q11
        cbv
        refine ⟨_, q11, ?_⟩
        cbv
        injection h with h
        subst h
        refine ⟨(sparse 27 [(4, .c (.v (.bool true)))] []), ?_, ?_⟩
        · exact le_sparse rfl ⟨AV.le_refl _, trivial⟩ trivial rfl
        · exact ⟨AV.le_refl _, trivial, rfl⟩

/-- laws.eqTransform -/
noncomputable def F_laws_eqTransform (a0 : TTransform) (a1 : TTransform) : Option (Bool) :=
  br (std.not (std.eq a0.fOrientation a1.fOrientation))
  (some false)
  (br (std.not (std.eq a0.fX a1.fX))
  (some false)
  (br (std.not (std.eq a0.fY a1.fY))
  (some false)
  (some true)))
theorem run_laws_eqTransform (a0 : TTransform) (a1 : TTransform) (r : Bool) (h : F_laws_eqTransform a0 a1 = some r) : Fun Try.prog 123 [.agg [.v (.int .i64 a0.fOrientation), .v (.int .i64 a0.fX), .v (.int .i64 a0.fY)], .agg [.v (.int .i64 a1.fOrientation), .v (.int .i64 a1.fX), .v (.int .i64 a1.fY)]] [] (.c (.v (.bool r))) [] true := by
  refine Fun.of_wp (oneOf []) tok mixed Try.func123 (by kernel_rfl) rfl Try.ntmps123 rfl trivial (fun _ => ⟨trivial, trivial⟩) ?_
  unfold F_laws_eqTransform at h
  generalize hLEN : @len = LEN at *
  generalize hGD : @gd = GD at *
  generalize hA : std = A at *
  generalize hP : Try.prog = P at *
  cbv
  refine fork (fun b3 => ?_) (fun b3 => ?_)
  · replace h := of_br_t b3 h
    cbv
    injection h with h
    subst h
    refine ⟨(sparse 20 [(4, .c (.v (.bool false)))] []), ?_, ?_⟩
    · exact le_sparse rfl ⟨AV.le_refl _, trivial⟩ trivial rfl
    · exact ⟨AV.le_refl _, trivial, rfl⟩
  · replace h := of_br_f b3 h
    cbv
    refine fork (fun b2 => ?_) (fun b2 => ?_)
    · replace h := of_br_t b2 h
      cbv
      injection h with h
      subst h
      refine ⟨(sparse 20 [(4, .c (.v (.bool false)))] []), ?_, ?_⟩
      · exact le_sparse rfl ⟨AV.le_refl _, trivial⟩ trivial rfl
      · exact ⟨AV.le_refl _, trivial, rfl⟩
    · replace h := of_br_f b2 h
      cbv
      refine fork (fun b1 => ?_) (fun b1 => ?_)
      · replace h := of_br_t b1 h
        cbv
        injection h with h
        subst h
        refine ⟨(sparse 20 [(4, .c (.v (.bool false)))] []), ?_, ?_⟩
        · exact le_sparse rfl ⟨AV.le_refl _, trivial⟩ trivial rfl
        · exact ⟨AV.le_refl _, trivial, rfl⟩
      · replace h := of_br_f b1 h
        cbv
        injection h with h
        subst h
        refine ⟨(sparse 20 [(4, .c (.v (.bool true)))] []), ?_, ?_⟩
        · exact le_sparse rfl ⟨AV.le_refl _, trivial⟩ trivial rfl
        · exact ⟨AV.le_refl _, trivial, rfl⟩
/-- laws.eqInstance -/
noncomputable def F_laws_eqInstance (a0 : TInstance) (a1 : TInstance) : Option (Bool) :=
  br (std.not (std.eq a0.fCell a1.fCell))
  (some false)
  ((F_laws_eqTransform a0.fPlace a1.fPlace).bind fun y1 =>
  br (!(y1))
  (some false)
  (br (std.not (std.eq a0.fColumns a1.fColumns))
  (some false)
  (br (std.not (std.eq a0.fRows a1.fRows))
  (some false)
  (br (std.not (std.eq a0.fStepX a1.fStepX))
  (some false)
  (br (std.not (std.eq a0.fStepY a1.fStepY))
  (some false)
  (some true))))))
theorem run_laws_eqInstance (a0 : TInstance) (a1 : TInstance) (r : Bool) (h : F_laws_eqInstance a0 a1 = some r) : Fun Try.prog 79 [.agg [.v (.int .i64 a0.fCell), .v (.int .i64 a0.fPlace.fOrientation), .v (.int .i64 a0.fPlace.fX), .v (.int .i64 a0.fPlace.fY), .v (.int .i64 a0.fColumns), .v (.int .i64 a0.fRows), .v (.int .i64 a0.fStepX), .v (.int .i64 a0.fStepY)], .agg [.v (.int .i64 a1.fCell), .v (.int .i64 a1.fPlace.fOrientation), .v (.int .i64 a1.fPlace.fX), .v (.int .i64 a1.fPlace.fY), .v (.int .i64 a1.fColumns), .v (.int .i64 a1.fRows), .v (.int .i64 a1.fStepX), .v (.int .i64 a1.fStepY)]] [] (.c (.v (.bool r))) [] true := by
  refine Fun.of_wp (oneOf []) tok mixed Try.func79 (by kernel_rfl) rfl Try.ntmps79 rfl trivial (fun _ => ⟨trivial, trivial⟩) ?_
  unfold F_laws_eqInstance at h
  have hf_laws_eqTransform := @run_laws_eqTransform
  generalize hLEN : @len = LEN at *
  generalize hGD : @gd = GD at *
  generalize hA : std = A at *
  generalize hP : Try.prog = P at *
  cbv
  refine fork (fun b8 => ?_) (fun b8 => ?_)
  · replace h := of_br_t b8 h
    cbv
    injection h with h
    subst h
    refine ⟨(sparse 36 [(4, .c (.v (.bool false)))] []), ?_, ?_⟩
    · exact le_sparse rfl ⟨AV.le_refl _, trivial⟩ trivial rfl
    · exact ⟨AV.le_refl _, trivial, rfl⟩
  · replace h := of_br_f b8 h
    cbv
    replace h := of_bind h
    obtain ⟨y1, hy2, h⟩ := h
    refine ⟨{ args := [.agg [.v (.int .i64 a0.fPlace.fOrientation), .v (.int .i64 a0.fPlace.fX), .v (.int .i64 a0.fPlace.fY)], .agg [.v (.int .i64 a1.fPlace.fOrientation), .v (.int .i64 a1.fPlace.fX), .v (.int .i64 a1.fPlace.fY)]], o0 := [], r := .c (.v (.bool y1)), o1 := [], fl := true, σ := [], τ := [] }, hf_laws_eqTransform _ _ _ hy2, ⟨les_cons (AV.le_refl _) (les_cons (AV.le_refl _) (les_nil)), trivial, rfl, rfl, rfl, rfl, trivial, rfl⟩, ?_⟩
    cbv
    refine fork (fun b7 => ?_) (fun b7 => ?_)
    · replace h := of_br_t b7 h
      cbv
      injection h with h
      subst h
      refine ⟨(sparse 36 [(4, .c (.v (.bool false)))] []), ?_, ?_⟩
      · exact le_sparse rfl ⟨AV.le_refl _, trivial⟩ trivial rfl
      · exact ⟨AV.le_refl _, trivial, rfl⟩
    · replace h := of_br_f b7 h
      cbv
      refine fork (fun b6 => ?_) (fun b6 => ?_)
      · replace h := of_br_t b6 h
        cbv
        injection h with h
        subst h
        refine ⟨(sparse 36 [(4, .c (.v (.bool false)))] []), ?_, ?_⟩
        · exact le_sparse rfl ⟨AV.le_refl _, trivial⟩ trivial rfl
        · exact ⟨AV.le_refl _, trivial, rfl⟩
      · replace h := of_br_f b6 h
        cbv
        refine fork (fun b5 => ?_) (fun b5 => ?_)
        · replace h := of_br_t b5 h
          cbv
          injection h with h
          subst h
          refine ⟨(sparse 36 [(4, .c (.v (.bool false)))] []), ?_, ?_⟩
          · exact le_sparse rfl ⟨AV.le_refl _, trivial⟩ trivial rfl
          · exact ⟨AV.le_refl _, trivial, rfl⟩
        · replace h := of_br_f b5 h
          cbv
          refine fork (fun b4 => ?_) (fun b4 => ?_)
          · replace h := of_br_t b4 h
            cbv
            injection h with h
            subst h
            refine ⟨(sparse 36 [(4, .c (.v (.bool false)))] []), ?_, ?_⟩
            · exact le_sparse rfl ⟨AV.le_refl _, trivial⟩ trivial rfl
            · exact ⟨AV.le_refl _, trivial, rfl⟩
          · replace h := of_br_f b4 h
            cbv
            refine fork (fun b3 => ?_) (fun b3 => ?_)
            · replace h := of_br_t b3 h
              cbv
              injection h with h
              subst h
              refine ⟨(sparse 36 [(4, .c (.v (.bool false)))] []), ?_, ?_⟩
              · exact le_sparse rfl ⟨AV.le_refl _, trivial⟩ trivial rfl
              · exact ⟨AV.le_refl _, trivial, rfl⟩
            · replace h := of_br_f b3 h
              cbv
              injection h with h
              subst h
              refine ⟨(sparse 36 [(4, .c (.v (.bool true)))] []), ?_, ?_⟩
              · exact le_sparse rfl ⟨AV.le_refl _, trivial⟩ trivial rfl
              · exact ⟨AV.le_refl _, trivial, rfl⟩

noncomputable def L_laws_eqInstanceS_x2 (a0 : List TInstance) (a1 : List TInstance) : (Int) → Option ((Int) ⊕ ((Unit) ⊕ (Unit))) := fun x2 =>
  letO x2 fun v1 =>
  br (std.lt v1 (std.ofN (len a0)))
  (req (std.inR v1 (len a0)) <|
  req (std.inR v1 (len a1)) <|
  (F_laws_eqInstance (gd a0 (std.toN v1)) (gd a1 (std.toN v1))).bind fun y16 =>
  br (!(y16))
  (some (.inr (.inl ())))
  (some (.inl (std.add .i64 v1 1))))
  (some (.inr (.inr ())))
/-- laws.eqInstanceS -/
noncomputable def F_laws_eqInstanceS (a0 : List TInstance) (a1 : List TInstance) : Option (Bool) :=
  br (std.not (std.eq (std.ofN (len a0)) (std.ofN (len a1))))
  (some false)
  ((whileP (σ := Int) (ρ := (Unit) ⊕ (Unit)) (L_laws_eqInstanceS_x2 a0 a1) 0).bind fun y3 =>
  (match y3 with
    | .inl y3k0 => (
        some false)
    | .inr y3m0 =>
        some true))
theorem run_laws_eqInstanceS (a0 : List TInstance) (a1 : List TInstance) (r : Bool) (h : F_laws_eqInstanceS a0 a1 = some r) : Fun Try.prog 153 [.c (.bs (len a0) 8 (row gd (encInstance) a0)), .c (.bs (len a1) 8 (row gd (encInstance) a1))] [] (.c (.v (.bool r))) [] true := by
  refine Fun.of_wp (oneOf []) tok mixed Try.func153 (by kernel_rfl) rfl Try.ntmps153 rfl trivial (fun _ => ⟨trivial, trivial⟩) ?_
  unfold F_laws_eqInstanceS at h
  unfold L_laws_eqInstanceS_x2 at h
  have hf_laws_eqInstance := @run_laws_eqInstance
  generalize hLEN : @len = LEN at *
  generalize hGD : @gd = GD at *
  generalize hA : std = A at *
  generalize hP : Try.prog = P at *
  cbv
  refine fork (fun b20 => ?_) (fun b20 => ?_)
  · replace h := of_br_t b20 h
    cbv
    injection h with h
    subst h
    refine ⟨(sparse 27 [(4, .c (.v (.bool false)))] []), ?_, ?_⟩
    · exact le_sparse rfl ⟨AV.le_refl _, trivial⟩ trivial rfl
    · exact ⟨AV.le_refl _, trivial, rfl⟩
  · replace h := of_br_f b20 h
    cbv
    replace h := of_bind h
    obtain ⟨y3, hr4, hN5⟩ := h
    refine loop_cut hr4 (fun x => (sparse 27 [(0, .c (.bs (LEN a0) 8 (row GD (encInstance) a0))), (1, .c (.bs (LEN a1) 8 (row GD (encInstance) a1))), (5, .c (.v (.int .i64 x)))] [])) ?_ (fun y e s => (match y with | .inl w => e = .ret ∧ s.le (sparse 27 [(4, .c (.v (.bool false)))] []) | .inr w0 => (fun (w : Unit) => e = .exit 0 ∧ s.le (sparse 27 [] [])) w0)) ?_ ?_
    · clear hr4 hN5
      show St.le _ _
      exact le_sparse rfl ⟨AV.le_refl _, AV.le_refl _, AV.le_refl _, trivial⟩ trivial rfl
    · clear hr4 hN5
      intro x z9 h K7 hK8 hY6
      replace h := of_let h
      obtain ⟨v1, hv1, h⟩ := h
      have hv1 : v1 = x := hv1
      subst hv1
      cbv
      refine fork (fun b19 => ?_) (fun b19 => ?_)
      · replace h := of_br_t b19 h
        cbv
        replace h := of_req h
        obtain ⟨c14, h⟩ := h
        refine ⟨⟨c14, trivial⟩, ?_⟩
        replace h := of_req h
        obtain ⟨c15, h⟩ := h
        refine ⟨⟨c15, trivial⟩, ?_⟩
        replace h := of_bind h
        obtain ⟨y16, hy17, h⟩ := h
        refine ⟨{ args := [.agg [.v (.int .i64 (GD a0 (A.toN v1)).fCell), .v (.int .i64 (GD a0 (A.toN v1)).fPlace.fOrientation), .v (.int .i64 (GD a0 (A.toN v1)).fPlace.fX), .v (.int .i64 (GD a0 (A.toN v1)).fPlace.fY), .v (.int .i64 (GD a0 (A.toN v1)).fColumns), .v (.int .i64 (GD a0 (A.toN v1)).fRows), .v (.int .i64 (GD a0 (A.toN v1)).fStepX), .v (.int .i64 (GD a0 (A.toN v1)).fStepY)], .agg [.v (.int .i64 (GD a1 (A.toN v1)).fCell), .v (.int .i64 (GD a1 (A.toN v1)).fPlace.fOrientation), .v (.int .i64 (GD a1 (A.toN v1)).fPlace.fX), .v (.int .i64 (GD a1 (A.toN v1)).fPlace.fY), .v (.int .i64 (GD a1 (A.toN v1)).fColumns), .v (.int .i64 (GD a1 (A.toN v1)).fRows), .v (.int .i64 (GD a1 (A.toN v1)).fStepX), .v (.int .i64 (GD a1 (A.toN v1)).fStepY)]], o0 := [], r := .c (.v (.bool y16)), o1 := [], fl := true, σ := [], τ := [] }, hf_laws_eqInstance _ _ _ hy17, ⟨les_cons (AV.le_refl _) (les_cons (AV.le_refl _) (les_nil)), trivial, rfl, rfl, rfl, rfl, trivial, rfl⟩, ?_⟩
        cbv
        refine fork (fun b18 => ?_) (fun b18 => ?_)
        · replace h := of_br_t b18 h
          cbv
          injection h with h
          refine hY6 _ h.symm _ _ (And.intro rfl ?_) (by intro hh; cases hh)
          exact le_sparse rfl ⟨AV.le_refl _, trivial⟩ trivial rfl
        · replace h := of_br_f b18 h
          cbv
          injection h with h
          refine hK8 _ h.symm _ ?_
          exact le_sparse rfl ⟨AV.le_refl _, AV.le_refl _, AV.le_refl _, trivial⟩ trivial rfl
      · replace h := of_br_f b19 h
        cbv
        injection h with h
        refine hY6 _ h.symm _ _ (And.intro rfl ?_) (by intro hh; cases hh)
        exact le_sparse rfl trivial trivial rfl
    · clear hr4
      have h := hN5
      clear hN5
      intro e12 s13 q11 hne
      rcases y3 with y3k0 | y3m0
      · replace h := h
        obtain ⟨rfl, q11⟩ := q11
        cbv
        injection h with h
        subst h
        refine ⟨(sparse 27 [(4, .c (.v (.bool false)))] []), ?_, ?_⟩
        · refine St.le_trans q11 ?_
          exact le_sparse rfl ⟨AV.le_refl _, trivial⟩ trivial rfl
        · exact ⟨AV.le_refl _, trivial, rfl⟩
      · obtain ⟨rfl, q11⟩ := q11
        cbv
        refine ⟨_, q11, ?_⟩
        cbv
        injection h with h
        subst h
        refine ⟨(sparse 27 [(4, .c (.v (.bool true)))] []), ?_, ?_⟩
        · exact le_sparse rfl ⟨AV.le_refl _, trivial⟩ trivial rfl
        · exact ⟨AV.le_refl _, trivial, rfl⟩

/-- laws.eqCell -/
noncomputable def F_laws_eqCell (a0 : TCell) (a1 : TCell) : Option (Bool) :=
  br (std.not (std.seq a0.fName a1.fName))
  (some false)
  ((F_laws_eqShapeS a0.fShapes a1.fShapes).bind fun y1 =>
  br (!(y1))
  (some false)
  ((F_laws_eqLabelS a0.fLabels a1.fLabels).bind fun y3 =>
  br (!(y3))
  (some false)
  ((F_laws_eqInstanceS a0.fInstances a1.fInstances).bind fun y5 =>
  br (!(y5))
  (some false)
  (some true))))
theorem run_laws_eqCell (a0 : TCell) (a1 : TCell) (r : Bool) (h : F_laws_eqCell a0 a1 = some r) : Fun Try.prog 102 [.agg [.v (.string a0.fName), .bs (len a0.fShapes) 5 (row gd (encShape) a0.fShapes), .bs (len a0.fLabels) 4 (row gd (encLabel) a0.fLabels), .bs (len a0.fInstances) 8 (row gd (encInstance) a0.fInstances)], .agg [.v (.string a1.fName), .bs (len a1.fShapes) 5 (row gd (encShape) a1.fShapes), .bs (len a1.fLabels) 4 (row gd (encLabel) a1.fLabels), .bs (len a1.fInstances) 8 (row gd (encInstance) a1.fInstances)]] [] (.c (.v (.bool r))) [] true := by
  refine Fun.of_wp (oneOf []) tok mixed Try.func102 (by kernel_rfl) rfl Try.ntmps102 rfl trivial (fun _ => ⟨trivial, trivial⟩) ?_
  unfold F_laws_eqCell at h
  have hf_laws_eqInstanceS := @run_laws_eqInstanceS
  have hf_laws_eqLabelS := @run_laws_eqLabelS
  have hf_laws_eqShapeS := @run_laws_eqShapeS
  generalize hLEN : @len = LEN at *
  generalize hGD : @gd = GD at *
  generalize hA : std = A at *
  generalize hP : Try.prog = P at *
  cbv
  refine fork (fun b10 => ?_) (fun b10 => ?_)
  · replace h := of_br_t b10 h
    cbv
    injection h with h
    subst h
    refine ⟨(sparse 28 [(4, .c (.v (.bool false)))] []), ?_, ?_⟩
    · exact le_sparse rfl ⟨AV.le_refl _, trivial⟩ trivial rfl
    · exact ⟨AV.le_refl _, trivial, rfl⟩
  · replace h := of_br_f b10 h
    cbv
    replace h := of_bind h
    obtain ⟨y1, hy2, h⟩ := h
    refine ⟨{ args := [.c (.bs (LEN a0.fShapes) 5 (row GD (encShape) a0.fShapes)), .c (.bs (LEN a1.fShapes) 5 (row GD (encShape) a1.fShapes))], o0 := [], r := .c (.v (.bool y1)), o1 := [], fl := true, σ := [], τ := [] }, hf_laws_eqShapeS _ _ _ hy2, ⟨les_cons (AV.le_refl _) (les_cons (AV.le_refl _) (les_nil)), trivial, rfl, rfl, rfl, rfl, trivial, rfl⟩, ?_⟩
    cbv
    refine fork (fun b9 => ?_) (fun b9 => ?_)
    · replace h := of_br_t b9 h
      cbv
      injection h with h
      subst h
      refine ⟨(sparse 28 [(4, .c (.v (.bool false)))] []), ?_, ?_⟩
      · exact le_sparse rfl ⟨AV.le_refl _, trivial⟩ trivial rfl
      · exact ⟨AV.le_refl _, trivial, rfl⟩
    · replace h := of_br_f b9 h
      cbv
      replace h := of_bind h
      obtain ⟨y3, hy4, h⟩ := h
      refine ⟨{ args := [.c (.bs (LEN a0.fLabels) 4 (row GD (encLabel) a0.fLabels)), .c (.bs (LEN a1.fLabels) 4 (row GD (encLabel) a1.fLabels))], o0 := [], r := .c (.v (.bool y3)), o1 := [], fl := true, σ := [], τ := [] }, hf_laws_eqLabelS _ _ _ hy4, ⟨les_cons (AV.le_refl _) (les_cons (AV.le_refl _) (les_nil)), trivial, rfl, rfl, rfl, rfl, trivial, rfl⟩, ?_⟩
      cbv
      refine fork (fun b8 => ?_) (fun b8 => ?_)
      · replace h := of_br_t b8 h
        cbv
        injection h with h
        subst h
        refine ⟨(sparse 28 [(4, .c (.v (.bool false)))] []), ?_, ?_⟩
        · exact le_sparse rfl ⟨AV.le_refl _, trivial⟩ trivial rfl
        · exact ⟨AV.le_refl _, trivial, rfl⟩
      · replace h := of_br_f b8 h
        cbv
        replace h := of_bind h
        obtain ⟨y5, hy6, h⟩ := h
        refine ⟨{ args := [.c (.bs (LEN a0.fInstances) 8 (row GD (encInstance) a0.fInstances)), .c (.bs (LEN a1.fInstances) 8 (row GD (encInstance) a1.fInstances))], o0 := [], r := .c (.v (.bool y5)), o1 := [], fl := true, σ := [], τ := [] }, hf_laws_eqInstanceS _ _ _ hy6, ⟨les_cons (AV.le_refl _) (les_cons (AV.le_refl _) (les_nil)), trivial, rfl, rfl, rfl, rfl, trivial, rfl⟩, ?_⟩
        cbv
        refine fork (fun b7 => ?_) (fun b7 => ?_)
        · replace h := of_br_t b7 h
          cbv
          injection h with h
          subst h
          refine ⟨(sparse 28 [(4, .c (.v (.bool false)))] []), ?_, ?_⟩
          · exact le_sparse rfl ⟨AV.le_refl _, trivial⟩ trivial rfl
          · exact ⟨AV.le_refl _, trivial, rfl⟩
        · replace h := of_br_f b7 h
          cbv
          injection h with h
          subst h
          refine ⟨(sparse 28 [(4, .c (.v (.bool true)))] []), ?_, ?_⟩
          · exact le_sparse rfl ⟨AV.le_refl _, trivial⟩ trivial rfl
          · exact ⟨AV.le_refl _, trivial, rfl⟩

noncomputable def L_laws_eqCellS_x2 (a0 : List TCell) (a1 : List TCell) : (Int) → Option ((Int) ⊕ ((Unit) ⊕ (Unit))) := fun x2 =>
  letO x2 fun v1 =>
  br (std.lt v1 (std.ofN (len a0)))
  (req (std.inR v1 (len a0)) <|
  req (std.inR v1 (len a1)) <|
  (F_laws_eqCell (gd a0 (std.toN v1)) (gd a1 (std.toN v1))).bind fun y16 =>
  br (!(y16))
  (some (.inr (.inl ())))
  (some (.inl (std.add .i64 v1 1))))
  (some (.inr (.inr ())))
/-- laws.eqCellS -/
noncomputable def F_laws_eqCellS (a0 : List TCell) (a1 : List TCell) : Option (Bool) :=
  br (std.not (std.eq (std.ofN (len a0)) (std.ofN (len a1))))
  (some false)
  ((whileP (σ := Int) (ρ := (Unit) ⊕ (Unit)) (L_laws_eqCellS_x2 a0 a1) 0).bind fun y3 =>
  (match y3 with
    | .inl y3k0 => (
        some false)
    | .inr y3m0 =>
        some true))
theorem run_laws_eqCellS (a0 : List TCell) (a1 : List TCell) (r : Bool) (h : F_laws_eqCellS a0 a1 = some r) : Fun Try.prog 58 [.c (.bs (len a0) 4 (row gd (encCell len gd) a0)), .c (.bs (len a1) 4 (row gd (encCell len gd) a1))] [] (.c (.v (.bool r))) [] true := by
  refine Fun.of_wp (oneOf []) tok mixed Try.func58 (by kernel_rfl) rfl Try.ntmps58 rfl trivial (fun _ => ⟨trivial, trivial⟩) ?_
  unfold F_laws_eqCellS at h
  unfold L_laws_eqCellS_x2 at h
  have hf_laws_eqCell := @run_laws_eqCell
  generalize hLEN : @len = LEN at *
  generalize hGD : @gd = GD at *
  generalize hA : std = A at *
  generalize hP : Try.prog = P at *
  cbv
  refine fork (fun b20 => ?_) (fun b20 => ?_)
  · replace h := of_br_t b20 h
    cbv
    injection h with h
    subst h
    refine ⟨(sparse 27 [(4, .c (.v (.bool false)))] []), ?_, ?_⟩
    · exact le_sparse rfl ⟨AV.le_refl _, trivial⟩ trivial rfl
    · exact ⟨AV.le_refl _, trivial, rfl⟩
  · replace h := of_br_f b20 h
    cbv
    replace h := of_bind h
    obtain ⟨y3, hr4, hN5⟩ := h
    refine loop_cut hr4 (fun x => (sparse 27 [(0, .c (.bs (LEN a0) 4 (row GD (encCell LEN GD) a0))), (1, .c (.bs (LEN a1) 4 (row GD (encCell LEN GD) a1))), (5, .c (.v (.int .i64 x)))] [])) ?_ (fun y e s => (match y with | .inl w => e = .ret ∧ s.le (sparse 27 [(4, .c (.v (.bool false)))] []) | .inr w0 => (fun (w : Unit) => e = .exit 0 ∧ s.le (sparse 27 [] [])) w0)) ?_ ?_
    · clear hr4 hN5
      show St.le _ _
      exact le_sparse rfl ⟨AV.le_refl _, AV.le_refl _, AV.le_refl _, trivial⟩ trivial rfl
    · clear hr4 hN5
      intro x z9 h K7 hK8 hY6
      replace h := of_let h
      obtain ⟨v1, hv1, h⟩ := h
      have hv1 : v1 = x := hv1
      subst hv1
      cbv
      refine fork (fun b19 => ?_) (fun b19 => ?_)
      · replace h := of_br_t b19 h
        cbv
        replace h := of_req h
        obtain ⟨c14, h⟩ := h
        refine ⟨⟨c14, trivial⟩, ?_⟩
        replace h := of_req h
        obtain ⟨c15, h⟩ := h
        refine ⟨⟨c15, trivial⟩, ?_⟩
        replace h := of_bind h
        obtain ⟨y16, hy17, h⟩ := h
        refine ⟨{ args := [.agg [.v (.string (GD a0 (A.toN v1)).fName), .bs (LEN (GD a0 (A.toN v1)).fShapes) 5 (row GD (encShape) (GD a0 (A.toN v1)).fShapes), .bs (LEN (GD a0 (A.toN v1)).fLabels) 4 (row GD (encLabel) (GD a0 (A.toN v1)).fLabels), .bs (LEN (GD a0 (A.toN v1)).fInstances) 8 (row GD (encInstance) (GD a0 (A.toN v1)).fInstances)], .agg [.v (.string (GD a1 (A.toN v1)).fName), .bs (LEN (GD a1 (A.toN v1)).fShapes) 5 (row GD (encShape) (GD a1 (A.toN v1)).fShapes), .bs (LEN (GD a1 (A.toN v1)).fLabels) 4 (row GD (encLabel) (GD a1 (A.toN v1)).fLabels), .bs (LEN (GD a1 (A.toN v1)).fInstances) 8 (row GD (encInstance) (GD a1 (A.toN v1)).fInstances)]], o0 := [], r := .c (.v (.bool y16)), o1 := [], fl := true, σ := [], τ := [] }, hf_laws_eqCell _ _ _ hy17, ⟨les_cons (AV.le_refl _) (les_cons (AV.le_refl _) (les_nil)), trivial, rfl, rfl, rfl, rfl, trivial, rfl⟩, ?_⟩
        cbv
        refine fork (fun b18 => ?_) (fun b18 => ?_)
        · replace h := of_br_t b18 h
          cbv
          injection h with h
          refine hY6 _ h.symm _ _ (And.intro rfl ?_) (by intro hh; cases hh)
          exact le_sparse rfl ⟨AV.le_refl _, trivial⟩ trivial rfl
        · replace h := of_br_f b18 h
          cbv
          injection h with h
          refine hK8 _ h.symm _ ?_
          exact le_sparse rfl ⟨AV.le_refl _, AV.le_refl _, AV.le_refl _, trivial⟩ trivial rfl
      · replace h := of_br_f b19 h
        cbv
        injection h with h
        refine hY6 _ h.symm _ _ (And.intro rfl ?_) (by intro hh; cases hh)
        exact le_sparse rfl trivial trivial rfl
    · clear hr4
      have h := hN5
      clear hN5
      intro e12 s13 q11 hne
      rcases y3 with y3k0 | y3m0
      · replace h := h
        obtain ⟨rfl, q11⟩ := q11
        cbv
        injection h with h
        subst h
        refine ⟨(sparse 27 [(4, .c (.v (.bool false)))] []), ?_, ?_⟩
        · refine St.le_trans q11 ?_
          exact le_sparse rfl ⟨AV.le_refl _, trivial⟩ trivial rfl
        · exact ⟨AV.le_refl _, trivial, rfl⟩
      · obtain ⟨rfl, q11⟩ := q11
        cbv
        refine ⟨_, q11, ?_⟩
        cbv
        injection h with h
        subst h
        refine ⟨(sparse 27 [(4, .c (.v (.bool true)))] []), ?_, ?_⟩
        · exact le_sparse rfl ⟨AV.le_refl _, trivial⟩ trivial rfl
        · exact ⟨AV.le_refl _, trivial, rfl⟩

/-- laws.eqLibrary -/
noncomputable def F_laws_eqLibrary (a0 : TLibrary) (a1 : TLibrary) : Option (Bool) :=
  (F_laws_eqCellS a0.fCells a1.fCells).bind fun y1 =>
  br (!(y1))
  (some false)
  (some true)
theorem run_laws_eqLibrary (a0 : TLibrary) (a1 : TLibrary) (r : Bool) (h : F_laws_eqLibrary a0 a1 = some r) : Fun Try.prog 22 [.agg [.bs (len a0.fCells) 4 (row gd (encCell len gd) a0.fCells)], .agg [.bs (len a1.fCells) 4 (row gd (encCell len gd) a1.fCells)]] [] (.c (.v (.bool r))) [] true := by
  refine Fun.of_wp (oneOf []) tok mixed Try.func22 (by kernel_rfl) rfl Try.ntmps22 rfl trivial (fun _ => ⟨trivial, trivial⟩) ?_
  unfold F_laws_eqLibrary at h
  have hf_laws_eqCellS := @run_laws_eqCellS
  generalize hLEN : @len = LEN at *
  generalize hGD : @gd = GD at *
  generalize hA : std = A at *
  generalize hP : Try.prog = P at *
  cbv
  replace h := of_bind h
  obtain ⟨y1, hy2, h⟩ := h
  refine ⟨{ args := [.c (.bs (LEN a0.fCells) 4 (row GD (encCell LEN GD) a0.fCells)), .c (.bs (LEN a1.fCells) 4 (row GD (encCell LEN GD) a1.fCells))], o0 := [], r := .c (.v (.bool y1)), o1 := [], fl := true, σ := [], τ := [] }, hf_laws_eqCellS _ _ _ hy2, ⟨les_cons (AV.le_refl _) (les_cons (AV.le_refl _) (les_nil)), trivial, rfl, rfl, rfl, rfl, trivial, rfl⟩, ?_⟩
  cbv
  refine fork (fun b3 => ?_) (fun b3 => ?_)
  · replace h := of_br_t b3 h
    cbv
    injection h with h
    subst h
    refine ⟨(sparse 11 [(4, .c (.v (.bool false)))] []), ?_, ?_⟩
    · exact le_sparse rfl ⟨AV.le_refl _, trivial⟩ trivial rfl
    · exact ⟨AV.le_refl _, trivial, rfl⟩
  · replace h := of_br_f b3 h
    cbv
    injection h with h
    subst h
    refine ⟨(sparse 11 [(4, .c (.v (.bool true)))] []), ?_, ?_⟩
    · exact le_sparse rfl ⟨AV.le_refl _, trivial⟩ trivial rfl
    · exact ⟨AV.le_refl _, trivial, rfl⟩

/-- laws.FnExactCellBox -/
noncomputable def F_laws_FnExactCellBox (a0 : TLibrary) (a1 : Int) : Option (Bool) :=
  (F_laws_szLibrary (TLibrary.mk a0.fCells) 1048576).bind fun y1 =>
  br (std.lt y1 0)
  (some true)
  ((F_laws_toLibrary (TLibrary.mk a0.fCells)).bind fun y3 =>
  (F_spec_CellBox y3 a1).bind fun y5 =>
  (F_laws_toLibrary (TLibrary.mk a0.fCells)).bind fun y7 =>
  (F_impl_CellBox y7 a1).bind fun y9 =>
  ((
        (F_laws_eqRect y9.1 y5.1).bind fun y18 =>
        br (!(y18))
        (some true)
        (some (std.not (std.beq y9.2 y5.2)))
    ) : Option (Bool)).bind fun y11 =>
  letO y11 fun w17 =>
  br w17
  (some false)
  ((F_laws_toLibrary (TLibrary.mk a0.fCells)).bind fun y21 =>
  (F_laws_eqLibrary y7 y21).bind fun y23 =>
  br (!(y23))
  (some false)
  (some true)))
theorem run_laws_FnExactCellBox (a0 : TLibrary) (a1 : Int) (r : Bool) (h : F_laws_FnExactCellBox a0 a1 = some r) : Fun Try.prog 4 [.agg [.bs (len a0.fCells) 4 (row gd (encCell len gd) a0.fCells)], .c (.v (.int .i64 a1))] [] (.c (.v (.bool r))) [] true := by
  refine Fun.of_wp (oneOf [8]) tok mixed Try.func4 (by kernel_rfl) rfl Try.ntmps4 rfl trivial (fun _ => ⟨trivial, trivial⟩) ?_
  unfold F_laws_FnExactCellBox at h
  have hf_impl_CellBox := @run_impl_CellBox
  have hf_laws_eqLibrary := @run_laws_eqLibrary
  have hf_laws_eqRect := @run_laws_eqRect
  have hf_laws_szLibrary := @run_laws_szLibrary
  have hf_laws_toLibrary := @run_laws_toLibrary
  have hf_spec_CellBox := @run_spec_CellBox
  generalize hLEN : @len = LEN at *
  generalize hGD : @gd = GD at *
  generalize hA : std = A at *
  generalize hP : Try.prog = P at *
  cbv
  replace h := of_bind h
  obtain ⟨y1, hy2, h⟩ := h
  refine ⟨{ args := [.agg [.bs (LEN a0.fCells) 4 (row GD (encCell LEN GD) a0.fCells)], .c (.v (.int .i64 1048576))], o0 := [], r := .c (.v (.int .i64 y1)), o1 := [], fl := true, σ := [], τ := [] }, hf_laws_szLibrary _ _ _ hy2, ⟨les_cons (AV.le_refl _) (les_cons (AV.le_refl _) (les_nil)), trivial, rfl, rfl, rfl, rfl, trivial, rfl⟩, ?_⟩
  cbv
  refine fork (fun b27 => ?_) (fun b27 => ?_)
  · replace h := of_br_t b27 h
    cbv
    injection h with h
    subst h
    refine ⟨(sparse 45 [(4, .c (.v (.bool true)))] []), ?_, ?_⟩
    · exact le_sparse rfl ⟨AV.le_refl _, trivial⟩ trivial rfl
    · exact ⟨AV.le_refl _, trivial, rfl⟩
  · replace h := of_br_f b27 h
    cbv
    replace h := of_bind h
    obtain ⟨y3, hy4, h⟩ := h
    refine ⟨{ args := [.agg [.bs (LEN a0.fCells) 4 (row GD (encCell LEN GD) a0.fCells)]], o0 := [], r := .agg [.os 64000 0 (LEN y3.fCells)], o1 := [(64000, .arr .rw [] (LEN y3.fCells) 4 (row GD (oncCell LEN GD) y3.fCells))], fl := true, σ := [], τ := [(64000, 1152)] }, hf_laws_toLibrary _ _ hy4, ⟨les_cons (AV.le_refl _) (les_nil), trivial, rfl, rfl, rfl, rfl, ⟨fun h => absurd (show (64000 : Nat) % 2 = 1 from h) (by decide), trivial⟩, rfl⟩, _, rfl, _, _, rfl, fun _ _ _ _ => rfl, ?_⟩
    cbv
    replace h := of_bind h
    obtain ⟨y5, hy6, h⟩ := h
    refine ⟨{ args := [.agg [.bs (LEN y3.fCells) 4 (row GD (encCell LEN GD) y3.fCells)], .c (.v (.int .i64 a1))], o0 := [], r := .tup [.agg [.v (.int .i64 y5.1.fX0), .v (.int .i64 y5.1.fY0), .v (.int .i64 y5.1.fX1), .v (.int .i64 y5.1.fY1)], .c (.v (.bool y5.2))], o1 := [], fl := true, σ := [], τ := [] }, hf_spec_CellBox _ _ _ hy6, ⟨les_cons (le_agg ⟨give_osD (rf_oncCell) (ln_oncCell) rfl rfl rfl, trivial⟩) (les_cons (AV.le_refl _) (les_nil)), trivial, rfl, rfl, rfl, rfl, trivial, rfl⟩, ?_⟩
    cbv
    replace h := of_bind h
    obtain ⟨y7, hy8, h⟩ := h
    refine ⟨{ args := [.agg [.bs (LEN a0.fCells) 4 (row GD (encCell LEN GD) a0.fCells)]], o0 := [], r := .agg [.os 64000 0 (LEN y7.fCells)], o1 := [(64000, .arr .rw [] (LEN y7.fCells) 4 (row GD (oncCell LEN GD) y7.fCells))], fl := true, σ := [], τ := [(64000, 1536)] }, hf_laws_toLibrary _ _ hy8, ⟨les_cons (AV.le_refl _) (les_nil), trivial, rfl, rfl, rfl, rfl, ⟨fun h => absurd (show (64000 : Nat) % 2 = 1 from h) (by decide), trivial⟩, rfl⟩, _, rfl, _, _, rfl, fun _ _ _ _ => rfl, ?_⟩
    cbv
    replace h := of_bind h
    obtain ⟨y9, hy10, h⟩ := h
    refine ⟨{ args := [.agg [.bs (LEN y7.fCells) 4 (row GD (encCell LEN GD) y7.fCells)], .c (.v (.int .i64 a1))], o0 := [], r := .tup [.agg [.v (.int .i64 y9.1.fX0), .v (.int .i64 y9.1.fY0), .v (.int .i64 y9.1.fX1), .v (.int .i64 y9.1.fY1)], .c (.v (.bool y9.2))], o1 := [], fl := true, σ := [], τ := [] }, hf_impl_CellBox _ _ _ hy10, ⟨les_cons (le_agg ⟨give_osD (rf_oncCell) (ln_oncCell) rfl rfl rfl, trivial⟩) (les_cons (AV.le_refl _) (les_nil)), trivial, rfl, rfl, rfl, rfl, trivial, rfl⟩, ?_⟩
    cbv
    replace h := of_bind h
    obtain ⟨y11, hy12, h⟩ := h
    obtain ⟨S15, hS16⟩ : ∃ S, S = (sparse 45 [(2, .c (.ptr 128 0)), (8, .c (.ptr 512 0)), (39, .c (.v (.bool y11)))] [(128, .var [.bs (LEN a0.fCells) 4 (row GD (encCell LEN GD) a0.fCells)]), (512, .var [.os 1536 0 (LEN y7.fCells)]), (1536, .arr .rw [] (LEN y7.fCells) 4 (row GD (oncCell LEN GD) y7.fCells))]) := ⟨_, rfl⟩
    refine ⟨S15, ?_, ?_⟩
    · clear h
      have h := hy12
      clear hy12
      cbv
      replace h := of_bind h
      obtain ⟨y18, hy19, h⟩ := h
      refine ⟨{ args := [.agg [.v (.int .i64 y9.1.fX0), .v (.int .i64 y9.1.fY0), .v (.int .i64 y9.1.fX1), .v (.int .i64 y9.1.fY1)], .agg [.v (.int .i64 y5.1.fX0), .v (.int .i64 y5.1.fY0), .v (.int .i64 y5.1.fX1), .v (.int .i64 y5.1.fY1)]], o0 := [], r := .c (.v (.bool y18)), o1 := [], fl := true, σ := [], τ := [] }, hf_laws_eqRect _ _ _ hy19, ⟨les_cons (AV.le_refl _) (les_cons (AV.le_refl _) (les_nil)), trivial, rfl, rfl, rfl, rfl, trivial, rfl⟩, ?_⟩
      cbv
      refine fork (fun b20 => ?_) (fun b20 => ?_)
      · replace h := of_br_t b20 h
        cbv
        injection h with h
        subst h
        subst hS16
        show St.le _ _
        exact le_sparse rfl ⟨AV.le_refl _, AV.le_refl _, AV.le_refl _, trivial⟩ ⟨rfl, rfl, ⟨fun hw => hw, fun c hc => (by cases hc), .inl rfl, rfl, rfl, fun i hi j hj => rfl⟩, trivial⟩ rfl
      · replace h := of_br_f b20 h
        cbv
        injection h with h
        subst h
        subst hS16
        show St.le _ _
        exact le_sparse rfl ⟨AV.le_refl _, AV.le_refl _, AV.le_refl _, trivial⟩ ⟨rfl, rfl, ⟨fun hw => hw, fun c hc => (by cases hc), .inl rfl, rfl, rfl, fun i hi j hj => rfl⟩, trivial⟩ rfl
    · clear hy12
      subst hS16
      replace h := of_let h
      obtain ⟨w17, hw17, h⟩ := h
      have hw17 : w17 = y11 := hw17
      subst hw17
      cbv
      refine fork (fun b26 => ?_) (fun b26 => ?_)
      · replace h := of_br_t b26 h
        cbv
        injection h with h
        subst h
        refine ⟨(sparse 45 [(4, .c (.v (.bool false)))] []), ?_, ?_⟩
        · exact le_sparse rfl ⟨AV.le_refl _, trivial⟩ trivial rfl
        · exact ⟨AV.le_refl _, trivial, rfl⟩
      · replace h := of_br_f b26 h
        cbv
        replace h := of_bind h
        obtain ⟨y21, hy22, h⟩ := h
        refine ⟨{ args := [.agg [.bs (LEN a0.fCells) 4 (row GD (encCell LEN GD) a0.fCells)]], o0 := [], r := .agg [.os 64000 0 (LEN y21.fCells)], o1 := [(64000, .arr .rw [] (LEN y21.fCells) 4 (row GD (oncCell LEN GD) y21.fCells))], fl := true, σ := [], τ := [(64000, 2688)] }, hf_laws_toLibrary _ _ hy22, ⟨les_cons (AV.le_refl _) (les_nil), trivial, rfl, rfl, rfl, rfl, ⟨fun h => absurd (show (64000 : Nat) % 2 = 1 from h) (by decide), trivial⟩, rfl⟩, _, rfl, _, _, rfl, fun _ _ _ _ => rfl, ?_⟩
        cbv
        replace h := of_bind h
        obtain ⟨y23, hy24, h⟩ := h
        refine ⟨{ args := [.agg [.bs (LEN y7.fCells) 4 (row GD (encCell LEN GD) y7.fCells)], .agg [.bs (LEN y21.fCells) 4 (row GD (encCell LEN GD) y21.fCells)]], o0 := [], r := .c (.v (.bool y23)), o1 := [], fl := true, σ := [], τ := [] }, hf_laws_eqLibrary _ _ _ hy24, ⟨les_cons (le_agg ⟨give_osD (rf_oncCell) (ln_oncCell) rfl rfl rfl, trivial⟩) (les_cons (le_agg ⟨give_osD (rf_oncCell) (ln_oncCell) rfl rfl rfl, trivial⟩) (les_nil)), trivial, rfl, rfl, rfl, rfl, trivial, rfl⟩, ?_⟩
        cbv
        refine fork (fun b25 => ?_) (fun b25 => ?_)
        · replace h := of_br_t b25 h
          cbv
          injection h with h
          subst h
          refine ⟨(sparse 45 [(4, .c (.v (.bool false)))] []), ?_, ?_⟩
          · exact le_sparse rfl ⟨AV.le_refl _, trivial⟩ trivial rfl
          · exact ⟨AV.le_refl _, trivial, rfl⟩
        · replace h := of_br_f b25 h
          cbv
          injection h with h
          subst h
          refine ⟨(sparse 45 [(4, .c (.v (.bool true)))] []), ?_, ?_⟩
          · exact le_sparse rfl ⟨AV.le_refl _, trivial⟩ trivial rfl
          · exact ⟨AV.le_refl _, trivial, rfl⟩
/-- spec.InstanceBox -/
noncomputable def F_spec_InstanceBox (a0 : TLibrary) (a1 : Int) (a2 : Int) : Option (TRect × Bool) :=
  ((
        (F_spec_l09Has a0 a1).bind fun y8 =>
        br (!(y8))
        (some true)
        (req (std.inR a1 (len a0.fCells)) <|
        (F_spec_l09In a2 0 (std.sub .i64 (std.ofN (len (gd a0.fCells (std.toN a1)).fInstances)) 1)).bind fun y11 =>
        some (!(y11)))
    ) : Option (Bool)).bind fun y1 =>
  letO y1 fun w7 =>
  br w7
  (some ((TRect.mk 0 0 0 0), false))
  (req (std.inR a1 (len a0.fCells)) <|
  req (std.inR a2 (len (gd a0.fCells (std.toN a1)).fInstances)) <|
  (F_spec_l12Box a0 (gd (gd a0.fCells (std.toN a1)).fInstances (std.toN a2)).fCell).bind fun y16 =>
  br (!(y16.2))
  (some ((TRect.mk 0 0 0 0), false))
  ((F_spec_l12Array (gd (gd a0.fCells (std.toN a1)).fInstances (std.toN a2)) y16.1).bind fun y18 =>
  some (y18, true)))
theorem run_spec_InstanceBox (a0 : TLibrary) (a1 : Int) (a2 : Int) (r : TRect × Bool) (h : F_spec_InstanceBox a0 a1 a2 = some r) : Fun Try.prog 23 [.agg [.bs (len a0.fCells) 4 (row gd (encCell len gd) a0.fCells)], .c (.v (.int .i64 a1)), .c (.v (.int .i64 a2))] [] (.tup [.agg [.v (.int .i64 r.1.fX0), .v (.int .i64 r.1.fY0), .v (.int .i64 r.1.fX1), .v (.int .i64 r.1.fY1)], .c (.v (.bool r.2))]) [] true := by
  refine Fun.of_wp (oneOf [1]) tok mixed Try.func23 (by kernel_rfl) rfl Try.ntmps23 rfl trivial (fun _ => ⟨(by simp [AV.flat, AV.flat1, AC.flat]), trivial⟩) ?_
  unfold F_spec_InstanceBox at h
  have hf_spec_l09Has := @run_spec_l09Has
  have hf_spec_l09In := @run_spec_l09In
  have hf_spec_l12Array := @run_spec_l12Array
  have hf_spec_l12Box := @run_spec_l12Box
  generalize hLEN : @len = LEN at *
  generalize hGD : @gd = GD at *
  generalize hA : std = A at *
  generalize hP : Try.prog = P at *
  cbv
  replace h := of_bind h
  obtain ⟨y1, hy2, h⟩ := h
  obtain ⟨S5, hS6⟩ : ∃ S, S = (sparse 51 [(1, .c (.v (.int .i64 a1))), (2, .c (.v (.int .i64 a2))), (3, .c (.ptr 192 0)), (6, .c (.ptr 384 0)), (27, .c (.v (.bool y1)))] [(192, .var [.bs (LEN a0.fCells) 4 (row GD (encCell LEN GD) a0.fCells)]), (384, .var [.v (.int .i64 0), .v (.int .i64 0), .v (.int .i64 0), .v (.int .i64 0)])]) := ⟨_, rfl⟩
  refine ⟨S5, ?_, ?_⟩
  · clear h
    have h := hy2
    clear hy2
    cbv
    replace h := of_bind h
    obtain ⟨y8, hy9, h⟩ := h
    refine ⟨{ args := [.agg [.bs (LEN a0.fCells) 4 (row GD (encCell LEN GD) a0.fCells)], .c (.v (.int .i64 a1))], o0 := [], r := .c (.v (.bool y8)), o1 := [], fl := true, σ := [], τ := [] }, hf_spec_l09Has _ _ _ hy9, ⟨les_cons (AV.le_refl _) (les_cons (AV.le_refl _) (les_nil)), trivial, rfl, rfl, rfl, rfl, trivial, rfl⟩, ?_⟩
    cbv
    refine fork (fun b13 => ?_) (fun b13 => ?_)
    · replace h := of_br_t b13 h
      cbv
      injection h with h
      subst h
      subst hS6
      show St.le _ _
      exact le_sparse rfl ⟨AV.le_refl _, AV.le_refl _, AV.le_refl _, AV.le_refl _, AV.le_refl _, trivial⟩ ⟨rfl, rfl, trivial⟩ rfl
    · replace h := of_br_f b13 h
      cbv
      replace h := of_req h
      obtain ⟨c10, h⟩ := h
      refine ⟨⟨c10, trivial⟩, ?_⟩
      replace h := of_bind h
      obtain ⟨y11, hy12, h⟩ := h
      refine ⟨{ args := [.c (.v (.int .i64 a2)), .c (.v (.int .i64 0)), .c (.v (.int .i64 (A.sub .i64 (A.ofN (LEN (GD a0.fCells (A.toN a1)).fInstances)) 1)))], o0 := [], r := .c (.v (.bool y11)), o1 := [], fl := true, σ := [], τ := [] }, hf_spec_l09In _ _ _ _ hy12, ⟨les_cons (AV.le_refl _) (les_cons (AV.le_refl _) (les_cons (AV.le_refl _) (les_nil))), trivial, rfl, rfl, rfl, rfl, trivial, rfl⟩, ?_⟩
      cbv
      injection h with h
      subst h
      subst hS6
      show St.le _ _
      exact le_sparse rfl ⟨AV.le_refl _, AV.le_refl _, AV.le_refl _, AV.le_refl _, AV.le_refl _, trivial⟩ ⟨rfl, rfl, trivial⟩ rfl
  · clear hy2
    subst hS6
    replace h := of_let h
    obtain ⟨w7, hw7, h⟩ := h
    have hw7 : w7 = y1 := hw7
    subst hw7
    cbv
    refine fork (fun b21 => ?_) (fun b21 => ?_)
    · replace h := of_br_t b21 h
      cbv
      injection h with h
      subst h
      refine ⟨(sparse 51 [(6, .c (.ptr 384 0)), (7, .c (.v (.bool false)))] [(384, .var [.v (.int .i64 0), .v (.int .i64 0), .v (.int .i64 0), .v (.int .i64 0)])]), ?_, ?_⟩
      · exact le_sparse rfl ⟨AV.le_refl _, AV.le_refl _, trivial⟩ ⟨rfl, trivial⟩ rfl
      · exact ⟨AV.le_refl _, trivial, rfl⟩
    · replace h := of_br_f b21 h
      cbv
      replace h := of_req h
      obtain ⟨c14, h⟩ := h
      refine ⟨⟨c14, trivial⟩, ?_⟩
      replace h := of_req h
      obtain ⟨c15, h⟩ := h
      refine ⟨⟨c15, trivial⟩, ?_⟩
      replace h := of_bind h
      obtain ⟨y16, hy17, h⟩ := h
      refine ⟨{ args := [.agg [.bs (LEN a0.fCells) 4 (row GD (encCell LEN GD) a0.fCells)], .c (.v (.int .i64 (GD (GD a0.fCells (A.toN a1)).fInstances (A.toN a2)).fCell))], o0 := [], r := .tup [.agg [.v (.int .i64 y16.1.fX0), .v (.int .i64 y16.1.fY0), .v (.int .i64 y16.1.fX1), .v (.int .i64 y16.1.fY1)], .c (.v (.bool y16.2))], o1 := [], fl := true, σ := [], τ := [] }, hf_spec_l12Box _ _ _ hy17, ⟨les_cons (AV.le_refl _) (les_cons (AV.le_refl _) (les_nil)), trivial, rfl, rfl, rfl, rfl, trivial, rfl⟩, ?_⟩
      cbv
      refine fork (fun b20 => ?_) (fun b20 => ?_)
      · replace h := of_br_t b20 h
        cbv
        injection h with h
        subst h
        refine ⟨(sparse 51 [(6, .c (.ptr 384 0)), (7, .c (.v (.bool false)))] [(384, .var [.v (.int .i64 0), .v (.int .i64 0), .v (.int .i64 0), .v (.int .i64 0)])]), ?_, ?_⟩
        · exact le_sparse rfl ⟨AV.le_refl _, AV.le_refl _, trivial⟩ ⟨rfl, trivial⟩ rfl
        · exact ⟨AV.le_refl _, trivial, rfl⟩
      · replace h := of_br_f b20 h
        cbv
        replace h := of_bind h
        obtain ⟨y18, hy19, h⟩ := h
        refine ⟨{ args := [.agg [.v (.int .i64 (GD (GD a0.fCells (A.toN a1)).fInstances (A.toN a2)).fCell), .v (.int .i64 (GD (GD a0.fCells (A.toN a1)).fInstances (A.toN a2)).fPlace.fOrientation), .v (.int .i64 (GD (GD a0.fCells (A.toN a1)).fInstances (A.toN a2)).fPlace.fX), .v (.int .i64 (GD (GD a0.fCells (A.toN a1)).fInstances (A.toN a2)).fPlace.fY), .v (.int .i64 (GD (GD a0.fCells (A.toN a1)).fInstances (A.toN a2)).fColumns), .v (.int .i64 (GD (GD a0.fCells (A.toN a1)).fInstances (A.toN a2)).fRows), .v (.int .i64 (GD (GD a0.fCells (A.toN a1)).fInstances (A.toN a2)).fStepX), .v (.int .i64 (GD (GD a0.fCells (A.toN a1)).fInstances (A.toN a2)).fStepY)], .agg [.v (.int .i64 y16.1.fX0), .v (.int .i64 y16.1.fY0), .v (.int .i64 y16.1.fX1), .v (.int .i64 y16.1.fY1)]], o0 := [], r := .agg [.v (.int .i64 y18.fX0), .v (.int .i64 y18.fY0), .v (.int .i64 y18.fX1), .v (.int .i64 y18.fY1)], o1 := [], fl := true, σ := [], τ := [] }, hf_spec_l12Array _ _ _ hy19, ⟨les_cons (AV.le_refl _) (les_cons (AV.le_refl _) (les_nil)), trivial, rfl, rfl, rfl, rfl, trivial, rfl⟩, ?_⟩
        cbv
        injection h with h
        subst h
        refine ⟨(sparse 51 [(6, .c (.ptr 384 0)), (7, .c (.v (.bool true)))] [(384, .var [.v (.int .i64 y18.fX0), .v (.int .i64 y18.fY0), .v (.int .i64 y18.fX1), .v (.int .i64 y18.fY1)])]), ?_, ?_⟩
        · exact le_sparse rfl ⟨AV.le_refl _, AV.le_refl _, trivial⟩ ⟨rfl, trivial⟩ rfl
        · exact ⟨AV.le_refl _, trivial, rfl⟩

noncomputable def L_impl_instanceBox_x19 (a0 : TInstance) (a1 : TRect) (v3 : Int) : (Int × (List TRect)) → Option ((Int × (List TRect)) ⊕ (((List TRect)))) := fun x19 =>
  letO x19.1 fun v17 =>
  letO x19.2 fun v18 =>
  br (std.lt v17 a0.fColumns)
  ((F_impl_elementPlace a0 v17 v3).bind fun y31 =>
  (F_impl_moveRect y31 a1).bind fun y33 =>
  letO ([y33] : List TRect) fun l35 =>
  req (std.room (std.nadd (len v18) (len l35)) 32) <|
  letO (v18 ++ l35) fun l37 =>
  some (.inl (std.add .i64 v17 1, l37)))
  (some (.inr v18))
noncomputable def L_impl_instanceBox_x5 (a0 : TInstance) (a1 : TRect) : (Int × (List TRect)) → Option ((Int × (List TRect)) ⊕ (((List TRect)))) := fun x5 =>
  letO x5.1 fun v3 =>
  letO x5.2 fun v4 =>
  br (std.lt v3 a0.fRows)
  ((whileP (σ := Int × (List TRect)) (ρ := ((List TRect))) (L_impl_instanceBox_x19 a0 a1 v3) (0, v4)).bind fun y20 =>
  letO y20 fun y20k0 =>
  letO y20k0 fun w41 =>
  some (.inl (std.add .i64 v3 1, w41)))
  (some (.inr v4))
/-- impl.instanceBox -/
noncomputable def F_impl_instanceBox (a0 : TInstance) (a1 : TRect) : Option (TRect) :=
  letO ([] : List TRect) fun l1 =>
  (whileP (σ := Int × (List TRect)) (ρ := ((List TRect))) (L_impl_instanceBox_x5 a0 a1) (0, l1)).bind fun y6 =>
  letO y6 fun y6k0 =>
  letO y6k0 fun w43 =>
  (F_impl_boxOf w43).bind fun y44 =>
  some y44
theorem run_impl_instanceBox (a0 : TInstance) (a1 : TRect) (r : TRect) (h : F_impl_instanceBox a0 a1 = some r) : Fun Try.prog 62 [.agg [.v (.int .i64 a0.fCell), .v (.int .i64 a0.fPlace.fOrientation), .v (.int .i64 a0.fPlace.fX), .v (.int .i64 a0.fPlace.fY), .v (.int .i64 a0.fColumns), .v (.int .i64 a0.fRows), .v (.int .i64 a0.fStepX), .v (.int .i64 a0.fStepY)], .agg [.v (.int .i64 a1.fX0), .v (.int .i64 a1.fY0), .v (.int .i64 a1.fX1), .v (.int .i64 a1.fY1)]] [] (.agg [.v (.int .i64 r.fX0), .v (.int .i64 r.fY0), .v (.int .i64 r.fX1), .v (.int .i64 r.fY1)]) [] true := by
  refine Fun.of_wp (oneOf []) tok mixed Try.func62 (by kernel_rfl) rfl Try.ntmps62 rfl trivial (fun _ => ⟨(by simp [AV.flat, AV.flat1, AC.flat]), trivial⟩) ?_
  unfold F_impl_instanceBox at h
  unfold L_impl_instanceBox_x5 at h
  unfold L_impl_instanceBox_x19 at h
  have hf_impl_boxOf := @run_impl_boxOf
  have hf_impl_elementPlace := @run_impl_elementPlace
  have hf_impl_moveRect := @run_impl_moveRect
  generalize hLEN : @len = LEN at *
  generalize hGD : @gd = GD at *
  generalize hA : std = A at *
  generalize hP : Try.prog = P at *
  cbv
  replace h := of_let h
  obtain ⟨l1, hl1, h⟩ := h
  have e2 : 0 = LEN l1 := by subst hl1 hLEN; rfl
  refine ⟨_, congrArg (fun n => AV.c (AC.os 512 0 n)) e2, _, row GD (encRect) l1, e2, ?_, ?_⟩
  · intro i hi j hj
    rw [← e2] at hi
    subst hl1
    subst hGD
    omega
  cbv
  replace h := of_bind h
  obtain ⟨y6, hr7, hN8⟩ := h
  refine loop_cut hr7 (fun x => (sparse 32 [(2, .c (.ptr 128 0)), (3, .c (.ptr 192 0)), (4, .c (.ptr 256 0)), (5, .c (.os 512 0 (LEN x.2))), (10, .c (.v (.int .i64 a0.fRows))), (11, .c (.v (.int .i64 x.1)))] [(128, .var [.v (.int .i64 a0.fCell), .v (.int .i64 a0.fPlace.fOrientation), .v (.int .i64 a0.fPlace.fX), .v (.int .i64 a0.fPlace.fY), .v (.int .i64 a0.fColumns), .v (.int .i64 a0.fRows), .v (.int .i64 a0.fStepX), .v (.int .i64 a0.fStepY)]), (192, .var [.v (.int .i64 a1.fX0), .v (.int .i64 a1.fY0), .v (.int .i64 a1.fX1), .v (.int .i64 a1.fY1)]), (256, .var [.v (.int .i64 0), .v (.int .i64 0), .v (.int .i64 0), .v (.int .i64 0)]), (512, .arr .rw [] (LEN x.2) 4 (row GD (encRect) x.2))])) ?_ (fun y e s => (fun (w : (List TRect)) => e = .exit 0 ∧ s.le (sparse 32 [(4, .c (.ptr 256 0)), (5, .c (.os 512 0 (LEN w)))] [(256, .var [.v (.int .i64 0), .v (.int .i64 0), .v (.int .i64 0), .v (.int .i64 0)]), (512, .arr .rw [] (LEN w) 4 (row GD (encRect) w))])) y) ?_ ?_
  · clear hr7 hN8
    show St.le _ _
    exact le_sparse rfl ⟨AV.le_refl _, AV.le_refl _, AV.le_refl _, AV.le_refl _, AV.le_refl _, AV.le_refl _, trivial⟩ ⟨rfl, rfl, rfl, ⟨fun hw => hw, fun c hc => (by cases hc), .inl rfl, rfl, rfl, fun i hi j hj => rfl⟩, trivial⟩ rfl
  · clear hr7 hN8
    intro x z12 h K10 hK11 hY9
    obtain ⟨x0_, x1_⟩ := x
    replace h := of_let h
    obtain ⟨v3, hv3, h⟩ := h
    have hv3 : v3 = x0_ := hv3
    subst hv3
    replace h := of_let h
    obtain ⟨v4, hv4, h⟩ := h
    have hv4 : v4 = x1_ := hv4
    subst hv4
    cbv
    refine fork (fun b42 => ?_) (fun b42 => ?_)
    · replace h := of_br_t b42 h
      cbv
      replace h := of_bind h
      obtain ⟨y20, hr21, hN22⟩ := h
      refine loop_cut hr21 (fun x => (sparse 32 [(2, .c (.ptr 128 0)), (3, .c (.ptr 192 0)), (4, .c (.ptr 256 0)), (5, .c (.os 512 0 (LEN x.2))), (6, .c (.v (.int .i64 v3))), (10, .c (.v (.int .i64 a0.fRows))), (11, .c (.v (.int .i64 v3))), (15, .c (.v (.int .i64 a0.fColumns))), (16, .c (.v (.int .i64 x.1)))] [(128, .var [.v (.int .i64 a0.fCell), .v (.int .i64 a0.fPlace.fOrientation), .v (.int .i64 a0.fPlace.fX), .v (.int .i64 a0.fPlace.fY), .v (.int .i64 a0.fColumns), .v (.int .i64 a0.fRows), .v (.int .i64 a0.fStepX), .v (.int .i64 a0.fStepY)]), (192, .var [.v (.int .i64 a1.fX0), .v (.int .i64 a1.fY0), .v (.int .i64 a1.fX1), .v (.int .i64 a1.fY1)]), (256, .var [.v (.int .i64 0), .v (.int .i64 0), .v (.int .i64 0), .v (.int .i64 0)]), (512, .arr .rw [] (LEN x.2) 4 (row GD (encRect) x.2))])) ?_ (fun y e s => (fun (w : (List TRect)) => e = .exit 2 ∧ s.le (sparse 32 [(2, .c (.ptr 128 0)), (3, .c (.ptr 192 0)), (4, .c (.ptr 256 0)), (5, .c (.os 512 0 (LEN w))), (10, .c (.v (.int .i64 a0.fRows))), (11, .c (.v (.int .i64 v3)))] [(128, .var [.v (.int .i64 a0.fCell), .v (.int .i64 a0.fPlace.fOrientation), .v (.int .i64 a0.fPlace.fX), .v (.int .i64 a0.fPlace.fY), .v (.int .i64 a0.fColumns), .v (.int .i64 a0.fRows), .v (.int .i64 a0.fStepX), .v (.int .i64 a0.fStepY)]), (192, .var [.v (.int .i64 a1.fX0), .v (.int .i64 a1.fY0), .v (.int .i64 a1.fX1), .v (.int .i64 a1.fY1)]), (256, .var [.v (.int .i64 0), .v (.int .i64 0), .v (.int .i64 0), .v (.int .i64 0)]), (512, .arr .rw [] (LEN w) 4 (row GD (encRect) w))])) y) ?_ ?_
      · clear hr21 hN22
        show St.le _ _
        exact le_sparse rfl ⟨AV.le_refl _, AV.le_refl _, AV.le_refl _, AV.le_refl _, AV.le_refl _, AV.le_refl _, AV.le_refl _, AV.le_refl _, AV.le_refl _, trivial⟩ ⟨rfl, rfl, rfl, ⟨fun hw => hw, fun c hc => (by cases hc), .inl rfl, rfl, rfl, fun i hi j hj => rfl⟩, trivial⟩ rfl
      · clear hr21 hN22
        intro x z26 h K24 hK25 hY23
        obtain ⟨x0_, x1_⟩ := x
        replace h := of_let h
        obtain ⟨v17, hv17, h⟩ := h
        have hv17 : v17 = x0_ := hv17
        subst hv17
        replace h := of_let h
        obtain ⟨v18, hv18, h⟩ := h
        have hv18 : v18 = x1_ := hv18
        subst hv18
        cbv
        refine fork (fun b40 => ?_) (fun b40 => ?_)
        · replace h := of_br_t b40 h
          cbv
          replace h := of_bind h
          obtain ⟨y31, hy32, h⟩ := h
          refine ⟨{ args := [.agg [.v (.int .i64 a0.fCell), .v (.int .i64 a0.fPlace.fOrientation), .v (.int .i64 a0.fPlace.fX), .v (.int .i64 a0.fPlace.fY), .v (.int .i64 a0.fColumns), .v (.int .i64 a0.fRows), .v (.int .i64 a0.fStepX), .v (.int .i64 a0.fStepY)], .c (.v (.int .i64 v17)), .c (.v (.int .i64 v3))], o0 := [], r := .agg [.v (.int .i64 y31.fOrientation), .v (.int .i64 y31.fX), .v (.int .i64 y31.fY)], o1 := [], fl := true, σ := [], τ := [] }, hf_impl_elementPlace _ _ _ _ hy32, ⟨les_cons (AV.le_refl _) (les_cons (AV.le_refl _) (les_cons (AV.le_refl _) (les_nil))), trivial, rfl, rfl, rfl, rfl, trivial, rfl⟩, ?_⟩
          cbv
          replace h := of_bind h
          obtain ⟨y33, hy34, h⟩ := h
          refine ⟨{ args := [.agg [.v (.int .i64 y31.fOrientation), .v (.int .i64 y31.fX), .v (.int .i64 y31.fY)], .agg [.v (.int .i64 a1.fX0), .v (.int .i64 a1.fY0), .v (.int .i64 a1.fX1), .v (.int .i64 a1.fY1)]], o0 := [], r := .agg [.v (.int .i64 y33.fX0), .v (.int .i64 y33.fY0), .v (.int .i64 y33.fX1), .v (.int .i64 y33.fY1)], o1 := [], fl := true, σ := [], τ := [] }, hf_impl_moveRect _ _ _ hy34, ⟨les_cons (AV.le_refl _) (les_cons (AV.le_refl _) (les_nil)), trivial, rfl, rfl, rfl, rfl, trivial, rfl⟩, ?_⟩
          cbv
          replace h := of_let h
          obtain ⟨l35, hl35, h⟩ := h
          have e36 : 1 = LEN l35 := by subst hl35 hLEN; rfl
          refine ⟨_, congrArg (fun n => AV.c (AC.os 1664 0 n)) e36, _, row GD (encRect) l35, e36, ?_, ?_⟩
          · intro i hi j hj
            rw [← e36] at hi
            subst hl35
            subst hGD
            obtain rfl : i = 0 := (by omega) <;> obtain rfl | rfl | rfl | rfl : j = 0 ∨ j = 1 ∨ j = 2 ∨ j = 3 := (by omega)
            all_goals rfl
          cbv
          replace h := of_req h
          obtain ⟨c39, h⟩ := h
          replace h := of_let h
          obtain ⟨l37, hl37, h⟩ := h
          have e38 : A.nadd (LEN v18) (LEN l35) = LEN l37 := by subst hl37 hLEN hA; simp [std, len]
          refine ⟨c39, _, congrArg (fun n => AV.c (AC.os 512 0 n)) e38, _, row GD (encRect) l37, e38, ?_, ?_⟩
          · subst hGD hLEN hA
            exact app_os (off := 0) (pl_encRect) hl37 (Nat.le_refl _)
          cbv
          injection h with h
          refine hK25 _ h.symm _ ?_
          exact le_sparse rfl ⟨AV.le_refl _, AV.le_refl _, AV.le_refl _, AV.le_refl _, AV.le_refl _, AV.le_refl _, AV.le_refl _, AV.le_refl _, AV.le_refl _, trivial⟩ ⟨rfl, rfl, rfl, ⟨fun hw => hw, fun c hc => (by cases hc), .inl rfl, rfl, rfl, fun i hi j hj => rfl⟩, trivial⟩ rfl
        · replace h := of_br_f b40 h
          cbv
          injection h with h
          refine hY23 _ h.symm _ _ (And.intro rfl ?_) (by intro hh; cases hh)
          exact le_sparse rfl ⟨AV.le_refl _, AV.le_refl _, AV.le_refl _, AV.le_refl _, AV.le_refl _, AV.le_refl _, trivial⟩ ⟨rfl, rfl, rfl, ⟨fun hw => hw, fun c hc => (by cases hc), .inl rfl, rfl, rfl, fun i hi j hj => rfl⟩, trivial⟩ rfl
      · clear hr21
        have h := hN22
        clear hN22
        intro e29 s30 q28 hne
        replace h := of_let h
        obtain ⟨y20k0, hyk, h⟩ := h
        have hyk : y20k0 = y20 := hyk
        subst hyk
        obtain ⟨rfl, q28⟩ := q28
        replace h := of_let h
        obtain ⟨w41, hw41, h⟩ := h
        have hw41 : w41 = y20k0 := hw41
        subst hw41
        cbv
        refine ⟨_, q28, ?_⟩
        cbv
        injection h with h
        refine hK11 _ h.symm _ ?_
        exact le_sparse rfl ⟨AV.le_refl _, AV.le_refl _, AV.le_refl _, AV.le_refl _, AV.le_refl _, AV.le_refl _, trivial⟩ ⟨rfl, rfl, rfl, ⟨fun hw => hw, fun c hc => (by cases hc), .inl rfl, rfl, rfl, fun i hi j hj => rfl⟩, trivial⟩ rfl
    · replace h := of_br_f b42 h
      cbv
      injection h with h
      refine hY9 _ h.symm _ _ (And.intro rfl ?_) (by intro hh; cases hh)
      exact le_sparse rfl ⟨AV.le_refl _, AV.le_refl _, trivial⟩ ⟨rfl, ⟨fun hw => hw, fun c hc => (by cases hc), .inl rfl, rfl, rfl, fun i hi j hj => rfl⟩, trivial⟩ rfl
  · clear hr7
    have h := hN8
    clear hN8
    intro e15 s16 q14 hne
    replace h := of_let h
    obtain ⟨y6k0, hyk, h⟩ := h
    have hyk : y6k0 = y6 := hyk
    subst hyk
    obtain ⟨rfl, q14⟩ := q14
    replace h := of_let h
    obtain ⟨w43, hw43, h⟩ := h
    have hw43 : w43 = y6k0 := hw43
    subst hw43
    cbv
    refine ⟨_, q14, ?_⟩
    cbv
    replace h := of_bind h
    obtain ⟨y44, hy45, h⟩ := h
    refine ⟨{ args := [.c (.bs (LEN w43) 4 (row GD (encRect) w43))], o0 := [], r := .agg [.v (.int .i64 y44.fX0), .v (.int .i64 y44.fY0), .v (.int .i64 y44.fX1), .v (.int .i64 y44.fY1)], o1 := [], fl := true, σ := [], τ := [] }, hf_impl_boxOf _ _ hy45, ⟨les_cons (give_os (pl_encRect) rfl rfl rfl) (les_nil), trivial, rfl, rfl, rfl, rfl, trivial, rfl⟩, ?_⟩
    cbv
    injection h with h
    subst h
    refine ⟨(sparse 32 [(4, .c (.ptr 256 0))] [(256, .var [.v (.int .i64 y44.fX0), .v (.int .i64 y44.fY0), .v (.int .i64 y44.fX1), .v (.int .i64 y44.fY1)])]), ?_, ?_⟩
    · exact le_sparse rfl ⟨AV.le_refl _, trivial⟩ ⟨rfl, trivial⟩ rfl
    · exact ⟨AV.le_refl _, trivial, rfl⟩

/-- impl.InstanceBox -/
noncomputable def F_impl_InstanceBox (a0 : TLibrary) (a1 : Int) (a2 : Int) : Option (TRect × Bool) :=
  ((
        (F_impl_hasCell (TLibrary.mk a0.fCells) a1).bind fun y8 =>
        br (!(y8))
        (some true)
        (req (std.inR a1 (len a0.fCells)) <|
        (F_impl_within a2 0 (std.sub .i64 (std.ofN (len (gd a0.fCells (std.toN a1)).fInstances)) 1)).bind fun y11 =>
        some (!(y11)))
    ) : Option (Bool)).bind fun y1 =>
  letO y1 fun w7 =>
  br w7
  (some ((TRect.mk 0 0 0 0), false))
  (req (std.inR a1 (len a0.fCells)) <|
  req (std.inR a2 (len (gd a0.fCells (std.toN a1)).fInstances)) <|
  (F_impl_contentBoxes (TLibrary.mk a0.fCells)).bind fun y16 =>
  req (std.inR (gd (gd a0.fCells (std.toN a1)).fInstances (std.toN a2)).fCell (len y16)) <|
  br (std.eq (std.ofN (len (gd y16 (std.nadd 0 (std.toN (gd (gd a0.fCells (std.toN a1)).fInstances (std.toN a2)).fCell))))) 0)
  (some ((TRect.mk 0 0 0 0), false))
  (req (std.inR 0 (len (gd y16 (std.nadd 0 (std.toN (gd (gd a0.fCells (std.toN a1)).fInstances (std.toN a2)).fCell))))) <|
  (F_impl_instanceBox (gd (gd a0.fCells (std.toN a1)).fInstances (std.toN a2)) (gd (gd y16 (std.nadd 0 (std.toN (gd (gd a0.fCells (std.toN a1)).fInstances (std.toN a2)).fCell))) (std.nadd 0 (std.toN 0)))).bind fun y20 =>
  some (y20, true)))
theorem run_impl_InstanceBox (a0 : TLibrary) (a1 : Int) (a2 : Int) (r : TRect × Bool) (h : F_impl_InstanceBox a0 a1 a2 = some r) : Fun Try.prog 24 [.agg [.bs (len a0.fCells) 4 (row gd (encCell len gd) a0.fCells)], .c (.v (.int .i64 a1)), .c (.v (.int .i64 a2))] [] (.tup [.agg [.v (.int .i64 r.1.fX0), .v (.int .i64 r.1.fY0), .v (.int .i64 r.1.fX1), .v (.int .i64 r.1.fY1)], .c (.v (.bool r.2))]) [] true := by
  refine Fun.of_wp (oneOf [1]) tok mixed Try.func24 (by kernel_rfl) rfl Try.ntmps24 rfl trivial (fun _ => ⟨(by simp [AV.flat, AV.flat1, AC.flat]), trivial⟩) ?_
  unfold F_impl_InstanceBox at h
  have hf_impl_contentBoxes := @run_impl_contentBoxes
  have hf_impl_hasCell := @run_impl_hasCell
  have hf_impl_instanceBox := @run_impl_instanceBox
  have hf_impl_within := @run_impl_within
  generalize hLEN : @len = LEN at *
  generalize hGD : @gd = GD at *
  generalize hA : std = A at *
  generalize hP : Try.prog = P at *
  cbv
  replace h := of_bind h
  obtain ⟨y1, hy2, h⟩ := h
  obtain ⟨S5, hS6⟩ : ∃ S, S = (sparse 52 [(1, .c (.v (.int .i64 a1))), (2, .c (.v (.int .i64 a2))), (3, .c (.ptr 192 0)), (6, .c (.ptr 384 0)), (26, .c (.v (.bool y1)))] [(192, .var [.bs (LEN a0.fCells) 4 (row GD (encCell LEN GD) a0.fCells)]), (384, .var [.v (.int .i64 0), .v (.int .i64 0), .v (.int .i64 0), .v (.int .i64 0)])]) := ⟨_, rfl⟩
  refine ⟨S5, ?_, ?_⟩
  · clear h
    have h := hy2
    clear hy2
    cbv
    replace h := of_bind h
    obtain ⟨y8, hy9, h⟩ := h
    refine ⟨{ args := [.agg [.bs (LEN a0.fCells) 4 (row GD (encCell LEN GD) a0.fCells)], .c (.v (.int .i64 a1))], o0 := [], r := .c (.v (.bool y8)), o1 := [], fl := true, σ := [], τ := [] }, hf_impl_hasCell _ _ _ hy9, ⟨les_cons (AV.le_refl _) (les_cons (AV.le_refl _) (les_nil)), trivial, rfl, rfl, rfl, rfl, trivial, rfl⟩, ?_⟩
    cbv
    refine fork (fun b13 => ?_) (fun b13 => ?_)
    · replace h := of_br_t b13 h
      cbv
      injection h with h
      subst h
      subst hS6
      show St.le _ _
      exact le_sparse rfl ⟨AV.le_refl _, AV.le_refl _, AV.le_refl _, AV.le_refl _, AV.le_refl _, trivial⟩ ⟨rfl, rfl, trivial⟩ rfl
    · replace h := of_br_f b13 h
      cbv
      replace h := of_req h
      obtain ⟨c10, h⟩ := h
      refine ⟨⟨c10, trivial⟩, ?_⟩
      replace h := of_bind h
      obtain ⟨y11, hy12, h⟩ := h
      refine ⟨{ args := [.c (.v (.int .i64 a2)), .c (.v (.int .i64 0)), .c (.v (.int .i64 (A.sub .i64 (A.ofN (LEN (GD a0.fCells (A.toN a1)).fInstances)) 1)))], o0 := [], r := .c (.v (.bool y11)), o1 := [], fl := true, σ := [], τ := [] }, hf_impl_within _ _ _ _ hy12, ⟨les_cons (AV.le_refl _) (les_cons (AV.le_refl _) (les_cons (AV.le_refl _) (les_nil))), trivial, rfl, rfl, rfl, rfl, trivial, rfl⟩, ?_⟩
      cbv
      injection h with h
      subst h
      subst hS6
      show St.le _ _
      exact le_sparse rfl ⟨AV.le_refl _, AV.le_refl _, AV.le_refl _, AV.le_refl _, AV.le_refl _, trivial⟩ ⟨rfl, rfl, trivial⟩ rfl
  · clear hy2
    subst hS6
    replace h := of_let h
    obtain ⟨w7, hw7, h⟩ := h
    have hw7 : w7 = y1 := hw7
    subst hw7
    cbv
    refine fork (fun b23 => ?_) (fun b23 => ?_)
    · replace h := of_br_t b23 h
      cbv
      injection h with h
      subst h
      refine ⟨(sparse 52 [(6, .c (.ptr 384 0)), (7, .c (.v (.bool false)))] [(384, .var [.v (.int .i64 0), .v (.int .i64 0), .v (.int .i64 0), .v (.int .i64 0)])]), ?_, ?_⟩
      · exact le_sparse rfl ⟨AV.le_refl _, AV.le_refl _, trivial⟩ ⟨rfl, trivial⟩ rfl
      · exact ⟨AV.le_refl _, trivial, rfl⟩
    · replace h := of_br_f b23 h
      cbv
      replace h := of_req h
      obtain ⟨c14, h⟩ := h
      refine ⟨⟨c14, trivial⟩, ?_⟩
      replace h := of_req h
      obtain ⟨c15, h⟩ := h
      refine ⟨⟨c15, trivial⟩, ?_⟩
      replace h := of_bind h
      obtain ⟨y16, hy17, h⟩ := h
      refine ⟨{ args := [.agg [.bs (LEN a0.fCells) 4 (row GD (encCell LEN GD) a0.fCells)]], o0 := [], r := .c (.os 64000 0 (LEN y16)), o1 := [(64000, .arr .rw [] (LEN y16) 1 (row GD (oncL LEN GD 4 (encRect)) y16))], fl := true, σ := [], τ := [(64000, 2432)] }, hf_impl_contentBoxes _ _ hy17, ⟨les_cons (AV.le_refl _) (les_nil), trivial, rfl, rfl, rfl, rfl, ⟨fun h => absurd (show (64000 : Nat) % 2 = 1 from h) (by decide), trivial⟩, rfl⟩, _, rfl, _, _, rfl, fun _ _ _ _ => rfl, ?_⟩
      cbv
      replace h := of_req h
      obtain ⟨c18, h⟩ := h
      refine ⟨⟨c18, trivial⟩, ?_⟩
      refine And.intro (by first | exact (by subst hA; exact idx_lt c18) | (refine And.intro (by subst hA; exact idx_lt c18) ?_; first | trivial | exact ⟨trivial, trivial⟩)) ?_
      refine ⟨_, rfl, _, (patchC (row GD (oncL LEN GD 4 (encRect)) y16) (A.nadd 0 (A.toN (GD (GD a0.fCells (A.toN a1)).fInstances (A.toN a2)).fCell)) [.os 2690 0 (LEN (GD y16 (A.nadd 0 (A.toN (GD (GD a0.fCells (A.toN a1)).fInstances (A.toN a2)).fCell))))]), rfl, ?_, ?_⟩
      · refine patch_of ?_
        intro j hj
        match j, hj with | 0, _ => (rfl) | (j_ + 1), h_ => exact absurd h_ (by omega)
      refine ⟨_, row GD (encRect) (GD y16 (A.nadd 0 (A.toN (GD (GD a0.fCells (A.toN a1)).fInstances (A.toN a2)).fCell))), rfl, ?_, ?_⟩
      · exact fun i _ j _ => plain_cp (pl_encRect _ _)
      cbv
      refine fork (fun b22 => ?_) (fun b22 => ?_)
      · replace h := of_br_t b22 h
        cbv
        injection h with h
        subst h
        refine ⟨(sparse 52 [(6, .c (.ptr 384 0)), (7, .c (.v (.bool false)))] [(384, .var [.v (.int .i64 0), .v (.int .i64 0), .v (.int .i64 0), .v (.int .i64 0)])]), ?_, ?_⟩
        · exact le_sparse rfl ⟨AV.le_refl _, AV.le_refl _, trivial⟩ ⟨rfl, trivial⟩ rfl
        · exact ⟨AV.le_refl _, trivial, rfl⟩
      · replace h := of_br_f b22 h
        cbv
        replace h := of_req h
        obtain ⟨c19, h⟩ := h
        refine ⟨⟨c19, trivial⟩, ?_⟩
        refine And.intro (by first | exact (by subst hA; exact idx_lt c19) | (refine And.intro (by subst hA; exact idx_lt c19) ?_; first | trivial | exact ⟨trivial, trivial⟩)) ?_
        replace h := of_bind h
        obtain ⟨y20, hy21, h⟩ := h
        refine ⟨{ args := [.agg [.v (.int .i64 (GD (GD a0.fCells (A.toN a1)).fInstances (A.toN a2)).fCell), .v (.int .i64 (GD (GD a0.fCells (A.toN a1)).fInstances (A.toN a2)).fPlace.fOrientation), .v (.int .i64 (GD (GD a0.fCells (A.toN a1)).fInstances (A.toN a2)).fPlace.fX), .v (.int .i64 (GD (GD a0.fCells (A.toN a1)).fInstances (A.toN a2)).fPlace.fY), .v (.int .i64 (GD (GD a0.fCells (A.toN a1)).fInstances (A.toN a2)).fColumns), .v (.int .i64 (GD (GD a0.fCells (A.toN a1)).fInstances (A.toN a2)).fRows), .v (.int .i64 (GD (GD a0.fCells (A.toN a1)).fInstances (A.toN a2)).fStepX), .v (.int .i64 (GD (GD a0.fCells (A.toN a1)).fInstances (A.toN a2)).fStepY)], .agg [.v (.int .i64 (GD (GD y16 (A.nadd 0 (A.toN (GD (GD a0.fCells (A.toN a1)).fInstances (A.toN a2)).fCell))) (A.nadd 0 (A.toN 0))).fX0), .v (.int .i64 (GD (GD y16 (A.nadd 0 (A.toN (GD (GD a0.fCells (A.toN a1)).fInstances (A.toN a2)).fCell))) (A.nadd 0 (A.toN 0))).fY0), .v (.int .i64 (GD (GD y16 (A.nadd 0 (A.toN (GD (GD a0.fCells (A.toN a1)).fInstances (A.toN a2)).fCell))) (A.nadd 0 (A.toN 0))).fX1), .v (.int .i64 (GD (GD y16 (A.nadd 0 (A.toN (GD (GD a0.fCells (A.toN a1)).fInstances (A.toN a2)).fCell))) (A.nadd 0 (A.toN 0))).fY1)]], o0 := [], r := .agg [.v (.int .i64 y20.fX0), .v (.int .i64 y20.fY0), .v (.int .i64 y20.fX1), .v (.int .i64 y20.fY1)], o1 := [], fl := true, σ := [], τ := [] }, hf_impl_instanceBox _ _ _ hy21, ⟨les_cons (AV.le_refl _) (les_cons (AV.le_refl _) (les_nil)), trivial, rfl, rfl, rfl, rfl, trivial, rfl⟩, ?_⟩
        cbv
        injection h with h
        subst h
        refine ⟨(sparse 52 [(6, .c (.ptr 384 0)), (7, .c (.v (.bool true)))] [(384, .var [.v (.int .i64 y20.fX0), .v (.int .i64 y20.fY0), .v (.int .i64 y20.fX1), .v (.int .i64 y20.fY1)])]), ?_, ?_⟩
        · exact le_sparse rfl ⟨AV.le_refl _, AV.le_refl _, trivial⟩ ⟨rfl, trivial⟩ rfl
        · exact ⟨AV.le_refl _, trivial, rfl⟩

/-- laws.FnExactInstanceBox -/
noncomputable def F_laws_FnExactInstanceBox (a0 : TLibrary) (a1 : Int) (a2 : Int) : Option (Bool) :=
  (F_laws_szLibrary (TLibrary.mk a0.fCells) 1048576).bind fun y1 =>
  br (std.lt y1 0)
  (some true)
  ((F_laws_toLibrary (TLibrary.mk a0.fCells)).bind fun y3 =>
  (F_spec_InstanceBox y3 a1 a2).bind fun y5 =>
  (F_laws_toLibrary (TLibrary.mk a0.fCells)).bind fun y7 =>
  (F_impl_InstanceBox y7 a1 a2).bind fun y9 =>
  ((
        (F_laws_eqRect y9.1 y5.1).bind fun y18 =>
        br (!(y18))
        (some true)
        (some (std.not (std.beq y9.2 y5.2)))
    ) : Option (Bool)).bind fun y11 =>
  letO y11 fun w17 =>
  br w17
  (some false)
  ((F_laws_toLibrary (TLibrary.mk a0.fCells)).bind fun y21 =>
  (F_laws_eqLibrary y7 y21).bind fun y23 =>
  br (!(y23))
  (some false)
  (some true)))
theorem run_laws_FnExactInstanceBox (a0 : TLibrary) (a1 : Int) (a2 : Int) (r : Bool) (h : F_laws_FnExactInstanceBox a0 a1 a2 = some r) : Fun Try.prog 5 [.agg [.bs (len a0.fCells) 4 (row gd (encCell len gd) a0.fCells)], .c (.v (.int .i64 a1)), .c (.v (.int .i64 a2))] [] (.c (.v (.bool r))) [] true := by
  refine Fun.of_wp (oneOf [8]) tok mixed Try.func5 (by kernel_rfl) rfl Try.ntmps5 rfl trivial (fun _ => ⟨trivial, trivial⟩) ?_
  unfold F_laws_FnExactInstanceBox at h
  have hf_impl_InstanceBox := @run_impl_InstanceBox
  have hf_laws_eqLibrary := @run_laws_eqLibrary
  have hf_laws_eqRect := @run_laws_eqRect
  have hf_laws_szLibrary := @run_laws_szLibrary
  have hf_laws_toLibrary := @run_laws_toLibrary
  have hf_spec_InstanceBox := @run_spec_InstanceBox
  generalize hLEN : @len = LEN at *
  generalize hGD : @gd = GD at *
  generalize hA : std = A at *
  generalize hP : Try.prog = P at *
  cbv
  replace h := of_bind h
  obtain ⟨y1, hy2, h⟩ := h
  refine ⟨{ args := [.agg [.bs (LEN a0.fCells) 4 (row GD (encCell LEN GD) a0.fCells)], .c (.v (.int .i64 1048576))], o0 := [], r := .c (.v (.int .i64 y1)), o1 := [], fl := true, σ := [], τ := [] }, hf_laws_szLibrary _ _ _ hy2, ⟨les_cons (AV.le_refl _) (les_cons (AV.le_refl _) (les_nil)), trivial, rfl, rfl, rfl, rfl, trivial, rfl⟩, ?_⟩
  cbv
  refine fork (fun b27 => ?_) (fun b27 => ?_)
  · replace h := of_br_t b27 h
    cbv
    injection h with h
    subst h
    refine ⟨(sparse 49 [(6, .c (.v (.bool true)))] []), ?_, ?_⟩
    · exact le_sparse rfl ⟨AV.le_refl _, trivial⟩ trivial rfl
    · exact ⟨AV.le_refl _, trivial, rfl⟩
  · replace h := of_br_f b27 h
    cbv
    replace h := of_bind h
    obtain ⟨y3, hy4, h⟩ := h
    refine ⟨{ args := [.agg [.bs (LEN a0.fCells) 4 (row GD (encCell LEN GD) a0.fCells)]], o0 := [], r := .agg [.os 64000 0 (LEN y3.fCells)], o1 := [(64000, .arr .rw [] (LEN y3.fCells) 4 (row GD (oncCell LEN GD) y3.fCells))], fl := true, σ := [], τ := [(64000, 1280)] }, hf_laws_toLibrary _ _ hy4, ⟨les_cons (AV.le_refl _) (les_nil), trivial, rfl, rfl, rfl, rfl, ⟨fun h => absurd (show (64000 : Nat) % 2 = 1 from h) (by decide), trivial⟩, rfl⟩, _, rfl, _, _, rfl, fun _ _ _ _ => rfl, ?_⟩
    cbv
    replace h := of_bind h
    obtain ⟨y5, hy6, h⟩ := h
    refine ⟨{ args := [.agg [.bs (LEN y3.fCells) 4 (row GD (encCell LEN GD) y3.fCells)], .c (.v (.int .i64 a1)), .c (.v (.int .i64 a2))], o0 := [], r := .tup [.agg [.v (.int .i64 y5.1.fX0), .v (.int .i64 y5.1.fY0), .v (.int .i64 y5.1.fX1), .v (.int .i64 y5.1.fY1)], .c (.v (.bool y5.2))], o1 := [], fl := true, σ := [], τ := [] }, hf_spec_InstanceBox _ _ _ _ hy6, ⟨les_cons (le_agg ⟨give_osD (rf_oncCell) (ln_oncCell) rfl rfl rfl, trivial⟩) (les_cons (AV.le_refl _) (les_cons (AV.le_refl _) (les_nil))), trivial, rfl, rfl, rfl, rfl, trivial, rfl⟩, ?_⟩
    cbv
    replace h := of_bind h
    obtain ⟨y7, hy8, h⟩ := h
    refine ⟨{ args := [.agg [.bs (LEN a0.fCells) 4 (row GD (encCell LEN GD) a0.fCells)]], o0 := [], r := .agg [.os 64000 0 (LEN y7.fCells)], o1 := [(64000, .arr .rw [] (LEN y7.fCells) 4 (row GD (oncCell LEN GD) y7.fCells))], fl := true, σ := [], τ := [(64000, 1728)] }, hf_laws_toLibrary _ _ hy8, ⟨les_cons (AV.le_refl _) (les_nil), trivial, rfl, rfl, rfl, rfl, ⟨fun h => absurd (show (64000 : Nat) % 2 = 1 from h) (by decide), trivial⟩, rfl⟩, _, rfl, _, _, rfl, fun _ _ _ _ => rfl, ?_⟩
    cbv
    replace h := of_bind h
    obtain ⟨y9, hy10, h⟩ := h
    refine ⟨{ args := [.agg [.bs (LEN y7.fCells) 4 (row GD (encCell LEN GD) y7.fCells)], .c (.v (.int .i64 a1)), .c (.v (.int .i64 a2))], o0 := [], r := .tup [.agg [.v (.int .i64 y9.1.fX0), .v (.int .i64 y9.1.fY0), .v (.int .i64 y9.1.fX1), .v (.int .i64 y9.1.fY1)], .c (.v (.bool y9.2))], o1 := [], fl := true, σ := [], τ := [] }, hf_impl_InstanceBox _ _ _ _ hy10, ⟨les_cons (le_agg ⟨give_osD (rf_oncCell) (ln_oncCell) rfl rfl rfl, trivial⟩) (les_cons (AV.le_refl _) (les_cons (AV.le_refl _) (les_nil))), trivial, rfl, rfl, rfl, rfl, trivial, rfl⟩, ?_⟩
    cbv
    replace h := of_bind h
    obtain ⟨y11, hy12, h⟩ := h
    obtain ⟨S15, hS16⟩ : ∃ S, S = (sparse 49 [(3, .c (.ptr 192 0)), (10, .c (.ptr 640 0)), (43, .c (.v (.bool y11)))] [(192, .var [.bs (LEN a0.fCells) 4 (row GD (encCell LEN GD) a0.fCells)]), (640, .var [.os 1728 0 (LEN y7.fCells)]), (1728, .arr .rw [] (LEN y7.fCells) 4 (row GD (oncCell LEN GD) y7.fCells))]) := ⟨_, rfl⟩
    refine ⟨S15, ?_, ?_⟩
    · clear h
      have h := hy12
      clear hy12
      cbv
      replace h := of_bind h
      obtain ⟨y18, hy19, h⟩ := h
      refine ⟨{ args := [.agg [.v (.int .i64 y9.1.fX0), .v (.int .i64 y9.1.fY0), .v (.int .i64 y9.1.fX1), .v (.int .i64 y9.1.fY1)], .agg [.v (.int .i64 y5.1.fX0), .v (.int .i64 y5.1.fY0), .v (.int .i64 y5.1.fX1), .v (.int .i64 y5.1.fY1)]], o0 := [], r := .c (.v (.bool y18)), o1 := [], fl := true, σ := [], τ := [] }, hf_laws_eqRect _ _ _ hy19, ⟨les_cons (AV.le_refl _) (les_cons (AV.le_refl _) (les_nil)), trivial, rfl, rfl, rfl, rfl, trivial, rfl⟩, ?_⟩
      cbv
      refine fork (fun b20 => ?_) (fun b20 => ?_)
      · replace h := of_br_t b20 h
        cbv
        injection h with h
        subst h
        subst hS16
        show St.le _ _
        exact le_sparse rfl ⟨AV.le_refl _, AV.le_refl _, AV.le_refl _, trivial⟩ ⟨rfl, rfl, ⟨fun hw => hw, fun c hc => (by cases hc), .inl rfl, rfl, rfl, fun i hi j hj => rfl⟩, trivial⟩ rfl
      · replace h := of_br_f b20 h
        cbv
        injection h with h
        subst h
        subst hS16
        show St.le _ _
        exact le_sparse rfl ⟨AV.le_refl _, AV.le_refl _, AV.le_refl _, trivial⟩ ⟨rfl, rfl, ⟨fun hw => hw, fun c hc => (by cases hc), .inl rfl, rfl, rfl, fun i hi j hj => rfl⟩, trivial⟩ rfl
    · clear hy12
      subst hS16
      replace h := of_let h
      obtain ⟨w17, hw17, h⟩ := h
      have hw17 : w17 = y11 := hw17
      subst hw17
      cbv
      refine fork (fun b26 => ?_) (fun b26 => ?_)
      · replace h := of_br_t b26 h
        cbv
        injection h with h
        subst h
        refine ⟨(sparse 49 [(6, .c (.v (.bool false)))] []), ?_, ?_⟩
        · exact le_sparse rfl ⟨AV.le_refl _, trivial⟩ trivial rfl
        · exact ⟨AV.le_refl _, trivial, rfl⟩
      · replace h := of_br_f b26 h
        cbv
        replace h := of_bind h
        obtain ⟨y21, hy22, h⟩ := h
        refine ⟨{ args := [.agg [.bs (LEN a0.fCells) 4 (row GD (encCell LEN GD) a0.fCells)]], o0 := [], r := .agg [.os 64000 0 (LEN y21.fCells)], o1 := [(64000, .arr .rw [] (LEN y21.fCells) 4 (row GD (oncCell LEN GD) y21.fCells))], fl := true, σ := [], τ := [(64000, 2944)] }, hf_laws_toLibrary _ _ hy22, ⟨les_cons (AV.le_refl _) (les_nil), trivial, rfl, rfl, rfl, rfl, ⟨fun h => absurd (show (64000 : Nat) % 2 = 1 from h) (by decide), trivial⟩, rfl⟩, _, rfl, _, _, rfl, fun _ _ _ _ => rfl, ?_⟩
        cbv
        replace h := of_bind h
        obtain ⟨y23, hy24, h⟩ := h
        refine ⟨{ args := [.agg [.bs (LEN y7.fCells) 4 (row GD (encCell LEN GD) y7.fCells)], .agg [.bs (LEN y21.fCells) 4 (row GD (encCell LEN GD) y21.fCells)]], o0 := [], r := .c (.v (.bool y23)), o1 := [], fl := true, σ := [], τ := [] }, hf_laws_eqLibrary _ _ _ hy24, ⟨les_cons (le_agg ⟨give_osD (rf_oncCell) (ln_oncCell) rfl rfl rfl, trivial⟩) (les_cons (le_agg ⟨give_osD (rf_oncCell) (ln_oncCell) rfl rfl rfl, trivial⟩) (les_nil)), trivial, rfl, rfl, rfl, rfl, trivial, rfl⟩, ?_⟩
        cbv
        refine fork (fun b25 => ?_) (fun b25 => ?_)
        · replace h := of_br_t b25 h
          cbv
          injection h with h
          subst h
          refine ⟨(sparse 49 [(6, .c (.v (.bool false)))] []), ?_, ?_⟩
          · exact le_sparse rfl ⟨AV.le_refl _, trivial⟩ trivial rfl
          · exact ⟨AV.le_refl _, trivial, rfl⟩
        · replace h := of_br_f b25 h
          cbv
          injection h with h
          subst h
          refine ⟨(sparse 49 [(6, .c (.v (.bool true)))] []), ?_, ?_⟩
          · exact le_sparse rfl ⟨AV.le_refl _, trivial⟩ trivial rfl
          · exact ⟨AV.le_refl _, trivial, rfl⟩
theorem op_9 (d : Nat) : Opens T (d + 1) 9 (clS) (wfS) := op_str (show T 9 = some d9 from rfl) rfl
theorem op_2 (d : Nat) : Opens T (d + 1) 2 (clI .i64) (wfI .i64) := op_int .i64 (show T 2 = some d2 from rfl) rfl
def clRect (e : TRect) : List AC := clI .i64 e.fX0 ++ (clI .i64 e.fY0 ++ (clI .i64 e.fX1 ++ (clI .i64 e.fY1 ++ ([]))))
def wfRect (e : TRect) : Prop := wfI .i64 e.fX0 ∧ wfI .i64 e.fY0 ∧ wfI .i64 e.fX1 ∧ wfI .i64 e.fY1
theorem op_46 (d : Nat) : Opens T (d + 2) 46 (clRect) (wfRect) := by
  intro cs hs
  obtain ⟨a0, b0, rfl, h0, a1, b1, rfl, h1, a2, b2, rfl, h2, a3, b3, rfl, h3, rfl⟩ := hs
  obtain ⟨e0, w0, r0⟩ := op_2 (d + 0) a0 h0
  obtain ⟨e1, w1, r1⟩ := op_2 (d + 0) a1 h1
  obtain ⟨e2, w2, r2⟩ := op_2 (d + 0) a2 h2
  obtain ⟨e3, w3, r3⟩ := op_2 (d + 0) a3 h3
  exact ⟨TRect.mk e0 e1 e2 e3, ⟨w0, w1, w2, w3⟩, rlist_app r0 (rlist_app r1 (rlist_app r2 (rlist_app r3 (trivial))))⟩
def clShape (e : TShape) : List AC := clI .i64 e.fLayer ++ (clRect e.fBox ++ ([]))
def wfShape (e : TShape) : Prop := wfI .i64 e.fLayer ∧ wfRect e.fBox
theorem op_55 (d : Nat) : Opens T (d + 3) 55 (clShape) (wfShape) := by
  intro cs hs
  obtain ⟨a0, b0, rfl, h0, a1, b1, rfl, h1, rfl⟩ := hs
  obtain ⟨e0, w0, r0⟩ := op_2 (d + 1) a0 h0
  obtain ⟨e1, w1, r1⟩ := op_46 (d + 0) a1 h1
  exact ⟨TShape.mk e0 e1, ⟨w0, w1⟩, rlist_app r0 (rlist_app r1 (trivial))⟩
theorem op_138 (d : Nat) : Opens T (d + 4) 138 (clL 5 (encShape)) (wfL wfShape) := op_slice (e := 55) (sz := 5) (show T 138 = some d138 from rfl) rfl (show T 55 = some d55 from rfl) rfl (fun x j hj => by match j, hj with | 0, _ => rfl | 1, _ => rfl | 2, _ => rfl | 3, _ => rfl | 4, _ => rfl | (j_ + 5), h_ => exact absurd h_ (by omega)) (op_55 d)
def clPoint (e : TPoint) : List AC := clI .i64 e.fX ++ (clI .i64 e.fY ++ ([]))
def wfPoint (e : TPoint) : Prop := wfI .i64 e.fX ∧ wfI .i64 e.fY
theorem op_57 (d : Nat) : Opens T (d + 2) 57 (clPoint) (wfPoint) := by
  intro cs hs
  obtain ⟨a0, b0, rfl, h0, a1, b1, rfl, h1, rfl⟩ := hs
  obtain ⟨e0, w0, r0⟩ := op_2 (d + 0) a0 h0
  obtain ⟨e1, w1, r1⟩ := op_2 (d + 0) a1 h1
  exact ⟨TPoint.mk e0 e1, ⟨w0, w1⟩, rlist_app r0 (rlist_app r1 (trivial))⟩
def clLabel (e : TLabel) : List AC := clI .i64 e.fLayer ++ (clPoint e.fAt ++ (clS e.fName ++ ([])))
def wfLabel (e : TLabel) : Prop := wfI .i64 e.fLayer ∧ wfPoint e.fAt ∧ wfS e.fName
theorem op_59 (d : Nat) : Opens T (d + 3) 59 (clLabel) (wfLabel) := by
  intro cs hs
  obtain ⟨a0, b0, rfl, h0, a1, b1, rfl, h1, a2, b2, rfl, h2, rfl⟩ := hs
  obtain ⟨e0, w0, r0⟩ := op_2 (d + 1) a0 h0
  obtain ⟨e1, w1, r1⟩ := op_57 (d + 0) a1 h1
  obtain ⟨e2, w2, r2⟩ := op_9 (d + 1) a2 h2
  exact ⟨TLabel.mk e0 e1 e2, ⟨w0, w1, w2⟩, rlist_app r0 (rlist_app r1 (rlist_app r2 (trivial)))⟩
theorem op_139 (d : Nat) : Opens T (d + 4) 139 (clL 4 (encLabel)) (wfL wfLabel) := op_slice (e := 59) (sz := 4) (show T 139 = some d139 from rfl) rfl (show T 59 = some d59 from rfl) rfl (fun x j hj => by match j, hj with | 0, _ => rfl | 1, _ => rfl | 2, _ => rfl | 3, _ => rfl | (j_ + 4), h_ => exact absurd h_ (by omega)) (op_59 d)
def clTransform (e : TTransform) : List AC := clI .i64 e.fOrientation ++ (clI .i64 e.fX ++ (clI .i64 e.fY ++ ([])))
def wfTransform (e : TTransform) : Prop := wfI .i64 e.fOrientation ∧ wfI .i64 e.fX ∧ wfI .i64 e.fY
theorem op_61 (d : Nat) : Opens T (d + 2) 61 (clTransform) (wfTransform) := by
  intro cs hs
  obtain ⟨a0, b0, rfl, h0, a1, b1, rfl, h1, a2, b2, rfl, h2, rfl⟩ := hs
  obtain ⟨e0, w0, r0⟩ := op_2 (d + 0) a0 h0
  obtain ⟨e1, w1, r1⟩ := op_2 (d + 0) a1 h1
  obtain ⟨e2, w2, r2⟩ := op_2 (d + 0) a2 h2
  exact ⟨TTransform.mk e0 e1 e2, ⟨w0, w1, w2⟩, rlist_app r0 (rlist_app r1 (rlist_app r2 (trivial)))⟩
def clInstance (e : TInstance) : List AC := clI .i64 e.fCell ++ (clTransform e.fPlace ++ (clI .i64 e.fColumns ++ (clI .i64 e.fRows ++ (clI .i64 e.fStepX ++ (clI .i64 e.fStepY ++ ([]))))))
def wfInstance (e : TInstance) : Prop := wfI .i64 e.fCell ∧ wfTransform e.fPlace ∧ wfI .i64 e.fColumns ∧ wfI .i64 e.fRows ∧ wfI .i64 e.fStepX ∧ wfI .i64 e.fStepY
theorem op_63 (d : Nat) : Opens T (d + 3) 63 (clInstance) (wfInstance) := by
  intro cs hs
  obtain ⟨a0, b0, rfl, h0, a1, b1, rfl, h1, a2, b2, rfl, h2, a3, b3, rfl, h3, a4, b4, rfl, h4, a5, b5, rfl, h5, rfl⟩ := hs
  obtain ⟨e0, w0, r0⟩ := op_2 (d + 1) a0 h0
  obtain ⟨e1, w1, r1⟩ := op_61 (d + 0) a1 h1
  obtain ⟨e2, w2, r2⟩ := op_2 (d + 1) a2 h2
  obtain ⟨e3, w3, r3⟩ := op_2 (d + 1) a3 h3
  obtain ⟨e4, w4, r4⟩ := op_2 (d + 1) a4 h4
  obtain ⟨e5, w5, r5⟩ := op_2 (d + 1) a5 h5
  exact ⟨TInstance.mk e0 e1 e2 e3 e4 e5, ⟨w0, w1, w2, w3, w4, w5⟩, rlist_app r0 (rlist_app r1 (rlist_app r2 (rlist_app r3 (rlist_app r4 (rlist_app r5 (trivial))))))⟩
theorem op_140 (d : Nat) : Opens T (d + 4) 140 (clL 8 (encInstance)) (wfL wfInstance) := op_slice (e := 63) (sz := 8) (show T 140 = some d140 from rfl) rfl (show T 63 = some d63 from rfl) rfl (fun x j hj => by match j, hj with | 0, _ => rfl | 1, _ => rfl | 2, _ => rfl | 3, _ => rfl | 4, _ => rfl | 5, _ => rfl | 6, _ => rfl | 7, _ => rfl | (j_ + 8), h_ => exact absurd h_ (by omega)) (op_63 d)
def clCell (e : TCell) : List AC := clS e.fName ++ (clL 5 (encShape) e.fShapes ++ (clL 4 (encLabel) e.fLabels ++ (clL 8 (encInstance) e.fInstances ++ ([]))))
def wfCell (e : TCell) : Prop := wfS e.fName ∧ wfL wfShape e.fShapes ∧ wfL wfLabel e.fLabels ∧ wfL wfInstance e.fInstances
theorem op_142 (d : Nat) : Opens T (d + 5) 142 (clCell) (wfCell) := by
  intro cs hs
  obtain ⟨a0, b0, rfl, h0, a1, b1, rfl, h1, a2, b2, rfl, h2, a3, b3, rfl, h3, rfl⟩ := hs
  obtain ⟨e0, w0, r0⟩ := op_9 (d + 3) a0 h0
  obtain ⟨e1, w1, r1⟩ := op_138 (d + 0) a1 h1
  obtain ⟨e2, w2, r2⟩ := op_139 (d + 0) a2 h2
  obtain ⟨e3, w3, r3⟩ := op_140 (d + 0) a3 h3
  exact ⟨TCell.mk e0 e1 e2 e3, ⟨w0, w1, w2, w3⟩, rlist_app r0 (rlist_app r1 (rlist_app r2 (rlist_app r3 (trivial))))⟩
theorem op_34 (d : Nat) : Opens T (d + 6) 34 (clL 4 (encCell len gd)) (wfL wfCell) := op_slice (e := 142) (sz := 4) (show T 34 = some d34 from rfl) rfl (show T 142 = some d142 from rfl) rfl (fun x j hj => by match j, hj with | 0, _ => rfl | 1, _ => rfl | 2, _ => rfl | 3, _ => rfl | (j_ + 4), h_ => exact absurd h_ (by omega)) (op_142 d)
def clLibrary (e : TLibrary) : List AC := clL 4 (encCell len gd) e.fCells ++ ([])
def wfLibrary (e : TLibrary) : Prop := wfL wfCell e.fCells
theorem op_36 (d : Nat) : Opens T (d + 7) 36 (clLibrary) (wfLibrary) := by
  intro cs hs
  obtain ⟨a0, b0, rfl, h0, rfl⟩ := hs
  obtain ⟨e0, w0, r0⟩ := op_34 (d + 0) a0 h0
  exact ⟨TLibrary.mk e0, w0, rlist_app r0 (trivial)⟩
theorem open_36 {H : Type} {enc : TypeId × Value → H} {W : World} {spare : Nat → Bool} {held : Bool} {r : Reach} {base : Nat} {v : Value} {x : DataW H} {ps : List MemPlace}
    (hv : Value.okWide Try.prog W r base 36 v) (h : DataW.Trod enc Try.prog W 0 spare held 36 v x ps) : ∃ e : TLibrary, wfLibrary e ∧ RelV (RelI (fun b => b < W.heap.size) W) (.agg [.bs (len e.fCells) 4 (row gd (encCell len gd) e.fCells)]) v :=
  opened_agg tok (op_36 0) (by kernel_rfl) (tok 36 d36 rfl).1 hv h
end Go.Proofs.Ytmdlnjeppemipaa.AM
