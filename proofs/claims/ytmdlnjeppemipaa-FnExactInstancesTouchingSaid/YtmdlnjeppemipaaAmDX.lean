/-
  What the functions that the law reaches compute, and that they do. No condition.
-/
import Derived.Test.YtmdlnjeppemipaaAmDW
namespace Go.Proofs.Ytmdlnjeppemipaa.AM
open Go Go.Proofs Go.RowKit
set_option linter.unusedVariables false
set_option linter.unusedSimpArgs false
set_option maxRecDepth 100000

/-- impl.within -/
noncomputable def F_impl_within (a0 : Int) (a1 : Int) (a2 : Int) : Option (Bool) :=
  ((
        br (std.le a1 a0)
        (some (std.le a0 a2))
        (some false)
    ) : Option (Bool)).bind fun y1 =>
  letO y1 fun w7 =>
  some w7
theorem run_impl_within (a0 : Int) (a1 : Int) (a2 : Int) (r : Bool) (h : F_impl_within a0 a1 a2 = some r) : Fun Try.prog 61 [.c (.v (.int .i64 a0)), .c (.v (.int .i64 a1)), .c (.v (.int .i64 a2))] [] (.c (.v (.bool r))) [] true := by
  refine Fun.of_wp (oneOf [1]) tok mixed Try.func61 (by kernel_rfl) rfl Try.ntmps61 rfl trivial (fun _ => ⟨trivial, trivial⟩) ?_
  unfold F_impl_within at h
  generalize hLEN : @len = LEN at *
  generalize hGD : @gd = GD at *
  generalize hA : std = A at *
  generalize hP : Try.prog = P at *
  cbv
  replace h := of_bind h
  obtain ⟨y1, hy2, h⟩ := h
  obtain ⟨S5, hS6⟩ : ∃ S, S = (sparse 15 [(6, .c (.v (.bool y1)))] []) := ⟨_, rfl⟩
  refine ⟨S5, ?_, ?_⟩
  · clear h
    have h := hy2
    clear hy2
    cbv
    refine fork (fun b8 => ?_) (fun b8 => ?_)
    · replace h := of_br_t b8 h
      cbv
      injection h with h
      subst h
      subst hS6
      show St.le _ _
      exact le_sparse rfl ⟨AV.le_refl _, trivial⟩ trivial rfl
    · replace h := of_br_f b8 h
      cbv
      injection h with h
      subst h
      subst hS6
      show St.le _ _
      exact le_sparse rfl ⟨AV.le_refl _, trivial⟩ trivial rfl
  · clear hy2
    subst hS6
    replace h := of_let h
    obtain ⟨w7, hw7, h⟩ := h
    have hw7 : w7 = y1 := hw7
    subst hw7
    cbv
    injection h with h
    subst h
    refine ⟨(sparse 15 [(6, .c (.v (.bool w7)))] []), ?_, ?_⟩
    · exact le_sparse rfl ⟨AV.le_refl _, trivial⟩ trivial rfl
    · exact ⟨AV.le_refl _, trivial, rfl⟩

/-- impl.IsValidRect -/
noncomputable def F_impl_IsValidRect (a0 : TRect) : Option (Bool) :=
  ((
        br (std.le (-40) a0.fX0)
        (br (std.lt a0.fX0 a0.fX1)
        (br (std.le a0.fX1 40)
        (br (std.le (-40) a0.fY0)
        (br (std.lt a0.fY0 a0.fY1)
        (some (std.le a0.fY1 40))
        (some false))
        (some false))
        (some false))
        (some false))
        (some false)
    ) : Option (Bool)).bind fun y1 =>
  letO y1 fun w7 =>
  some w7
theorem run_impl_IsValidRect (a0 : TRect) (r : Bool) (h : F_impl_IsValidRect a0 = some r) : Fun Try.prog 50 [.agg [.v (.int .i64 a0.fX0), .v (.int .i64 a0.fY0), .v (.int .i64 a0.fX1), .v (.int .i64 a0.fY1)]] [] (.c (.v (.bool r))) [] true := by
  refine Fun.of_wp (oneOf [1]) tok mixed Try.func50 (by kernel_rfl) rfl Try.ntmps50 rfl trivial (fun _ => ⟨trivial, trivial⟩) ?_
  unfold F_impl_IsValidRect at h
  generalize hLEN : @len = LEN at *
  generalize hGD : @gd = GD at *
  generalize hA : std = A at *
  generalize hP : Try.prog = P at *
  cbv
  replace h := of_bind h
  obtain ⟨y1, hy2, h⟩ := h
  obtain ⟨S5, hS6⟩ : ∃ S, S = (sparse 35 [(2, .c (.v (.bool y1)))] []) := ⟨_, rfl⟩
  refine ⟨S5, ?_, ?_⟩
  · clear h
    have h := hy2
    clear hy2
    cbv
    refine fork (fun b12 => ?_) (fun b12 => ?_)
    · replace h := of_br_t b12 h
      cbv
      refine fork (fun b11 => ?_) (fun b11 => ?_)
      · replace h := of_br_t b11 h
        cbv
        refine fork (fun b10 => ?_) (fun b10 => ?_)
        · replace h := of_br_t b10 h
          cbv
          refine fork (fun b9 => ?_) (fun b9 => ?_)
          · replace h := of_br_t b9 h
            cbv
            refine fork (fun b8 => ?_) (fun b8 => ?_)
            · replace h := of_br_t b8 h
              cbv
              injection h with h
              subst h
              subst hS6
              show St.le _ _
              exact le_sparse rfl ⟨AV.le_refl _, trivial⟩ trivial rfl
            · replace h := of_br_f b8 h
              cbv
              injection h with h
              subst h
              subst hS6
              show St.le _ _
              exact le_sparse rfl ⟨AV.le_refl _, trivial⟩ trivial rfl
          · replace h := of_br_f b9 h
            cbv
            injection h with h
            subst h
            subst hS6
            show St.le _ _
            exact le_sparse rfl ⟨AV.le_refl _, trivial⟩ trivial rfl
        · replace h := of_br_f b10 h
          cbv
          injection h with h
          subst h
          subst hS6
          show St.le _ _
          exact le_sparse rfl ⟨AV.le_refl _, trivial⟩ trivial rfl
      · replace h := of_br_f b11 h
        cbv
        injection h with h
        subst h
        subst hS6
        show St.le _ _
        exact le_sparse rfl ⟨AV.le_refl _, trivial⟩ trivial rfl
    · replace h := of_br_f b12 h
      cbv
      injection h with h
      subst h
      subst hS6
      show St.le _ _
      exact le_sparse rfl ⟨AV.le_refl _, trivial⟩ trivial rfl
  · clear hy2
    subst hS6
    replace h := of_let h
    obtain ⟨w7, hw7, h⟩ := h
    have hw7 : w7 = y1 := hw7
    subst hw7
    cbv
    injection h with h
    subst h
    refine ⟨(sparse 35 [(2, .c (.v (.bool w7)))] []), ?_, ?_⟩
    · exact le_sparse rfl ⟨AV.le_refl _, trivial⟩ trivial rfl
    · exact ⟨AV.le_refl _, trivial, rfl⟩

/-- impl.validShape -/
noncomputable def F_impl_validShape (a0 : TShape) : Option (Bool) :=
  ((
        (F_impl_within a0.fLayer 0 7).bind fun y8 =>
        br y8
        ((F_impl_IsValidRect a0.fBox).bind fun y10 =>
        some y10)
        (some false)
    ) : Option (Bool)).bind fun y1 =>
  letO y1 fun w7 =>
  some w7
theorem run_impl_validShape (a0 : TShape) (r : Bool) (h : F_impl_validShape a0 = some r) : Fun Try.prog 165 [.agg [.v (.int .i64 a0.fLayer), .v (.int .i64 a0.fBox.fX0), .v (.int .i64 a0.fBox.fY0), .v (.int .i64 a0.fBox.fX1), .v (.int .i64 a0.fBox.fY1)]] [] (.c (.v (.bool r))) [] true := by
  refine Fun.of_wp (oneOf [1]) tok mixed Try.func165 (by kernel_rfl) rfl Try.ntmps165 rfl trivial (fun _ => ⟨trivial, trivial⟩) ?_
  unfold F_impl_validShape at h
  have hf_impl_IsValidRect := @run_impl_IsValidRect
  have hf_impl_within := @run_impl_within
  generalize hLEN : @len = LEN at *
  generalize hGD : @gd = GD at *
  generalize hA : std = A at *
  generalize hP : Try.prog = P at *
  cbv
  replace h := of_bind h
  obtain ⟨y1, hy2, h⟩ := h
  obtain ⟨S5, hS6⟩ : ∃ S, S = (sparse 11 [(2, .c (.v (.bool y1)))] []) := ⟨_, rfl⟩
  refine ⟨S5, ?_, ?_⟩
  · clear h
    have h := hy2
    clear hy2
    cbv
    replace h := of_bind h
    obtain ⟨y8, hy9, h⟩ := h
    refine ⟨{ args := [.c (.v (.int .i64 a0.fLayer)), .c (.v (.int .i64 0)), .c (.v (.int .i64 7))], o0 := [], r := .c (.v (.bool y8)), o1 := [], fl := true, σ := [], τ := [] }, hf_impl_within _ _ _ _ hy9, ⟨les_cons (AV.le_refl _) (les_cons (AV.le_refl _) (les_cons (AV.le_refl _) (les_nil))), trivial, rfl, rfl, rfl, rfl, trivial, rfl⟩, ?_⟩
    cbv
    refine fork (fun b12 => ?_) (fun b12 => ?_)
    · replace h := of_br_t b12 h
      cbv
      replace h := of_bind h
      obtain ⟨y10, hy11, h⟩ := h
      refine ⟨{ args := [.agg [.v (.int .i64 a0.fBox.fX0), .v (.int .i64 a0.fBox.fY0), .v (.int .i64 a0.fBox.fX1), .v (.int .i64 a0.fBox.fY1)]], o0 := [], r := .c (.v (.bool y10)), o1 := [], fl := true, σ := [], τ := [] }, hf_impl_IsValidRect _ _ hy11, ⟨les_cons (AV.le_refl _) (les_nil), trivial, rfl, rfl, rfl, rfl, trivial, rfl⟩, ?_⟩
      cbv
      injection h with h
      subst h
      subst hS6
      show St.le _ _
      exact le_sparse rfl ⟨AV.le_refl _, trivial⟩ trivial rfl
    · replace h := of_br_f b12 h
      cbv
      injection h with h
      subst h
      subst hS6
      show St.le _ _
      exact le_sparse rfl ⟨AV.le_refl _, trivial⟩ trivial rfl
  · clear hy2
    subst hS6
    replace h := of_let h
    obtain ⟨w7, hw7, h⟩ := h
    have hw7 : w7 = y1 := hw7
    subst hw7
    cbv
    injection h with h
    subst h
    refine ⟨(sparse 11 [(2, .c (.v (.bool w7)))] []), ?_, ?_⟩
    · exact le_sparse rfl ⟨AV.le_refl _, trivial⟩ trivial rfl
    · exact ⟨AV.le_refl _, trivial, rfl⟩

/-- impl.validCell$1 -/
noncomputable def F_impl_validCell_1 (a0 : TShape) : Option (Bool) :=
  (F_impl_validShape (TShape.mk a0.fLayer a0.fBox)).bind fun y1 =>
  some (!(y1))
theorem run_impl_validCell_1 (a0 : TShape) (r : Bool) (h : F_impl_validCell_1 a0 = some r) : Fun Try.prog 193 [.agg [.v (.int .i64 a0.fLayer), .v (.int .i64 a0.fBox.fX0), .v (.int .i64 a0.fBox.fY0), .v (.int .i64 a0.fBox.fX1), .v (.int .i64 a0.fBox.fY1)]] [] (.c (.v (.bool r))) [] true := by
  refine Fun.of_wp (oneOf []) tok mixed Try.func193 (by kernel_rfl) rfl Try.ntmps193 rfl trivial (fun _ => ⟨trivial, trivial⟩) ?_
  unfold F_impl_validCell_1 at h
  have hf_impl_validShape := @run_impl_validShape
  generalize hLEN : @len = LEN at *
  generalize hGD : @gd = GD at *
  generalize hA : std = A at *
  generalize hP : Try.prog = P at *
  cbv
  replace h := of_bind h
  obtain ⟨y1, hy2, h⟩ := h
  refine ⟨{ args := [.agg [.v (.int .i64 a0.fLayer), .v (.int .i64 a0.fBox.fX0), .v (.int .i64 a0.fBox.fY0), .v (.int .i64 a0.fBox.fX1), .v (.int .i64 a0.fBox.fY1)]], o0 := [], r := .c (.v (.bool y1)), o1 := [], fl := true, σ := [], τ := [] }, hf_impl_validShape _ _ hy2, ⟨les_cons (AV.le_refl _) (les_nil), trivial, rfl, rfl, rfl, rfl, trivial, rfl⟩, ?_⟩
  cbv
  injection h with h
  subst h
  refine ⟨(sparse 6 [(2, .c (.v (.bool (!(y1)))))] []), ?_, ?_⟩
  · exact le_sparse rfl ⟨AV.le_refl _, trivial⟩ trivial rfl
  · exact ⟨AV.le_refl _, trivial, rfl⟩

noncomputable def L_slices_IndexFunc_Limpl_Shape_impl_Shape_mbFimpl_validCell_1_x2 (a0 : List TShape) : (Int) → Option ((Int) ⊕ ((Int) ⊕ (Unit))) := fun x2 =>
  letO x2 fun v1 =>
  br (std.lt v1 (std.ofN (len a0)))
  (req (std.inR v1 (len a0)) <|
  (F_impl_validCell_1 (gd a0 (std.toN v1))).bind fun y15 =>
  br y15
  (some (.inr (.inl v1)))
  (some (.inl (std.add .i64 v1 1))))
  (some (.inr (.inr ())))
/-- impl.Shape] -/
noncomputable def F_slices_IndexFunc_Limpl_Shape_impl_Shape_mbFimpl_validCell_1 (a0 : List TShape) : Option (Int) :=
  (whileP (σ := Int) (ρ := (Int) ⊕ (Unit)) (L_slices_IndexFunc_Limpl_Shape_impl_Shape_mbFimpl_validCell_1_x2 a0) 0).bind fun y3 =>
  (match y3 with
    | .inl y3k0 => (
        letO y3k0 fun w19 =>
        some w19)
    | .inr y3m0 =>
        some (-1))
theorem run_slices_IndexFunc_Limpl_Shape_impl_Shape_mbFimpl_validCell_1 (a0 : List TShape) (r : Int) (h : F_slices_IndexFunc_Limpl_Shape_impl_Shape_mbFimpl_validCell_1 a0 = some r) : Fun Try.prog 218 [.c (.bs (len a0) 5 (row gd (encShape) a0)), .c (.fn 193 0 fun _ => .junk)] [] (.c (.v (.int .i64 r))) [] true := by
  refine Fun.of_wp (oneOf []) tok mixed Try.func218 (by kernel_rfl) rfl Try.ntmps218 rfl trivial (fun _ => ⟨trivial, trivial⟩) ?_
  unfold F_slices_IndexFunc_Limpl_Shape_impl_Shape_mbFimpl_validCell_1 at h
  unfold L_slices_IndexFunc_Limpl_Shape_impl_Shape_mbFimpl_validCell_1_x2 at h
  have hf_impl_validCell_1 := @run_impl_validCell_1
  generalize hLEN : @len = LEN at *
  generalize hGD : @gd = GD at *
  generalize hA : std = A at *
  generalize hP : Try.prog = P at *
  cbv
  replace h := of_bind h
  obtain ⟨y3, hr4, hN5⟩ := h
  refine loop_cut hr4 (fun x => (sparse 19 [(0, .c (.bs (LEN a0) 5 (row GD (encShape) a0))), (1, .c (.fn 193 0 fun _ => .junk)), (7, .c (.v (.int .i64 (A.ofN (LEN a0))))), (8, .c (.v (.int .i64 x)))] [])) ?_ (fun y e s => (match y with | .inl w => e = .ret ∧ s.le (sparse 19 [(4, .c (.v (.int .i64 w)))] []) | .inr w0 => (fun (w : Unit) => e = .exit 0 ∧ s.le (sparse 19 [] [])) w0)) ?_ ?_
  · clear hr4 hN5
    show St.le _ _
    exact le_sparse rfl ⟨AV.le_refl _, AV.le_refl _, AV.le_refl _, AV.le_refl _, trivial⟩ trivial rfl
  · clear hr4 hN5
    intro x z9 h K7 hK8 hY6
    replace h := of_let h
    obtain ⟨v1, hv1, h⟩ := h
    have hv1 : v1 = x := hv1
    subst hv1
    cbv
    refine fork (fun b18 => ?_) (fun b18 => ?_)
    · replace h := of_br_t b18 h
      cbv
      replace h := of_req h
      obtain ⟨c14, h⟩ := h
      refine ⟨⟨c14, trivial⟩, ?_⟩
      replace h := of_bind h
      obtain ⟨y15, hy16, h⟩ := h
      refine ⟨{ args := [.agg [.v (.int .i64 (GD a0 (A.toN v1)).fLayer), .v (.int .i64 (GD a0 (A.toN v1)).fBox.fX0), .v (.int .i64 (GD a0 (A.toN v1)).fBox.fY0), .v (.int .i64 (GD a0 (A.toN v1)).fBox.fX1), .v (.int .i64 (GD a0 (A.toN v1)).fBox.fY1)]], o0 := [], r := .c (.v (.bool y15)), o1 := [], fl := true, σ := [], τ := [] }, hf_impl_validCell_1 _ _ hy16, ⟨les_cons (AV.le_refl _) (les_nil), trivial, rfl, rfl, rfl, rfl, trivial, rfl⟩, ?_⟩
      cbv
      refine fork (fun b17 => ?_) (fun b17 => ?_)
      · replace h := of_br_t b17 h
        cbv
        injection h with h
        refine hY6 _ h.symm _ _ (And.intro rfl ?_) (by intro hh; cases hh)
        exact le_sparse rfl ⟨AV.le_refl _, trivial⟩ trivial rfl
      · replace h := of_br_f b17 h
        cbv
        injection h with h
        refine hK8 _ h.symm _ ?_
        exact le_sparse rfl ⟨AV.le_refl _, AV.le_refl _, AV.le_refl _, AV.le_refl _, trivial⟩ trivial rfl
    · replace h := of_br_f b18 h
      cbv
      injection h with h
      refine hY6 _ h.symm _ _ (And.intro rfl ?_) (by intro hh; cases hh)
      exact le_sparse rfl trivial trivial rfl
  · clear hr4
    have h := hN5
    clear hN5
    intro e12 s13 q11 hne
    rcases y3 with y3k0 | y3m0
    · replace h := h
      obtain ⟨rfl, q11⟩ := q11
      replace h := of_let h
      obtain ⟨w19, hw19, h⟩ := h
      have hw19 : w19 = y3k0 := hw19
      subst hw19
      cbv
      injection h with h
      subst h
      refine ⟨(sparse 19 [(4, .c (.v (.int .i64 w19)))] []), ?_, ?_⟩
      · refine St.le_trans q11 ?_
        exact le_sparse rfl ⟨AV.le_refl _, trivial⟩ trivial rfl
      · exact ⟨AV.le_refl _, trivial, rfl⟩
    · obtain ⟨rfl, q11⟩ := q11
      cbv
      refine ⟨_, q11, ?_⟩
      cbv
      injection h with h
      subst h
      refine ⟨(sparse 19 [(4, .c (.v (.int .i64 (-1))))] []), ?_, ?_⟩
      · exact le_sparse rfl ⟨AV.le_refl _, trivial⟩ trivial rfl
      · exact ⟨AV.le_refl _, trivial, rfl⟩

/-- impl.Shape] -/
noncomputable def F_slices_ContainsFunc_Limpl_Shape_impl_Shape_mbFimpl_validCell_1 (a0 : List TShape) : Option (Bool) :=
  (F_slices_IndexFunc_Limpl_Shape_impl_Shape_mbFimpl_validCell_1 a0).bind fun y1 =>
  some (std.le 0 y1)
theorem run_slices_ContainsFunc_Limpl_Shape_impl_Shape_mbFimpl_validCell_1 (a0 : List TShape) (r : Bool) (h : F_slices_ContainsFunc_Limpl_Shape_impl_Shape_mbFimpl_validCell_1 a0 = some r) : Fun Try.prog 192 [.c (.bs (len a0) 5 (row gd (encShape) a0)), .c (.fn 193 0 fun _ => .junk)] [] (.c (.v (.bool r))) [] true := by
  refine Fun.of_wp (oneOf []) tok mixed Try.func192 (by kernel_rfl) rfl Try.ntmps192 rfl trivial (fun _ => ⟨trivial, trivial⟩) ?_
  unfold F_slices_ContainsFunc_Limpl_Shape_impl_Shape_mbFimpl_validCell_1 at h
  have hf_slices_IndexFunc_Limpl_Shape_impl_Shape_mbFimpl_validCell_1 := @run_slices_IndexFunc_Limpl_Shape_impl_Shape_mbFimpl_validCell_1
  generalize hLEN : @len = LEN at *
  generalize hGD : @gd = GD at *
  generalize hA : std = A at *
  generalize hP : Try.prog = P at *
  cbv
  replace h := of_bind h
  obtain ⟨y1, hy2, h⟩ := h
  refine ⟨{ args := [.c (.bs (LEN a0) 5 (row GD (encShape) a0)), .c (.fn 193 0 fun _ => .junk)], o0 := [], r := .c (.v (.int .i64 y1)), o1 := [], fl := true, σ := [], τ := [] }, hf_slices_IndexFunc_Limpl_Shape_impl_Shape_mbFimpl_validCell_1 _ _ hy2, ⟨les_cons (AV.le_refl _) (les_cons (AV.le_refl _) (les_nil)), trivial, rfl, rfl, rfl, rfl, trivial, rfl⟩, ?_⟩
  cbv
  injection h with h
  subst h
  refine ⟨(sparse 9 [(4, .c (.v (.bool (A.le 0 y1))))] []), ?_, ?_⟩
  · exact le_sparse rfl ⟨AV.le_refl _, trivial⟩ trivial rfl
  · exact ⟨AV.le_refl _, trivial, rfl⟩
/-- impl.isUnitCell -/
noncomputable def F_impl_isUnitCell (a0 : TPoint) : Option (Bool) :=
  ((
        (F_impl_within a0.fX (-40) 39).bind fun y8 =>
        br y8
        ((F_impl_within a0.fY (-40) 39).bind fun y10 =>
        some y10)
        (some false)
    ) : Option (Bool)).bind fun y1 =>
  letO y1 fun w7 =>
  some w7
theorem run_impl_isUnitCell (a0 : TPoint) (r : Bool) (h : F_impl_isUnitCell a0 = some r) : Fun Try.prog 212 [.agg [.v (.int .i64 a0.fX), .v (.int .i64 a0.fY)]] [] (.c (.v (.bool r))) [] true := by
  refine Fun.of_wp (oneOf [1]) tok mixed Try.func212 (by kernel_rfl) rfl Try.ntmps212 rfl trivial (fun _ => ⟨trivial, trivial⟩) ?_
  unfold F_impl_isUnitCell at h
  have hf_impl_within := @run_impl_within
  generalize hLEN : @len = LEN at *
  generalize hGD : @gd = GD at *
  generalize hA : std = A at *
  generalize hP : Try.prog = P at *
  cbv
  replace h := of_bind h
  obtain ⟨y1, hy2, h⟩ := h
  obtain ⟨S5, hS6⟩ : ∃ S, S = (sparse 11 [(2, .c (.v (.bool y1)))] []) := ⟨_, rfl⟩
  refine ⟨S5, ?_, ?_⟩
  · clear h
    have h := hy2
    clear hy2
    cbv
    replace h := of_bind h
    obtain ⟨y8, hy9, h⟩ := h
    refine ⟨{ args := [.c (.v (.int .i64 a0.fX)), .c (.v (.int .i64 (-40))), .c (.v (.int .i64 39))], o0 := [], r := .c (.v (.bool y8)), o1 := [], fl := true, σ := [], τ := [] }, hf_impl_within _ _ _ _ hy9, ⟨les_cons (AV.le_refl _) (les_cons (AV.le_refl _) (les_cons (AV.le_refl _) (les_nil))), trivial, rfl, rfl, rfl, rfl, trivial, rfl⟩, ?_⟩
    cbv
    refine fork (fun b12 => ?_) (fun b12 => ?_)
    · replace h := of_br_t b12 h
      cbv
      replace h := of_bind h
      obtain ⟨y10, hy11, h⟩ := h
      refine ⟨{ args := [.c (.v (.int .i64 a0.fY)), .c (.v (.int .i64 (-40))), .c (.v (.int .i64 39))], o0 := [], r := .c (.v (.bool y10)), o1 := [], fl := true, σ := [], τ := [] }, hf_impl_within _ _ _ _ hy11, ⟨les_cons (AV.le_refl _) (les_cons (AV.le_refl _) (les_cons (AV.le_refl _) (les_nil))), trivial, rfl, rfl, rfl, rfl, trivial, rfl⟩, ?_⟩
      cbv
      injection h with h
      subst h
      subst hS6
      show St.le _ _
      exact le_sparse rfl ⟨AV.le_refl _, trivial⟩ trivial rfl
    · replace h := of_br_f b12 h
      cbv
      injection h with h
      subst h
      subst hS6
      show St.le _ _
      exact le_sparse rfl ⟨AV.le_refl _, trivial⟩ trivial rfl
  · clear hy2
    subst hS6
    replace h := of_let h
    obtain ⟨w7, hw7, h⟩ := h
    have hw7 : w7 = y1 := hw7
    subst hw7
    cbv
    injection h with h
    subst h
    refine ⟨(sparse 11 [(2, .c (.v (.bool w7)))] []), ?_, ?_⟩
    · exact le_sparse rfl ⟨AV.le_refl _, trivial⟩ trivial rfl
    · exact ⟨AV.le_refl _, trivial, rfl⟩

/-- impl.validLabel -/
noncomputable def F_impl_validLabel (a0 : TLabel) : Option (Bool) :=
  ((
        (F_impl_within a0.fLayer 0 7).bind fun y8 =>
        br y8
        ((F_impl_isUnitCell a0.fAt).bind fun y10 =>
        br y10
        ((F_impl_IsName a0.fName).bind fun y12 =>
        some y12)
        (some false))
        (some false)
    ) : Option (Bool)).bind fun y1 =>
  letO y1 fun w7 =>
  some w7
theorem run_impl_validLabel (a0 : TLabel) (r : Bool) (h : F_impl_validLabel a0 = some r) : Fun Try.prog 166 [.agg [.v (.int .i64 a0.fLayer), .v (.int .i64 a0.fAt.fX), .v (.int .i64 a0.fAt.fY), .v (.string a0.fName)]] [] (.c (.v (.bool r))) [] true := by
  refine Fun.of_wp (oneOf [1]) tok mixed Try.func166 (by kernel_rfl) rfl Try.ntmps166 rfl trivial (fun _ => ⟨trivial, trivial⟩) ?_
  unfold F_impl_validLabel at h
  have hf_impl_IsName := @run_impl_IsName
  have hf_impl_isUnitCell := @run_impl_isUnitCell
  have hf_impl_within := @run_impl_within
  generalize hLEN : @len = LEN at *
  generalize hGD : @gd = GD at *
  generalize hA : std = A at *
  generalize hP : Try.prog = P at *
  cbv
  replace h := of_bind h
  obtain ⟨y1, hy2, h⟩ := h
  obtain ⟨S5, hS6⟩ : ∃ S, S = (sparse 16 [(2, .c (.v (.bool y1)))] []) := ⟨_, rfl⟩
  refine ⟨S5, ?_, ?_⟩
  · clear h
    have h := hy2
    clear hy2
    cbv
    replace h := of_bind h
    obtain ⟨y8, hy9, h⟩ := h
    refine ⟨{ args := [.c (.v (.int .i64 a0.fLayer)), .c (.v (.int .i64 0)), .c (.v (.int .i64 7))], o0 := [], r := .c (.v (.bool y8)), o1 := [], fl := true, σ := [], τ := [] }, hf_impl_within _ _ _ _ hy9, ⟨les_cons (AV.le_refl _) (les_cons (AV.le_refl _) (les_cons (AV.le_refl _) (les_nil))), trivial, rfl, rfl, rfl, rfl, trivial, rfl⟩, ?_⟩
    cbv
    refine fork (fun b15 => ?_) (fun b15 => ?_)
    · replace h := of_br_t b15 h
      cbv
      replace h := of_bind h
      obtain ⟨y10, hy11, h⟩ := h
      refine ⟨{ args := [.agg [.v (.int .i64 a0.fAt.fX), .v (.int .i64 a0.fAt.fY)]], o0 := [], r := .c (.v (.bool y10)), o1 := [], fl := true, σ := [], τ := [] }, hf_impl_isUnitCell _ _ hy11, ⟨les_cons (AV.le_refl _) (les_nil), trivial, rfl, rfl, rfl, rfl, trivial, rfl⟩, ?_⟩
      cbv
      refine fork (fun b14 => ?_) (fun b14 => ?_)
      · replace h := of_br_t b14 h
        cbv
        replace h := of_bind h
        obtain ⟨y12, hy13, h⟩ := h
        refine ⟨{ args := [.c (.v (.string a0.fName))], o0 := [], r := .c (.v (.bool y12)), o1 := [], fl := true, σ := [], τ := [] }, hf_impl_IsName _ _ hy13, ⟨les_cons (AV.le_refl _) (les_nil), trivial, rfl, rfl, rfl, rfl, trivial, rfl⟩, ?_⟩
        cbv
        injection h with h
        subst h
        subst hS6
        show St.le _ _
        exact le_sparse rfl ⟨AV.le_refl _, trivial⟩ trivial rfl
      · replace h := of_br_f b14 h
        cbv
        injection h with h
        subst h
        subst hS6
        show St.le _ _
        exact le_sparse rfl ⟨AV.le_refl _, trivial⟩ trivial rfl
    · replace h := of_br_f b15 h
      cbv
      injection h with h
      subst h
      subst hS6
      show St.le _ _
      exact le_sparse rfl ⟨AV.le_refl _, trivial⟩ trivial rfl
  · clear hy2
    subst hS6
    replace h := of_let h
    obtain ⟨w7, hw7, h⟩ := h
    have hw7 : w7 = y1 := hw7
    subst hw7
    cbv
    injection h with h
    subst h
    refine ⟨(sparse 16 [(2, .c (.v (.bool w7)))] []), ?_, ?_⟩
    · exact le_sparse rfl ⟨AV.le_refl _, trivial⟩ trivial rfl
    · exact ⟨AV.le_refl _, trivial, rfl⟩

/-- impl.validCell$2 -/
noncomputable def F_impl_validCell_2 (a0 : TLabel) : Option (Bool) :=
  (F_impl_validLabel (TLabel.mk a0.fLayer a0.fAt a0.fName)).bind fun y1 =>
  some (!(y1))
theorem run_impl_validCell_2 (a0 : TLabel) (r : Bool) (h : F_impl_validCell_2 a0 = some r) : Fun Try.prog 195 [.agg [.v (.int .i64 a0.fLayer), .v (.int .i64 a0.fAt.fX), .v (.int .i64 a0.fAt.fY), .v (.string a0.fName)]] [] (.c (.v (.bool r))) [] true := by
  refine Fun.of_wp (oneOf []) tok mixed Try.func195 (by kernel_rfl) rfl Try.ntmps195 rfl trivial (fun _ => ⟨trivial, trivial⟩) ?_
  unfold F_impl_validCell_2 at h
  have hf_impl_validLabel := @run_impl_validLabel
  generalize hLEN : @len = LEN at *
  generalize hGD : @gd = GD at *
  generalize hA : std = A at *
  generalize hP : Try.prog = P at *
  cbv
  replace h := of_bind h
  obtain ⟨y1, hy2, h⟩ := h
  refine ⟨{ args := [.agg [.v (.int .i64 a0.fLayer), .v (.int .i64 a0.fAt.fX), .v (.int .i64 a0.fAt.fY), .v (.string a0.fName)]], o0 := [], r := .c (.v (.bool y1)), o1 := [], fl := true, σ := [], τ := [] }, hf_impl_validLabel _ _ hy2, ⟨les_cons (AV.le_refl _) (les_nil), trivial, rfl, rfl, rfl, rfl, trivial, rfl⟩, ?_⟩
  cbv
  injection h with h
  subst h
  refine ⟨(sparse 6 [(2, .c (.v (.bool (!(y1)))))] []), ?_, ?_⟩
  · exact le_sparse rfl ⟨AV.le_refl _, trivial⟩ trivial rfl
  · exact ⟨AV.le_refl _, trivial, rfl⟩

noncomputable def L_slices_IndexFunc_Limpl_Label_impl_Label_mbFimpl_validCell_2_x2 (a0 : List TLabel) : (Int) → Option ((Int) ⊕ ((Int) ⊕ (Unit))) := fun x2 =>
  letO x2 fun v1 =>
  br (std.lt v1 (std.ofN (len a0)))
  (req (std.inR v1 (len a0)) <|
  (F_impl_validCell_2 (gd a0 (std.toN v1))).bind fun y15 =>
  br y15
  (some (.inr (.inl v1)))
  (some (.inl (std.add .i64 v1 1))))
  (some (.inr (.inr ())))
/-- impl.Label] -/
noncomputable def F_slices_IndexFunc_Limpl_Label_impl_Label_mbFimpl_validCell_2 (a0 : List TLabel) : Option (Int) :=
  (whileP (σ := Int) (ρ := (Int) ⊕ (Unit)) (L_slices_IndexFunc_Limpl_Label_impl_Label_mbFimpl_validCell_2_x2 a0) 0).bind fun y3 =>
  (match y3 with
    | .inl y3k0 => (
        letO y3k0 fun w19 =>
        some w19)
    | .inr y3m0 =>
        some (-1))
theorem run_slices_IndexFunc_Limpl_Label_impl_Label_mbFimpl_validCell_2 (a0 : List TLabel) (r : Int) (h : F_slices_IndexFunc_Limpl_Label_impl_Label_mbFimpl_validCell_2 a0 = some r) : Fun Try.prog 219 [.c (.bs (len a0) 4 (row gd (encLabel) a0)), .c (.fn 195 0 fun _ => .junk)] [] (.c (.v (.int .i64 r))) [] true := by
  refine Fun.of_wp (oneOf []) tok mixed Try.func219 (by kernel_rfl) rfl Try.ntmps219 rfl trivial (fun _ => ⟨trivial, trivial⟩) ?_
  unfold F_slices_IndexFunc_Limpl_Label_impl_Label_mbFimpl_validCell_2 at h
  unfold L_slices_IndexFunc_Limpl_Label_impl_Label_mbFimpl_validCell_2_x2 at h
  have hf_impl_validCell_2 := @run_impl_validCell_2
  generalize hLEN : @len = LEN at *
  generalize hGD : @gd = GD at *
  generalize hA : std = A at *
  generalize hP : Try.prog = P at *
  cbv
  replace h := of_bind h
  obtain ⟨y3, hr4, hN5⟩ := h
  refine loop_cut hr4 (fun x => (sparse 19 [(0, .c (.bs (LEN a0) 4 (row GD (encLabel) a0))), (1, .c (.fn 195 0 fun _ => .junk)), (7, .c (.v (.int .i64 (A.ofN (LEN a0))))), (8, .c (.v (.int .i64 x)))] [])) ?_ (fun y e s => (match y with | .inl w => e = .ret ∧ s.le (sparse 19 [(4, .c (.v (.int .i64 w)))] []) | .inr w0 => (fun (w : Unit) => e = .exit 0 ∧ s.le (sparse 19 [] [])) w0)) ?_ ?_
  · clear hr4 hN5
    show St.le _ _
    exact le_sparse rfl ⟨AV.le_refl _, AV.le_refl _, AV.le_refl _, AV.le_refl _, trivial⟩ trivial rfl
  · clear hr4 hN5
    intro x z9 h K7 hK8 hY6
    replace h := of_let h
    obtain ⟨v1, hv1, h⟩ := h
    have hv1 : v1 = x := hv1
    subst hv1
    cbv
    refine fork (fun b18 => ?_) (fun b18 => ?_)
    · replace h := of_br_t b18 h
      cbv
      replace h := of_req h
      obtain ⟨c14, h⟩ := h
      refine ⟨⟨c14, trivial⟩, ?_⟩
      replace h := of_bind h
      obtain ⟨y15, hy16, h⟩ := h
      refine ⟨{ args := [.agg [.v (.int .i64 (GD a0 (A.toN v1)).fLayer), .v (.int .i64 (GD a0 (A.toN v1)).fAt.fX), .v (.int .i64 (GD a0 (A.toN v1)).fAt.fY), .v (.string (GD a0 (A.toN v1)).fName)]], o0 := [], r := .c (.v (.bool y15)), o1 := [], fl := true, σ := [], τ := [] }, hf_impl_validCell_2 _ _ hy16, ⟨les_cons (AV.le_refl _) (les_nil), trivial, rfl, rfl, rfl, rfl, trivial, rfl⟩, ?_⟩
      cbv
      refine fork (fun b17 => ?_) (fun b17 => ?_)
      · replace h := of_br_t b17 h
        cbv
        injection h with h
        refine hY6 _ h.symm _ _ (And.intro rfl ?_) (by intro hh; cases hh)
        exact le_sparse rfl ⟨AV.le_refl _, trivial⟩ trivial rfl
      · replace h := of_br_f b17 h
        cbv
        injection h with h
        refine hK8 _ h.symm _ ?_
        exact le_sparse rfl ⟨AV.le_refl _, AV.le_refl _, AV.le_refl _, AV.le_refl _, trivial⟩ trivial rfl
    · replace h := of_br_f b18 h
      cbv
      injection h with h
      refine hY6 _ h.symm _ _ (And.intro rfl ?_) (by intro hh; cases hh)
      exact le_sparse rfl trivial trivial rfl
  · clear hr4
    have h := hN5
    clear hN5
    intro e12 s13 q11 hne
    rcases y3 with y3k0 | y3m0
    · replace h := h
      obtain ⟨rfl, q11⟩ := q11
      replace h := of_let h
      obtain ⟨w19, hw19, h⟩ := h
      have hw19 : w19 = y3k0 := hw19
      subst hw19
      cbv
      injection h with h
      subst h
      refine ⟨(sparse 19 [(4, .c (.v (.int .i64 w19)))] []), ?_, ?_⟩
      · refine St.le_trans q11 ?_
        exact le_sparse rfl ⟨AV.le_refl _, trivial⟩ trivial rfl
      · exact ⟨AV.le_refl _, trivial, rfl⟩
    · obtain ⟨rfl, q11⟩ := q11
      cbv
      refine ⟨_, q11, ?_⟩
      cbv
      injection h with h
      subst h
      refine ⟨(sparse 19 [(4, .c (.v (.int .i64 (-1))))] []), ?_, ?_⟩
      · exact le_sparse rfl ⟨AV.le_refl _, trivial⟩ trivial rfl
      · exact ⟨AV.le_refl _, trivial, rfl⟩

/-- impl.Label] -/
noncomputable def F_slices_ContainsFunc_Limpl_Label_impl_Label_mbFimpl_validCell_2 (a0 : List TLabel) : Option (Bool) :=
  (F_slices_IndexFunc_Limpl_Label_impl_Label_mbFimpl_validCell_2 a0).bind fun y1 =>
  some (std.le 0 y1)
theorem run_slices_ContainsFunc_Limpl_Label_impl_Label_mbFimpl_validCell_2 (a0 : List TLabel) (r : Bool) (h : F_slices_ContainsFunc_Limpl_Label_impl_Label_mbFimpl_validCell_2 a0 = some r) : Fun Try.prog 194 [.c (.bs (len a0) 4 (row gd (encLabel) a0)), .c (.fn 195 0 fun _ => .junk)] [] (.c (.v (.bool r))) [] true := by
  refine Fun.of_wp (oneOf []) tok mixed Try.func194 (by kernel_rfl) rfl Try.ntmps194 rfl trivial (fun _ => ⟨trivial, trivial⟩) ?_
  unfold F_slices_ContainsFunc_Limpl_Label_impl_Label_mbFimpl_validCell_2 at h
  have hf_slices_IndexFunc_Limpl_Label_impl_Label_mbFimpl_validCell_2 := @run_slices_IndexFunc_Limpl_Label_impl_Label_mbFimpl_validCell_2
  generalize hLEN : @len = LEN at *
  generalize hGD : @gd = GD at *
  generalize hA : std = A at *
  generalize hP : Try.prog = P at *
  cbv
  replace h := of_bind h
  obtain ⟨y1, hy2, h⟩ := h
  refine ⟨{ args := [.c (.bs (LEN a0) 4 (row GD (encLabel) a0)), .c (.fn 195 0 fun _ => .junk)], o0 := [], r := .c (.v (.int .i64 y1)), o1 := [], fl := true, σ := [], τ := [] }, hf_slices_IndexFunc_Limpl_Label_impl_Label_mbFimpl_validCell_2 _ _ hy2, ⟨les_cons (AV.le_refl _) (les_cons (AV.le_refl _) (les_nil)), trivial, rfl, rfl, rfl, rfl, trivial, rfl⟩, ?_⟩
  cbv
  injection h with h
  subst h
  refine ⟨(sparse 9 [(4, .c (.v (.bool (A.le 0 y1))))] []), ?_, ?_⟩
  · exact le_sparse rfl ⟨AV.le_refl _, trivial⟩ trivial rfl
  · exact ⟨AV.le_refl _, trivial, rfl⟩

/-- impl.IsValidTransform -/
noncomputable def F_impl_IsValidTransform (a0 : TTransform) : Option (Bool) :=
  ((
        (F_impl_within a0.fOrientation 0 7).bind fun y8 =>
        br y8
        ((F_impl_within a0.fX (-80) 80).bind fun y10 =>
        br y10
        ((F_impl_within a0.fY (-80) 80).bind fun y12 =>
        some y12)
        (some false))
        (some false)
    ) : Option (Bool)).bind fun y1 =>
  letO y1 fun w7 =>
  some w7
theorem run_impl_IsValidTransform (a0 : TTransform) (r : Bool) (h : F_impl_IsValidTransform a0 = some r) : Fun Try.prog 213 [.agg [.v (.int .i64 a0.fOrientation), .v (.int .i64 a0.fX), .v (.int .i64 a0.fY)]] [] (.c (.v (.bool r))) [] true := by
  refine Fun.of_wp (oneOf [1]) tok mixed Try.func213 (by kernel_rfl) rfl Try.ntmps213 rfl trivial (fun _ => ⟨trivial, trivial⟩) ?_
  unfold F_impl_IsValidTransform at h
  have hf_impl_within := @run_impl_within
  generalize hLEN : @len = LEN at *
  generalize hGD : @gd = GD at *
  generalize hA : std = A at *
  generalize hP : Try.prog = P at *
  cbv
  replace h := of_bind h
  obtain ⟨y1, hy2, h⟩ := h
  obtain ⟨S5, hS6⟩ : ∃ S, S = (sparse 16 [(2, .c (.v (.bool y1)))] []) := ⟨_, rfl⟩
  refine ⟨S5, ?_, ?_⟩
  · clear h
    have h := hy2
    clear hy2
    cbv
    replace h := of_bind h
    obtain ⟨y8, hy9, h⟩ := h
    refine ⟨{ args := [.c (.v (.int .i64 a0.fOrientation)), .c (.v (.int .i64 0)), .c (.v (.int .i64 7))], o0 := [], r := .c (.v (.bool y8)), o1 := [], fl := true, σ := [], τ := [] }, hf_impl_within _ _ _ _ hy9, ⟨les_cons (AV.le_refl _) (les_cons (AV.le_refl _) (les_cons (AV.le_refl _) (les_nil))), trivial, rfl, rfl, rfl, rfl, trivial, rfl⟩, ?_⟩
    cbv
    refine fork (fun b15 => ?_) (fun b15 => ?_)
    · replace h := of_br_t b15 h
      cbv
      replace h := of_bind h
      obtain ⟨y10, hy11, h⟩ := h
      refine ⟨{ args := [.c (.v (.int .i64 a0.fX)), .c (.v (.int .i64 (-80))), .c (.v (.int .i64 80))], o0 := [], r := .c (.v (.bool y10)), o1 := [], fl := true, σ := [], τ := [] }, hf_impl_within _ _ _ _ hy11, ⟨les_cons (AV.le_refl _) (les_cons (AV.le_refl _) (les_cons (AV.le_refl _) (les_nil))), trivial, rfl, rfl, rfl, rfl, trivial, rfl⟩, ?_⟩
      cbv
      refine fork (fun b14 => ?_) (fun b14 => ?_)
      · replace h := of_br_t b14 h
        cbv
        replace h := of_bind h
        obtain ⟨y12, hy13, h⟩ := h
        refine ⟨{ args := [.c (.v (.int .i64 a0.fY)), .c (.v (.int .i64 (-80))), .c (.v (.int .i64 80))], o0 := [], r := .c (.v (.bool y12)), o1 := [], fl := true, σ := [], τ := [] }, hf_impl_within _ _ _ _ hy13, ⟨les_cons (AV.le_refl _) (les_cons (AV.le_refl _) (les_cons (AV.le_refl _) (les_nil))), trivial, rfl, rfl, rfl, rfl, trivial, rfl⟩, ?_⟩
        cbv
        injection h with h
        subst h
        subst hS6
        show St.le _ _
        exact le_sparse rfl ⟨AV.le_refl _, trivial⟩ trivial rfl
      · replace h := of_br_f b14 h
        cbv
        injection h with h
        subst h
        subst hS6
        show St.le _ _
        exact le_sparse rfl ⟨AV.le_refl _, trivial⟩ trivial rfl
    · replace h := of_br_f b15 h
      cbv
      injection h with h
      subst h
      subst hS6
      show St.le _ _
      exact le_sparse rfl ⟨AV.le_refl _, trivial⟩ trivial rfl
  · clear hy2
    subst hS6
    replace h := of_let h
    obtain ⟨w7, hw7, h⟩ := h
    have hw7 : w7 = y1 := hw7
    subst hw7
    cbv
    injection h with h
    subst h
    refine ⟨(sparse 16 [(2, .c (.v (.bool w7)))] []), ?_, ?_⟩
    · exact le_sparse rfl ⟨AV.le_refl _, trivial⟩ trivial rfl
    · exact ⟨AV.le_refl _, trivial, rfl⟩
/-- impl.validInstance -/
noncomputable def F_impl_validInstance (a0 : TInstance) (a1 : Int) : Option (Bool) :=
  ((
        (F_impl_within a0.fCell 0 (std.sub .i64 a1 1)).bind fun y8 =>
        br y8
        ((F_impl_IsValidTransform a0.fPlace).bind fun y10 =>
        br y10
        ((F_impl_within a0.fColumns 1 4).bind fun y12 =>
        br y12
        ((F_impl_within a0.fRows 1 4).bind fun y14 =>
        br y14
        ((F_impl_within a0.fStepX (-80) 80).bind fun y16 =>
        br y16
        ((F_impl_within a0.fStepY (-80) 80).bind fun y18 =>
        br y18
        (br (std.eq a0.fStepX 0)
        (br (std.eq a0.fStepY 0)
        (some true)
        (some (std.lt 1 a0.fRows)))
        (br (std.lt 1 a0.fColumns)
        (br (std.eq a0.fStepY 0)
        (some true)
        (some (std.lt 1 a0.fRows)))
        (some false)))
        (some false))
        (some false))
        (some false))
        (some false))
        (some false))
        (some false)
    ) : Option (Bool)).bind fun y1 =>
  letO y1 fun w7 =>
  some w7
theorem run_impl_validInstance (a0 : TInstance) (a1 : Int) (r : Bool) (h : F_impl_validInstance a0 a1 = some r) : Fun Try.prog 167 [.agg [.v (.int .i64 a0.fCell), .v (.int .i64 a0.fPlace.fOrientation), .v (.int .i64 a0.fPlace.fX), .v (.int .i64 a0.fPlace.fY), .v (.int .i64 a0.fColumns), .v (.int .i64 a0.fRows), .v (.int .i64 a0.fStepX), .v (.int .i64 a0.fStepY)], .c (.v (.int .i64 a1))] [] (.c (.v (.bool r))) [] true := by
  refine Fun.of_wp (oneOf [1]) tok mixed Try.func167 (by kernel_rfl) rfl Try.ntmps167 rfl trivial (fun _ => ⟨trivial, trivial⟩) ?_
  unfold F_impl_validInstance at h
  have hf_impl_IsValidTransform := @run_impl_IsValidTransform
  have hf_impl_within := @run_impl_within
  generalize hLEN : @len = LEN at *
  generalize hGD : @gd = GD at *
  generalize hA : std = A at *
  generalize hP : Try.prog = P at *
  cbv
  replace h := of_bind h
  obtain ⟨y1, hy2, h⟩ := h
  obtain ⟨S5, hS6⟩ : ∃ S, S = (sparse 55 [(4, .c (.v (.bool y1)))] []) := ⟨_, rfl⟩
  refine ⟨S5, ?_, ?_⟩
  · clear h
    have h := hy2
    clear hy2
    cbv
    replace h := of_bind h
    obtain ⟨y8, hy9, h⟩ := h
    refine ⟨{ args := [.c (.v (.int .i64 a0.fCell)), .c (.v (.int .i64 0)), .c (.v (.int .i64 (A.sub .i64 a1 1)))], o0 := [], r := .c (.v (.bool y8)), o1 := [], fl := true, σ := [], τ := [] }, hf_impl_within _ _ _ _ hy9, ⟨les_cons (AV.le_refl _) (les_cons (AV.le_refl _) (les_cons (AV.le_refl _) (les_nil))), trivial, rfl, rfl, rfl, rfl, trivial, rfl⟩, ?_⟩
    cbv
    refine fork (fun b29 => ?_) (fun b29 => ?_)
    · replace h := of_br_t b29 h
      cbv
      replace h := of_bind h
      obtain ⟨y10, hy11, h⟩ := h
      refine ⟨{ args := [.agg [.v (.int .i64 a0.fPlace.fOrientation), .v (.int .i64 a0.fPlace.fX), .v (.int .i64 a0.fPlace.fY)]], o0 := [], r := .c (.v (.bool y10)), o1 := [], fl := true, σ := [], τ := [] }, hf_impl_IsValidTransform _ _ hy11, ⟨les_cons (AV.le_refl _) (les_nil), trivial, rfl, rfl, rfl, rfl, trivial, rfl⟩, ?_⟩
      cbv
      refine fork (fun b28 => ?_) (fun b28 => ?_)
      · replace h := of_br_t b28 h
        cbv
        replace h := of_bind h
        obtain ⟨y12, hy13, h⟩ := h
        refine ⟨{ args := [.c (.v (.int .i64 a0.fColumns)), .c (.v (.int .i64 1)), .c (.v (.int .i64 4))], o0 := [], r := .c (.v (.bool y12)), o1 := [], fl := true, σ := [], τ := [] }, hf_impl_within _ _ _ _ hy13, ⟨les_cons (AV.le_refl _) (les_cons (AV.le_refl _) (les_cons (AV.le_refl _) (les_nil))), trivial, rfl, rfl, rfl, rfl, trivial, rfl⟩, ?_⟩
        cbv
        refine fork (fun b27 => ?_) (fun b27 => ?_)
        · replace h := of_br_t b27 h
          cbv
          replace h := of_bind h
          obtain ⟨y14, hy15, h⟩ := h
          refine ⟨{ args := [.c (.v (.int .i64 a0.fRows)), .c (.v (.int .i64 1)), .c (.v (.int .i64 4))], o0 := [], r := .c (.v (.bool y14)), o1 := [], fl := true, σ := [], τ := [] }, hf_impl_within _ _ _ _ hy15, ⟨les_cons (AV.le_refl _) (les_cons (AV.le_refl _) (les_cons (AV.le_refl _) (les_nil))), trivial, rfl, rfl, rfl, rfl, trivial, rfl⟩, ?_⟩
          cbv
          refine fork (fun b26 => ?_) (fun b26 => ?_)
          · replace h := of_br_t b26 h
            cbv
            replace h := of_bind h
            obtain ⟨y16, hy17, h⟩ := h
            refine ⟨{ args := [.c (.v (.int .i64 a0.fStepX)), .c (.v (.int .i64 (-80))), .c (.v (.int .i64 80))], o0 := [], r := .c (.v (.bool y16)), o1 := [], fl := true, σ := [], τ := [] }, hf_impl_within _ _ _ _ hy17, ⟨les_cons (AV.le_refl _) (les_cons (AV.le_refl _) (les_cons (AV.le_refl _) (les_nil))), trivial, rfl, rfl, rfl, rfl, trivial, rfl⟩, ?_⟩
            cbv
            refine fork (fun b25 => ?_) (fun b25 => ?_)
            · replace h := of_br_t b25 h
              cbv
              replace h := of_bind h
              obtain ⟨y18, hy19, h⟩ := h
              refine ⟨{ args := [.c (.v (.int .i64 a0.fStepY)), .c (.v (.int .i64 (-80))), .c (.v (.int .i64 80))], o0 := [], r := .c (.v (.bool y18)), o1 := [], fl := true, σ := [], τ := [] }, hf_impl_within _ _ _ _ hy19, ⟨les_cons (AV.le_refl _) (les_cons (AV.le_refl _) (les_cons (AV.le_refl _) (les_nil))), trivial, rfl, rfl, rfl, rfl, trivial, rfl⟩, ?_⟩
              cbv
              refine fork (fun b24 => ?_) (fun b24 => ?_)
              · replace h := of_br_t b24 h
                cbv
                refine fork (fun b23 => ?_) (fun b23 => ?_)
                · replace h := of_br_t b23 h
                  cbv
                  refine fork (fun b22 => ?_) (fun b22 => ?_)
                  · replace h := of_br_t b22 h
                    cbv
                    injection h with h
                    subst h
                    subst hS6
                    show St.le _ _
                    exact le_sparse rfl ⟨AV.le_refl _, trivial⟩ trivial rfl
                  · replace h := of_br_f b22 h
                    cbv
                    injection h with h
                    subst h
                    subst hS6
                    show St.le _ _
                    exact le_sparse rfl ⟨AV.le_refl _, trivial⟩ trivial rfl
                · replace h := of_br_f b23 h
                  cbv
                  refine fork (fun b21 => ?_) (fun b21 => ?_)
                  · replace h := of_br_t b21 h
                    cbv
                    refine fork (fun b20 => ?_) (fun b20 => ?_)
                    · replace h := of_br_t b20 h
                      cbv
                      injection h with h
                      subst h
                      subst hS6
                      show St.le _ _
                      exact le_sparse rfl ⟨AV.le_refl _, trivial⟩ trivial rfl
                    · replace h := of_br_f b20 h
                      cbv
                      injection h with h
                      subst h
                      subst hS6
                      show St.le _ _
                      exact le_sparse rfl ⟨AV.le_refl _, trivial⟩ trivial rfl
                  · replace h := of_br_f b21 h
                    cbv
                    injection h with h
                    subst h
                    subst hS6
                    show St.le _ _
                    exact le_sparse rfl ⟨AV.le_refl _, trivial⟩ trivial rfl
              · replace h := of_br_f b24 h
                cbv
                injection h with h
                subst h
                subst hS6
                show St.le _ _
                exact le_sparse rfl ⟨AV.le_refl _, trivial⟩ trivial rfl
            · replace h := of_br_f b25 h
              cbv
              injection h with h
              subst h
              subst hS6
              show St.le _ _
              exact le_sparse rfl ⟨AV.le_refl _, trivial⟩ trivial rfl
          · replace h := of_br_f b26 h
            cbv
            injection h with h
            subst h
            subst hS6
            show St.le _ _
            exact le_sparse rfl ⟨AV.le_refl _, trivial⟩ trivial rfl
        · replace h := of_br_f b27 h
          cbv
          injection h with h
          subst h
          subst hS6
          show St.le _ _
          exact le_sparse rfl ⟨AV.le_refl _, trivial⟩ trivial rfl
      · replace h := of_br_f b28 h
        cbv
        injection h with h
        subst h
        subst hS6
        show St.le _ _
        exact le_sparse rfl ⟨AV.le_refl _, trivial⟩ trivial rfl
    · replace h := of_br_f b29 h
      cbv
      injection h with h
      subst h
      subst hS6
      show St.le _ _
      exact le_sparse rfl ⟨AV.le_refl _, trivial⟩ trivial rfl
  · clear hy2
    subst hS6
    replace h := of_let h
    obtain ⟨w7, hw7, h⟩ := h
    have hw7 : w7 = y1 := hw7
    subst hw7
    cbv
    injection h with h
    subst h
    refine ⟨(sparse 55 [(4, .c (.v (.bool w7)))] []), ?_, ?_⟩
    · exact le_sparse rfl ⟨AV.le_refl _, trivial⟩ trivial rfl
    · exact ⟨AV.le_refl _, trivial, rfl⟩

/-- impl.validCell$3 -/
noncomputable def F_impl_validCell_3_mbp (a0 : TInstance) (a1 : Int) : Option (Bool) :=
  (F_impl_validInstance (TInstance.mk a0.fCell a0.fPlace a0.fColumns a0.fRows a0.fStepX a0.fStepY) a1).bind fun y1 =>
  some (!(y1))
theorem run_impl_validCell_3_mbp (a0 : TInstance) (a1 : Int) (r : Bool) (h : F_impl_validCell_3_mbp a0 a1 = some r) : Fun Try.prog 196 [.agg [.v (.int .i64 a0.fCell), .v (.int .i64 a0.fPlace.fOrientation), .v (.int .i64 a0.fPlace.fX), .v (.int .i64 a0.fPlace.fY), .v (.int .i64 a0.fColumns), .v (.int .i64 a0.fRows), .v (.int .i64 a0.fStepX), .v (.int .i64 a0.fStepY)], .c (.bp 1 (encI .i64 a1))] [] (.c (.v (.bool r))) [] true := by
  refine Fun.of_wp (oneOf []) tok mixed Try.func196 (by kernel_rfl) rfl Try.ntmps196 rfl trivial (fun _ => ⟨trivial, trivial⟩) ?_
  unfold F_impl_validCell_3_mbp at h
  have hf_impl_validInstance := @run_impl_validInstance
  generalize hLEN : @len = LEN at *
  generalize hGD : @gd = GD at *
  generalize hA : std = A at *
  generalize hP : Try.prog = P at *
  cbv
  replace h := of_bind h
  obtain ⟨y1, hy2, h⟩ := h
  refine ⟨{ args := [.agg [.v (.int .i64 a0.fCell), .v (.int .i64 a0.fPlace.fOrientation), .v (.int .i64 a0.fPlace.fX), .v (.int .i64 a0.fPlace.fY), .v (.int .i64 a0.fColumns), .v (.int .i64 a0.fRows), .v (.int .i64 a0.fStepX), .v (.int .i64 a0.fStepY)], .c (.v (.int .i64 a1))], o0 := [], r := .c (.v (.bool y1)), o1 := [], fl := true, σ := [], τ := [] }, hf_impl_validInstance _ _ _ hy2, ⟨les_cons (AV.le_refl _) (les_cons (AV.le_refl _) (les_nil)), trivial, rfl, rfl, rfl, rfl, trivial, rfl⟩, ?_⟩
  cbv
  injection h with h
  subst h
  refine ⟨(sparse 8 [(3, .c (.v (.bool (!(y1)))))] []), ?_, ?_⟩
  · exact le_sparse rfl ⟨AV.le_refl _, trivial⟩ trivial rfl
  · exact ⟨AV.le_refl _, trivial, rfl⟩

noncomputable def L_slices_IndexFunc_Limpl_Instance_impl_Instance_mbFimpl_validCell_3p_x2 (a0 : List TInstance) (a1_0 : Int) : (Int) → Option ((Int) ⊕ ((Int) ⊕ (Unit))) := fun x2 =>
  letO x2 fun v1 =>
  br (std.lt v1 (std.ofN (len a0)))
  (req (std.inR v1 (len a0)) <|
  (F_impl_validCell_3_mbp (gd a0 (std.toN v1)) a1_0).bind fun y15 =>
  br y15
  (some (.inr (.inl v1)))
  (some (.inl (std.add .i64 v1 1))))
  (some (.inr (.inr ())))
/-- impl.Instance] -/
noncomputable def F_slices_IndexFunc_Limpl_Instance_impl_Instance_mbFimpl_validCell_3p (a0 : List TInstance) (a1_0 : Int) : Option (Int) :=
  (whileP (σ := Int) (ρ := (Int) ⊕ (Unit)) (L_slices_IndexFunc_Limpl_Instance_impl_Instance_mbFimpl_validCell_3p_x2 a0 a1_0) 0).bind fun y3 =>
  (match y3 with
    | .inl y3k0 => (
        letO y3k0 fun w19 =>
        some w19)
    | .inr y3m0 =>
        some (-1))
theorem run_slices_IndexFunc_Limpl_Instance_impl_Instance_mbFimpl_validCell_3p (a0 : List TInstance) (a1_0 : Int) (r : Int) (h : F_slices_IndexFunc_Limpl_Instance_impl_Instance_mbFimpl_validCell_3p a0 a1_0 = some r) : Fun Try.prog 214 [.c (.bs (len a0) 8 (row gd (encInstance) a0)), .c (.fn 196 1 fun j => ([.bp 1 (encI .i64 a1_0)] : List AC).getD j .junk)] [] (.c (.v (.int .i64 r))) [] true := by
  refine Fun.of_wp (oneOf []) tok mixed Try.func214 (by kernel_rfl) rfl Try.ntmps214 rfl trivial (fun _ => ⟨trivial, trivial⟩) ?_
  unfold F_slices_IndexFunc_Limpl_Instance_impl_Instance_mbFimpl_validCell_3p at h
  unfold L_slices_IndexFunc_Limpl_Instance_impl_Instance_mbFimpl_validCell_3p_x2 at h
  have hf_impl_validCell_3_mbp := @run_impl_validCell_3_mbp
  generalize hLEN : @len = LEN at *
  generalize hGD : @gd = GD at *
  generalize hA : std = A at *
  generalize hP : Try.prog = P at *
  cbv
  replace h := of_bind h
  obtain ⟨y3, hr4, hN5⟩ := h
  refine loop_cut hr4 (fun x => (sparse 19 [(0, .c (.bs (LEN a0) 8 (row GD (encInstance) a0))), (1, .c (.fn 196 1 fun j => ([.bp 1 (encI .i64 a1_0)] : List AC).getD j .junk)), (7, .c (.v (.int .i64 (A.ofN (LEN a0))))), (8, .c (.v (.int .i64 x)))] [])) ?_ (fun y e s => (match y with | .inl w => e = .ret ∧ s.le (sparse 19 [(4, .c (.v (.int .i64 w)))] []) | .inr w0 => (fun (w : Unit) => e = .exit 0 ∧ s.le (sparse 19 [] [])) w0)) ?_ ?_
  · clear hr4 hN5
    show St.le _ _
    exact le_sparse rfl ⟨AV.le_refl _, AV.le_refl _, AV.le_refl _, AV.le_refl _, trivial⟩ trivial rfl
  · clear hr4 hN5
    intro x z9 h K7 hK8 hY6
    replace h := of_let h
    obtain ⟨v1, hv1, h⟩ := h
    have hv1 : v1 = x := hv1
    subst hv1
    cbv
    refine fork (fun b18 => ?_) (fun b18 => ?_)
    · replace h := of_br_t b18 h
      cbv
      replace h := of_req h
      obtain ⟨c14, h⟩ := h
      refine ⟨⟨c14, trivial⟩, ?_⟩
      replace h := of_bind h
      obtain ⟨y15, hy16, h⟩ := h
      refine ⟨{ args := [.agg [.v (.int .i64 (GD a0 (A.toN v1)).fCell), .v (.int .i64 (GD a0 (A.toN v1)).fPlace.fOrientation), .v (.int .i64 (GD a0 (A.toN v1)).fPlace.fX), .v (.int .i64 (GD a0 (A.toN v1)).fPlace.fY), .v (.int .i64 (GD a0 (A.toN v1)).fColumns), .v (.int .i64 (GD a0 (A.toN v1)).fRows), .v (.int .i64 (GD a0 (A.toN v1)).fStepX), .v (.int .i64 (GD a0 (A.toN v1)).fStepY)], .c (.bp 1 (encI .i64 a1_0))], o0 := [], r := .c (.v (.bool y15)), o1 := [], fl := true, σ := [], τ := [] }, hf_impl_validCell_3_mbp _ _ _ hy16, ⟨les_cons (AV.le_refl _) (les_cons (le_bp (show 1 ≤ 1 from by decide) (by intro j hj; match j, hj with | 0, _ => exact rle_refl _ | (j_ + 1), h_ => exact absurd h_ (by omega))) (les_nil)), trivial, rfl, rfl, rfl, rfl, trivial, rfl⟩, ?_⟩
      cbv
      refine fork (fun b17 => ?_) (fun b17 => ?_)
      · replace h := of_br_t b17 h
        cbv
        injection h with h
        refine hY6 _ h.symm _ _ (And.intro rfl ?_) (by intro hh; cases hh)
        exact le_sparse rfl ⟨AV.le_refl _, trivial⟩ trivial rfl
      · replace h := of_br_f b17 h
        cbv
        injection h with h
        refine hK8 _ h.symm _ ?_
        exact le_sparse rfl ⟨AV.le_refl _, AV.le_refl _, AV.le_refl _, AV.le_refl _, trivial⟩ trivial rfl
    · replace h := of_br_f b18 h
      cbv
      injection h with h
      refine hY6 _ h.symm _ _ (And.intro rfl ?_) (by intro hh; cases hh)
      exact le_sparse rfl trivial trivial rfl
  · clear hr4
    have h := hN5
    clear hN5
    intro e12 s13 q11 hne
    rcases y3 with y3k0 | y3m0
    · replace h := h
      obtain ⟨rfl, q11⟩ := q11
      replace h := of_let h
      obtain ⟨w19, hw19, h⟩ := h
      have hw19 : w19 = y3k0 := hw19
      subst hw19
      cbv
      injection h with h
      subst h
      refine ⟨(sparse 19 [(4, .c (.v (.int .i64 w19)))] []), ?_, ?_⟩
      · refine St.le_trans q11 ?_
        exact le_sparse rfl ⟨AV.le_refl _, trivial⟩ trivial rfl
      · exact ⟨AV.le_refl _, trivial, rfl⟩
    · obtain ⟨rfl, q11⟩ := q11
      cbv
      refine ⟨_, q11, ?_⟩
      cbv
      injection h with h
      subst h
      refine ⟨(sparse 19 [(4, .c (.v (.int .i64 (-1))))] []), ?_, ?_⟩
      · exact le_sparse rfl ⟨AV.le_refl _, trivial⟩ trivial rfl
      · exact ⟨AV.le_refl _, trivial, rfl⟩

/-- impl.Instance] -/
noncomputable def F_slices_ContainsFunc_Limpl_Instance_impl_Instance_mbFimpl_validCell_3p (a0 : List TInstance) (a1_0 : Int) : Option (Bool) :=
  (F_slices_IndexFunc_Limpl_Instance_impl_Instance_mbFimpl_validCell_3p a0 a1_0).bind fun y1 =>
  some (std.le 0 y1)
theorem run_slices_ContainsFunc_Limpl_Instance_impl_Instance_mbFimpl_validCell_3p (a0 : List TInstance) (a1_0 : Int) (r : Bool) (h : F_slices_ContainsFunc_Limpl_Instance_impl_Instance_mbFimpl_validCell_3p a0 a1_0 = some r) : Fun Try.prog 171 [.c (.bs (len a0) 8 (row gd (encInstance) a0)), .c (.fn 196 1 fun j => ([.bp 1 (encI .i64 a1_0)] : List AC).getD j .junk)] [] (.c (.v (.bool r))) [] true := by
  refine Fun.of_wp (oneOf []) tok mixed Try.func171 (by kernel_rfl) rfl Try.ntmps171 rfl trivial (fun _ => ⟨trivial, trivial⟩) ?_
  unfold F_slices_ContainsFunc_Limpl_Instance_impl_Instance_mbFimpl_validCell_3p at h
  have hf_slices_IndexFunc_Limpl_Instance_impl_Instance_mbFimpl_validCell_3p := @run_slices_IndexFunc_Limpl_Instance_impl_Instance_mbFimpl_validCell_3p
  generalize hLEN : @len = LEN at *
  generalize hGD : @gd = GD at *
  generalize hA : std = A at *
  generalize hP : Try.prog = P at *
  cbv
  replace h := of_bind h
  obtain ⟨y1, hy2, h⟩ := h
  refine ⟨{ args := [.c (.bs (LEN a0) 8 (row GD (encInstance) a0)), .c (.fn 196 1 fun j => ([.bp 1 (encI .i64 a1_0)] : List AC).getD j .junk)], o0 := [], r := .c (.v (.int .i64 y1)), o1 := [], fl := true, σ := [], τ := [] }, hf_slices_IndexFunc_Limpl_Instance_impl_Instance_mbFimpl_validCell_3p _ _ _ hy2, ⟨les_cons (AV.le_refl _) (les_cons (le_fn (by intro j hj; match j, hj with | 0, _ => exact le_bp (show 1 ≤ 1 from by decide) (by intro j hj; match j, hj with | 0, _ => exact rle_refl _ | (j_ + 1), h_ => exact absurd h_ (by omega)) | (j_ + 1), h_ => exact absurd h_ (by omega))) (les_nil)), trivial, rfl, rfl, rfl, rfl, trivial, rfl⟩, ?_⟩
  cbv
  injection h with h
  subst h
  refine ⟨(sparse 9 [(4, .c (.v (.bool (A.le 0 y1))))] []), ?_, ?_⟩
  · exact le_sparse rfl ⟨AV.le_refl _, trivial⟩ trivial rfl
  · exact ⟨AV.le_refl _, trivial, rfl⟩

/-- impl.validCell -/
noncomputable def F_impl_validCell (a0 : TCell) (a1 : Int) : Option (Bool) :=
  ((
        (F_impl_IsName a0.fName).bind fun y8 =>
        br (!(y8))
        (some true)
        (br (std.lt 24 (std.ofN (len a0.fShapes)))
        (some true)
        (br (std.lt 8 (std.ofN (len a0.fLabels)))
        (some true)
        (some (std.lt 8 (std.ofN (len a0.fInstances))))))
    ) : Option (Bool)).bind fun y1 =>
  letO y1 fun w7 =>
  br w7
  (some false)
  (((
        (F_slices_ContainsFunc_Limpl_Shape_impl_Shape_mbFimpl_validCell_1 a0.fShapes).bind fun y20 =>
        br (!(y20))
        ((F_slices_ContainsFunc_Limpl_Label_impl_Label_mbFimpl_validCell_2 a0.fLabels).bind fun y22 =>
        br (!(y22))
        ((F_slices_ContainsFunc_Limpl_Instance_impl_Instance_mbFimpl_validCell_3p a0.fInstances a1).bind fun y24 =>
        some (!(y24)))
        (some false))
        (some false)
    ) : Option (Bool)).bind fun y13 =>
  letO y13 fun w19 =>
  some w19)
theorem run_impl_validCell (a0 : TCell) (a1 : Int) (r : Bool) (h : F_impl_validCell a0 a1 = some r) : Fun Try.prog 133 [.agg [.v (.string a0.fName), .bs (len a0.fShapes) 5 (row gd (encShape) a0.fShapes), .bs (len a0.fLabels) 4 (row gd (encLabel) a0.fLabels), .bs (len a0.fInstances) 8 (row gd (encInstance) a0.fInstances)], .c (.v (.int .i64 a1))] [] (.c (.v (.bool r))) [] true := by
  refine Fun.of_wp (oneOf [1, 3]) tok mixed Try.func133 (by kernel_rfl) rfl Try.ntmps133 rfl trivial (fun _ => ⟨trivial, trivial⟩) ?_
  unfold F_impl_validCell at h
  have hf_impl_IsName := @run_impl_IsName
  have hf_slices_ContainsFunc_Limpl_Instance_impl_Instance_mbFimpl_validCell_3p := @run_slices_ContainsFunc_Limpl_Instance_impl_Instance_mbFimpl_validCell_3p
  have hf_slices_ContainsFunc_Limpl_Label_impl_Label_mbFimpl_validCell_2 := @run_slices_ContainsFunc_Limpl_Label_impl_Label_mbFimpl_validCell_2
  have hf_slices_ContainsFunc_Limpl_Shape_impl_Shape_mbFimpl_validCell_1 := @run_slices_ContainsFunc_Limpl_Shape_impl_Shape_mbFimpl_validCell_1
  generalize hLEN : @len = LEN at *
  generalize hGD : @gd = GD at *
  generalize hA : std = A at *
  generalize hP : Try.prog = P at *
  cbv
  replace h := of_bind h
  obtain ⟨y1, hy2, h⟩ := h
  obtain ⟨S5, hS6⟩ : ∃ S, S = (sparse 44 [(2, .c (.ptr 128 0)), (3, .c (.ptr 192 0)), (26, .c (.v (.bool y1)))] [(128, .var [.v (.string a0.fName), .bs (LEN a0.fShapes) 5 (row GD (encShape) a0.fShapes), .bs (LEN a0.fLabels) 4 (row GD (encLabel) a0.fLabels), .bs (LEN a0.fInstances) 8 (row GD (encInstance) a0.fInstances)]), (192, .var [.v (.int .i64 a1)])]) := ⟨_, rfl⟩
  refine ⟨S5, ?_, ?_⟩
  · clear h
    have h := hy2
    clear hy2
    cbv
    replace h := of_bind h
    obtain ⟨y8, hy9, h⟩ := h
    refine ⟨{ args := [.c (.v (.string a0.fName))], o0 := [], r := .c (.v (.bool y8)), o1 := [], fl := true, σ := [], τ := [] }, hf_impl_IsName _ _ hy9, ⟨les_cons (AV.le_refl _) (les_nil), trivial, rfl, rfl, rfl, rfl, trivial, rfl⟩, ?_⟩
    cbv
    refine fork (fun b12 => ?_) (fun b12 => ?_)
    · replace h := of_br_t b12 h
      cbv
      injection h with h
      subst h
      subst hS6
      show St.le _ _
      exact le_sparse rfl ⟨AV.le_refl _, AV.le_refl _, AV.le_refl _, trivial⟩ ⟨rfl, rfl, trivial⟩ rfl
    · replace h := of_br_f b12 h
      cbv
      refine fork (fun b11 => ?_) (fun b11 => ?_)
      · replace h := of_br_t b11 h
        cbv
        injection h with h
        subst h
        subst hS6
        show St.le _ _
        exact le_sparse rfl ⟨AV.le_refl _, AV.le_refl _, AV.le_refl _, trivial⟩ ⟨rfl, rfl, trivial⟩ rfl
      · replace h := of_br_f b11 h
        cbv
        refine fork (fun b10 => ?_) (fun b10 => ?_)
        · replace h := of_br_t b10 h
          cbv
          injection h with h
          subst h
          subst hS6
          show St.le _ _
          exact le_sparse rfl ⟨AV.le_refl _, AV.le_refl _, AV.le_refl _, trivial⟩ ⟨rfl, rfl, trivial⟩ rfl
        · replace h := of_br_f b10 h
          cbv
          injection h with h
          subst h
          subst hS6
          show St.le _ _
          exact le_sparse rfl ⟨AV.le_refl _, AV.le_refl _, AV.le_refl _, trivial⟩ ⟨rfl, rfl, trivial⟩ rfl
  · clear hy2
    subst hS6
    replace h := of_let h
    obtain ⟨w7, hw7, h⟩ := h
    have hw7 : w7 = y1 := hw7
    subst hw7
    cbv
    refine fork (fun b28 => ?_) (fun b28 => ?_)
    · replace h := of_br_t b28 h
      cbv
      injection h with h
      subst h
      refine ⟨(sparse 44 [(4, .c (.v (.bool false)))] []), ?_, ?_⟩
      · exact le_sparse rfl ⟨AV.le_refl _, trivial⟩ trivial rfl
      · exact ⟨AV.le_refl _, trivial, rfl⟩
    · replace h := of_br_f b28 h
      cbv
      replace h := of_bind h
      obtain ⟨y13, hy14, h⟩ := h
      obtain ⟨S17, hS18⟩ : ∃ S, S = (sparse 44 [(4, .c (.v (.bool y13)))] []) := ⟨_, rfl⟩
      refine ⟨S17, ?_, ?_⟩
      · clear h
        have h := hy14
        clear hy14
        cbv
        replace h := of_bind h
        obtain ⟨y20, hy21, h⟩ := h
        refine ⟨{ args := [.c (.bs (LEN a0.fShapes) 5 (row GD (encShape) a0.fShapes)), .c (.fn 193 0 fun _ => .junk)], o0 := [], r := .c (.v (.bool y20)), o1 := [], fl := true, σ := [], τ := [] }, hf_slices_ContainsFunc_Limpl_Shape_impl_Shape_mbFimpl_validCell_1 _ _ hy21, ⟨les_cons (AV.le_refl _) (les_cons (AV.le_refl _) (les_nil)), trivial, rfl, rfl, rfl, rfl, trivial, rfl⟩, ?_⟩
        cbv
        refine fork (fun b27 => ?_) (fun b27 => ?_)
        · replace h := of_br_t b27 h
          cbv
          replace h := of_bind h
          obtain ⟨y22, hy23, h⟩ := h
          refine ⟨{ args := [.c (.bs (LEN a0.fLabels) 4 (row GD (encLabel) a0.fLabels)), .c (.fn 195 0 fun _ => .junk)], o0 := [], r := .c (.v (.bool y22)), o1 := [], fl := true, σ := [], τ := [] }, hf_slices_ContainsFunc_Limpl_Label_impl_Label_mbFimpl_validCell_2 _ _ hy23, ⟨les_cons (AV.le_refl _) (les_cons (AV.le_refl _) (les_nil)), trivial, rfl, rfl, rfl, rfl, trivial, rfl⟩, ?_⟩
          cbv
          refine fork (fun b26 => ?_) (fun b26 => ?_)
          · replace h := of_br_t b26 h
            cbv
            replace h := of_bind h
            obtain ⟨y24, hy25, h⟩ := h
            refine ⟨{ args := [.c (.bs (LEN a0.fInstances) 8 (row GD (encInstance) a0.fInstances)), .c (.fn 196 1 fun j => ([.bp 1 (encI .i64 a1)] : List AC).getD j .junk)], o0 := [], r := .c (.v (.bool y24)), o1 := [], fl := true, σ := [], τ := [] }, hf_slices_ContainsFunc_Limpl_Instance_impl_Instance_mbFimpl_validCell_3p _ _ _ hy25, ⟨les_cons (AV.le_refl _) (les_cons (le_fn (by intro j hj; match j, hj with | 0, _ => exact le_bp (show 1 ≤ 1 from by decide) (by intro j hj; match j, hj with | 0, _ => exact rle_refl _ | (j_ + 1), h_ => exact absurd h_ (by omega)) | (j_ + 1), h_ => exact absurd h_ (by omega))) (les_nil)), trivial, rfl, rfl, rfl, rfl, trivial, rfl⟩, ?_⟩
            cbv
            injection h with h
            subst h
            subst hS18
            show St.le _ _
            exact le_sparse rfl ⟨AV.le_refl _, trivial⟩ trivial rfl
          · replace h := of_br_f b26 h
            cbv
            injection h with h
            subst h
            subst hS18
            show St.le _ _
            exact le_sparse rfl ⟨AV.le_refl _, trivial⟩ trivial rfl
        · replace h := of_br_f b27 h
          cbv
          injection h with h
          subst h
          subst hS18
          show St.le _ _
          exact le_sparse rfl ⟨AV.le_refl _, trivial⟩ trivial rfl
      · clear hy14
        subst hS18
        replace h := of_let h
        obtain ⟨w19, hw19, h⟩ := h
        have hw19 : w19 = y13 := hw19
        subst hw19
        cbv
        injection h with h
        subst h
        refine ⟨(sparse 44 [(4, .c (.v (.bool w19)))] []), ?_, ?_⟩
        · exact le_sparse rfl ⟨AV.le_refl _, trivial⟩ trivial rfl
        · exact ⟨AV.le_refl _, trivial, rfl⟩

/-- impl.named$1 -/
noncomputable def F_impl_named_1_mbp (a0 : TCell) (a1 : ByteArray) : Option (Bool) :=
  some (std.seq a0.fName a1)
theorem run_impl_named_1_mbp (a0 : TCell) (a1 : ByteArray) (r : Bool) (h : F_impl_named_1_mbp a0 a1 = some r) : Fun Try.prog 170 [.agg [.v (.string a0.fName), .bs (len a0.fShapes) 5 (row gd (encShape) a0.fShapes), .bs (len a0.fLabels) 4 (row gd (encLabel) a0.fLabels), .bs (len a0.fInstances) 8 (row gd (encInstance) a0.fInstances)], .c (.bp 1 (encS a1))] [] (.c (.v (.bool r))) [] true := by
  refine Fun.of_wp (oneOf []) tok mixed Try.func170 (by kernel_rfl) rfl Try.ntmps170 rfl trivial (fun _ => ⟨trivial, trivial⟩) ?_
  unfold F_impl_named_1_mbp at h
  generalize hLEN : @len = LEN at *
  generalize hGD : @gd = GD at *
  generalize hA : std = A at *
  generalize hP : Try.prog = P at *
  cbv
  injection h with h
  subst h
  refine ⟨(sparse 8 [(3, .c (.v (.bool (A.seq a0.fName a1))))] []), ?_, ?_⟩
  · exact le_sparse rfl ⟨AV.le_refl _, trivial⟩ trivial rfl
  · exact ⟨AV.le_refl _, trivial, rfl⟩
noncomputable def L_slices_IndexFunc_Limpl_Cell_impl_Cell_mbFimpl_named_1p_x2 (a0 : List TCell) (a1_0 : ByteArray) : (Int) → Option ((Int) ⊕ ((Int) ⊕ (Unit))) := fun x2 =>
  letO x2 fun v1 =>
  br (std.lt v1 (std.ofN (len a0)))
  (req (std.inR v1 (len a0)) <|
  (F_impl_named_1_mbp (gd a0 (std.toN v1)) a1_0).bind fun y15 =>
  br y15
  (some (.inr (.inl v1)))
  (some (.inl (std.add .i64 v1 1))))
  (some (.inr (.inr ())))
/-- impl.Cell] -/
noncomputable def F_slices_IndexFunc_Limpl_Cell_impl_Cell_mbFimpl_named_1p (a0 : List TCell) (a1_0 : ByteArray) : Option (Int) :=
  (whileP (σ := Int) (ρ := (Int) ⊕ (Unit)) (L_slices_IndexFunc_Limpl_Cell_impl_Cell_mbFimpl_named_1p_x2 a0 a1_0) 0).bind fun y3 =>
  (match y3 with
    | .inl y3k0 => (
        letO y3k0 fun w19 =>
        some w19)
    | .inr y3m0 =>
        some (-1))
theorem run_slices_IndexFunc_Limpl_Cell_impl_Cell_mbFimpl_named_1p (a0 : List TCell) (a1_0 : ByteArray) (r : Int) (h : F_slices_IndexFunc_Limpl_Cell_impl_Cell_mbFimpl_named_1p a0 a1_0 = some r) : Fun Try.prog 169 [.c (.bs (len a0) 4 (row gd (encCell len gd) a0)), .c (.fn 170 1 fun j => ([.bp 1 (encS a1_0)] : List AC).getD j .junk)] [] (.c (.v (.int .i64 r))) [] true := by
  refine Fun.of_wp (oneOf []) tok mixed Try.func169 (by kernel_rfl) rfl Try.ntmps169 rfl trivial (fun _ => ⟨trivial, trivial⟩) ?_
  unfold F_slices_IndexFunc_Limpl_Cell_impl_Cell_mbFimpl_named_1p at h
  unfold L_slices_IndexFunc_Limpl_Cell_impl_Cell_mbFimpl_named_1p_x2 at h
  have hf_impl_named_1_mbp := @run_impl_named_1_mbp
  generalize hLEN : @len = LEN at *
  generalize hGD : @gd = GD at *
  generalize hA : std = A at *
  generalize hP : Try.prog = P at *
  cbv
  replace h := of_bind h
  obtain ⟨y3, hr4, hN5⟩ := h
  refine loop_cut hr4 (fun x => (sparse 19 [(0, .c (.bs (LEN a0) 4 (row GD (encCell LEN GD) a0))), (1, .c (.fn 170 1 fun j => ([.bp 1 (encS a1_0)] : List AC).getD j .junk)), (7, .c (.v (.int .i64 (A.ofN (LEN a0))))), (8, .c (.v (.int .i64 x)))] [])) ?_ (fun y e s => (match y with | .inl w => e = .ret ∧ s.le (sparse 19 [(4, .c (.v (.int .i64 w)))] []) | .inr w0 => (fun (w : Unit) => e = .exit 0 ∧ s.le (sparse 19 [] [])) w0)) ?_ ?_
  · clear hr4 hN5
    show St.le _ _
    exact le_sparse rfl ⟨AV.le_refl _, AV.le_refl _, AV.le_refl _, AV.le_refl _, trivial⟩ trivial rfl
  · clear hr4 hN5
    intro x z9 h K7 hK8 hY6
    replace h := of_let h
    obtain ⟨v1, hv1, h⟩ := h
    have hv1 : v1 = x := hv1
    subst hv1
    cbv
    refine fork (fun b18 => ?_) (fun b18 => ?_)
    · replace h := of_br_t b18 h
      cbv
      replace h := of_req h
      obtain ⟨c14, h⟩ := h
      refine ⟨⟨c14, trivial⟩, ?_⟩
      replace h := of_bind h
      obtain ⟨y15, hy16, h⟩ := h
      refine ⟨{ args := [.agg [.v (.string (GD a0 (A.toN v1)).fName), .bs (LEN (GD a0 (A.toN v1)).fShapes) 5 (row GD (encShape) (GD a0 (A.toN v1)).fShapes), .bs (LEN (GD a0 (A.toN v1)).fLabels) 4 (row GD (encLabel) (GD a0 (A.toN v1)).fLabels), .bs (LEN (GD a0 (A.toN v1)).fInstances) 8 (row GD (encInstance) (GD a0 (A.toN v1)).fInstances)], .c (.bp 1 (encS a1_0))], o0 := [], r := .c (.v (.bool y15)), o1 := [], fl := true, σ := [], τ := [] }, hf_impl_named_1_mbp _ _ _ hy16, ⟨les_cons (AV.le_refl _) (les_cons (le_bp (show 1 ≤ 1 from by decide) (by intro j hj; match j, hj with | 0, _ => exact rle_refl _ | (j_ + 1), h_ => exact absurd h_ (by omega))) (les_nil)), trivial, rfl, rfl, rfl, rfl, trivial, rfl⟩, ?_⟩
      cbv
      refine fork (fun b17 => ?_) (fun b17 => ?_)
      · replace h := of_br_t b17 h
        cbv
        injection h with h
        refine hY6 _ h.symm _ _ (And.intro rfl ?_) (by intro hh; cases hh)
        exact le_sparse rfl ⟨AV.le_refl _, trivial⟩ trivial rfl
      · replace h := of_br_f b17 h
        cbv
        injection h with h
        refine hK8 _ h.symm _ ?_
        exact le_sparse rfl ⟨AV.le_refl _, AV.le_refl _, AV.le_refl _, AV.le_refl _, trivial⟩ trivial rfl
    · replace h := of_br_f b18 h
      cbv
      injection h with h
      refine hY6 _ h.symm _ _ (And.intro rfl ?_) (by intro hh; cases hh)
      exact le_sparse rfl trivial trivial rfl
  · clear hr4
    have h := hN5
    clear hN5
    intro e12 s13 q11 hne
    rcases y3 with y3k0 | y3m0
    · replace h := h
      obtain ⟨rfl, q11⟩ := q11
      replace h := of_let h
      obtain ⟨w19, hw19, h⟩ := h
      have hw19 : w19 = y3k0 := hw19
      subst hw19
      cbv
      injection h with h
      subst h
      refine ⟨(sparse 19 [(4, .c (.v (.int .i64 w19)))] []), ?_, ?_⟩
      · refine St.le_trans q11 ?_
        exact le_sparse rfl ⟨AV.le_refl _, trivial⟩ trivial rfl
      · exact ⟨AV.le_refl _, trivial, rfl⟩
    · obtain ⟨rfl, q11⟩ := q11
      cbv
      refine ⟨_, q11, ?_⟩
      cbv
      injection h with h
      subst h
      refine ⟨(sparse 19 [(4, .c (.v (.int .i64 (-1))))] []), ?_, ?_⟩
      · exact le_sparse rfl ⟨AV.le_refl _, trivial⟩ trivial rfl
      · exact ⟨AV.le_refl _, trivial, rfl⟩

/-- impl.named -/
noncomputable def F_impl_named (a0 : TLibrary) (a1 : ByteArray) : Option (Int) :=
  (F_slices_IndexFunc_Limpl_Cell_impl_Cell_mbFimpl_named_1p a0.fCells a1).bind fun y1 =>
  some y1
theorem run_impl_named (a0 : TLibrary) (a1 : ByteArray) (r : Int) (h : F_impl_named a0 a1 = some r) : Fun Try.prog 118 [.agg [.bs (len a0.fCells) 4 (row gd (encCell len gd) a0.fCells)], .c (.v (.string a1))] [] (.c (.v (.int .i64 r))) [] true := by
  refine Fun.of_wp (oneOf []) tok mixed Try.func118 (by kernel_rfl) rfl Try.ntmps118 rfl trivial (fun _ => ⟨trivial, trivial⟩) ?_
  unfold F_impl_named at h
  have hf_slices_IndexFunc_Limpl_Cell_impl_Cell_mbFimpl_named_1p := @run_slices_IndexFunc_Limpl_Cell_impl_Cell_mbFimpl_named_1p
  generalize hLEN : @len = LEN at *
  generalize hGD : @gd = GD at *
  generalize hA : std = A at *
  generalize hP : Try.prog = P at *
  cbv
  replace h := of_bind h
  obtain ⟨y1, hy2, h⟩ := h
  refine ⟨{ args := [.c (.bs (LEN a0.fCells) 4 (row GD (encCell LEN GD) a0.fCells)), .c (.fn 170 1 fun j => ([.bp 1 (encS a1)] : List AC).getD j .junk)], o0 := [], r := .c (.v (.int .i64 y1)), o1 := [], fl := true, σ := [], τ := [] }, hf_slices_IndexFunc_Limpl_Cell_impl_Cell_mbFimpl_named_1p _ _ _ hy2, ⟨les_cons (AV.le_refl _) (les_cons (le_fn (by intro j hj; match j, hj with | 0, _ => exact le_bp (show 1 ≤ 1 from by decide) (by intro j hj; match j, hj with | 0, _ => exact rle_refl _ | (j_ + 1), h_ => exact absurd h_ (by omega)) | (j_ + 1), h_ => exact absurd h_ (by omega))) (les_nil)), trivial, rfl, rfl, rfl, rfl, trivial, rfl⟩, ?_⟩
  cbv
  injection h with h
  subst h
  refine ⟨(sparse 9 [(4, .c (.v (.int .i64 y1)))] []), ?_, ?_⟩
  · exact le_sparse rfl ⟨AV.le_refl _, trivial⟩ trivial rfl
  · exact ⟨AV.le_refl _, trivial, rfl⟩

noncomputable def L_impl_IsValidLibrary_x10 (a0 : TLibrary) : (Int) → Option ((Int) ⊕ ((Bool) ⊕ (Unit))) := fun x10 =>
  letO x10 fun v9 =>
  br (std.lt v9 (std.ofN (len a0.fCells)))
  (req (std.inR v9 (len a0.fCells)) <|
  ((
        (F_impl_validCell (gd a0.fCells (std.toN v9)) v9).bind fun y30 =>
        br (!(y30))
        (some true)
        ((F_impl_named (TLibrary.mk a0.fCells) (gd a0.fCells (std.toN v9)).fName).bind fun y32 =>
        some (std.not (std.eq y32 v9)))
    ) : Option (Bool)).bind fun y23 =>
  letO y23 fun w29 =>
  br w29
  (some (.inr (.inl false)))
  (some (.inl (std.add .i64 v9 1))))
  (some (.inr (.inr ())))
/-- impl.IsValidLibrary -/
noncomputable def F_impl_IsValidLibrary (a0 : TLibrary) : Option (Bool) :=
  ((
        br (std.lt (std.ofN (len a0.fCells)) 1)
        (some true)
        (some (std.lt 8 (std.ofN (len a0.fCells))))
    ) : Option (Bool)).bind fun y1 =>
  letO y1 fun w7 =>
  br w7
  (some false)
  ((whileP (σ := Int) (ρ := (Bool) ⊕ (Unit)) (L_impl_IsValidLibrary_x10 a0) 0).bind fun y11 =>
  (match y11 with
    | .inl y11k0 => (
        letO y11k0 fun w37 =>
        some w37)
    | .inr y11m0 =>
        some true))
theorem run_impl_IsValidLibrary (a0 : TLibrary) (r : Bool) (h : F_impl_IsValidLibrary a0 = some r) : Fun Try.prog 85 [.agg [.bs (len a0.fCells) 4 (row gd (encCell len gd) a0.fCells)]] [] (.c (.v (.bool r))) [] true := by
  refine Fun.of_wp (oneOf [1, 6]) tok mixed Try.func85 (by kernel_rfl) rfl Try.ntmps85 rfl trivial (fun _ => ⟨trivial, trivial⟩) ?_
  unfold F_impl_IsValidLibrary at h
  unfold L_impl_IsValidLibrary_x10 at h
  have hf_impl_named := @run_impl_named
  have hf_impl_validCell := @run_impl_validCell
  generalize hLEN : @len = LEN at *
  generalize hGD : @gd = GD at *
  generalize hA : std = A at *
  generalize hP : Try.prog = P at *
  cbv
  replace h := of_bind h
  obtain ⟨y1, hy2, h⟩ := h
  obtain ⟨S5, hS6⟩ : ∃ S, S = (sparse 36 [(1, .c (.ptr 64 0)), (14, .c (.v (.bool y1)))] [(64, .var [.bs (LEN a0.fCells) 4 (row GD (encCell LEN GD) a0.fCells)])]) := ⟨_, rfl⟩
  refine ⟨S5, ?_, ?_⟩
  · clear h
    have h := hy2
    clear hy2
    cbv
    refine fork (fun b8 => ?_) (fun b8 => ?_)
    · replace h := of_br_t b8 h
      cbv
      injection h with h
      subst h
      subst hS6
      show St.le _ _
      exact le_sparse rfl ⟨AV.le_refl _, AV.le_refl _, trivial⟩ ⟨rfl, trivial⟩ rfl
    · replace h := of_br_f b8 h
      cbv
      injection h with h
      subst h
      subst hS6
      show St.le _ _
      exact le_sparse rfl ⟨AV.le_refl _, AV.le_refl _, trivial⟩ ⟨rfl, trivial⟩ rfl
  · clear hy2
    subst hS6
    replace h := of_let h
    obtain ⟨w7, hw7, h⟩ := h
    have hw7 : w7 = y1 := hw7
    subst hw7
    cbv
    refine fork (fun b38 => ?_) (fun b38 => ?_)
    · replace h := of_br_t b38 h
      cbv
      injection h with h
      subst h
      refine ⟨(sparse 36 [(2, .c (.v (.bool false)))] []), ?_, ?_⟩
      · exact le_sparse rfl ⟨AV.le_refl _, trivial⟩ trivial rfl
      · exact ⟨AV.le_refl _, trivial, rfl⟩
    · replace h := of_br_f b38 h
      cbv
      replace h := of_bind h
      obtain ⟨y11, hr12, hN13⟩ := h
      refine loop_cut hr12 (fun x => (sparse 36 [(1, .c (.ptr 64 0)), (16, .c (.bs (LEN a0.fCells) 4 (row GD (encCell LEN GD) a0.fCells))), (17, .c (.v (.int .i64 (A.ofN (LEN a0.fCells))))), (18, .c (.v (.int .i64 x)))] [(64, .var [.bs (LEN a0.fCells) 4 (row GD (encCell LEN GD) a0.fCells)])])) ?_ (fun y e s => (match y with | .inl w => e = .ret ∧ s.le (sparse 36 [(2, .c (.v (.bool w)))] []) | .inr w0 => (fun (w : Unit) => e = .exit 0 ∧ s.le (sparse 36 [] [])) w0)) ?_ ?_
      · clear hr12 hN13
        show St.le _ _
        exact le_sparse rfl ⟨AV.le_refl _, AV.le_refl _, AV.le_refl _, AV.le_refl _, trivial⟩ ⟨rfl, trivial⟩ rfl
      · clear hr12 hN13
        intro x z17 h K15 hK16 hY14
        replace h := of_let h
        obtain ⟨v9, hv9, h⟩ := h
        have hv9 : v9 = x := hv9
        subst hv9
        cbv
        refine fork (fun b36 => ?_) (fun b36 => ?_)
        · replace h := of_br_t b36 h
          cbv
          replace h := of_req h
          obtain ⟨c22, h⟩ := h
          refine ⟨⟨c22, trivial⟩, ?_⟩
          replace h := of_bind h
          obtain ⟨y23, hy24, h⟩ := h
          obtain ⟨S27, hS28⟩ : ∃ S, S = (sparse 36 [(1, .c (.ptr 64 0)), (16, .c (.bs (LEN a0.fCells) 4 (row GD (encCell LEN GD) a0.fCells))), (17, .c (.v (.int .i64 (A.ofN (LEN a0.fCells))))), (18, .c (.v (.int .i64 v9))), (34, .c (.v (.bool y23)))] [(64, .var [.bs (LEN a0.fCells) 4 (row GD (encCell LEN GD) a0.fCells)])]) := ⟨_, rfl⟩
          refine ⟨S27, ?_, ?_⟩
          · clear h
            have h := hy24
            clear hy24
            cbv
            replace h := of_bind h
            obtain ⟨y30, hy31, h⟩ := h
            refine ⟨{ args := [.agg [.v (.string (GD a0.fCells (A.toN v9)).fName), .bs (LEN (GD a0.fCells (A.toN v9)).fShapes) 5 (row GD (encShape) (GD a0.fCells (A.toN v9)).fShapes), .bs (LEN (GD a0.fCells (A.toN v9)).fLabels) 4 (row GD (encLabel) (GD a0.fCells (A.toN v9)).fLabels), .bs (LEN (GD a0.fCells (A.toN v9)).fInstances) 8 (row GD (encInstance) (GD a0.fCells (A.toN v9)).fInstances)], .c (.v (.int .i64 v9))], o0 := [], r := .c (.v (.bool y30)), o1 := [], fl := true, σ := [], τ := [] }, hf_impl_validCell _ _ _ hy31, ⟨les_cons (AV.le_refl _) (les_cons (AV.le_refl _) (les_nil)), trivial, rfl, rfl, rfl, rfl, trivial, rfl⟩, ?_⟩
            cbv
            refine fork (fun b34 => ?_) (fun b34 => ?_)
            · replace h := of_br_t b34 h
              cbv
              injection h with h
              subst h
              subst hS28
              show St.le _ _
              exact le_sparse rfl ⟨AV.le_refl _, AV.le_refl _, AV.le_refl _, AV.le_refl _, AV.le_refl _, trivial⟩ ⟨rfl, trivial⟩ rfl
            · replace h := of_br_f b34 h
              cbv
              replace h := of_bind h
              obtain ⟨y32, hy33, h⟩ := h
              refine ⟨{ args := [.agg [.bs (LEN a0.fCells) 4 (row GD (encCell LEN GD) a0.fCells)], .c (.v (.string (GD a0.fCells (A.toN v9)).fName))], o0 := [], r := .c (.v (.int .i64 y32)), o1 := [], fl := true, σ := [], τ := [] }, hf_impl_named _ _ _ hy33, ⟨les_cons (AV.le_refl _) (les_cons (AV.le_refl _) (les_nil)), trivial, rfl, rfl, rfl, rfl, trivial, rfl⟩, ?_⟩
              cbv
              injection h with h
              subst h
              subst hS28
              show St.le _ _
              exact le_sparse rfl ⟨AV.le_refl _, AV.le_refl _, AV.le_refl _, AV.le_refl _, AV.le_refl _, trivial⟩ ⟨rfl, trivial⟩ rfl
          · clear hy24
            subst hS28
            replace h := of_let h
            obtain ⟨w29, hw29, h⟩ := h
            have hw29 : w29 = y23 := hw29
            subst hw29
            cbv
            refine fork (fun b35 => ?_) (fun b35 => ?_)
            · replace h := of_br_t b35 h
              cbv
              injection h with h
              refine hY14 _ h.symm _ _ (And.intro rfl ?_) (by intro hh; cases hh)
              exact le_sparse rfl ⟨AV.le_refl _, trivial⟩ trivial rfl
            · replace h := of_br_f b35 h
              cbv
              injection h with h
              refine hK16 _ h.symm _ ?_
              exact le_sparse rfl ⟨AV.le_refl _, AV.le_refl _, AV.le_refl _, AV.le_refl _, trivial⟩ ⟨rfl, trivial⟩ rfl
        · replace h := of_br_f b36 h
          cbv
          injection h with h
          refine hY14 _ h.symm _ _ (And.intro rfl ?_) (by intro hh; cases hh)
          exact le_sparse rfl trivial trivial rfl
      · clear hr12
        have h := hN13
        clear hN13
        intro e20 s21 q19 hne
        rcases y11 with y11k0 | y11m0
        · replace h := h
          obtain ⟨rfl, q19⟩ := q19
          replace h := of_let h
          obtain ⟨w37, hw37, h⟩ := h
          have hw37 : w37 = y11k0 := hw37
          subst hw37
          cbv
          injection h with h
          subst h
          refine ⟨(sparse 36 [(2, .c (.v (.bool w37)))] []), ?_, ?_⟩
          · refine St.le_trans q19 ?_
            exact le_sparse rfl ⟨AV.le_refl _, trivial⟩ trivial rfl
          · exact ⟨AV.le_refl _, trivial, rfl⟩
        · obtain ⟨rfl, q19⟩ := q19
          cbv
          refine ⟨_, q19, ?_⟩
          cbv
          injection h with h
          subst h
          refine ⟨(sparse 36 [(2, .c (.v (.bool true)))] []), ?_, ?_⟩
          · exact le_sparse rfl ⟨AV.le_refl _, trivial⟩ trivial rfl
          · exact ⟨AV.le_refl _, trivial, rfl⟩

/-- impl.hasCell -/
noncomputable def F_impl_hasCell (a0 : TLibrary) (a1 : Int) : Option (Bool) :=
  ((
        (F_impl_IsValidLibrary (TLibrary.mk a0.fCells)).bind fun y8 =>
        br y8
        ((F_impl_within a1 0 (std.sub .i64 (std.ofN (len a0.fCells)) 1)).bind fun y10 =>
        some y10)
        (some false)
    ) : Option (Bool)).bind fun y1 =>
  letO y1 fun w7 =>
  some w7
theorem run_impl_hasCell (a0 : TLibrary) (a1 : Int) (r : Bool) (h : F_impl_hasCell a0 a1 = some r) : Fun Try.prog 49 [.agg [.bs (len a0.fCells) 4 (row gd (encCell len gd) a0.fCells)], .c (.v (.int .i64 a1))] [] (.c (.v (.bool r))) [] true := by
  refine Fun.of_wp (oneOf [1]) tok mixed Try.func49 (by kernel_rfl) rfl Try.ntmps49 rfl trivial (fun _ => ⟨trivial, trivial⟩) ?_
  unfold F_impl_hasCell at h
  have hf_impl_IsValidLibrary := @run_impl_IsValidLibrary
  have hf_impl_within := @run_impl_within
  generalize hLEN : @len = LEN at *
  generalize hGD : @gd = GD at *
  generalize hA : std = A at *
  generalize hP : Try.prog = P at *
  cbv
  replace h := of_bind h
  obtain ⟨y1, hy2, h⟩ := h
  obtain ⟨S5, hS6⟩ : ∃ S, S = (sparse 15 [(4, .c (.v (.bool y1)))] []) := ⟨_, rfl⟩
  refine ⟨S5, ?_, ?_⟩
  · clear h
    have h := hy2
    clear hy2
    cbv
    replace h := of_bind h
    obtain ⟨y8, hy9, h⟩ := h
    refine ⟨{ args := [.agg [.bs (LEN a0.fCells) 4 (row GD (encCell LEN GD) a0.fCells)]], o0 := [], r := .c (.v (.bool y8)), o1 := [], fl := true, σ := [], τ := [] }, hf_impl_IsValidLibrary _ _ hy9, ⟨les_cons (AV.le_refl _) (les_nil), trivial, rfl, rfl, rfl, rfl, trivial, rfl⟩, ?_⟩
    cbv
    refine fork (fun b12 => ?_) (fun b12 => ?_)
    · replace h := of_br_t b12 h
      cbv
      replace h := of_bind h
      obtain ⟨y10, hy11, h⟩ := h
      refine ⟨{ args := [.c (.v (.int .i64 a1)), .c (.v (.int .i64 0)), .c (.v (.int .i64 (A.sub .i64 (A.ofN (LEN a0.fCells)) 1)))], o0 := [], r := .c (.v (.bool y10)), o1 := [], fl := true, σ := [], τ := [] }, hf_impl_within _ _ _ _ hy11, ⟨les_cons (AV.le_refl _) (les_cons (AV.le_refl _) (les_cons (AV.le_refl _) (les_nil))), trivial, rfl, rfl, rfl, rfl, trivial, rfl⟩, ?_⟩
      cbv
      injection h with h
      subst h
      subst hS6
      show St.le _ _
      exact le_sparse rfl ⟨AV.le_refl _, trivial⟩ trivial rfl
    · replace h := of_br_f b12 h
      cbv
      injection h with h
      subst h
      subst hS6
      show St.le _ _
      exact le_sparse rfl ⟨AV.le_refl _, trivial⟩ trivial rfl
  · clear hy2
    subst hS6
    replace h := of_let h
    obtain ⟨w7, hw7, h⟩ := h
    have hw7 : w7 = y1 := hw7
    subst hw7
    cbv
    injection h with h
    subst h
    refine ⟨(sparse 15 [(4, .c (.v (.bool w7)))] []), ?_, ?_⟩
    · exact le_sparse rfl ⟨AV.le_refl _, trivial⟩ trivial rfl
    · exact ⟨AV.le_refl _, trivial, rfl⟩

/-- impl.unitRect -/
noncomputable def F_impl_unitRect (a0 : TPoint) : Option (TRect) :=
  some (TRect.mk a0.fX a0.fY (std.add .i64 a0.fX 1) (std.add .i64 a0.fY 1))
theorem run_impl_unitRect (a0 : TPoint) (r : TRect) (h : F_impl_unitRect a0 = some r) : Fun Try.prog 98 [.agg [.v (.int .i64 a0.fX), .v (.int .i64 a0.fY)]] [] (.agg [.v (.int .i64 r.fX0), .v (.int .i64 r.fY0), .v (.int .i64 r.fX1), .v (.int .i64 r.fY1)]) [] true := by
  refine Fun.of_wp (oneOf []) tok mixed Try.func98 (by kernel_rfl) rfl Try.ntmps98 rfl trivial (fun _ => ⟨(by simp [AV.flat, AV.flat1, AC.flat]), trivial⟩) ?_
  unfold F_impl_unitRect at h
  generalize hLEN : @len = LEN at *
  generalize hGD : @gd = GD at *
  generalize hA : std = A at *
  generalize hP : Try.prog = P at *
  cbv
  injection h with h
  subst h
  refine ⟨(sparse 14 [(2, .c (.ptr 128 0))] [(128, .var [.v (.int .i64 a0.fX), .v (.int .i64 a0.fY), .v (.int .i64 (A.add .i64 a0.fX 1)), .v (.int .i64 (A.add .i64 a0.fY 1))])]), ?_, ?_⟩
  · exact le_sparse rfl ⟨AV.le_refl _, trivial⟩ ⟨rfl, trivial⟩ rfl
  · exact ⟨AV.le_refl _, trivial, rfl⟩

/-- impl.elementPlace -/
noncomputable def F_impl_elementPlace (a0 : TInstance) (a1 : Int) (a2 : Int) : Option (TTransform) :=
  some (TTransform.mk a0.fPlace.fOrientation (std.add .i64 a0.fPlace.fX (std.mul .i64 a1 a0.fStepX)) (std.add .i64 a0.fPlace.fY (std.mul .i64 a2 a0.fStepY)))
theorem run_impl_elementPlace (a0 : TInstance) (a1 : Int) (a2 : Int) (r : TTransform) (h : F_impl_elementPlace a0 a1 a2 = some r) : Fun Try.prog 105 [.agg [.v (.int .i64 a0.fCell), .v (.int .i64 a0.fPlace.fOrientation), .v (.int .i64 a0.fPlace.fX), .v (.int .i64 a0.fPlace.fY), .v (.int .i64 a0.fColumns), .v (.int .i64 a0.fRows), .v (.int .i64 a0.fStepX), .v (.int .i64 a0.fStepY)], .c (.v (.int .i64 a1)), .c (.v (.int .i64 a2))] [] (.agg [.v (.int .i64 r.fOrientation), .v (.int .i64 r.fX), .v (.int .i64 r.fY)]) [] true := by
  refine Fun.of_wp (oneOf []) tok mixed Try.func105 (by kernel_rfl) rfl Try.ntmps105 rfl trivial (fun _ => ⟨(by simp [AV.flat, AV.flat1, AC.flat]), trivial⟩) ?_
  unfold F_impl_elementPlace at h
  generalize hLEN : @len = LEN at *
  generalize hGD : @gd = GD at *
  generalize hA : std = A at *
  generalize hP : Try.prog = P at *
  cbv
  injection h with h
  subst h
  refine ⟨(sparse 27 [(6, .c (.ptr 384 0))] [(384, .var [.v (.int .i64 a0.fPlace.fOrientation), .v (.int .i64 (A.add .i64 a0.fPlace.fX (A.mul .i64 a1 a0.fStepX))), .v (.int .i64 (A.add .i64 a0.fPlace.fY (A.mul .i64 a2 a0.fStepY)))])]), ?_, ?_⟩
  · exact le_sparse rfl ⟨AV.le_refl _, trivial⟩ ⟨rfl, trivial⟩ rfl
  · exact ⟨AV.le_refl _, trivial, rfl⟩
noncomputable def L_impl_elements_x34 (a0 : TCell) (v18 : Int) (v3 : Int) : (Int × (List Telement)) → Option ((Int × (List Telement)) ⊕ (((List Telement)))) := fun x34 =>
  letO x34.1 fun v32 =>
  letO x34.2 fun v33 =>
  br (std.lt v32 (gd a0.fInstances (std.toN v3)).fColumns)
  ((F_impl_elementPlace (gd a0.fInstances (std.toN v3)) v32 v18).bind fun y46 =>
  letO ([(Telement.mk (gd a0.fInstances (std.toN v3)).fCell y46)] : List Telement) fun l48 =>
  req (std.room (std.nadd (len v33) (len l48)) 32) <|
  letO (v33 ++ l48) fun l50 =>
  some (.inl (std.add .i64 v32 1, l50)))
  (some (.inr v33))
noncomputable def L_impl_elements_x20 (a0 : TCell) (v3 : Int) : (Int × (List Telement)) → Option ((Int × (List Telement)) ⊕ (((List Telement)))) := fun x20 =>
  letO x20.1 fun v18 =>
  letO x20.2 fun v19 =>
  br (std.lt v18 (gd a0.fInstances (std.toN v3)).fRows)
  ((whileP (σ := Int × (List Telement)) (ρ := ((List Telement))) (L_impl_elements_x34 a0 v18 v3) (0, v19)).bind fun y35 =>
  letO y35 fun y35k0 =>
  letO y35k0 fun w54 =>
  some (.inl (std.add .i64 v18 1, w54)))
  (some (.inr v19))
noncomputable def L_impl_elements_x5 (a0 : TCell) : (Int × (List Telement)) → Option ((Int × (List Telement)) ⊕ (((List Telement)))) := fun x5 =>
  letO x5.1 fun v3 =>
  letO x5.2 fun v4 =>
  br (std.lt v3 (std.ofN (len a0.fInstances)))
  (req (std.inR v3 (len a0.fInstances)) <|
  (whileP (σ := Int × (List Telement)) (ρ := ((List Telement))) (L_impl_elements_x20 a0 v3) (0, v4)).bind fun y21 =>
  letO y21 fun y21k0 =>
  letO y21k0 fun w56 =>
  some (.inl (std.add .i64 v3 1, w56)))
  (some (.inr v4))
/-- impl.elements -/
noncomputable def F_impl_elements (a0 : TCell) : Option (List Telement) :=
  letO ([] : List Telement) fun l1 =>
  (whileP (σ := Int × (List Telement)) (ρ := ((List Telement))) (L_impl_elements_x5 a0) (0, l1)).bind fun y6 =>
  letO y6 fun y6k0 =>
  letO y6k0 fun w58 =>
  some w58
theorem run_impl_elements (a0 : TCell) (r : List Telement) (h : F_impl_elements a0 = some r) : Fun Try.prog 99 [.agg [.v (.string a0.fName), .bs (len a0.fShapes) 5 (row gd (encShape) a0.fShapes), .bs (len a0.fLabels) 4 (row gd (encLabel) a0.fLabels), .bs (len a0.fInstances) 8 (row gd (encInstance) a0.fInstances)]] [] (.c (.os 64000 0 (len r))) [(64000, .arr .rw [] (len r) 4 (row gd (encelement) r))] true := by
  refine Fun.of_wp (oneOf []) tok mixed Try.func99 (by kernel_rfl) rfl Try.ntmps99 rfl trivial (fun _ => ⟨trivial, ⟨fun i _ j _ => val_flat (vl_encelement _ _), trivial⟩⟩) ?_
  unfold F_impl_elements at h
  unfold L_impl_elements_x5 at h
  unfold L_impl_elements_x20 at h
  unfold L_impl_elements_x34 at h
  have hf_impl_elementPlace := @run_impl_elementPlace
  generalize hLEN : @len = LEN at *
  generalize hGD : @gd = GD at *
  generalize hA : std = A at *
  generalize hP : Try.prog = P at *
  cbv
  replace h := of_let h
  obtain ⟨l1, hl1, h⟩ := h
  have e2 : 0 = LEN l1 := by subst hl1 hLEN; rfl
  refine ⟨_, congrArg (fun n => AV.c (AC.os 512 0 n)) e2, _, row GD (encelement) l1, e2, ?_, ?_⟩
  · intro i hi j hj
    rw [← e2] at hi
    subst hl1
    subst hGD
    omega
  cbv
  replace h := of_bind h
  obtain ⟨y6, hr7, hN8⟩ := h
  refine loop_cut hr7 (fun x => (sparse 40 [(3, .c (.os 512 0 (LEN x.2))), (10, .c (.bs (LEN a0.fInstances) 8 (row GD (encInstance) a0.fInstances))), (11, .c (.v (.int .i64 (A.ofN (LEN a0.fInstances))))), (12, .c (.v (.int .i64 x.1)))] [(512, .arr .rw [] (LEN x.2) 4 (row GD (encelement) x.2))])) ?_ (fun y e s => (fun (w : (List Telement)) => e = .exit 0 ∧ s.le (sparse 40 [(3, .c (.os 512 0 (LEN w)))] [(512, .arr .rw [] (LEN w) 4 (row GD (encelement) w))])) y) ?_ ?_
  · clear hr7 hN8
    show St.le _ _
    exact le_sparse rfl ⟨AV.le_refl _, AV.le_refl _, AV.le_refl _, AV.le_refl _, trivial⟩ ⟨⟨fun hw => hw, fun c hc => (by cases hc), .inl rfl, rfl, rfl, fun i hi j hj => rfl⟩, trivial⟩ rfl
  · clear hr7 hN8
    intro x z12 h K10 hK11 hY9
    obtain ⟨x0_, x1_⟩ := x
    replace h := of_let h
    obtain ⟨v3, hv3, h⟩ := h
    have hv3 : v3 = x0_ := hv3
    subst hv3
    replace h := of_let h
    obtain ⟨v4, hv4, h⟩ := h
    have hv4 : v4 = x1_ := hv4
    subst hv4
    cbv
    refine fork (fun b57 => ?_) (fun b57 => ?_)
    · replace h := of_br_t b57 h
      cbv
      replace h := of_req h
      obtain ⟨c17, h⟩ := h
      refine ⟨⟨c17, trivial⟩, ?_⟩
      replace h := of_bind h
      obtain ⟨y21, hr22, hN23⟩ := h
      refine loop_cut hr22 (fun x => (sparse 40 [(3, .c (.os 512 0 (LEN x.2))), (5, .c (.ptr 320 0)), (10, .c (.bs (LEN a0.fInstances) 8 (row GD (encInstance) a0.fInstances))), (11, .c (.v (.int .i64 (A.ofN (LEN a0.fInstances))))), (12, .c (.v (.int .i64 v3))), (17, .c (.v (.int .i64 (GD a0.fInstances (A.toN v3)).fRows))), (18, .c (.v (.int .i64 x.1)))] [(512, .arr .rw [] (LEN x.2) 4 (row GD (encelement) x.2)), (320, .var [.v (.int .i64 (GD a0.fInstances (A.toN v3)).fCell), .v (.int .i64 (GD a0.fInstances (A.toN v3)).fPlace.fOrientation), .v (.int .i64 (GD a0.fInstances (A.toN v3)).fPlace.fX), .v (.int .i64 (GD a0.fInstances (A.toN v3)).fPlace.fY), .v (.int .i64 (GD a0.fInstances (A.toN v3)).fColumns), .v (.int .i64 (GD a0.fInstances (A.toN v3)).fRows), .v (.int .i64 (GD a0.fInstances (A.toN v3)).fStepX), .v (.int .i64 (GD a0.fInstances (A.toN v3)).fStepY)])])) ?_ (fun y e s => (fun (w : (List Telement)) => e = .exit 2 ∧ s.le (sparse 40 [(3, .c (.os 512 0 (LEN w))), (10, .c (.bs (LEN a0.fInstances) 8 (row GD (encInstance) a0.fInstances))), (11, .c (.v (.int .i64 (A.ofN (LEN a0.fInstances))))), (12, .c (.v (.int .i64 v3)))] [(512, .arr .rw [] (LEN w) 4 (row GD (encelement) w))])) y) ?_ ?_
      · clear hr22 hN23
        show St.le _ _
        exact le_sparse rfl ⟨AV.le_refl _, AV.le_refl _, AV.le_refl _, AV.le_refl _, AV.le_refl _, AV.le_refl _, AV.le_refl _, trivial⟩ ⟨⟨fun hw => hw, fun c hc => (by cases hc), .inl rfl, rfl, rfl, fun i hi j hj => rfl⟩, rfl, trivial⟩ rfl
      · clear hr22 hN23
        intro x z27 h K25 hK26 hY24
        obtain ⟨x0_, x1_⟩ := x
        replace h := of_let h
        obtain ⟨v18, hv18, h⟩ := h
        have hv18 : v18 = x0_ := hv18
        subst hv18
        replace h := of_let h
        obtain ⟨v19, hv19, h⟩ := h
        have hv19 : v19 = x1_ := hv19
        subst hv19
        cbv
        refine fork (fun b55 => ?_) (fun b55 => ?_)
        · replace h := of_br_t b55 h
          cbv
          replace h := of_bind h
          obtain ⟨y35, hr36, hN37⟩ := h
          refine loop_cut hr36 (fun x => (sparse 40 [(3, .c (.os 512 0 (LEN x.2))), (5, .c (.ptr 320 0)), (6, .c (.v (.int .i64 v18))), (10, .c (.bs (LEN a0.fInstances) 8 (row GD (encInstance) a0.fInstances))), (11, .c (.v (.int .i64 (A.ofN (LEN a0.fInstances))))), (12, .c (.v (.int .i64 v3))), (17, .c (.v (.int .i64 (GD a0.fInstances (A.toN v3)).fRows))), (18, .c (.v (.int .i64 v18))), (22, .c (.v (.int .i64 (GD a0.fInstances (A.toN v3)).fColumns))), (23, .c (.v (.int .i64 x.1)))] [(512, .arr .rw [] (LEN x.2) 4 (row GD (encelement) x.2)), (320, .var [.v (.int .i64 (GD a0.fInstances (A.toN v3)).fCell), .v (.int .i64 (GD a0.fInstances (A.toN v3)).fPlace.fOrientation), .v (.int .i64 (GD a0.fInstances (A.toN v3)).fPlace.fX), .v (.int .i64 (GD a0.fInstances (A.toN v3)).fPlace.fY), .v (.int .i64 (GD a0.fInstances (A.toN v3)).fColumns), .v (.int .i64 (GD a0.fInstances (A.toN v3)).fRows), .v (.int .i64 (GD a0.fInstances (A.toN v3)).fStepX), .v (.int .i64 (GD a0.fInstances (A.toN v3)).fStepY)])])) ?_ (fun y e s => (fun (w : (List Telement)) => e = .exit 4 ∧ s.le (sparse 40 [(3, .c (.os 512 0 (LEN w))), (5, .c (.ptr 320 0)), (10, .c (.bs (LEN a0.fInstances) 8 (row GD (encInstance) a0.fInstances))), (11, .c (.v (.int .i64 (A.ofN (LEN a0.fInstances))))), (12, .c (.v (.int .i64 v3))), (17, .c (.v (.int .i64 (GD a0.fInstances (A.toN v3)).fRows))), (18, .c (.v (.int .i64 v18)))] [(512, .arr .rw [] (LEN w) 4 (row GD (encelement) w)), (320, .var [.v (.int .i64 (GD a0.fInstances (A.toN v3)).fCell), .v (.int .i64 (GD a0.fInstances (A.toN v3)).fPlace.fOrientation), .v (.int .i64 (GD a0.fInstances (A.toN v3)).fPlace.fX), .v (.int .i64 (GD a0.fInstances (A.toN v3)).fPlace.fY), .v (.int .i64 (GD a0.fInstances (A.toN v3)).fColumns), .v (.int .i64 (GD a0.fInstances (A.toN v3)).fRows), .v (.int .i64 (GD a0.fInstances (A.toN v3)).fStepX), .v (.int .i64 (GD a0.fInstances (A.toN v3)).fStepY)])])) y) ?_ ?_
          · clear hr36 hN37
            show St.le _ _
            exact le_sparse rfl ⟨AV.le_refl _, AV.le_refl _, AV.le_refl _, AV.le_refl _, AV.le_refl _, AV.le_refl _, AV.le_refl _, AV.le_refl _, AV.le_refl _, AV.le_refl _, trivial⟩ ⟨⟨fun hw => hw, fun c hc => (by cases hc), .inl rfl, rfl, rfl, fun i hi j hj => rfl⟩, rfl, trivial⟩ rfl
          · clear hr36 hN37
            intro x z41 h K39 hK40 hY38
            obtain ⟨x0_, x1_⟩ := x
            replace h := of_let h
            obtain ⟨v32, hv32, h⟩ := h
            have hv32 : v32 = x0_ := hv32
            subst hv32
            replace h := of_let h
            obtain ⟨v33, hv33, h⟩ := h
            have hv33 : v33 = x1_ := hv33
            subst hv33
            cbv
            refine fork (fun b53 => ?_) (fun b53 => ?_)
            · replace h := of_br_t b53 h
              cbv
              replace h := of_bind h
              obtain ⟨y46, hy47, h⟩ := h
              refine ⟨{ args := [.agg [.v (.int .i64 (GD a0.fInstances (A.toN v3)).fCell), .v (.int .i64 (GD a0.fInstances (A.toN v3)).fPlace.fOrientation), .v (.int .i64 (GD a0.fInstances (A.toN v3)).fPlace.fX), .v (.int .i64 (GD a0.fInstances (A.toN v3)).fPlace.fY), .v (.int .i64 (GD a0.fInstances (A.toN v3)).fColumns), .v (.int .i64 (GD a0.fInstances (A.toN v3)).fRows), .v (.int .i64 (GD a0.fInstances (A.toN v3)).fStepX), .v (.int .i64 (GD a0.fInstances (A.toN v3)).fStepY)], .c (.v (.int .i64 v32)), .c (.v (.int .i64 v18))], o0 := [], r := .agg [.v (.int .i64 y46.fOrientation), .v (.int .i64 y46.fX), .v (.int .i64 y46.fY)], o1 := [], fl := true, σ := [], τ := [] }, hf_impl_elementPlace _ _ _ _ hy47, ⟨les_cons (AV.le_refl _) (les_cons (AV.le_refl _) (les_cons (AV.le_refl _) (les_nil))), trivial, rfl, rfl, rfl, rfl, trivial, rfl⟩, ?_⟩
              cbv
              replace h := of_let h
              obtain ⟨l48, hl48, h⟩ := h
              have e49 : 1 = LEN l48 := by subst hl48 hLEN; rfl
              refine ⟨_, congrArg (fun n => AV.c (AC.os 2176 0 n)) e49, _, row GD (encelement) l48, e49, ?_, ?_⟩
              · intro i hi j hj
                rw [← e49] at hi
                subst hl48
                subst hGD
                obtain rfl : i = 0 := (by omega) <;> obtain rfl | rfl | rfl | rfl : j = 0 ∨ j = 1 ∨ j = 2 ∨ j = 3 := (by omega)
                all_goals rfl
              cbv
              replace h := of_req h
              obtain ⟨c52, h⟩ := h
              replace h := of_let h
              obtain ⟨l50, hl50, h⟩ := h
              have e51 : A.nadd (LEN v33) (LEN l48) = LEN l50 := by subst hl50 hLEN hA; simp [std, len]
              refine ⟨c52, _, congrArg (fun n => AV.c (AC.os 512 0 n)) e51, _, row GD (encelement) l50, e51, ?_, ?_⟩
              · subst hGD hLEN hA
                exact app_os (off := 0) (pl_encelement) hl50 (Nat.le_refl _)
              cbv
              injection h with h
              refine hK40 _ h.symm _ ?_
              exact le_sparse rfl ⟨AV.le_refl _, AV.le_refl _, AV.le_refl _, AV.le_refl _, AV.le_refl _, AV.le_refl _, AV.le_refl _, AV.le_refl _, AV.le_refl _, AV.le_refl _, trivial⟩ ⟨⟨fun hw => hw, fun c hc => (by cases hc), .inl rfl, rfl, rfl, fun i hi j hj => rfl⟩, rfl, trivial⟩ rfl
            · replace h := of_br_f b53 h
              cbv
              injection h with h
              refine hY38 _ h.symm _ _ (And.intro rfl ?_) (by intro hh; cases hh)
              exact le_sparse rfl ⟨AV.le_refl _, AV.le_refl _, AV.le_refl _, AV.le_refl _, AV.le_refl _, AV.le_refl _, AV.le_refl _, trivial⟩ ⟨⟨fun hw => hw, fun c hc => (by cases hc), .inl rfl, rfl, rfl, fun i hi j hj => rfl⟩, rfl, trivial⟩ rfl
          · clear hr36
            have h := hN37
            clear hN37
            intro e44 s45 q43 hne
            replace h := of_let h
            obtain ⟨y35k0, hyk, h⟩ := h
            have hyk : y35k0 = y35 := hyk
            subst hyk
            obtain ⟨rfl, q43⟩ := q43
            replace h := of_let h
            obtain ⟨w54, hw54, h⟩ := h
            have hw54 : w54 = y35k0 := hw54
            subst hw54
            cbv
            refine ⟨_, q43, ?_⟩
            cbv
            injection h with h
            refine hK26 _ h.symm _ ?_
            exact le_sparse rfl ⟨AV.le_refl _, AV.le_refl _, AV.le_refl _, AV.le_refl _, AV.le_refl _, AV.le_refl _, AV.le_refl _, trivial⟩ ⟨⟨fun hw => hw, fun c hc => (by cases hc), .inl rfl, rfl, rfl, fun i hi j hj => rfl⟩, rfl, trivial⟩ rfl
        · replace h := of_br_f b55 h
          cbv
          injection h with h
          refine hY24 _ h.symm _ _ (And.intro rfl ?_) (by intro hh; cases hh)
          exact le_sparse rfl ⟨AV.le_refl _, AV.le_refl _, AV.le_refl _, AV.le_refl _, trivial⟩ ⟨⟨fun hw => hw, fun c hc => (by cases hc), .inl rfl, rfl, rfl, fun i hi j hj => rfl⟩, trivial⟩ rfl
      · clear hr22
        have h := hN23
        clear hN23
        intro e30 s31 q29 hne
        replace h := of_let h
        obtain ⟨y21k0, hyk, h⟩ := h
        have hyk : y21k0 = y21 := hyk
        subst hyk
        obtain ⟨rfl, q29⟩ := q29
        replace h := of_let h
        obtain ⟨w56, hw56, h⟩ := h
        have hw56 : w56 = y21k0 := hw56
        subst hw56
        cbv
        refine ⟨_, q29, ?_⟩
        cbv
        injection h with h
        refine hK11 _ h.symm _ ?_
        exact le_sparse rfl ⟨AV.le_refl _, AV.le_refl _, AV.le_refl _, AV.le_refl _, trivial⟩ ⟨⟨fun hw => hw, fun c hc => (by cases hc), .inl rfl, rfl, rfl, fun i hi j hj => rfl⟩, trivial⟩ rfl
    · replace h := of_br_f b57 h
      cbv
      injection h with h
      refine hY9 _ h.symm _ _ (And.intro rfl ?_) (by intro hh; cases hh)
      exact le_sparse rfl ⟨AV.le_refl _, trivial⟩ ⟨⟨fun hw => hw, fun c hc => (by cases hc), .inl rfl, rfl, rfl, fun i hi j hj => rfl⟩, trivial⟩ rfl
  · clear hr7
    have h := hN8
    clear hN8
    intro e15 s16 q14 hne
    replace h := of_let h
    obtain ⟨y6k0, hyk, h⟩ := h
    have hyk : y6k0 = y6 := hyk
    subst hyk
    obtain ⟨rfl, q14⟩ := q14
    replace h := of_let h
    obtain ⟨w58, hw58, h⟩ := h
    have hw58 : w58 = y6k0 := hw58
    subst hw58
    cbv
    refine ⟨_, q14, ?_⟩
    cbv
    injection h with h
    subst h
    refine ⟨(sparse 40 [(2, .c (.os 64000 0 (LEN w58)))] [(64000, .arr .rw [] (LEN w58) 4 (row GD (encelement) w58))]), ?_, ?_⟩
    · refine St.le_trans (le_ren 512 64000 (by decide) rfl) ?_
      exact le_sparse rfl ⟨AV.le_refl _, trivial⟩ ⟨⟨fun hw => hw, fun c hc => (by cases hc), .inl rfl, rfl, rfl, fun i hi j hj => rfl⟩, trivial⟩ rfl
    · exact ⟨AV.le_refl _, ⟨⟨fun hw => hw, fun c hc => (by cases hc), .inl rfl, rfl, rfl, fun i hi j hj => rfl⟩, trivial⟩, rfl⟩

noncomputable def L_impl_turn_x13  : (Int × Int × Int) → Option ((Int × Int × Int) ⊕ ((Int × Int))) := fun x13 =>
  letO x13.1 fun v10 =>
  letO x13.2.1 fun v11 =>
  letO x13.2.2 fun v12 =>
  br (std.lt 0 v10)
  (some (.inl (std.sub .i64 v10 1, std.sub .i64 0 v12, v11)))
  (some (.inr (v11, v12)))
/-- impl.turn -/
noncomputable def F_impl_turn (a0 : Int) (a1 : TPoint) : Option (TPoint) :=
  ((
        br (std.le 4 a0)
        (some (std.sub .i64 0 a1.fY))
        (some a1.fY)
    ) : Option (Int)).bind fun y1 =>
  letO y1 fun w7 =>
  req (std.nz 4) <|
  (whileP (σ := Int × Int × Int) (ρ := (Int × Int)) L_impl_turn_x13 (std.rem a0 4, a1.fX, w7)).bind fun y14 =>
  letO y14 fun y14k0 =>
  letO y14k0.1 fun w26 =>
  letO y14k0.2 fun w27 =>
  some (TPoint.mk w26 w27)
theorem run_impl_turn (a0 : Int) (a1 : TPoint) (r : TPoint) (h : F_impl_turn a0 a1 = some r) : Fun Try.prog 207 [.c (.v (.int .i64 a0)), .agg [.v (.int .i64 a1.fX), .v (.int .i64 a1.fY)]] [] (.agg [.v (.int .i64 r.fX), .v (.int .i64 r.fY)]) [] true := by
  refine Fun.of_wp (oneOf [100007]) tok mixed Try.func207 (by kernel_rfl) rfl Try.ntmps207 rfl trivial (fun _ => ⟨(by simp [AV.flat, AV.flat1, AC.flat]), trivial⟩) ?_
  unfold F_impl_turn at h
  unfold L_impl_turn_x13 at h
  generalize hLEN : @len = LEN at *
  generalize hGD : @gd = GD at *
  generalize hA : std = A at *
  generalize hP : Try.prog = P at *
  cbv
  replace h := of_bind h
  obtain ⟨y1, hy2, h⟩ := h
  obtain ⟨S5, hS6⟩ : ∃ S, S = some (sparse 25 [(0, .c (.v (.int .i64 a0))), (3, .c (.ptr 192 0)), (4, .c (.ptr 256 0))] [(192, .var [.v (.int .i64 a1.fX), .v (.int .i64 y1)]), (256, .var [.v (.int .i64 0), .v (.int .i64 0)])]) := ⟨_, rfl⟩
  refine ⟨S5, ?_, ?_⟩
  · clear h
    have h := hy2
    clear hy2
    cbv
    refine fork (fun b8 => ?_) (fun b8 => ?_)
    · replace h := of_br_t b8 h
      cbv
      injection h with h
      subst h
      subst hS6
      show St.le _ _
      exact le_sparse rfl ⟨AV.le_refl _, AV.le_refl _, AV.le_refl _, trivial⟩ ⟨rfl, rfl, trivial⟩ rfl
    · replace h := of_br_f b8 h
      cbv
      injection h with h
      subst h
      subst hS6
      show St.le _ _
      exact le_sparse rfl ⟨AV.le_refl _, AV.le_refl _, AV.le_refl _, trivial⟩ ⟨rfl, rfl, trivial⟩ rfl
  · clear hy2
    subst hS6
    replace h := of_let h
    obtain ⟨w7, hw7, h⟩ := h
    have hw7 : w7 = y1 := hw7
    subst hw7
    cbv
    replace h := of_req h
    obtain ⟨c9, h⟩ := h
    refine ⟨c9, ?_⟩
    replace h := of_bind h
    obtain ⟨y14, hr15, hN16⟩ := h
    refine loop_cut hr15 (fun x => (sparse 25 [(3, .c (.ptr 192 0)), (4, .c (.ptr 256 0)), (5, .c (.v (.int .i64 x.1)))] [(192, .var [.v (.int .i64 x.2.1), .v (.int .i64 x.2.2)]), (256, .var [.v (.int .i64 0), .v (.int .i64 0)])])) ?_ (fun y e s => (fun (w : Int × Int) => e = .exit 0 ∧ s.le (sparse 25 [(3, .c (.ptr 192 0)), (4, .c (.ptr 256 0))] [(192, .var [.v (.int .i64 w.1), .v (.int .i64 w.2)]), (256, .var [.v (.int .i64 0), .v (.int .i64 0)])])) y) ?_ ?_
    · clear hr15 hN16
      show St.le _ _
      exact le_sparse rfl ⟨AV.le_refl _, AV.le_refl _, AV.le_refl _, trivial⟩ ⟨rfl, rfl, trivial⟩ rfl
    · clear hr15 hN16
      intro x z20 h K18 hK19 hY17
      obtain ⟨x0_, x1_, x2_⟩ := x
      replace h := of_let h
      obtain ⟨v10, hv10, h⟩ := h
      have hv10 : v10 = x0_ := hv10
      subst hv10
      replace h := of_let h
      obtain ⟨v11, hv11, h⟩ := h
      have hv11 : v11 = x1_ := hv11
      subst hv11
      replace h := of_let h
      obtain ⟨v12, hv12, h⟩ := h
      have hv12 : v12 = x2_ := hv12
      subst hv12
      cbv
      refine fork (fun b25 => ?_) (fun b25 => ?_)
      · replace h := of_br_t b25 h
        cbv
        injection h with h
        refine hK19 _ h.symm _ ?_
        exact le_sparse rfl ⟨AV.le_refl _, AV.le_refl _, AV.le_refl _, trivial⟩ ⟨rfl, rfl, trivial⟩ rfl
      · replace h := of_br_f b25 h
        cbv
        injection h with h
        refine hY17 _ h.symm _ _ (And.intro rfl ?_) (by intro hh; cases hh)
        exact le_sparse rfl ⟨AV.le_refl _, AV.le_refl _, trivial⟩ ⟨rfl, rfl, trivial⟩ rfl
    · clear hr15
      have h := hN16
      clear hN16
      intro e23 s24 q22 hne
      replace h := of_let h
      obtain ⟨y14k0, hyk, h⟩ := h
      have hyk : y14k0 = y14 := hyk
      subst hyk
      obtain ⟨rfl, q22⟩ := q22
      obtain ⟨y14k0_0, y14k0_1⟩ := y14k0
      replace h := of_let h
      obtain ⟨w26, hw26, h⟩ := h
      have hw26 : w26 = y14k0_0 := hw26
      subst hw26
      replace h := of_let h
      obtain ⟨w27, hw27, h⟩ := h
      have hw27 : w27 = y14k0_1 := hw27
      subst hw27
      cbv
      refine ⟨_, q22, ?_⟩
      cbv
      injection h with h
      subst h
      refine ⟨(sparse 25 [(4, .c (.ptr 256 0))] [(256, .var [.v (.int .i64 w26), .v (.int .i64 w27)])]), ?_, ?_⟩
      · exact le_sparse rfl ⟨AV.le_refl _, trivial⟩ ⟨rfl, trivial⟩ rfl
      · exact ⟨AV.le_refl _, trivial, rfl⟩

/-- impl.move -/
noncomputable def F_impl_move (a0 : TTransform) (a1 : TPoint) : Option (TPoint) :=
  (F_impl_turn a0.fOrientation a1).bind fun y1 =>
  some (TPoint.mk (std.add .i64 y1.fX a0.fX) (std.add .i64 y1.fY a0.fY))
theorem run_impl_move (a0 : TTransform) (a1 : TPoint) (r : TPoint) (h : F_impl_move a0 a1 = some r) : Fun Try.prog 150 [.agg [.v (.int .i64 a0.fOrientation), .v (.int .i64 a0.fX), .v (.int .i64 a0.fY)], .agg [.v (.int .i64 a1.fX), .v (.int .i64 a1.fY)]] [] (.agg [.v (.int .i64 r.fX), .v (.int .i64 r.fY)]) [] true := by
  refine Fun.of_wp (oneOf []) tok mixed Try.func150 (by kernel_rfl) rfl Try.ntmps150 rfl trivial (fun _ => ⟨(by simp [AV.flat, AV.flat1, AC.flat]), trivial⟩) ?_
  unfold F_impl_move at h
  have hf_impl_turn := @run_impl_turn
  generalize hLEN : @len = LEN at *
  generalize hGD : @gd = GD at *
  generalize hA : std = A at *
  generalize hP : Try.prog = P at *
  cbv
  replace h := of_bind h
  obtain ⟨y1, hy2, h⟩ := h
  refine ⟨{ args := [.c (.v (.int .i64 a0.fOrientation)), .agg [.v (.int .i64 a1.fX), .v (.int .i64 a1.fY)]], o0 := [], r := .agg [.v (.int .i64 y1.fX), .v (.int .i64 y1.fY)], o1 := [], fl := true, σ := [], τ := [] }, hf_impl_turn _ _ _ hy2, ⟨les_cons (AV.le_refl _) (les_cons (AV.le_refl _) (les_nil)), trivial, rfl, rfl, rfl, rfl, trivial, rfl⟩, ?_⟩
  cbv
  injection h with h
  subst h
  refine ⟨(sparse 20 [(4, .c (.ptr 256 0))] [(256, .var [.v (.int .i64 (A.add .i64 y1.fX a0.fX)), .v (.int .i64 (A.add .i64 y1.fY a0.fY))])]), ?_, ?_⟩
  · exact le_sparse rfl ⟨AV.le_refl _, trivial⟩ ⟨rfl, trivial⟩ rfl
  · exact ⟨AV.le_refl _, trivial, rfl⟩

/-- impl.moveRect -/
noncomputable def F_impl_moveRect (a0 : TTransform) (a1 : TRect) : Option (TRect) :=
  (F_impl_move a0 (TPoint.mk a1.fX0 a1.fY0)).bind fun y1 =>
  (F_impl_move a0 (TPoint.mk a1.fX1 a1.fY1)).bind fun y3 =>
  some (TRect.mk (std.imin y1.fX y3.fX) (std.imin y1.fY y3.fY) (std.imax y1.fX y3.fX) (std.imax y1.fY y3.fY))
theorem run_impl_moveRect (a0 : TTransform) (a1 : TRect) (r : TRect) (h : F_impl_moveRect a0 a1 = some r) : Fun Try.prog 100 [.agg [.v (.int .i64 a0.fOrientation), .v (.int .i64 a0.fX), .v (.int .i64 a0.fY)], .agg [.v (.int .i64 a1.fX0), .v (.int .i64 a1.fY0), .v (.int .i64 a1.fX1), .v (.int .i64 a1.fY1)]] [] (.agg [.v (.int .i64 r.fX0), .v (.int .i64 r.fY0), .v (.int .i64 r.fX1), .v (.int .i64 r.fY1)]) [] true := by
  refine Fun.of_wp (oneOf []) tok mixed Try.func100 (by kernel_rfl) rfl Try.ntmps100 rfl trivial (fun _ => ⟨(by simp [AV.flat, AV.flat1, AC.flat]), trivial⟩) ?_
  unfold F_impl_moveRect at h
  have hf_impl_move := @run_impl_move
  generalize hLEN : @len = LEN at *
  generalize hGD : @gd = GD at *
  generalize hA : std = A at *
  generalize hP : Try.prog = P at *
  cbv
  replace h := of_bind h
  obtain ⟨y1, hy2, h⟩ := h
  refine ⟨{ args := [.agg [.v (.int .i64 a0.fOrientation), .v (.int .i64 a0.fX), .v (.int .i64 a0.fY)], .agg [.v (.int .i64 a1.fX0), .v (.int .i64 a1.fY0)]], o0 := [], r := .agg [.v (.int .i64 y1.fX), .v (.int .i64 y1.fY)], o1 := [], fl := true, σ := [], τ := [] }, hf_impl_move _ _ _ hy2, ⟨les_cons (AV.le_refl _) (les_cons (AV.le_refl _) (les_nil)), trivial, rfl, rfl, rfl, rfl, trivial, rfl⟩, ?_⟩
  cbv
  replace h := of_bind h
  obtain ⟨y3, hy4, h⟩ := h
  refine ⟨{ args := [.agg [.v (.int .i64 a0.fOrientation), .v (.int .i64 a0.fX), .v (.int .i64 a0.fY)], .agg [.v (.int .i64 a1.fX1), .v (.int .i64 a1.fY1)]], o0 := [], r := .agg [.v (.int .i64 y3.fX), .v (.int .i64 y3.fY)], o1 := [], fl := true, σ := [], τ := [] }, hf_impl_move _ _ _ hy4, ⟨les_cons (AV.le_refl _) (les_cons (AV.le_refl _) (les_nil)), trivial, rfl, rfl, rfl, rfl, trivial, rfl⟩, ?_⟩
  cbv
  injection h with h
  subst h
  refine ⟨(sparse 42 [(4, .c (.ptr 256 0))] [(256, .var [.v (.int .i64 (A.imin y1.fX y3.fX)), .v (.int .i64 (A.imin y1.fY y3.fY)), .v (.int .i64 (A.imax y1.fX y3.fX)), .v (.int .i64 (A.imax y1.fY y3.fY))])]), ?_, ?_⟩
  · exact le_sparse rfl ⟨AV.le_refl _, trivial⟩ ⟨rfl, trivial⟩ rfl
  · exact ⟨AV.le_refl _, trivial, rfl⟩

noncomputable def L_impl_boxOf_x7 (a0 : List TRect) : (Int × Int × Int × Int × Int) → Option ((Int × Int × Int × Int × Int) ⊕ ((Int × Int × Int × Int))) := fun x7 =>
  letO x7.1 fun v2 =>
  letO x7.2.1 fun v3 =>
  letO x7.2.2.1 fun v4 =>
  letO x7.2.2.2.1 fun v5 =>
  letO x7.2.2.2.2 fun v6 =>
  br (std.lt v2 (std.ofN (len a0)))
  (req (std.inR v2 (len a0)) <|
  some (.inl (std.add .i64 v2 1, (std.imin v3 (gd a0 (std.toN v2)).fX0), (std.imin v4 (gd a0 (std.toN v2)).fY0), (std.imax v5 (gd a0 (std.toN v2)).fX1), (std.imax v6 (gd a0 (std.toN v2)).fY1))))
  (some (.inr (v3, v4, v5, v6)))
/-- impl.boxOf -/
noncomputable def F_impl_boxOf (a0 : List TRect) : Option (TRect) :=
  req (std.inR 0 (len a0)) <|
  (whileP (σ := Int × Int × Int × Int × Int) (ρ := (Int × Int × Int × Int)) (L_impl_boxOf_x7 a0) (0, (gd a0 (std.toN 0)).fX0, (gd a0 (std.toN 0)).fY0, (gd a0 (std.toN 0)).fX1, (gd a0 (std.toN 0)).fY1)).bind fun y8 =>
  letO y8 fun y8k0 =>
  letO y8k0.1 fun w21 =>
  letO y8k0.2.1 fun w22 =>
  letO y8k0.2.2.1 fun w23 =>
  letO y8k0.2.2.2 fun w24 =>
  some (TRect.mk w21 w22 w23 w24)
theorem run_impl_boxOf (a0 : List TRect) (r : TRect) (h : F_impl_boxOf a0 = some r) : Fun Try.prog 101 [.c (.bs (len a0) 4 (row gd (encRect) a0))] [] (.agg [.v (.int .i64 r.fX0), .v (.int .i64 r.fY0), .v (.int .i64 r.fX1), .v (.int .i64 r.fY1)]) [] true := by
  refine Fun.of_wp (oneOf []) tok mixed Try.func101 (by kernel_rfl) rfl Try.ntmps101 rfl trivial (fun _ => ⟨(by simp [AV.flat, AV.flat1, AC.flat]), trivial⟩) ?_
  unfold F_impl_boxOf at h
  unfold L_impl_boxOf_x7 at h
  generalize hLEN : @len = LEN at *
  generalize hGD : @gd = GD at *
  generalize hA : std = A at *
  generalize hP : Try.prog = P at *
  cbv
  replace h := of_req h
  obtain ⟨c1, h⟩ := h
  refine ⟨⟨c1, trivial⟩, ?_⟩
  replace h := of_bind h
  obtain ⟨y8, hr9, hN10⟩ := h
  refine loop_cut hr9 (fun x => (sparse 38 [(2, .c (.ptr 128 0)), (3, .c (.ptr 192 0)), (9, .c (.bs (LEN a0) 4 (row GD (encRect) a0))), (10, .c (.v (.int .i64 (A.ofN (LEN a0))))), (11, .c (.v (.int .i64 x.1)))] [(128, .var [.v (.int .i64 0), .v (.int .i64 0), .v (.int .i64 0), .v (.int .i64 0)]), (192, .var [.v (.int .i64 x.2.1), .v (.int .i64 x.2.2.1), .v (.int .i64 x.2.2.2.1), .v (.int .i64 x.2.2.2.2)])])) ?_ (fun y e s => (fun (w : Int × Int × Int × Int) => e = .exit 0 ∧ s.le (sparse 38 [(2, .c (.ptr 128 0)), (3, .c (.ptr 192 0))] [(128, .var [.v (.int .i64 0), .v (.int .i64 0), .v (.int .i64 0), .v (.int .i64 0)]), (192, .var [.v (.int .i64 w.1), .v (.int .i64 w.2.1), .v (.int .i64 w.2.2.1), .v (.int .i64 w.2.2.2)])])) y) ?_ ?_
  · clear hr9 hN10
    show St.le _ _
    exact le_sparse rfl ⟨AV.le_refl _, AV.le_refl _, AV.le_refl _, AV.le_refl _, AV.le_refl _, trivial⟩ ⟨rfl, rfl, trivial⟩ rfl
  · clear hr9 hN10
    intro x z14 h K12 hK13 hY11
    obtain ⟨x0_, x1_, x2_, x3_, x4_⟩ := x
    replace h := of_let h
    obtain ⟨v2, hv2, h⟩ := h
    have hv2 : v2 = x0_ := hv2
    subst hv2
    replace h := of_let h
    obtain ⟨v3, hv3, h⟩ := h
    have hv3 : v3 = x1_ := hv3
    subst hv3
    replace h := of_let h
    obtain ⟨v4, hv4, h⟩ := h
    have hv4 : v4 = x2_ := hv4
    subst hv4
    replace h := of_let h
    obtain ⟨v5, hv5, h⟩ := h
    have hv5 : v5 = x3_ := hv5
    subst hv5
    replace h := of_let h
    obtain ⟨v6, hv6, h⟩ := h
    have hv6 : v6 = x4_ := hv6
    subst hv6
    cbv
    refine fork (fun b20 => ?_) (fun b20 => ?_)
    · replace h := of_br_t b20 h
      cbv
      replace h := of_req h
      obtain ⟨c19, h⟩ := h
      refine ⟨⟨c19, trivial⟩, ?_⟩
      injection h with h
      refine hK13 _ h.symm _ ?_
      exact le_sparse rfl ⟨AV.le_refl _, AV.le_refl _, AV.le_refl _, AV.le_refl _, AV.le_refl _, trivial⟩ ⟨rfl, rfl, trivial⟩ rfl
    · replace h := of_br_f b20 h
      cbv
      injection h with h
      refine hY11 _ h.symm _ _ (And.intro rfl ?_) (by intro hh; cases hh)
      exact le_sparse rfl ⟨AV.le_refl _, AV.le_refl _, trivial⟩ ⟨rfl, rfl, trivial⟩ rfl
  · clear hr9
    have h := hN10
    clear hN10
    intro e17 s18 q16 hne
    replace h := of_let h
    obtain ⟨y8k0, hyk, h⟩ := h
    have hyk : y8k0 = y8 := hyk
    subst hyk
    obtain ⟨rfl, q16⟩ := q16
    obtain ⟨y8k0_0, y8k0_1, y8k0_2, y8k0_3⟩ := y8k0
    replace h := of_let h
    obtain ⟨w21, hw21, h⟩ := h
    have hw21 : w21 = y8k0_0 := hw21
    subst hw21
    replace h := of_let h
    obtain ⟨w22, hw22, h⟩ := h
    have hw22 : w22 = y8k0_1 := hw22
    subst hw22
    replace h := of_let h
    obtain ⟨w23, hw23, h⟩ := h
    have hw23 : w23 = y8k0_2 := hw23
    subst hw23
    replace h := of_let h
    obtain ⟨w24, hw24, h⟩ := h
    have hw24 : w24 = y8k0_3 := hw24
    subst hw24
    cbv
    refine ⟨_, q16, ?_⟩
    cbv
    injection h with h
    subst h
    refine ⟨(sparse 38 [(2, .c (.ptr 128 0))] [(128, .var [.v (.int .i64 w21), .v (.int .i64 w22), .v (.int .i64 w23), .v (.int .i64 w24)])]), ?_, ?_⟩
    · exact le_sparse rfl ⟨AV.le_refl _, trivial⟩ ⟨rfl, trivial⟩ rfl
    · exact ⟨AV.le_refl _, trivial, rfl⟩

noncomputable def L_impl_contentBoxes_x95 (y66 : (List Telement)) (w89 : Int) (v4 : List (List TRect)) (v68 : Int) : (Int × (List TRect)) → Option ((Int × (List TRect)) ⊕ (((List TRect)))) := fun x95 =>
  letO x95.1 fun v93 =>
  letO x95.2 fun v94 =>
  br (std.lt v93 w89)
  (((
        req (std.inR v93 (len (gd v4 (std.nadd 0 (std.toN (gd y66 (std.nadd 0 (std.toN v68))).gcell))))) <|
        some ((gd (gd v4 (std.nadd 0 (std.toN (gd y66 (std.nadd 0 (std.toN v68))).gcell))) (std.nadd 0 (std.toN v93))).fX0, (gd (gd v4 (std.nadd 0 (std.toN (gd y66 (std.nadd 0 (std.toN v68))).gcell))) (std.nadd 0 (std.toN v93))).fY0, (gd (gd v4 (std.nadd 0 (std.toN (gd y66 (std.nadd 0 (std.toN v68))).gcell))) (std.nadd 0 (std.toN v93))).fX1, (gd (gd v4 (std.nadd 0 (std.toN (gd y66 (std.nadd 0 (std.toN v68))).gcell))) (std.nadd 0 (std.toN v93))).fY1)
    ) : Option (Int × Int × Int × Int)).bind fun y107 =>
  letO y107.1 fun w113 =>
  letO y107.2.1 fun w114 =>
  letO y107.2.2.1 fun w115 =>
  letO y107.2.2.2 fun w116 =>
  ((
        (F_impl_moveRect (gd y66 (std.nadd 0 (std.toN v68))).gplace (TRect.mk w113 w114 w115 w116)).bind fun y125 =>
        letO ([y125] : List TRect) fun l127 =>
        req (std.room (std.nadd (len v94) (len l127)) 32) <|
        letO (v94 ++ l127) fun l129 =>
        some l129
    ) : Option ((List TRect))).bind fun y118 =>
  letO y118 fun w124 =>
  some (.inl (std.add .i64 v93 1, w124)))
  (some (.inr v94))
noncomputable def L_impl_contentBoxes_x70 (y66 : (List Telement)) (v4 : List (List TRect)) : (Int × (List TRect)) → Option ((Int × (List TRect)) ⊕ (((List TRect)))) := fun x70 =>
  letO x70.1 fun v68 =>
  letO x70.2 fun v69 =>
  br (std.lt v68 (std.ofN (len y66)))
  (req (std.inR v68 (len y66)) <|
  ((
        req (std.inR (gd y66 (std.nadd 0 (std.toN v68))).gcell (len v4)) <|
        some (std.ofN (len (gd v4 (std.nadd 0 (std.toN (gd y66 (std.nadd 0 (std.toN v68))).gcell)))), 0)
    ) : Option (Int × Int)).bind fun y83 =>
  letO y83.1 fun w89 =>
  letO y83.2 fun w90 =>
  req (std.inR (gd y66 (std.nadd 0 (std.toN v68))).gcell (len v4)) <|
  (whileP (σ := Int × (List TRect)) (ρ := ((List TRect))) (L_impl_contentBoxes_x95 y66 w89 v4 v68) (w90, v69)).bind fun y96 =>
  letO y96 fun y96k0 =>
  letO y96k0 fun w133 =>
  some (.inl (std.add .i64 v68 1, w133)))
  (some (.inr v69))
noncomputable def L_impl_contentBoxes_x44 (a0 : TLibrary) (v3 : Int) : (Int × (List TRect)) → Option ((Int × (List TRect)) ⊕ (((List TRect)))) := fun x44 =>
  letO x44.1 fun v42 =>
  letO x44.2 fun v43 =>
  br (std.lt v42 (std.ofN (len (gd a0.fCells (std.toN v3)).fLabels)))
  (req (std.inR v42 (len (gd a0.fCells (std.toN v3)).fLabels)) <|
  (F_impl_unitRect (gd (gd a0.fCells (std.toN v3)).fLabels (std.toN v42)).fAt).bind fun y57 =>
  letO ([y57] : List TRect) fun l59 =>
  req (std.room (std.nadd (len v43) (len l59)) 32) <|
  letO (v43 ++ l59) fun l61 =>
  some (.inl (std.add .i64 v42 1, l61)))
  (some (.inr v43))
noncomputable def L_impl_contentBoxes_x22 (a0 : TLibrary) (v3 : Int) : (Int × (List TRect)) → Option ((Int × (List TRect)) ⊕ (((List TRect)))) := fun x22 =>
  letO x22.1 fun v20 =>
  letO x22.2 fun v21 =>
  br (std.lt v20 (std.ofN (len (gd a0.fCells (std.toN v3)).fShapes)))
  (req (std.inR v20 (len (gd a0.fCells (std.toN v3)).fShapes)) <|
  letO ([(gd (gd a0.fCells (std.toN v3)).fShapes (std.toN v20)).fBox] : List TRect) fun l35 =>
  req (std.room (std.nadd (len v21) (len l35)) 32) <|
  letO (v21 ++ l35) fun l37 =>
  some (.inl (std.add .i64 v20 1, l37)))
  (some (.inr v21))
noncomputable def L_impl_contentBoxes_x5 (a0 : TLibrary) : (Int × (List (List TRect))) → Option ((Int × (List (List TRect))) ⊕ (((List (List TRect))))) := fun x5 =>
  letO x5.1 fun v3 =>
  letO x5.2 fun v4 =>
  br (std.lt v3 (std.ofN (len a0.fCells)))
  (req (std.inR v3 (len a0.fCells)) <|
  letO ([] : List TRect) fun l18 =>
  (whileP (σ := Int × (List TRect)) (ρ := ((List TRect))) (L_impl_contentBoxes_x22 a0 v3) (0, l18)).bind fun y23 =>
  letO y23 fun y23k0 =>
  letO y23k0 fun w41 =>
  (whileP (σ := Int × (List TRect)) (ρ := ((List TRect))) (L_impl_contentBoxes_x44 a0 v3) (0, w41)).bind fun y45 =>
  letO y45 fun y45k0 =>
  letO y45k0 fun w65 =>
  (F_impl_elements (gd a0.fCells (std.toN v3))).bind fun y66 =>
  (whileP (σ := Int × (List TRect)) (ρ := ((List TRect))) (L_impl_contentBoxes_x70 y66 v4) (0, w65)).bind fun y71 =>
  letO y71 fun y71k0 =>
  letO y71k0 fun w135 =>
  ((
        br (std.lt 0 (std.ofN (len w135)))
        ((F_impl_boxOf w135).bind fun y143 =>
        letO ([y143] : List TRect) fun l145 =>
        some l145)
        (some w135)
    ) : Option ((List TRect))).bind fun y136 =>
  letO y136 fun w142 =>
  ((
        letO ([w142] : List (List TRect)) fun l155 =>
        req (std.room (std.nadd (len v4) (len l155)) 24) <|
        letO (v4 ++ l155) fun l157 =>
        some l157
    ) : Option ((List (List TRect)))).bind fun y148 =>
  letO y148 fun w154 =>
  some (.inl (std.add .i64 v3 1, w154)))
  (some (.inr v4))
/-- impl.contentBoxes -/
noncomputable def F_impl_contentBoxes (a0 : TLibrary) : Option (List (List TRect)) :=
  letO ([] : List (List TRect)) fun l1 =>
  (whileP (σ := Int × (List (List TRect))) (ρ := ((List (List TRect)))) (L_impl_contentBoxes_x5 a0) (0, l1)).bind fun y6 =>
  letO y6 fun y6k0 =>
  letO y6k0 fun w161 =>
  some w161
theorem run_impl_contentBoxes (a0 : TLibrary) (r : List (List TRect)) (h : F_impl_contentBoxes a0 = some r) : Fun Try.prog 57 [.agg [.bs (len a0.fCells) 4 (row gd (encCell len gd) a0.fCells)]] [] (.c (.os 64000 0 (len r))) [(64000, .arr .rw [] (len r) 1 (row gd (oncL len gd 4 (encRect)) r))] true := by
  refine Fun.of_wp (oneOf [19, 21, 22, 27, 100079]) tok mixed Try.func57 (by kernel_rfl) rfl Try.ntmps57 rfl trivial (fun _ => ⟨trivial, ⟨fun i _ j _ => fl_oncL (vl_encRect) _ _, trivial⟩⟩) ?_
  unfold F_impl_contentBoxes at h
  unfold L_impl_contentBoxes_x5 at h
  unfold L_impl_contentBoxes_x22 at h
  unfold L_impl_contentBoxes_x44 at h
  unfold L_impl_contentBoxes_x70 at h
  unfold L_impl_contentBoxes_x95 at h
  have hf_impl_boxOf := @run_impl_boxOf
  have hf_impl_elements := @run_impl_elements
  have hf_impl_moveRect := @run_impl_moveRect
  have hf_impl_unitRect := @run_impl_unitRect
  generalize hLEN : @len = LEN at *
  generalize hGD : @gd = GD at *
  generalize hA : std = A at *
  generalize hP : Try.prog = P at *
  cbv
  replace h := of_let h
  obtain ⟨l1, hl1, h⟩ := h
  have e2 : 0 = LEN l1 := by subst hl1 hLEN; rfl
  refine ⟨_, congrArg (fun n => AV.c (AC.os 960 0 n)) e2, _, row GD (oncL LEN GD 4 (encRect)) l1, e2, ?_, ?_⟩
  · intro i hi j hj
    rw [← e2] at hi
    subst hl1
    subst hGD
    omega
  cbv
  replace h := of_bind h
  obtain ⟨y6, hr7, hN8⟩ := h
  refine loop_cut hr7 (fun x => (sparse 89 [(3, .c (.os 960 0 (LEN x.2))), (17, .c (.bs (LEN a0.fCells) 4 (row GD (encCell LEN GD) a0.fCells))), (18, .c (.v (.int .i64 (A.ofN (LEN a0.fCells))))), (19, .c (.v (.int .i64 x.1)))] [(960, .arr .rw [] (LEN x.2) 1 (row GD (oncL LEN GD 4 (encRect)) x.2))])) ?_ (fun y e s => (fun (w : (List (List TRect))) => e = .exit 0 ∧ s.le (sparse 89 [(3, .c (.os 960 0 (LEN w)))] [(960, .arr .rw [] (LEN w) 1 (row GD (oncL LEN GD 4 (encRect)) w))])) y) ?_ ?_
  · clear hr7 hN8
    show St.le _ _
    exact le_sparse rfl ⟨AV.le_refl _, AV.le_refl _, AV.le_refl _, AV.le_refl _, trivial⟩ ⟨⟨fun hw => hw, fun c hc => (by cases hc), .inl rfl, rfl, rfl, fun i hi j hj => rfl⟩, trivial⟩ rfl
  · clear hr7 hN8
    intro x z12 h K10 hK11 hY9
    obtain ⟨x0_, x1_⟩ := x
    replace h := of_let h
    obtain ⟨v3, hv3, h⟩ := h
    have hv3 : v3 = x0_ := hv3
    subst hv3
    replace h := of_let h
    obtain ⟨v4, hv4, h⟩ := h
    have hv4 : v4 = x1_ := hv4
    subst hv4
    cbv
    refine fork (fun b160 => ?_) (fun b160 => ?_)
    · replace h := of_br_t b160 h
      cbv
      replace h := of_req h
      obtain ⟨c17, h⟩ := h
      refine ⟨⟨c17, trivial⟩, ?_⟩
      replace h := of_let h
      obtain ⟨l18, hl18, h⟩ := h
      have e19 : 0 = LEN l18 := by subst hl18 hLEN; rfl
      refine ⟨_, congrArg (fun n => AV.c (AC.os 1472 0 n)) e19, _, row GD (encRect) l18, e19, ?_, ?_⟩
      · intro i hi j hj
        rw [← e19] at hi
        subst hl18
        subst hGD
        omega
      cbv
      replace h := of_bind h
      obtain ⟨y23, hr24, hN25⟩ := h
      refine loop_cut hr24 (fun x => (sparse 89 [(3, .c (.os 960 0 (LEN v4))), (5, .c (.ptr 320 0)), (6, .c (.os 1472 0 (LEN x.2))), (17, .c (.bs (LEN a0.fCells) 4 (row GD (encCell LEN GD) a0.fCells))), (18, .c (.v (.int .i64 (A.ofN (LEN a0.fCells))))), (19, .c (.v (.int .i64 v3))), (25, .c (.bs (LEN (GD a0.fCells (A.toN v3)).fShapes) 5 (row GD (encShape) (GD a0.fCells (A.toN v3)).fShapes))), (26, .c (.v (.int .i64 (A.ofN (LEN (GD a0.fCells (A.toN v3)).fShapes))))), (27, .c (.v (.int .i64 x.1)))] [(960, .arr .rw [] (LEN v4) 1 (row GD (oncL LEN GD 4 (encRect)) v4)), (320, .var [.v (.string (GD a0.fCells (A.toN v3)).fName), .bs (LEN (GD a0.fCells (A.toN v3)).fShapes) 5 (row GD (encShape) (GD a0.fCells (A.toN v3)).fShapes), .bs (LEN (GD a0.fCells (A.toN v3)).fLabels) 4 (row GD (encLabel) (GD a0.fCells (A.toN v3)).fLabels), .bs (LEN (GD a0.fCells (A.toN v3)).fInstances) 8 (row GD (encInstance) (GD a0.fCells (A.toN v3)).fInstances)]), (1472, .arr .rw [] (LEN x.2) 4 (row GD (encRect) x.2))])) ?_ (fun y e s => (fun (w : (List TRect)) => e = .exit 2 ∧ s.le (sparse 89 [(3, .c (.os 960 0 (LEN v4))), (5, .c (.ptr 320 0)), (6, .c (.os 1472 0 (LEN w))), (17, .c (.bs (LEN a0.fCells) 4 (row GD (encCell LEN GD) a0.fCells))), (18, .c (.v (.int .i64 (A.ofN (LEN a0.fCells))))), (19, .c (.v (.int .i64 v3)))] [(960, .arr .rw [] (LEN v4) 1 (row GD (oncL LEN GD 4 (encRect)) v4)), (320, .var [.v (.string (GD a0.fCells (A.toN v3)).fName), .bs (LEN (GD a0.fCells (A.toN v3)).fShapes) 5 (row GD (encShape) (GD a0.fCells (A.toN v3)).fShapes), .bs (LEN (GD a0.fCells (A.toN v3)).fLabels) 4 (row GD (encLabel) (GD a0.fCells (A.toN v3)).fLabels), .bs (LEN (GD a0.fCells (A.toN v3)).fInstances) 8 (row GD (encInstance) (GD a0.fCells (A.toN v3)).fInstances)]), (1472, .arr .rw [] (LEN w) 4 (row GD (encRect) w))])) y) ?_ ?_
      · clear hr24 hN25
        show St.le _ _
        exact le_sparse rfl ⟨AV.le_refl _, AV.le_refl _, AV.le_refl _, AV.le_refl _, AV.le_refl _, AV.le_refl _, AV.le_refl _, AV.le_refl _, AV.le_refl _, trivial⟩ ⟨⟨fun hw => hw, fun c hc => (by cases hc), .inl rfl, rfl, rfl, fun i hi j hj => rfl⟩, rfl, ⟨fun hw => hw, fun c hc => (by cases hc), .inl rfl, rfl, rfl, fun i hi j hj => rfl⟩, trivial⟩ rfl
      · clear hr24 hN25
        intro x z29 h K27 hK28 hY26
        obtain ⟨x0_, x1_⟩ := x
        replace h := of_let h
        obtain ⟨v20, hv20, h⟩ := h
        have hv20 : v20 = x0_ := hv20
        subst hv20
        replace h := of_let h
        obtain ⟨v21, hv21, h⟩ := h
        have hv21 : v21 = x1_ := hv21
        subst hv21
        cbv
        refine fork (fun b40 => ?_) (fun b40 => ?_)
        · replace h := of_br_t b40 h
          cbv
          replace h := of_req h
          obtain ⟨c34, h⟩ := h
          refine ⟨⟨c34, trivial⟩, ?_⟩
          replace h := of_let h
          obtain ⟨l35, hl35, h⟩ := h
          have e36 : 1 = LEN l35 := by subst hl35 hLEN; rfl
          refine ⟨_, congrArg (fun n => AV.c (AC.os 2176 0 n)) e36, _, row GD (encRect) l35, e36, ?_, ?_⟩
          · intro i hi j hj
            rw [← e36] at hi
            subst hl35
            subst hGD
            obtain rfl : i = 0 := (by omega) <;> obtain rfl | rfl | rfl | rfl : j = 0 ∨ j = 1 ∨ j = 2 ∨ j = 3 := (by omega)
            all_goals rfl
          cbv
          replace h := of_req h
          obtain ⟨c39, h⟩ := h
          replace h := of_let h
          obtain ⟨l37, hl37, h⟩ := h
          have e38 : A.nadd (LEN v21) (LEN l35) = LEN l37 := by subst hl37 hLEN hA; simp [std, len]
          refine ⟨c39, _, congrArg (fun n => AV.c (AC.os 1472 0 n)) e38, _, row GD (encRect) l37, e38, ?_, ?_⟩
          · subst hGD hLEN hA
            exact app_os (off := 0) (pl_encRect) hl37 (Nat.le_refl _)
          cbv
          injection h with h
          refine hK28 _ h.symm _ ?_
          exact le_sparse rfl ⟨AV.le_refl _, AV.le_refl _, AV.le_refl _, AV.le_refl _, AV.le_refl _, AV.le_refl _, AV.le_refl _, AV.le_refl _, AV.le_refl _, trivial⟩ ⟨⟨fun hw => hw, fun c hc => (by cases hc), .inl rfl, rfl, rfl, fun i hi j hj => rfl⟩, rfl, ⟨fun hw => hw, fun c hc => (by cases hc), .inl rfl, rfl, rfl, fun i hi j hj => rfl⟩, trivial⟩ rfl
        · replace h := of_br_f b40 h
          cbv
          injection h with h
          refine hY26 _ h.symm _ _ (And.intro rfl ?_) (by intro hh; cases hh)
          exact le_sparse rfl ⟨AV.le_refl _, AV.le_refl _, AV.le_refl _, AV.le_refl _, AV.le_refl _, AV.le_refl _, trivial⟩ ⟨⟨fun hw => hw, fun c hc => (by cases hc), .inl rfl, rfl, rfl, fun i hi j hj => rfl⟩, rfl, ⟨fun hw => hw, fun c hc => (by cases hc), .inl rfl, rfl, rfl, fun i hi j hj => rfl⟩, trivial⟩ rfl
      · clear hr24
        have h := hN25
        clear hN25
        intro e32 s33 q31 hne
        replace h := of_let h
        obtain ⟨y23k0, hyk, h⟩ := h
        have hyk : y23k0 = y23 := hyk
        subst hyk
        obtain ⟨rfl, q31⟩ := q31
        replace h := of_let h
        obtain ⟨w41, hw41, h⟩ := h
        have hw41 : w41 = y23k0 := hw41
        subst hw41
        cbv
        refine ⟨_, q31, ?_⟩
        cbv
        replace h := of_bind h
        obtain ⟨y45, hr46, hN47⟩ := h
        refine loop_cut hr46 (fun x => (sparse 89 [(3, .c (.os 960 0 (LEN v4))), (5, .c (.ptr 320 0)), (6, .c (.os 1472 0 (LEN x.2))), (17, .c (.bs (LEN a0.fCells) 4 (row GD (encCell LEN GD) a0.fCells))), (18, .c (.v (.int .i64 (A.ofN (LEN a0.fCells))))), (19, .c (.v (.int .i64 v3))), (38, .c (.bs (LEN (GD a0.fCells (A.toN v3)).fLabels) 4 (row GD (encLabel) (GD a0.fCells (A.toN v3)).fLabels))), (39, .c (.v (.int .i64 (A.ofN (LEN (GD a0.fCells (A.toN v3)).fLabels))))), (40, .c (.v (.int .i64 x.1)))] [(960, .arr .rw [] (LEN v4) 1 (row GD (oncL LEN GD 4 (encRect)) v4)), (320, .var [.v (.string (GD a0.fCells (A.toN v3)).fName), .bs (LEN (GD a0.fCells (A.toN v3)).fShapes) 5 (row GD (encShape) (GD a0.fCells (A.toN v3)).fShapes), .bs (LEN (GD a0.fCells (A.toN v3)).fLabels) 4 (row GD (encLabel) (GD a0.fCells (A.toN v3)).fLabels), .bs (LEN (GD a0.fCells (A.toN v3)).fInstances) 8 (row GD (encInstance) (GD a0.fCells (A.toN v3)).fInstances)]), (1472, .arr .rw [] (LEN x.2) 4 (row GD (encRect) x.2))])) ?_ (fun y e s => (fun (w : (List TRect)) => e = .exit 4 ∧ s.le (sparse 89 [(3, .c (.os 960 0 (LEN v4))), (5, .c (.ptr 320 0)), (6, .c (.os 1472 0 (LEN w))), (17, .c (.bs (LEN a0.fCells) 4 (row GD (encCell LEN GD) a0.fCells))), (18, .c (.v (.int .i64 (A.ofN (LEN a0.fCells))))), (19, .c (.v (.int .i64 v3)))] [(960, .arr .rw [] (LEN v4) 1 (row GD (oncL LEN GD 4 (encRect)) v4)), (320, .var [.v (.string (GD a0.fCells (A.toN v3)).fName), .bs (LEN (GD a0.fCells (A.toN v3)).fShapes) 5 (row GD (encShape) (GD a0.fCells (A.toN v3)).fShapes), .bs (LEN (GD a0.fCells (A.toN v3)).fLabels) 4 (row GD (encLabel) (GD a0.fCells (A.toN v3)).fLabels), .bs (LEN (GD a0.fCells (A.toN v3)).fInstances) 8 (row GD (encInstance) (GD a0.fCells (A.toN v3)).fInstances)]), (1472, .arr .rw [] (LEN w) 4 (row GD (encRect) w))])) y) ?_ ?_
        · clear hr46 hN47
          show St.le _ _
          exact le_sparse rfl ⟨AV.le_refl _, AV.le_refl _, AV.le_refl _, AV.le_refl _, AV.le_refl _, AV.le_refl _, AV.le_refl _, AV.le_refl _, AV.le_refl _, trivial⟩ ⟨⟨fun hw => hw, fun c hc => (by cases hc), .inl rfl, rfl, rfl, fun i hi j hj => rfl⟩, rfl, ⟨fun hw => hw, fun c hc => (by cases hc), .inl rfl, rfl, rfl, fun i hi j hj => rfl⟩, trivial⟩ rfl
        · clear hr46 hN47
          intro x z51 h K49 hK50 hY48
          obtain ⟨x0_, x1_⟩ := x
          replace h := of_let h
          obtain ⟨v42, hv42, h⟩ := h
          have hv42 : v42 = x0_ := hv42
          subst hv42
          replace h := of_let h
          obtain ⟨v43, hv43, h⟩ := h
          have hv43 : v43 = x1_ := hv43
          subst hv43
          cbv
          refine fork (fun b64 => ?_) (fun b64 => ?_)
          · replace h := of_br_t b64 h
            cbv
            replace h := of_req h
            obtain ⟨c56, h⟩ := h
            refine ⟨⟨c56, trivial⟩, ?_⟩
            replace h := of_bind h
            obtain ⟨y57, hy58, h⟩ := h
            refine ⟨{ args := [.agg [.v (.int .i64 (GD (GD a0.fCells (A.toN v3)).fLabels (A.toN v42)).fAt.fX), .v (.int .i64 (GD (GD a0.fCells (A.toN v3)).fLabels (A.toN v42)).fAt.fY)]], o0 := [], r := .agg [.v (.int .i64 y57.fX0), .v (.int .i64 y57.fY0), .v (.int .i64 y57.fX1), .v (.int .i64 y57.fY1)], o1 := [], fl := true, σ := [], τ := [] }, hf_impl_unitRect _ _ hy58, ⟨les_cons (AV.le_refl _) (les_nil), trivial, rfl, rfl, rfl, rfl, trivial, rfl⟩, ?_⟩
            cbv
            replace h := of_let h
            obtain ⟨l59, hl59, h⟩ := h
            have e60 : 1 = LEN l59 := by subst hl59 hLEN; rfl
            refine ⟨_, congrArg (fun n => AV.c (AC.os 3072 0 n)) e60, _, row GD (encRect) l59, e60, ?_, ?_⟩
            · intro i hi j hj
              rw [← e60] at hi
              subst hl59
              subst hGD
              obtain rfl : i = 0 := (by omega) <;> obtain rfl | rfl | rfl | rfl : j = 0 ∨ j = 1 ∨ j = 2 ∨ j = 3 := (by omega)
              all_goals rfl
            cbv
            replace h := of_req h
            obtain ⟨c63, h⟩ := h
            replace h := of_let h
            obtain ⟨l61, hl61, h⟩ := h
            have e62 : A.nadd (LEN v43) (LEN l59) = LEN l61 := by subst hl61 hLEN hA; simp [std, len]
            refine ⟨c63, _, congrArg (fun n => AV.c (AC.os 1472 0 n)) e62, _, row GD (encRect) l61, e62, ?_, ?_⟩
            · subst hGD hLEN hA
              exact app_os (off := 0) (pl_encRect) hl61 (Nat.le_refl _)
            cbv
            injection h with h
            refine hK50 _ h.symm _ ?_
            exact le_sparse rfl ⟨AV.le_refl _, AV.le_refl _, AV.le_refl _, AV.le_refl _, AV.le_refl _, AV.le_refl _, AV.le_refl _, AV.le_refl _, AV.le_refl _, trivial⟩ ⟨⟨fun hw => hw, fun c hc => (by cases hc), .inl rfl, rfl, rfl, fun i hi j hj => rfl⟩, rfl, ⟨fun hw => hw, fun c hc => (by cases hc), .inl rfl, rfl, rfl, fun i hi j hj => rfl⟩, trivial⟩ rfl
          · replace h := of_br_f b64 h
            cbv
            injection h with h
            refine hY48 _ h.symm _ _ (And.intro rfl ?_) (by intro hh; cases hh)
            exact le_sparse rfl ⟨AV.le_refl _, AV.le_refl _, AV.le_refl _, AV.le_refl _, AV.le_refl _, AV.le_refl _, trivial⟩ ⟨⟨fun hw => hw, fun c hc => (by cases hc), .inl rfl, rfl, rfl, fun i hi j hj => rfl⟩, rfl, ⟨fun hw => hw, fun c hc => (by cases hc), .inl rfl, rfl, rfl, fun i hi j hj => rfl⟩, trivial⟩ rfl
        · clear hr46
          have h := hN47
          clear hN47
          intro e54 s55 q53 hne
          replace h := of_let h
          obtain ⟨y45k0, hyk, h⟩ := h
          have hyk : y45k0 = y45 := hyk
          subst hyk
          obtain ⟨rfl, q53⟩ := q53
          replace h := of_let h
          obtain ⟨w65, hw65, h⟩ := h
          have hw65 : w65 = y45k0 := hw65
          subst hw65
          cbv
          refine ⟨_, q53, ?_⟩
          cbv
          replace h := of_bind h
          obtain ⟨y66, hy67, h⟩ := h
          refine ⟨{ args := [.agg [.v (.string (GD a0.fCells (A.toN v3)).fName), .bs (LEN (GD a0.fCells (A.toN v3)).fShapes) 5 (row GD (encShape) (GD a0.fCells (A.toN v3)).fShapes), .bs (LEN (GD a0.fCells (A.toN v3)).fLabels) 4 (row GD (encLabel) (GD a0.fCells (A.toN v3)).fLabels), .bs (LEN (GD a0.fCells (A.toN v3)).fInstances) 8 (row GD (encInstance) (GD a0.fCells (A.toN v3)).fInstances)]], o0 := [], r := .c (.os 64000 0 (LEN y66)), o1 := [(64000, .arr .rw [] (LEN y66) 4 (row GD (encelement) y66))], fl := true, σ := [], τ := [(64000, 3328)] }, hf_impl_elements _ _ hy67, ⟨les_cons (AV.le_refl _) (les_nil), trivial, rfl, rfl, rfl, rfl, ⟨fun h => absurd (show (64000 : Nat) % 2 = 1 from h) (by decide), trivial⟩, rfl⟩, _, rfl, _, _, rfl, fun _ _ _ _ => rfl, ?_⟩
          cbv
          replace h := of_bind h
          obtain ⟨y71, hr72, hN73⟩ := h
          refine loop_cut hr72 (fun x => (sparse 89 [(3, .c (.os 960 0 (LEN v4))), (6, .c (.os 1472 0 (LEN x.2))), (17, .c (.bs (LEN a0.fCells) 4 (row GD (encCell LEN GD) a0.fCells))), (18, .c (.v (.int .i64 (A.ofN (LEN a0.fCells))))), (19, .c (.v (.int .i64 v3))), (52, .c (.os 3328 0 (LEN y66))), (53, .c (.v (.int .i64 (A.ofN (LEN y66))))), (54, .c (.v (.int .i64 x.1)))] [(960, .arr .rw [] (LEN v4) 1 (row GD (oncL LEN GD 4 (encRect)) v4)), (1472, .arr .rw [] (LEN x.2) 4 (row GD (encRect) x.2)), (3328, .arr .rw [] (LEN y66) 4 (row GD (encelement) y66))])) ?_ (fun y e s => (fun (w : (List TRect)) => e = .exit 6 ∧ s.le (sparse 89 [(3, .c (.os 960 0 (LEN v4))), (6, .c (.os 1472 0 (LEN w))), (17, .c (.bs (LEN a0.fCells) 4 (row GD (encCell LEN GD) a0.fCells))), (18, .c (.v (.int .i64 (A.ofN (LEN a0.fCells))))), (19, .c (.v (.int .i64 v3)))] [(960, .arr .rw [] (LEN v4) 1 (row GD (oncL LEN GD 4 (encRect)) v4)), (1472, .arr .rw [] (LEN w) 4 (row GD (encRect) w))])) y) ?_ ?_
          · clear hr72 hN73
            show St.le _ _
            exact le_sparse rfl ⟨AV.le_refl _, AV.le_refl _, AV.le_refl _, AV.le_refl _, AV.le_refl _, AV.le_refl _, AV.le_refl _, AV.le_refl _, trivial⟩ ⟨⟨fun hw => hw, fun c hc => (by cases hc), .inl rfl, rfl, rfl, fun i hi j hj => rfl⟩, ⟨fun hw => hw, fun c hc => (by cases hc), .inl rfl, rfl, rfl, fun i hi j hj => rfl⟩, ⟨fun hw => hw, fun c hc => (by cases hc), .inl rfl, rfl, rfl, fun i hi j hj => rfl⟩, trivial⟩ rfl
          · clear hr72 hN73
            intro x z77 h K75 hK76 hY74
            obtain ⟨x0_, x1_⟩ := x
            replace h := of_let h
            obtain ⟨v68, hv68, h⟩ := h
            have hv68 : v68 = x0_ := hv68
            subst hv68
            replace h := of_let h
            obtain ⟨v69, hv69, h⟩ := h
            have hv69 : v69 = x1_ := hv69
            subst hv69
            cbv
            refine fork (fun b134 => ?_) (fun b134 => ?_)
            · replace h := of_br_t b134 h
              cbv
              replace h := of_req h
              obtain ⟨c82, h⟩ := h
              refine ⟨⟨c82, trivial⟩, ?_⟩
              refine And.intro (by first | exact (by subst hA; exact idx_lt c82) | (refine And.intro (by subst hA; exact idx_lt c82) ?_; first | trivial | exact ⟨trivial, trivial⟩)) ?_
              replace h := of_bind h
              obtain ⟨y83, hy84, h⟩ := h
              obtain ⟨S87, hS88⟩ : ∃ S, S = (sparse 89 [(3, .c (.os 960 0 (LEN v4))), (6, .c (.os 1472 0 (LEN v69))), (12, .c (.ptr 768 0)), (17, .c (.bs (LEN a0.fCells) 4 (row GD (encCell LEN GD) a0.fCells))), (18, .c (.v (.int .i64 (A.ofN (LEN a0.fCells))))), (19, .c (.v (.int .i64 v3))), (52, .c (.os 3328 0 (LEN y66))), (53, .c (.v (.int .i64 (A.ofN (LEN y66))))), (54, .c (.v (.int .i64 v68))), (62, .c (.os 3970 0 (LEN (GD v4 (A.nadd 0 (A.toN (GD y66 (A.nadd 0 (A.toN v68))).gcell)))))), (63, .c (.v (.int .i64 y83.1))), (64, .c (.v (.int .i64 y83.2)))] [(960, .arr .rw [3970] (LEN v4) 1 (patchC (row GD (oncL LEN GD 4 (encRect)) v4) (A.nadd 0 (A.toN (GD y66 (A.nadd 0 (A.toN v68))).gcell)) [.os 3970 0 (LEN (GD v4 (A.nadd 0 (A.toN (GD y66 (A.nadd 0 (A.toN v68))).gcell))))])), (1472, .arr .rw [] (LEN v69) 4 (row GD (encRect) v69)), (768, .var [.v (.int .i64 (GD y66 (A.nadd 0 (A.toN v68))).gcell), .v (.int .i64 (GD y66 (A.nadd 0 (A.toN v68))).gplace.fOrientation), .v (.int .i64 (GD y66 (A.nadd 0 (A.toN v68))).gplace.fX), .v (.int .i64 (GD y66 (A.nadd 0 (A.toN v68))).gplace.fY)]), (3328, .arr .rw [] (LEN y66) 4 (row GD (encelement) y66)), (3970, .arr .rw [] (LEN (GD v4 (A.nadd 0 (A.toN (GD y66 (A.nadd 0 (A.toN v68))).gcell)))) 4 (row GD (encRect) (GD v4 (A.nadd 0 (A.toN (GD y66 (A.nadd 0 (A.toN v68))).gcell)))))]) := ⟨_, rfl⟩
              refine ⟨S87, ?_, ?_⟩
              · clear h
                have h := hy84
                clear hy84
                cbv
                replace h := of_req h
                obtain ⟨c91, h⟩ := h
                refine ⟨⟨c91, trivial⟩, ?_⟩
                refine And.intro (by first | exact (by subst hA; exact idx_lt c91) | (refine And.intro (by subst hA; exact idx_lt c91) ?_; first | trivial | exact ⟨trivial, trivial⟩)) ?_
                refine ⟨_, rfl, _, (patchC (row GD (oncL LEN GD 4 (encRect)) v4) (A.nadd 0 (A.toN (GD y66 (A.nadd 0 (A.toN v68))).gcell)) [.os 3970 0 (LEN (GD v4 (A.nadd 0 (A.toN (GD y66 (A.nadd 0 (A.toN v68))).gcell))))]), rfl, ?_, ?_⟩
                · refine patch_of ?_
                  intro j hj
                  match j, hj with | 0, _ => (rfl) | (j_ + 1), h_ => exact absurd h_ (by omega)
                refine ⟨_, row GD (encRect) (GD v4 (A.nadd 0 (A.toN (GD y66 (A.nadd 0 (A.toN v68))).gcell))), rfl, ?_, ?_⟩
                · exact fun i _ j _ => plain_cp (pl_encRect _ _)
                cbv
                injection h with h
                subst h
                subst hS88
                show St.le _ _
                exact le_sparse rfl ⟨AV.le_refl _, AV.le_refl _, AV.le_refl _, AV.le_refl _, AV.le_refl _, AV.le_refl _, AV.le_refl _, AV.le_refl _, AV.le_refl _, AV.le_refl _, AV.le_refl _, AV.le_refl _, trivial⟩ ⟨⟨fun hw => hw, fun c hc => (by cases hc), .inl rfl, rfl, rfl, fun i hi j hj => rfl⟩, ⟨fun hw => hw, fun c hc => (by cases hc), .inl rfl, rfl, rfl, fun i hi j hj => rfl⟩, rfl, ⟨fun hw => hw, fun c hc => (by cases hc), .inl rfl, rfl, rfl, fun i hi j hj => rfl⟩, ⟨fun hw => hw, fun c hc => (by cases hc), .inl rfl, rfl, rfl, fun i hi j hj => rfl⟩, trivial⟩ rfl
              · clear hy84
                subst hS88
                obtain ⟨y83_0, y83_1⟩ := y83
                replace h := of_let h
                obtain ⟨w89, hw89, h⟩ := h
                have hw89 : w89 = y83_0 := hw89
                subst hw89
                replace h := of_let h
                obtain ⟨w90, hw90, h⟩ := h
                have hw90 : w90 = y83_1 := hw90
                subst hw90
                replace h := of_req h
                obtain ⟨c92, h⟩ := h
                cbv
                replace h := of_bind h
                obtain ⟨y96, hr97, hN98⟩ := h
                refine loop_cut hr97 (fun x => (sparse 89 [(3, .c (.os 960 0 (LEN v4))), (6, .c (.os 1472 0 (LEN x.2))), (12, .c (.ptr 768 0)), (17, .c (.bs (LEN a0.fCells) 4 (row GD (encCell LEN GD) a0.fCells))), (18, .c (.v (.int .i64 (A.ofN (LEN a0.fCells))))), (19, .c (.v (.int .i64 v3))), (52, .c (.os 3328 0 (LEN y66))), (53, .c (.v (.int .i64 (A.ofN (LEN y66))))), (54, .c (.v (.int .i64 v68))), (62, .c (.os 3970 0 (LEN (GD v4 (A.nadd 0 (A.toN (GD y66 (A.nadd 0 (A.toN v68))).gcell)))))), (63, .c (.v (.int .i64 w89))), (64, .c (.v (.int .i64 x.1)))] [(960, .arr .rw [3970] (LEN v4) 1 (patchC (row GD (oncL LEN GD 4 (encRect)) v4) (A.nadd 0 (A.toN (GD y66 (A.nadd 0 (A.toN v68))).gcell)) [.os 3970 0 (LEN (GD v4 (A.nadd 0 (A.toN (GD y66 (A.nadd 0 (A.toN v68))).gcell))))])), (1472, .arr .rw [] (LEN x.2) 4 (row GD (encRect) x.2)), (768, .var [.v (.int .i64 (GD y66 (A.nadd 0 (A.toN v68))).gcell), .v (.int .i64 (GD y66 (A.nadd 0 (A.toN v68))).gplace.fOrientation), .v (.int .i64 (GD y66 (A.nadd 0 (A.toN v68))).gplace.fX), .v (.int .i64 (GD y66 (A.nadd 0 (A.toN v68))).gplace.fY)]), (3328, .arr .rw [] (LEN y66) 4 (row GD (encelement) y66)), (3970, .arr .rw [] (LEN (GD v4 (A.nadd 0 (A.toN (GD y66 (A.nadd 0 (A.toN v68))).gcell)))) 4 (row GD (encRect) (GD v4 (A.nadd 0 (A.toN (GD y66 (A.nadd 0 (A.toN v68))).gcell)))))])) ?_ (fun y e s => (fun (w : (List TRect)) => e = .exit 8 ∧ s.le (sparse 89 [(3, .c (.os 960 0 (LEN v4))), (6, .c (.os 1472 0 (LEN w))), (17, .c (.bs (LEN a0.fCells) 4 (row GD (encCell LEN GD) a0.fCells))), (18, .c (.v (.int .i64 (A.ofN (LEN a0.fCells))))), (19, .c (.v (.int .i64 v3))), (52, .c (.os 3328 0 (LEN y66))), (53, .c (.v (.int .i64 (A.ofN (LEN y66))))), (54, .c (.v (.int .i64 v68)))] [(960, .arr .rw [] (LEN v4) 1 (row GD (oncL LEN GD 4 (encRect)) v4)), (1472, .arr .rw [] (LEN w) 4 (row GD (encRect) w)), (3328, .arr .rw [] (LEN y66) 4 (row GD (encelement) y66))])) y) ?_ ?_
                · clear hr97 hN98
                  show St.le _ _
                  exact le_sparse rfl ⟨AV.le_refl _, AV.le_refl _, AV.le_refl _, AV.le_refl _, AV.le_refl _, AV.le_refl _, AV.le_refl _, AV.le_refl _, AV.le_refl _, AV.le_refl _, AV.le_refl _, AV.le_refl _, trivial⟩ ⟨⟨fun hw => hw, fun c hc => (by cases hc), .inl rfl, rfl, rfl, fun i hi j hj => rfl⟩, ⟨fun hw => hw, fun c hc => (by cases hc), .inl rfl, rfl, rfl, fun i hi j hj => rfl⟩, rfl, ⟨fun hw => hw, fun c hc => (by cases hc), .inl rfl, rfl, rfl, fun i hi j hj => rfl⟩, ⟨fun hw => hw, fun c hc => (by cases hc), .inl rfl, rfl, rfl, fun i hi j hj => rfl⟩, trivial⟩ rfl
                · clear hr97 hN98
                  intro x z102 h K100 hK101 hY99
                  obtain ⟨x0_, x1_⟩ := x
                  replace h := of_let h
                  obtain ⟨v93, hv93, h⟩ := h
                  have hv93 : v93 = x0_ := hv93
                  subst hv93
                  replace h := of_let h
                  obtain ⟨v94, hv94, h⟩ := h
                  have hv94 : v94 = x1_ := hv94
                  subst hv94
                  cbv
                  refine fork (fun b132 => ?_) (fun b132 => ?_)
                  · replace h := of_br_t b132 h
                    cbv
                    replace h := of_bind h
                    obtain ⟨y107, hy108, h⟩ := h
                    obtain ⟨S111, hS112⟩ : ∃ S, S = (sparse 89 [(3, .c (.os 960 0 (LEN v4))), (6, .c (.os 1472 0 (LEN v94))), (12, .c (.ptr 768 0)), (14, .c (.ptr 896 0)), (17, .c (.bs (LEN a0.fCells) 4 (row GD (encCell LEN GD) a0.fCells))), (18, .c (.v (.int .i64 (A.ofN (LEN a0.fCells))))), (19, .c (.v (.int .i64 v3))), (52, .c (.os 3328 0 (LEN y66))), (53, .c (.v (.int .i64 (A.ofN (LEN y66))))), (54, .c (.v (.int .i64 v68))), (62, .c (.os 3970 0 (LEN (GD v4 (A.nadd 0 (A.toN (GD y66 (A.nadd 0 (A.toN v68))).gcell)))))), (63, .c (.v (.int .i64 w89))), (64, .c (.v (.int .i64 v93)))] [(960, .arr .rw [3970] (LEN v4) 1 (patchC (row GD (oncL LEN GD 4 (encRect)) v4) (A.nadd 0 (A.toN (GD y66 (A.nadd 0 (A.toN v68))).gcell)) [.os 3970 0 (LEN (GD v4 (A.nadd 0 (A.toN (GD y66 (A.nadd 0 (A.toN v68))).gcell))))])), (1472, .arr .rw [] (LEN v94) 4 (row GD (encRect) v94)), (768, .var [.v (.int .i64 (GD y66 (A.nadd 0 (A.toN v68))).gcell), .v (.int .i64 (GD y66 (A.nadd 0 (A.toN v68))).gplace.fOrientation), .v (.int .i64 (GD y66 (A.nadd 0 (A.toN v68))).gplace.fX), .v (.int .i64 (GD y66 (A.nadd 0 (A.toN v68))).gplace.fY)]), (896, .var [.v (.int .i64 y107.1), .v (.int .i64 y107.2.1), .v (.int .i64 y107.2.2.1), .v (.int .i64 y107.2.2.2)]), (3328, .arr .rw [] (LEN y66) 4 (row GD (encelement) y66)), (3970, .arr .rw [] (LEN (GD v4 (A.nadd 0 (A.toN (GD y66 (A.nadd 0 (A.toN v68))).gcell)))) 4 (row GD (encRect) (GD v4 (A.nadd 0 (A.toN (GD y66 (A.nadd 0 (A.toN v68))).gcell)))))]) := ⟨_, rfl⟩
                    refine ⟨S111, ?_, ?_⟩
                    · clear h
                      have h := hy108
                      clear hy108
                      cbv
                      replace h := of_req h
                      obtain ⟨c117, h⟩ := h
                      refine ⟨⟨c117, trivial⟩, ?_⟩
                      refine And.intro (by first | exact (by subst hA; exact idx_lt c117) | (refine And.intro (by subst hA; exact idx_lt c117) ?_; first | trivial | exact ⟨trivial, trivial⟩)) ?_
                      injection h with h
                      subst h
                      subst hS112
                      show St.le _ _
                      exact le_sparse rfl ⟨AV.le_refl _, AV.le_refl _, AV.le_refl _, AV.le_refl _, AV.le_refl _, AV.le_refl _, AV.le_refl _, AV.le_refl _, AV.le_refl _, AV.le_refl _, AV.le_refl _, AV.le_refl _, AV.le_refl _, trivial⟩ ⟨⟨fun hw => hw, fun c hc => (by cases hc), .inl rfl, rfl, rfl, fun i hi j hj => rfl⟩, ⟨fun hw => hw, fun c hc => (by cases hc), .inl rfl, rfl, rfl, fun i hi j hj => rfl⟩, rfl, rfl, ⟨fun hw => hw, fun c hc => (by cases hc), .inl rfl, rfl, rfl, fun i hi j hj => rfl⟩, ⟨fun hw => hw, fun c hc => (by cases hc), .inl rfl, rfl, rfl, fun i hi j hj => rfl⟩, trivial⟩ rfl
                    · clear hy108
                      subst hS112
                      obtain ⟨y107_0, y107_1, y107_2, y107_3⟩ := y107
                      replace h := of_let h
                      obtain ⟨w113, hw113, h⟩ := h
                      have hw113 : w113 = y107_0 := hw113
                      subst hw113
                      replace h := of_let h
                      obtain ⟨w114, hw114, h⟩ := h
                      have hw114 : w114 = y107_1 := hw114
                      subst hw114
                      replace h := of_let h
                      obtain ⟨w115, hw115, h⟩ := h
                      have hw115 : w115 = y107_2 := hw115
                      subst hw115
                      replace h := of_let h
                      obtain ⟨w116, hw116, h⟩ := h
                      have hw116 : w116 = y107_3 := hw116
                      subst hw116
                      cbv
                      replace h := of_bind h
                      obtain ⟨y118, hy119, h⟩ := h
                      obtain ⟨S122, hS123⟩ : ∃ S, S = (sparse 89 [(3, .c (.os 960 0 (LEN v4))), (6, .c (.os 1472 0 (LEN y118))), (12, .c (.ptr 768 0)), (17, .c (.bs (LEN a0.fCells) 4 (row GD (encCell LEN GD) a0.fCells))), (18, .c (.v (.int .i64 (A.ofN (LEN a0.fCells))))), (19, .c (.v (.int .i64 v3))), (52, .c (.os 3328 0 (LEN y66))), (53, .c (.v (.int .i64 (A.ofN (LEN y66))))), (54, .c (.v (.int .i64 v68))), (62, .c (.os 3970 0 (LEN (GD v4 (A.nadd 0 (A.toN (GD y66 (A.nadd 0 (A.toN v68))).gcell)))))), (63, .c (.v (.int .i64 w89))), (64, .c (.v (.int .i64 v93)))] [(960, .arr .rw [3970] (LEN v4) 1 (patchC (row GD (oncL LEN GD 4 (encRect)) v4) (A.nadd 0 (A.toN (GD y66 (A.nadd 0 (A.toN v68))).gcell)) [.os 3970 0 (LEN (GD v4 (A.nadd 0 (A.toN (GD y66 (A.nadd 0 (A.toN v68))).gcell))))])), (1472, .arr .rw [] (LEN y118) 4 (row GD (encRect) y118)), (768, .var [.v (.int .i64 (GD y66 (A.nadd 0 (A.toN v68))).gcell), .v (.int .i64 (GD y66 (A.nadd 0 (A.toN v68))).gplace.fOrientation), .v (.int .i64 (GD y66 (A.nadd 0 (A.toN v68))).gplace.fX), .v (.int .i64 (GD y66 (A.nadd 0 (A.toN v68))).gplace.fY)]), (3328, .arr .rw [] (LEN y66) 4 (row GD (encelement) y66)), (3970, .arr .rw [] (LEN (GD v4 (A.nadd 0 (A.toN (GD y66 (A.nadd 0 (A.toN v68))).gcell)))) 4 (row GD (encRect) (GD v4 (A.nadd 0 (A.toN (GD y66 (A.nadd 0 (A.toN v68))).gcell)))))]) := ⟨_, rfl⟩
                      refine ⟨S122, ?_, ?_⟩
                      · clear h
                        have h := hy119
                        clear hy119
                        cbv
                        replace h := of_bind h
                        obtain ⟨y125, hy126, h⟩ := h
                        refine ⟨{ args := [.agg [.v (.int .i64 (GD y66 (A.nadd 0 (A.toN v68))).gplace.fOrientation), .v (.int .i64 (GD y66 (A.nadd 0 (A.toN v68))).gplace.fX), .v (.int .i64 (GD y66 (A.nadd 0 (A.toN v68))).gplace.fY)], .agg [.v (.int .i64 w113), .v (.int .i64 w114), .v (.int .i64 w115), .v (.int .i64 w116)]], o0 := [], r := .agg [.v (.int .i64 y125.fX0), .v (.int .i64 y125.fY0), .v (.int .i64 y125.fX1), .v (.int .i64 y125.fY1)], o1 := [], fl := true, σ := [], τ := [] }, hf_impl_moveRect _ _ _ hy126, ⟨les_cons (AV.le_refl _) (les_cons (AV.le_refl _) (les_nil)), trivial, rfl, rfl, rfl, rfl, trivial, rfl⟩, ?_⟩
                        cbv
                        replace h := of_let h
                        obtain ⟨l127, hl127, h⟩ := h
                        have e128 : 1 = LEN l127 := by subst hl127 hLEN; rfl
                        refine ⟨_, congrArg (fun n => AV.c (AC.os 4672 0 n)) e128, _, row GD (encRect) l127, e128, ?_, ?_⟩
                        · intro i hi j hj
                          rw [← e128] at hi
                          subst hl127
                          subst hGD
                          obtain rfl : i = 0 := (by omega) <;> obtain rfl | rfl | rfl | rfl : j = 0 ∨ j = 1 ∨ j = 2 ∨ j = 3 := (by omega)
                          all_goals rfl
                        cbv
                        replace h := of_req h
                        obtain ⟨c131, h⟩ := h
                        replace h := of_let h
                        obtain ⟨l129, hl129, h⟩ := h
                        have e130 : A.nadd (LEN v94) (LEN l127) = LEN l129 := by subst hl129 hLEN hA; simp [std, len]
                        refine ⟨c131, _, congrArg (fun n => AV.c (AC.os 1472 0 n)) e130, _, row GD (encRect) l129, e130, ?_, ?_⟩
                        · subst hGD hLEN hA
                          exact app_os (off := 0) (pl_encRect) hl129 (Nat.le_refl _)
                        cbv
                        injection h with h
                        subst h
                        subst hS123
                        show St.le _ _
                        exact le_sparse rfl ⟨AV.le_refl _, AV.le_refl _, AV.le_refl _, AV.le_refl _, AV.le_refl _, AV.le_refl _, AV.le_refl _, AV.le_refl _, AV.le_refl _, AV.le_refl _, AV.le_refl _, AV.le_refl _, trivial⟩ ⟨⟨fun hw => hw, fun c hc => (by cases hc), .inl rfl, rfl, rfl, fun i hi j hj => rfl⟩, ⟨fun hw => hw, fun c hc => (by cases hc), .inl rfl, rfl, rfl, fun i hi j hj => rfl⟩, rfl, ⟨fun hw => hw, fun c hc => (by cases hc), .inl rfl, rfl, rfl, fun i hi j hj => rfl⟩, ⟨fun hw => hw, fun c hc => (by cases hc), .inl rfl, rfl, rfl, fun i hi j hj => rfl⟩, trivial⟩ rfl
                      · clear hy119
                        subst hS123
                        replace h := of_let h
                        obtain ⟨w124, hw124, h⟩ := h
                        have hw124 : w124 = y118 := hw124
                        subst hw124
                        cbv
                        injection h with h
                        refine hK101 _ h.symm _ ?_
                        exact le_sparse rfl ⟨AV.le_refl _, AV.le_refl _, AV.le_refl _, AV.le_refl _, AV.le_refl _, AV.le_refl _, AV.le_refl _, AV.le_refl _, AV.le_refl _, AV.le_refl _, AV.le_refl _, AV.le_refl _, trivial⟩ ⟨⟨fun hw => hw, fun c hc => (by cases hc), .inl rfl, rfl, rfl, fun i hi j hj => rfl⟩, ⟨fun hw => hw, fun c hc => (by cases hc), .inl rfl, rfl, rfl, fun i hi j hj => rfl⟩, rfl, ⟨fun hw => hw, fun c hc => (by cases hc), .inl rfl, rfl, rfl, fun i hi j hj => rfl⟩, ⟨fun hw => hw, fun c hc => (by cases hc), .inl rfl, rfl, rfl, fun i hi j hj => rfl⟩, trivial⟩ rfl
                  · replace h := of_br_f b132 h
                    cbv
                    injection h with h
                    refine hY99 _ h.symm _ _ (And.intro rfl ?_) (by intro hh; cases hh)
                    refine St.le_trans (le_foldP 960 0 3970 rfl rfl rfl (by decide) (by subst hA; exact idx_lt c92) (by decide) rfl (fun _ _ => rfl)) ?_
                    exact le_sparse rfl ⟨AV.le_refl _, AV.le_refl _, AV.le_refl _, AV.le_refl _, AV.le_refl _, AV.le_refl _, AV.le_refl _, AV.le_refl _, trivial⟩ ⟨⟨fun hw => hw, fun c hc => (by cases hc), .inr (fun i _ j _ z hz => (noref (rfl) hz).elim), rfl, rfl, (by subst hGD hLEN hA; exact patch_same (by intro j hj; match j, hj with | 0, _ => rfl | (j_ + 1), h_ => exact absurd h_ (by omega)))⟩, ⟨fun hw => hw, fun c hc => (by cases hc), .inl rfl, rfl, rfl, fun i hi j hj => rfl⟩, ⟨fun hw => hw, fun c hc => (by cases hc), .inl rfl, rfl, rfl, fun i hi j hj => rfl⟩, trivial⟩ rfl
                · clear hr97
                  have h := hN98
                  clear hN98
                  intro e105 s106 q104 hne
                  replace h := of_let h
                  obtain ⟨y96k0, hyk, h⟩ := h
                  have hyk : y96k0 = y96 := hyk
                  subst hyk
                  obtain ⟨rfl, q104⟩ := q104
                  replace h := of_let h
                  obtain ⟨w133, hw133, h⟩ := h
                  have hw133 : w133 = y96k0 := hw133
                  subst hw133
                  cbv
                  refine ⟨_, q104, ?_⟩
                  cbv
                  injection h with h
                  refine hK76 _ h.symm _ ?_
                  exact le_sparse rfl ⟨AV.le_refl _, AV.le_refl _, AV.le_refl _, AV.le_refl _, AV.le_refl _, AV.le_refl _, AV.le_refl _, AV.le_refl _, trivial⟩ ⟨⟨fun hw => hw, fun c hc => (by cases hc), .inl rfl, rfl, rfl, fun i hi j hj => rfl⟩, ⟨fun hw => hw, fun c hc => (by cases hc), .inl rfl, rfl, rfl, fun i hi j hj => rfl⟩, ⟨fun hw => hw, fun c hc => (by cases hc), .inl rfl, rfl, rfl, fun i hi j hj => rfl⟩, trivial⟩ rfl
            · replace h := of_br_f b134 h
              cbv
              injection h with h
              refine hY74 _ h.symm _ _ (And.intro rfl ?_) (by intro hh; cases hh)
              exact le_sparse rfl ⟨AV.le_refl _, AV.le_refl _, AV.le_refl _, AV.le_refl _, AV.le_refl _, trivial⟩ ⟨⟨fun hw => hw, fun c hc => (by cases hc), .inl rfl, rfl, rfl, fun i hi j hj => rfl⟩, ⟨fun hw => hw, fun c hc => (by cases hc), .inl rfl, rfl, rfl, fun i hi j hj => rfl⟩, trivial⟩ rfl
          · clear hr72
            have h := hN73
            clear hN73
            intro e80 s81 q79 hne
            replace h := of_let h
            obtain ⟨y71k0, hyk, h⟩ := h
            have hyk : y71k0 = y71 := hyk
            subst hyk
            obtain ⟨rfl, q79⟩ := q79
            replace h := of_let h
            obtain ⟨w135, hw135, h⟩ := h
            have hw135 : w135 = y71k0 := hw135
            subst hw135
            cbv
            refine ⟨_, q79, ?_⟩
            cbv
            replace h := of_bind h
            obtain ⟨y136, hy137, h⟩ := h
            obtain ⟨S140, hS141⟩ : ∃ S, S = some (sparse 89 [(3, .c (.os 960 0 (LEN v4))), (6, .c (.os 5248 0 (LEN y136))), (17, .c (.bs (LEN a0.fCells) 4 (row GD (encCell LEN GD) a0.fCells))), (18, .c (.v (.int .i64 (A.ofN (LEN a0.fCells))))), (19, .c (.v (.int .i64 v3)))] [(960, .arr .rw [] (LEN v4) 1 (row GD (oncL LEN GD 4 (encRect)) v4)), (5248, .arr .rw [] (LEN y136) 4 (row GD (encRect) y136))]) := ⟨_, rfl⟩
            refine ⟨S140, ?_, ?_⟩
            · clear h
              have h := hy137
              clear hy137
              cbv
              refine fork (fun b147 => ?_) (fun b147 => ?_)
              · replace h := of_br_t b147 h
                cbv
                replace h := of_bind h
                obtain ⟨y143, hy144, h⟩ := h
                refine ⟨{ args := [.c (.bs (LEN w135) 4 (row GD (encRect) w135))], o0 := [], r := .agg [.v (.int .i64 y143.fX0), .v (.int .i64 y143.fY0), .v (.int .i64 y143.fX1), .v (.int .i64 y143.fY1)], o1 := [], fl := true, σ := [], τ := [] }, hf_impl_boxOf _ _ hy144, ⟨les_cons (give_os (pl_encRect) rfl rfl rfl) (les_nil), trivial, rfl, rfl, rfl, rfl, trivial, rfl⟩, ?_⟩
                cbv
                replace h := of_let h
                obtain ⟨l145, hl145, h⟩ := h
                have e146 : 1 = LEN l145 := by subst hl145 hLEN; rfl
                refine ⟨_, congrArg (fun n => AV.c (AC.os 5248 0 n)) e146, _, row GD (encRect) l145, e146, ?_, ?_⟩
                · intro i hi j hj
                  rw [← e146] at hi
                  subst hl145
                  subst hGD
                  obtain rfl : i = 0 := (by omega) <;> obtain rfl | rfl | rfl | rfl : j = 0 ∨ j = 1 ∨ j = 2 ∨ j = 3 := (by omega)
                  all_goals rfl
                cbv
                injection h with h
                subst h
                subst hS141
                show St.le _ _
                exact le_sparse rfl ⟨AV.le_refl _, AV.le_refl _, AV.le_refl _, AV.le_refl _, AV.le_refl _, trivial⟩ ⟨⟨fun hw => hw, fun c hc => (by cases hc), .inl rfl, rfl, rfl, fun i hi j hj => rfl⟩, ⟨fun hw => hw, fun c hc => (by cases hc), .inl rfl, rfl, rfl, fun i hi j hj => rfl⟩, trivial⟩ rfl
              · replace h := of_br_f b147 h
                cbv
                injection h with h
                subst h
                subst hS141
                show St.le _ _
                refine St.le_trans (le_ren 1472 5248 (by decide) rfl) ?_
                exact le_sparse rfl ⟨AV.le_refl _, AV.le_refl _, AV.le_refl _, AV.le_refl _, AV.le_refl _, trivial⟩ ⟨⟨fun hw => hw, fun c hc => (by cases hc), .inl rfl, rfl, rfl, fun i hi j hj => rfl⟩, ⟨fun hw => hw, fun c hc => (by cases hc), .inl rfl, rfl, rfl, fun i hi j hj => rfl⟩, trivial⟩ rfl
            · clear hy137
              subst hS141
              replace h := of_let h
              obtain ⟨w142, hw142, h⟩ := h
              have hw142 : w142 = y136 := hw142
              subst hw142
              cbv
              replace h := of_bind h
              obtain ⟨y148, hy149, h⟩ := h
              obtain ⟨S152, hS153⟩ : ∃ S, S = (sparse 89 [(3, .c (.os 960 0 (LEN y148))), (17, .c (.bs (LEN a0.fCells) 4 (row GD (encCell LEN GD) a0.fCells))), (18, .c (.v (.int .i64 (A.ofN (LEN a0.fCells))))), (19, .c (.v (.int .i64 v3)))] [(960, .arr .rw [] (LEN y148) 1 (row GD (oncL LEN GD 4 (encRect)) y148))]) := ⟨_, rfl⟩
              refine ⟨S152, ?_, ?_⟩
              · clear h
                have h := hy149
                clear hy149
                cbv
                replace h := of_let h
                obtain ⟨l155, hl155, h⟩ := h
                have e156 : 1 = LEN l155 := by subst hl155 hLEN; rfl
                refine ⟨_, congrArg (fun n => AV.c (AC.os 5440 0 n)) e156, _, (patchC (row GD (oncL LEN GD 4 (encRect)) ([] : List (List TRect))) 0 [.os 5248 0 (LEN w142)]), e156, ?_, ?_⟩
                · refine patch_one (by subst hl155 hLEN; rfl) ?_
                  intro j hj
                  match j, hj with | 0, _ => (rfl) | (j_ + 1), h_ => exact absurd h_ (by omega)
                cbv
                replace h := of_req h
                obtain ⟨c159, h⟩ := h
                replace h := of_let h
                obtain ⟨l157, hl157, h⟩ := h
                have e158 : A.nadd (LEN v4) (LEN l155) = LEN l157 := by subst hl157 hLEN hA; simp [std, len]
                refine ⟨c159, _, congrArg (fun n => AV.c (AC.os 960 0 n)) e158, _, (patchC (row GD (oncL LEN GD 4 (encRect)) v4) (LEN v4) [.os 5248 0 (LEN w142)]), e158, ?_, ?_⟩
                · subst hLEN hA
                  refine patch_joinG (by first | (rw [hl157]; simp [len]; done) | (rw [hl157]; simp [len]; omega) | (subst_vars; simp [len])) ?_
                  intro j hj
                  match j, hj with | 0, _ => (rfl) | (j_ + 1), h_ => exact absurd h_ (by omega)
                cbv
                rw [hl155] at hl157
                injection h with h
                subst h
                subst hS153
                show St.le _ _
                refine St.le_trans (le_foldP 960 0 5248 rfl rfl rfl (by decide) (by subst hLEN; exact app_lt hl157) (by decide) rfl (fun _ _ => rfl)) ?_
                exact le_sparse rfl ⟨AV.le_refl _, AV.le_refl _, AV.le_refl _, AV.le_refl _, trivial⟩ ⟨⟨fun hw => hw, fun c hc => (by cases hc), .inr (fun i _ j _ z hz => (noref (rfl) hz).elim), rfl, rfl, (by subst hGD hLEN hA; exact patch_app hl157 (Nat.le_refl _) (by intro j hj; match j, hj with | 0, _ => rfl | (j_ + 1), h_ => exact absurd h_ (by omega)))⟩, trivial⟩ rfl
              · clear hy149
                subst hS153
                replace h := of_let h
                obtain ⟨w154, hw154, h⟩ := h
                have hw154 : w154 = y148 := hw154
                subst hw154
                cbv
                injection h with h
                refine hK11 _ h.symm _ ?_
                exact le_sparse rfl ⟨AV.le_refl _, AV.le_refl _, AV.le_refl _, AV.le_refl _, trivial⟩ ⟨⟨fun hw => hw, fun c hc => (by cases hc), .inl rfl, rfl, rfl, fun i hi j hj => rfl⟩, trivial⟩ rfl
    · replace h := of_br_f b160 h
      cbv
      injection h with h
      refine hY9 _ h.symm _ _ (And.intro rfl ?_) (by intro hh; cases hh)
      exact le_sparse rfl ⟨AV.le_refl _, trivial⟩ ⟨⟨fun hw => hw, fun c hc => (by cases hc), .inl rfl, rfl, rfl, fun i hi j hj => rfl⟩, trivial⟩ rfl
  · clear hr7
    have h := hN8
    clear hN8
    intro e15 s16 q14 hne
    replace h := of_let h
    obtain ⟨y6k0, hyk, h⟩ := h
    have hyk : y6k0 = y6 := hyk
    subst hyk
    obtain ⟨rfl, q14⟩ := q14
    replace h := of_let h
    obtain ⟨w161, hw161, h⟩ := h
    have hw161 : w161 = y6k0 := hw161
    subst hw161
    cbv
    refine ⟨_, q14, ?_⟩
    cbv
    injection h with h
    subst h
    refine ⟨(sparse 89 [(2, .c (.os 64000 0 (LEN w161)))] [(64000, .arr .rw [] (LEN w161) 1 (row GD (oncL LEN GD 4 (encRect)) w161))]), ?_, ?_⟩
    · refine St.le_trans (le_ren 960 64000 (by decide) rfl) ?_
      exact le_sparse rfl ⟨AV.le_refl _, trivial⟩ ⟨⟨fun hw => hw, fun c hc => (by cases hc), .inl rfl, rfl, rfl, fun i hi j hj => rfl⟩, trivial⟩ rfl
    · exact ⟨AV.le_refl _, ⟨⟨fun hw => hw, fun c hc => (by cases hc), .inl rfl, rfl, rfl, fun i hi j hj => rfl⟩, trivial⟩, rfl⟩
end Go.Proofs.Ytmdlnjeppemipaa.AM
