/-
  What the functions that the law reaches compute, and that they do. No condition.
-/
import Derived.Test.YtnmfighfidaglaaAmV
namespace Go.Proofs.Ytnmfighfidaglaa.AM
open Go Go.Proofs Go.RowKit
set_option linter.unusedVariables false
set_option linter.unusedSimpArgs false
set_option maxRecDepth 100000

/-- impl.named$1 -/
noncomputable def F_impl_named_1_mbp (a0 : TCell) (a1 : ByteArray) : Option (Bool) :=
  some (std.seq a0.fName a1)
theorem run_impl_named_1_mbp (a0 : TCell) (a1 : ByteArray) (r : Bool) (h : F_impl_named_1_mbp a0 a1 = some r) : Fun Try.prog 222 [.agg [.v (.string a0.fName), .bs (len a0.fShapes) 5 (row gd (encShape) a0.fShapes), .bs (len a0.fLabels) 4 (row gd (encLabel) a0.fLabels), .bs (len a0.fInstances) 8 (row gd (encInstance) a0.fInstances)], .c (.bp 1 (encS a1))] [] (.c (.v (.bool r))) [] true := by
  refine Fun.of_wp (oneOf []) tok mixed Try.func222 (by kernel_rfl) rfl Try.ntmps222 rfl trivial (fun _ => ⟨trivial, trivial⟩) ?_
  unfold F_impl_named_1_mbp at h
  generalize hLEN : @len = LEN at *
  generalize hGD : @gd = GD at *
  generalize hA : std = A at *
  generalize hP : Try.prog = P at *
  cbv
  injection h with h
  subst h
  refine ⟨(sparse 8 [(3, .c (.v (.bool (A.seq a0.fName a1))))] []), ?_, ?_⟩
  · exact le_sparse rfl ⟨AV.le_refl _, trivial⟩ trivial rfl
  · exact ⟨AV.le_refl _, trivial, rfl⟩

noncomputable def L_slices_IndexFunc_Limpl_Cell_impl_Cell_mbFimpl_named_1p_x2 (a0 : List TCell) (a1_0 : ByteArray) : (Int) → Option ((Int) ⊕ ((Int) ⊕ (Unit))) := fun x2 =>
  letO x2 fun v1 =>
  br (std.lt v1 (std.ofN (len a0)))
  (req (std.inR v1 (len a0)) <|
  (F_impl_named_1_mbp (gd a0 (std.toN v1)) a1_0).bind fun y15 =>
  br y15
  (some (.inr (.inl v1)))
  (some (.inl (std.add .i64 v1 1))))
  (some (.inr (.inr ())))
/-- impl.Cell] -/
noncomputable def F_slices_IndexFunc_Limpl_Cell_impl_Cell_mbFimpl_named_1p (a0 : List TCell) (a1_0 : ByteArray) : Option (Int) :=
  (whileP (σ := Int) (ρ := (Int) ⊕ (Unit)) (L_slices_IndexFunc_Limpl_Cell_impl_Cell_mbFimpl_named_1p_x2 a0 a1_0) 0).bind fun y3 =>
  (match y3 with
    | .inl y3k0 => (
        letO y3k0 fun w19 =>
        some w19)
    | .inr y3m0 =>
        some (-1))
theorem run_slices_IndexFunc_Limpl_Cell_impl_Cell_mbFimpl_named_1p (a0 : List TCell) (a1_0 : ByteArray) (r : Int) (h : F_slices_IndexFunc_Limpl_Cell_impl_Cell_mbFimpl_named_1p a0 a1_0 = some r) : Fun Try.prog 221 [.c (.bs (len a0) 4 (row gd (encCell len gd) a0)), .c (.fn 222 1 fun j => ([.bp 1 (encS a1_0)] : List AC).getD j .junk)] [] (.c (.v (.int .i64 r))) [] true := by
  refine Fun.of_wp (oneOf []) tok mixed Try.func221 (by kernel_rfl) rfl Try.ntmps221 rfl trivial (fun _ => ⟨trivial, trivial⟩) ?_
  unfold F_slices_IndexFunc_Limpl_Cell_impl_Cell_mbFimpl_named_1p at h
  unfold L_slices_IndexFunc_Limpl_Cell_impl_Cell_mbFimpl_named_1p_x2 at h
  have hf_impl_named_1_mbp := @run_impl_named_1_mbp
  generalize hLEN : @len = LEN at *
  generalize hGD : @gd = GD at *
  generalize hA : std = A at *
  generalize hP : Try.prog = P at *
  cbv
  replace h := of_bind h
  obtain ⟨y3, hr4, hN5⟩ := h
  refine loop_cut hr4 (fun x => (sparse 19 [(0, .c (.bs (LEN a0) 4 (row GD (encCell LEN GD) a0))), (1, .c (.fn 222 1 fun j => ([.bp 1 (encS a1_0)] : List AC).getD j .junk)), (7, .c (.v (.int .i64 (A.ofN (LEN a0))))), (8, .c (.v (.int .i64 x)))] [])) ?_ (fun y e s => (match y with | .inl w => e = .ret ∧ s.le (sparse 19 [(4, .c (.v (.int .i64 w)))] []) | .inr w0 => (fun (w : Unit) => e = .exit 0 ∧ s.le (sparse 19 [] [])) w0)) ?_ ?_
  · clear hr4 hN5
    show St.le _ _
    exact le_sparse rfl ⟨AV.le_refl _, AV.le_refl _, AV.le_refl _, AV.le_refl _, trivial⟩ trivial rfl
  · clear hr4 hN5
    intro x z9 h K7 hK8 hY6
    replace h := of_let h
    obtain ⟨v1, hv1, h⟩ := h
    have hv1 : v1 = x := hv1
    subst hv1
    cbv
    refine fork (fun b18 => ?_) (fun b18 => ?_)
    · replace h := of_br_t b18 h
      cbv
      replace h := of_req h
      obtain ⟨c14, h⟩ := h
      refine ⟨⟨c14, trivial⟩, ?_⟩
      replace h := of_bind h
      obtain ⟨y15, hy16, h⟩ := h
      refine ⟨{ args := [.agg [.v (.string (GD a0 (A.toN v1)).fName), .bs (LEN (GD a0 (A.toN v1)).fShapes) 5 (row GD (encShape) (GD a0 (A.toN v1)).fShapes), .bs (LEN (GD a0 (A.toN v1)).fLabels) 4 (row GD (encLabel) (GD a0 (A.toN v1)).fLabels), .bs (LEN (GD a0 (A.toN v1)).fInstances) 8 (row GD (encInstance) (GD a0 (A.toN v1)).fInstances)], .c (.bp 1 (encS a1_0))], o0 := [], r := .c (.v (.bool y15)), o1 := [], fl := true, σ := [], τ := [] }, hf_impl_named_1_mbp _ _ _ hy16, ⟨les_cons (AV.le_refl _) (les_cons (le_bp (show 1 ≤ 1 from by decide) (by intro j hj; match j, hj with | 0, _ => exact rle_refl _ | (j_ + 1), h_ => exact absurd h_ (by omega))) (les_nil)), trivial, rfl, rfl, rfl, rfl, trivial, rfl⟩, ?_⟩
      cbv
      refine fork (fun b17 => ?_) (fun b17 => ?_)
      · replace h := of_br_t b17 h
        cbv
        injection h with h
        refine hY6 _ h.symm _ _ (And.intro rfl ?_) (by intro hh; cases hh)
        exact le_sparse rfl ⟨AV.le_refl _, trivial⟩ trivial rfl
      · replace h := of_br_f b17 h
        cbv
        injection h with h
        refine hK8 _ h.symm _ ?_
        exact le_sparse rfl ⟨AV.le_refl _, AV.le_refl _, AV.le_refl _, AV.le_refl _, trivial⟩ trivial rfl
    · replace h := of_br_f b18 h
      cbv
      injection h with h
      refine hY6 _ h.symm _ _ (And.intro rfl ?_) (by intro hh; cases hh)
      exact le_sparse rfl trivial trivial rfl
  · clear hr4
    have h := hN5
    clear hN5
    intro e12 s13 q11 hne
    rcases y3 with y3k0 | y3m0
    · replace h := h
      obtain ⟨rfl, q11⟩ := q11
      replace h := of_let h
      obtain ⟨w19, hw19, h⟩ := h
      have hw19 : w19 = y3k0 := hw19
      subst hw19
      cbv
      injection h with h
      subst h
      refine ⟨(sparse 19 [(4, .c (.v (.int .i64 w19)))] []), ?_, ?_⟩
      · refine St.le_trans q11 ?_
        exact le_sparse rfl ⟨AV.le_refl _, trivial⟩ trivial rfl
      · exact ⟨AV.le_refl _, trivial, rfl⟩
    · obtain ⟨rfl, q11⟩ := q11
      cbv
      refine ⟨_, q11, ?_⟩
      cbv
      injection h with h
      subst h
      refine ⟨(sparse 19 [(4, .c (.v (.int .i64 (-1))))] []), ?_, ?_⟩
      · exact le_sparse rfl ⟨AV.le_refl _, trivial⟩ trivial rfl
      · exact ⟨AV.le_refl _, trivial, rfl⟩

/-- impl.named -/
noncomputable def F_impl_named (a0 : TLibrary) (a1 : ByteArray) : Option (Int) :=
  (F_slices_IndexFunc_Limpl_Cell_impl_Cell_mbFimpl_named_1p a0.fCells a1).bind fun y1 =>
  some y1
theorem run_impl_named (a0 : TLibrary) (a1 : ByteArray) (r : Int) (h : F_impl_named a0 a1 = some r) : Fun Try.prog 185 [.agg [.bs (len a0.fCells) 4 (row gd (encCell len gd) a0.fCells)], .c (.v (.string a1))] [] (.c (.v (.int .i64 r))) [] true := by
  refine Fun.of_wp (oneOf []) tok mixed Try.func185 (by kernel_rfl) rfl Try.ntmps185 rfl trivial (fun _ => ⟨trivial, trivial⟩) ?_
  unfold F_impl_named at h
  have hf_slices_IndexFunc_Limpl_Cell_impl_Cell_mbFimpl_named_1p := @run_slices_IndexFunc_Limpl_Cell_impl_Cell_mbFimpl_named_1p
  generalize hLEN : @len = LEN at *
  generalize hGD : @gd = GD at *
  generalize hA : std = A at *
  generalize hP : Try.prog = P at *
  cbv
  replace h := of_bind h
  obtain ⟨y1, hy2, h⟩ := h
  refine ⟨{ args := [.c (.bs (LEN a0.fCells) 4 (row GD (encCell LEN GD) a0.fCells)), .c (.fn 222 1 fun j => ([.bp 1 (encS a1)] : List AC).getD j .junk)], o0 := [], r := .c (.v (.int .i64 y1)), o1 := [], fl := true, σ := [], τ := [] }, hf_slices_IndexFunc_Limpl_Cell_impl_Cell_mbFimpl_named_1p _ _ _ hy2, ⟨les_cons (AV.le_refl _) (les_cons (le_fn (by intro j hj; match j, hj with | 0, _ => exact le_bp (show 1 ≤ 1 from by decide) (by intro j hj; match j, hj with | 0, _ => exact rle_refl _ | (j_ + 1), h_ => exact absurd h_ (by omega)) | (j_ + 1), h_ => exact absurd h_ (by omega))) (les_nil)), trivial, rfl, rfl, rfl, rfl, trivial, rfl⟩, ?_⟩
  cbv
  injection h with h
  subst h
  refine ⟨(sparse 9 [(4, .c (.v (.int .i64 y1)))] []), ?_, ?_⟩
  · exact le_sparse rfl ⟨AV.le_refl _, trivial⟩ trivial rfl
  · exact ⟨AV.le_refl _, trivial, rfl⟩

noncomputable def L_impl_IsValidLibrary_x10 (a0 : TLibrary) : (Int) → Option ((Int) ⊕ ((Bool) ⊕ (Unit))) := fun x10 =>
  letO x10 fun v9 =>
  br (std.lt v9 (std.ofN (len a0.fCells)))
  (req (std.inR v9 (len a0.fCells)) <|
  ((
        (F_impl_validCell (gd a0.fCells (std.toN v9)) v9).bind fun y30 =>
        br (!(y30))
        (some true)
        ((F_impl_named (TLibrary.mk a0.fCells) (gd a0.fCells (std.toN v9)).fName).bind fun y32 =>
        some (std.not (std.eq y32 v9)))
    ) : Option (Bool)).bind fun y23 =>
  letO y23 fun w29 =>
  br w29
  (some (.inr (.inl false)))
  (some (.inl (std.add .i64 v9 1))))
  (some (.inr (.inr ())))
/-- impl.IsValidLibrary -/
noncomputable def F_impl_IsValidLibrary (a0 : TLibrary) : Option (Bool) :=
  ((
        br (std.lt (std.ofN (len a0.fCells)) 1)
        (some true)
        (some (std.lt 8 (std.ofN (len a0.fCells))))
    ) : Option (Bool)).bind fun y1 =>
  letO y1 fun w7 =>
  br w7
  (some false)
  ((whileP (σ := Int) (ρ := (Bool) ⊕ (Unit)) (L_impl_IsValidLibrary_x10 a0) 0).bind fun y11 =>
  (match y11 with
    | .inl y11k0 => (
        letO y11k0 fun w37 =>
        some w37)
    | .inr y11m0 =>
        some true))
theorem run_impl_IsValidLibrary (a0 : TLibrary) (r : Bool) (h : F_impl_IsValidLibrary a0 = some r) : Fun Try.prog 124 [.agg [.bs (len a0.fCells) 4 (row gd (encCell len gd) a0.fCells)]] [] (.c (.v (.bool r))) [] true := by
  refine Fun.of_wp (oneOf [1, 6]) tok mixed Try.func124 (by kernel_rfl) rfl Try.ntmps124 rfl trivial (fun _ => ⟨trivial, trivial⟩) ?_
  unfold F_impl_IsValidLibrary at h
  unfold L_impl_IsValidLibrary_x10 at h
  have hf_impl_named := @run_impl_named
  have hf_impl_validCell := @run_impl_validCell
  generalize hLEN : @len = LEN at *
  generalize hGD : @gd = GD at *
  generalize hA : std = A at *
  generalize hP : Try.prog = P at *
  cbv
  replace h := of_bind h
  obtain ⟨y1, hy2, h⟩ := h
  obtain ⟨S5, hS6⟩ : ∃ S, S = (sparse 36 [(1, .c (.ptr 64 0)), (14, .c (.v (.bool y1)))] [(64, .var [.bs (LEN a0.fCells) 4 (row GD (encCell LEN GD) a0.fCells)])]) := ⟨_, rfl⟩
  refine ⟨S5, ?_, ?_⟩
  · clear h
    have h := hy2
    clear hy2
    cbv
    refine fork (fun b8 => ?_) (fun b8 => ?_)
    · replace h := of_br_t b8 h
      cbv
      injection h with h
      subst h
      subst hS6
      show St.le _ _
      exact le_sparse rfl ⟨AV.le_refl _, AV.le_refl _, trivial⟩ ⟨rfl, trivial⟩ rfl
    · replace h := of_br_f b8 h
      cbv
      injection h with h
      subst h
      subst hS6
      show St.le _ _
      exact le_sparse rfl ⟨AV.le_refl _, AV.le_refl _, trivial⟩ ⟨rfl, trivial⟩ rfl
  · clear hy2
    subst hS6
    replace h := of_let h
    obtain ⟨w7, hw7, h⟩ := h
    have hw7 : w7 = y1 := hw7
    subst hw7
    cbv
    refine fork (fun b38 => ?_) (fun b38 => ?_)
    · replace h := of_br_t b38 h
      cbv
      injection h with h
      subst h
      refine ⟨(sparse 36 [(2, .c (.v (.bool false)))] []), ?_, ?_⟩
      · exact le_sparse rfl ⟨AV.le_refl _, trivial⟩ trivial rfl
      · exact ⟨AV.le_refl _, trivial, rfl⟩
    · replace h := of_br_f b38 h
      cbv
      replace h := of_bind h
      obtain ⟨y11, hr12, hN13⟩ := h
      refine loop_cut hr12 (fun x => (sparse 36 [(1, .c (.ptr 64 0)), (16, .c (.bs (LEN a0.fCells) 4 (row GD (encCell LEN GD) a0.fCells))), (17, .c (.v (.int .i64 (A.ofN (LEN a0.fCells))))), (18, .c (.v (.int .i64 x)))] [(64, .var [.bs (LEN a0.fCells) 4 (row GD (encCell LEN GD) a0.fCells)])])) ?_ (fun y e s => (match y with | .inl w => e = .ret ∧ s.le (sparse 36 [(2, .c (.v (.bool w)))] []) | .inr w0 => (fun (w : Unit) => e = .exit 0 ∧ s.le (sparse 36 [] [])) w0)) ?_ ?_
      · clear hr12 hN13
        show St.le _ _
        exact le_sparse rfl ⟨AV.le_refl _, AV.le_refl _, AV.le_refl _, AV.le_refl _, trivial⟩ ⟨rfl, trivial⟩ rfl
      · clear hr12 hN13
        intro x z17 h K15 hK16 hY14
        replace h := of_let h
        obtain ⟨v9, hv9, h⟩ := h
        have hv9 : v9 = x := hv9
        subst hv9
        cbv
        refine fork (fun b36 => ?_) (fun b36 => ?_)
        · replace h := of_br_t b36 h
          cbv
          replace h := of_req h
          obtain ⟨c22, h⟩ := h
          refine ⟨⟨c22, trivial⟩, ?_⟩
          replace h := of_bind h
          obtain ⟨y23, hy24, h⟩ := h
          obtain ⟨S27, hS28⟩ : ∃ S, S = (sparse 36 [(1, .c (.ptr 64 0)), (16, .c (.bs (LEN a0.fCells) 4 (row GD (encCell LEN GD) a0.fCells))), (17, .c (.v (.int .i64 (A.ofN (LEN a0.fCells))))), (18, .c (.v (.int .i64 v9))), (34, .c (.v (.bool y23)))] [(64, .var [.bs (LEN a0.fCells) 4 (row GD (encCell LEN GD) a0.fCells)])]) := ⟨_, rfl⟩
          refine ⟨S27, ?_, ?_⟩
          · clear h
            have h := hy24
            clear hy24
            cbv
            replace h := of_bind h
            obtain ⟨y30, hy31, h⟩ := h
            refine ⟨{ args := [.agg [.v (.string (GD a0.fCells (A.toN v9)).fName), .bs (LEN (GD a0.fCells (A.toN v9)).fShapes) 5 (row GD (encShape) (GD a0.fCells (A.toN v9)).fShapes), .bs (LEN (GD a0.fCells (A.toN v9)).fLabels) 4 (row GD (encLabel) (GD a0.fCells (A.toN v9)).fLabels), .bs (LEN (GD a0.fCells (A.toN v9)).fInstances) 8 (row GD (encInstance) (GD a0.fCells (A.toN v9)).fInstances)], .c (.v (.int .i64 v9))], o0 := [], r := .c (.v (.bool y30)), o1 := [], fl := true, σ := [], τ := [] }, hf_impl_validCell _ _ _ hy31, ⟨les_cons (AV.le_refl _) (les_cons (AV.le_refl _) (les_nil)), trivial, rfl, rfl, rfl, rfl, trivial, rfl⟩, ?_⟩
            cbv
            refine fork (fun b34 => ?_) (fun b34 => ?_)
            · replace h := of_br_t b34 h
              cbv
              injection h with h
              subst h
              subst hS28
              show St.le _ _
              exact le_sparse rfl ⟨AV.le_refl _, AV.le_refl _, AV.le_refl _, AV.le_refl _, AV.le_refl _, trivial⟩ ⟨rfl, trivial⟩ rfl
            · replace h := of_br_f b34 h
              cbv
              replace h := of_bind h
              obtain ⟨y32, hy33, h⟩ := h
              refine ⟨{ args := [.agg [.bs (LEN a0.fCells) 4 (row GD (encCell LEN GD) a0.fCells)], .c (.v (.string (GD a0.fCells (A.toN v9)).fName))], o0 := [], r := .c (.v (.int .i64 y32)), o1 := [], fl := true, σ := [], τ := [] }, hf_impl_named _ _ _ hy33, ⟨les_cons (AV.le_refl _) (les_cons (AV.le_refl _) (les_nil)), trivial, rfl, rfl, rfl, rfl, trivial, rfl⟩, ?_⟩
              cbv
              injection h with h
              subst h
              subst hS28
              show St.le _ _
              exact le_sparse rfl ⟨AV.le_refl _, AV.le_refl _, AV.le_refl _, AV.le_refl _, AV.le_refl _, trivial⟩ ⟨rfl, trivial⟩ rfl
          · clear hy24
            subst hS28
            replace h := of_let h
            obtain ⟨w29, hw29, h⟩ := h
            have hw29 : w29 = y23 := hw29
            subst hw29
            cbv
            refine fork (fun b35 => ?_) (fun b35 => ?_)
            · replace h := of_br_t b35 h
              cbv
              injection h with h
              refine hY14 _ h.symm _ _ (And.intro rfl ?_) (by intro hh; cases hh)
              exact le_sparse rfl ⟨AV.le_refl _, trivial⟩ trivial rfl
            · replace h := of_br_f b35 h
              cbv
              injection h with h
              refine hK16 _ h.symm _ ?_
              exact le_sparse rfl ⟨AV.le_refl _, AV.le_refl _, AV.le_refl _, AV.le_refl _, trivial⟩ ⟨rfl, trivial⟩ rfl
        · replace h := of_br_f b36 h
          cbv
          injection h with h
          refine hY14 _ h.symm _ _ (And.intro rfl ?_) (by intro hh; cases hh)
          exact le_sparse rfl trivial trivial rfl
      · clear hr12
        have h := hN13
        clear hN13
        intro e20 s21 q19 hne
        rcases y11 with y11k0 | y11m0
        · replace h := h
          obtain ⟨rfl, q19⟩ := q19
          replace h := of_let h
          obtain ⟨w37, hw37, h⟩ := h
          have hw37 : w37 = y11k0 := hw37
          subst hw37
          cbv
          injection h with h
          subst h
          refine ⟨(sparse 36 [(2, .c (.v (.bool w37)))] []), ?_, ?_⟩
          · refine St.le_trans q19 ?_
            exact le_sparse rfl ⟨AV.le_refl _, trivial⟩ trivial rfl
          · exact ⟨AV.le_refl _, trivial, rfl⟩
        · obtain ⟨rfl, q19⟩ := q19
          cbv
          refine ⟨_, q19, ?_⟩
          cbv
          injection h with h
          subst h
          refine ⟨(sparse 36 [(2, .c (.v (.bool true)))] []), ?_, ?_⟩
          · exact le_sparse rfl ⟨AV.le_refl _, trivial⟩ trivial rfl
          · exact ⟨AV.le_refl _, trivial, rfl⟩

/-- impl.hasCell -/
noncomputable def F_impl_hasCell (a0 : TLibrary) (a1 : Int) : Option (Bool) :=
  ((
        (F_impl_IsValidLibrary (TLibrary.mk a0.fCells)).bind fun y8 =>
        br y8
        ((F_impl_within a1 0 (std.sub .i64 (std.ofN (len a0.fCells)) 1)).bind fun y10 =>
        some y10)
        (some false)
    ) : Option (Bool)).bind fun y1 =>
  letO y1 fun w7 =>
  some w7
theorem run_impl_hasCell (a0 : TLibrary) (a1 : Int) (r : Bool) (h : F_impl_hasCell a0 a1 = some r) : Fun Try.prog 130 [.agg [.bs (len a0.fCells) 4 (row gd (encCell len gd) a0.fCells)], .c (.v (.int .i64 a1))] [] (.c (.v (.bool r))) [] true := by
  refine Fun.of_wp (oneOf [1]) tok mixed Try.func130 (by kernel_rfl) rfl Try.ntmps130 rfl trivial (fun _ => ⟨trivial, trivial⟩) ?_
  unfold F_impl_hasCell at h
  have hf_impl_IsValidLibrary := @run_impl_IsValidLibrary
  have hf_impl_within := @run_impl_within
  generalize hLEN : @len = LEN at *
  generalize hGD : @gd = GD at *
  generalize hA : std = A at *
  generalize hP : Try.prog = P at *
  cbv
  replace h := of_bind h
  obtain ⟨y1, hy2, h⟩ := h
  obtain ⟨S5, hS6⟩ : ∃ S, S = (sparse 15 [(4, .c (.v (.bool y1)))] []) := ⟨_, rfl⟩
  refine ⟨S5, ?_, ?_⟩
  · clear h
    have h := hy2
    clear hy2
    cbv
    replace h := of_bind h
    obtain ⟨y8, hy9, h⟩ := h
    refine ⟨{ args := [.agg [.bs (LEN a0.fCells) 4 (row GD (encCell LEN GD) a0.fCells)]], o0 := [], r := .c (.v (.bool y8)), o1 := [], fl := true, σ := [], τ := [] }, hf_impl_IsValidLibrary _ _ hy9, ⟨les_cons (AV.le_refl _) (les_nil), trivial, rfl, rfl, rfl, rfl, trivial, rfl⟩, ?_⟩
    cbv
    refine fork (fun b12 => ?_) (fun b12 => ?_)
    · replace h := of_br_t b12 h
      cbv
      replace h := of_bind h
      obtain ⟨y10, hy11, h⟩ := h
      refine ⟨{ args := [.c (.v (.int .i64 a1)), .c (.v (.int .i64 0)), .c (.v (.int .i64 (A.sub .i64 (A.ofN (LEN a0.fCells)) 1)))], o0 := [], r := .c (.v (.bool y10)), o1 := [], fl := true, σ := [], τ := [] }, hf_impl_within _ _ _ _ hy11, ⟨les_cons (AV.le_refl _) (les_cons (AV.le_refl _) (les_cons (AV.le_refl _) (les_nil))), trivial, rfl, rfl, rfl, rfl, trivial, rfl⟩, ?_⟩
      cbv
      injection h with h
      subst h
      subst hS6
      show St.le _ _
      exact le_sparse rfl ⟨AV.le_refl _, trivial⟩ trivial rfl
    · replace h := of_br_f b12 h
      cbv
      injection h with h
      subst h
      subst hS6
      show St.le _ _
      exact le_sparse rfl ⟨AV.le_refl _, trivial⟩ trivial rfl
  · clear hy2
    subst hS6
    replace h := of_let h
    obtain ⟨w7, hw7, h⟩ := h
    have hw7 : w7 = y1 := hw7
    subst hw7
    cbv
    injection h with h
    subst h
    refine ⟨(sparse 15 [(4, .c (.v (.bool w7)))] []), ?_, ?_⟩
    · exact le_sparse rfl ⟨AV.le_refl _, trivial⟩ trivial rfl
    · exact ⟨AV.le_refl _, trivial, rfl⟩

noncomputable def L_impl_CellLine_x8 (l3 : List TCell) : (Int × Int) → Option ((Int × Int) ⊕ ((Int))) := fun x8 =>
  letO x8.1 fun v6 =>
  letO x8.2 fun v7 =>
  br (std.lt v7 (std.ofN (len l3)))
  (req (std.inR v7 (len l3)) <|
  some (.inl (std.add .i64 v6 (std.add .i64 (std.add .i64 (std.add .i64 (std.ofN (len (gd l3 (std.toN v7)).fShapes)) (std.ofN (len (gd l3 (std.toN v7)).fLabels))) (std.ofN (len (gd l3 (std.toN v7)).fInstances))) 2), std.add .i64 v7 1)))
  (some (.inr v6))
/-- impl.CellLine -/
noncomputable def F_impl_CellLine (a0 : TLibrary) (a1 : Int) : Option (Int) :=
  (F_impl_hasCell (TLibrary.mk a0.fCells) a1).bind fun y1 =>
  br (!(y1))
  (some 0)
  (req (std.upTo a1 (len a0.fCells)) <|
  req (std.upTo 0 (std.toN a1)) <|
  letO (subL a0.fCells (std.toN 0) (std.toN a1)) fun l3 =>
  (whileP (σ := Int × Int) (ρ := (Int)) (L_impl_CellLine_x8 l3) (1, 0)).bind fun y9 =>
  letO y9 fun y9k0 =>
  letO y9k0 fun w22 =>
  some w22)
theorem run_impl_CellLine (a0 : TLibrary) (a1 : Int) (r : Int) (h : F_impl_CellLine a0 a1 = some r) : Fun Try.prog 59 [.agg [.bs (len a0.fCells) 4 (row gd (encCell len gd) a0.fCells)], .c (.v (.int .i64 a1))] [] (.c (.v (.int .i64 r))) [] true := by
  refine Fun.of_wp (oneOf []) tok mixed Try.func59 (by kernel_rfl) rfl Try.ntmps59 rfl trivial (fun _ => ⟨trivial, trivial⟩) ?_
  unfold F_impl_CellLine at h
  unfold L_impl_CellLine_x8 at h
  have hf_impl_hasCell := @run_impl_hasCell
  generalize hLEN : @len = LEN at *
  generalize hGD : @gd = GD at *
  generalize hA : std = A at *
  generalize hP : Try.prog = P at *
  cbv
  replace h := of_bind h
  obtain ⟨y1, hy2, h⟩ := h
  refine ⟨{ args := [.agg [.bs (LEN a0.fCells) 4 (row GD (encCell LEN GD) a0.fCells)], .c (.v (.int .i64 a1))], o0 := [], r := .c (.v (.bool y1)), o1 := [], fl := true, σ := [], τ := [] }, hf_impl_hasCell _ _ _ hy2, ⟨les_cons (AV.le_refl _) (les_cons (AV.le_refl _) (les_nil)), trivial, rfl, rfl, rfl, rfl, trivial, rfl⟩, ?_⟩
  cbv
  refine fork (fun b23 => ?_) (fun b23 => ?_)
  · replace h := of_br_t b23 h
    cbv
    injection h with h
    subst h
    refine ⟨(sparse 37 [(4, .c (.v (.int .i64 0)))] []), ?_, ?_⟩
    · exact le_sparse rfl ⟨AV.le_refl _, trivial⟩ trivial rfl
    · exact ⟨AV.le_refl _, trivial, rfl⟩
  · replace h := of_br_f b23 h
    cbv
    replace h := of_req h
    obtain ⟨c4, h⟩ := h
    replace h := of_req h
    obtain ⟨c5, h⟩ := h
    replace h := of_let h
    obtain ⟨l3, hl3, h⟩ := h
    refine And.intro (by first | exact ⟨c4, c5, trivial⟩ | exact ⟨c4, c5⟩) ?_
    refine ⟨.c (.bs (LEN l3) 4 (row GD (encCell LEN GD) l3)), ?_, ?_⟩
    · subst hGD hLEN hA
      exact le_sub c4 c5 hl3
    cbv
    replace h := of_bind h
    obtain ⟨y9, hr10, hN11⟩ := h
    refine loop_cut hr10 (fun x => (sparse 37 [(5, .c (.v (.int .i64 x.1))), (15, .c (.bs (LEN l3) 4 (row GD (encCell LEN GD) l3))), (16, .c (.v (.int .i64 (A.ofN (LEN l3))))), (17, .c (.v (.int .i64 x.2)))] [])) ?_ (fun y e s => (fun (w : Int) => e = .exit 0 ∧ s.le (sparse 37 [(5, .c (.v (.int .i64 w)))] [])) y) ?_ ?_
    · clear hr10 hN11
      show St.le _ _
      exact le_sparse rfl ⟨AV.le_refl _, AV.le_refl _, AV.le_refl _, AV.le_refl _, trivial⟩ trivial rfl
    · clear hr10 hN11
      intro x z15 h K13 hK14 hY12
      obtain ⟨x0_, x1_⟩ := x
      replace h := of_let h
      obtain ⟨v6, hv6, h⟩ := h
      have hv6 : v6 = x0_ := hv6
      subst hv6
      replace h := of_let h
      obtain ⟨v7, hv7, h⟩ := h
      have hv7 : v7 = x1_ := hv7
      subst hv7
      cbv
      refine fork (fun b21 => ?_) (fun b21 => ?_)
      · replace h := of_br_t b21 h
        cbv
        replace h := of_req h
        obtain ⟨c20, h⟩ := h
        refine ⟨⟨c20, trivial⟩, ?_⟩
        injection h with h
        refine hK14 _ h.symm _ ?_
        exact le_sparse rfl ⟨AV.le_refl _, AV.le_refl _, AV.le_refl _, AV.le_refl _, trivial⟩ trivial rfl
      · replace h := of_br_f b21 h
        cbv
        injection h with h
        refine hY12 _ h.symm _ _ (And.intro rfl ?_) (by intro hh; cases hh)
        exact le_sparse rfl ⟨AV.le_refl _, trivial⟩ trivial rfl
    · clear hr10
      have h := hN11
      clear hN11
      intro e18 s19 q17 hne
      replace h := of_let h
      obtain ⟨y9k0, hyk, h⟩ := h
      have hyk : y9k0 = y9 := hyk
      subst hyk
      obtain ⟨rfl, q17⟩ := q17
      replace h := of_let h
      obtain ⟨w22, hw22, h⟩ := h
      have hw22 : w22 = y9k0 := hw22
      subst hw22
      cbv
      refine ⟨_, q17, ?_⟩
      cbv
      injection h with h
      subst h
      refine ⟨(sparse 37 [(4, .c (.v (.int .i64 w22)))] []), ?_, ?_⟩
      · exact le_sparse rfl ⟨AV.le_refl _, trivial⟩ trivial rfl
      · exact ⟨AV.le_refl _, trivial, rfl⟩

/-- laws.eqRect -/
noncomputable def F_laws_eqRect (a0 : TRect) (a1 : TRect) : Option (Bool) :=
  br (std.not (std.eq a0.fX0 a1.fX0))
  (some false)
  (br (std.not (std.eq a0.fY0 a1.fY0))
  (some false)
  (br (std.not (std.eq a0.fX1 a1.fX1))
  (some false)
  (br (std.not (std.eq a0.fY1 a1.fY1))
  (some false)
  (some true))))
theorem run_laws_eqRect (a0 : TRect) (a1 : TRect) (r : Bool) (h : F_laws_eqRect a0 a1 = some r) : Fun Try.prog 198 [.agg [.v (.int .i64 a0.fX0), .v (.int .i64 a0.fY0), .v (.int .i64 a0.fX1), .v (.int .i64 a0.fY1)], .agg [.v (.int .i64 a1.fX0), .v (.int .i64 a1.fY0), .v (.int .i64 a1.fX1), .v (.int .i64 a1.fY1)]] [] (.c (.v (.bool r))) [] true := by
  refine Fun.of_wp (oneOf []) tok mixed Try.func198 (by kernel_rfl) rfl Try.ntmps198 rfl trivial (fun _ => ⟨trivial, trivial⟩) ?_
  unfold F_laws_eqRect at h
  generalize hLEN : @len = LEN at *
  generalize hGD : @gd = GD at *
  generalize hA : std = A at *
  generalize hP : Try.prog = P at *
  cbv
  refine fork (fun b4 => ?_) (fun b4 => ?_)
  · replace h := of_br_t b4 h
    cbv
    injection h with h
    subst h
    refine ⟨(sparse 25 [(4, .c (.v (.bool false)))] []), ?_, ?_⟩
    · exact le_sparse rfl ⟨AV.le_refl _, trivial⟩ trivial rfl
    · exact ⟨AV.le_refl _, trivial, rfl⟩
  · replace h := of_br_f b4 h
    cbv
    refine fork (fun b3 => ?_) (fun b3 => ?_)
    · replace h := of_br_t b3 h
      cbv
      injection h with h
      subst h
      refine ⟨(sparse 25 [(4, .c (.v (.bool false)))] []), ?_, ?_⟩
      · exact le_sparse rfl ⟨AV.le_refl _, trivial⟩ trivial rfl
      · exact ⟨AV.le_refl _, trivial, rfl⟩
    · replace h := of_br_f b3 h
      cbv
      refine fork (fun b2 => ?_) (fun b2 => ?_)
      · replace h := of_br_t b2 h
        cbv
        injection h with h
        subst h
        refine ⟨(sparse 25 [(4, .c (.v (.bool false)))] []), ?_, ?_⟩
        · exact le_sparse rfl ⟨AV.le_refl _, trivial⟩ trivial rfl
        · exact ⟨AV.le_refl _, trivial, rfl⟩
      · replace h := of_br_f b2 h
        cbv
        refine fork (fun b1 => ?_) (fun b1 => ?_)
        · replace h := of_br_t b1 h
          cbv
          injection h with h
          subst h
          refine ⟨(sparse 25 [(4, .c (.v (.bool false)))] []), ?_, ?_⟩
          · exact le_sparse rfl ⟨AV.le_refl _, trivial⟩ trivial rfl
          · exact ⟨AV.le_refl _, trivial, rfl⟩
        · replace h := of_br_f b1 h
          cbv
          injection h with h
          subst h
          refine ⟨(sparse 25 [(4, .c (.v (.bool true)))] []), ?_, ?_⟩
          · exact le_sparse rfl ⟨AV.le_refl _, trivial⟩ trivial rfl
          · exact ⟨AV.le_refl _, trivial, rfl⟩

/-- laws.eqShape -/
noncomputable def F_laws_eqShape (a0 : TShape) (a1 : TShape) : Option (Bool) :=
  br (std.not (std.eq a0.fLayer a1.fLayer))
  (some false)
  ((F_laws_eqRect a0.fBox a1.fBox).bind fun y1 =>
  br (!(y1))
  (some false)
  (some true))
theorem run_laws_eqShape (a0 : TShape) (a1 : TShape) (r : Bool) (h : F_laws_eqShape a0 a1 = some r) : Fun Try.prog 156 [.agg [.v (.int .i64 a0.fLayer), .v (.int .i64 a0.fBox.fX0), .v (.int .i64 a0.fBox.fY0), .v (.int .i64 a0.fBox.fX1), .v (.int .i64 a0.fBox.fY1)], .agg [.v (.int .i64 a1.fLayer), .v (.int .i64 a1.fBox.fX0), .v (.int .i64 a1.fBox.fY0), .v (.int .i64 a1.fBox.fX1), .v (.int .i64 a1.fBox.fY1)]] [] (.c (.v (.bool r))) [] true := by
  refine Fun.of_wp (oneOf []) tok mixed Try.func156 (by kernel_rfl) rfl Try.ntmps156 rfl trivial (fun _ => ⟨trivial, trivial⟩) ?_
  unfold F_laws_eqShape at h
  have hf_laws_eqRect := @run_laws_eqRect
  generalize hLEN : @len = LEN at *
  generalize hGD : @gd = GD at *
  generalize hA : std = A at *
  generalize hP : Try.prog = P at *
  cbv
  refine fork (fun b4 => ?_) (fun b4 => ?_)
  · replace h := of_br_t b4 h
    cbv
    injection h with h
    subst h
    refine ⟨(sparse 16 [(4, .c (.v (.bool false)))] []), ?_, ?_⟩
    · exact le_sparse rfl ⟨AV.le_refl _, trivial⟩ trivial rfl
    · exact ⟨AV.le_refl _, trivial, rfl⟩
  · replace h := of_br_f b4 h
    cbv
    replace h := of_bind h
    obtain ⟨y1, hy2, h⟩ := h
    refine ⟨{ args := [.agg [.v (.int .i64 a0.fBox.fX0), .v (.int .i64 a0.fBox.fY0), .v (.int .i64 a0.fBox.fX1), .v (.int .i64 a0.fBox.fY1)], .agg [.v (.int .i64 a1.fBox.fX0), .v (.int .i64 a1.fBox.fY0), .v (.int .i64 a1.fBox.fX1), .v (.int .i64 a1.fBox.fY1)]], o0 := [], r := .c (.v (.bool y1)), o1 := [], fl := true, σ := [], τ := [] }, hf_laws_eqRect _ _ _ hy2, ⟨les_cons (AV.le_refl _) (les_cons (AV.le_refl _) (les_nil)), trivial, rfl, rfl, rfl, rfl, trivial, rfl⟩, ?_⟩
    cbv
    refine fork (fun b3 => ?_) (fun b3 => ?_)
    · replace h := of_br_t b3 h
      cbv
      injection h with h
      subst h
      refine ⟨(sparse 16 [(4, .c (.v (.bool false)))] []), ?_, ?_⟩
      · exact le_sparse rfl ⟨AV.le_refl _, trivial⟩ trivial rfl
      · exact ⟨AV.le_refl _, trivial, rfl⟩
    · replace h := of_br_f b3 h
      cbv
      injection h with h
      subst h
      refine ⟨(sparse 16 [(4, .c (.v (.bool true)))] []), ?_, ?_⟩
      · exact le_sparse rfl ⟨AV.le_refl _, trivial⟩ trivial rfl
      · exact ⟨AV.le_refl _, trivial, rfl⟩

noncomputable def L_laws_eqShapeS_x2 (a0 : List TShape) (a1 : List TShape) : (Int) → Option ((Int) ⊕ ((Unit) ⊕ (Unit))) := fun x2 =>
  letO x2 fun v1 =>
  br (std.lt v1 (std.ofN (len a0)))
  (req (std.inR v1 (len a0)) <|
  req (std.inR v1 (len a1)) <|
  (F_laws_eqShape (gd a0 (std.toN v1)) (gd a1 (std.toN v1))).bind fun y16 =>
  br (!(y16))
  (some (.inr (.inl ())))
  (some (.inl (std.add .i64 v1 1))))
  (some (.inr (.inr ())))
/-- laws.eqShapeS -/
noncomputable def F_laws_eqShapeS (a0 : List TShape) (a1 : List TShape) : Option (Bool) :=
  br (std.not (std.eq (std.ofN (len a0)) (std.ofN (len a1))))
  (some false)
  ((whileP (σ := Int) (ρ := (Unit) ⊕ (Unit)) (L_laws_eqShapeS_x2 a0 a1) 0).bind fun y3 =>
  (match y3 with
    | .inl y3k0 => (
        some false)
    | .inr y3m0 =>
        some true))
theorem run_laws_eqShapeS (a0 : List TShape) (a1 : List TShape) (r : Bool) (h : F_laws_eqShapeS a0 a1 = some r) : Fun Try.prog 229 [.c (.bs (len a0) 5 (row gd (encShape) a0)), .c (.bs (len a1) 5 (row gd (encShape) a1))] [] (.c (.v (.bool r))) [] true := by
  refine Fun.of_wp (oneOf []) tok mixed Try.func229 (by kernel_rfl) rfl Try.ntmps229 rfl trivial (fun _ => ⟨trivial, trivial⟩) ?_
  unfold F_laws_eqShapeS at h
  unfold L_laws_eqShapeS_x2 at h
  have hf_laws_eqShape := @run_laws_eqShape
  generalize hLEN : @len = LEN at *
  generalize hGD : @gd = GD at *
  generalize hA : std = A at *
  generalize hP : Try.prog = P at *
  cbv
  refine fork (fun b20 => ?_) (fun b20 => ?_)
  · replace h := of_br_t b20 h
    cbv
    injection h with h
    subst h
    refine ⟨(sparse 27 [(4, .c (.v (.bool false)))] []), ?_, ?_⟩
    · exact le_sparse rfl ⟨AV.le_refl _, trivial⟩ trivial rfl
    · exact ⟨AV.le_refl _, trivial, rfl⟩
  · replace h := of_br_f b20 h
    cbv
    replace h := of_bind h
    obtain ⟨y3, hr4, hN5⟩ := h
    refine loop_cut hr4 (fun x => (sparse 27 [(0, .c (.bs (LEN a0) 5 (row GD (encShape) a0))), (1, .c (.bs (LEN a1) 5 (row GD (encShape) a1))), (5, .c (.v (.int .i64 x)))] [])) ?_ (fun y e s => (match y with | .inl w => e = .ret ∧ s.le (sparse 27 [(4, .c (.v (.bool false)))] []) | .inr w0 => (fun (w : Unit) => e = .exit 0 ∧ s.le (sparse 27 [] [])) w0)) ?_ ?_
    · clear hr4 hN5
      show St.le _ _
      exact le_sparse rfl ⟨AV.le_refl _, AV.le_refl _, AV.le_refl _, trivial⟩ trivial rfl
    · clear hr4 hN5
      intro x z9 h K7 hK8 hY6
      replace h := of_let h
      obtain ⟨v1, hv1, h⟩ := h
      have hv1 : v1 = x := hv1
      subst hv1
      cbv
      refine fork (fun b19 => ?_) (fun b19 => ?_)
      · replace h := of_br_t b19 h
        cbv
        replace h := of_req h
        obtain ⟨c14, h⟩ := h
        refine ⟨⟨c14, trivial⟩, ?_⟩
        replace h := of_req h
        obtain ⟨c15, h⟩ := h
        refine ⟨⟨c15, trivial⟩, ?_⟩
        replace h := of_bind h
        obtain ⟨y16, hy17, h⟩ := h
        refine ⟨{ args := [.agg [.v (.int .i64 (GD a0 (A.toN v1)).fLayer), .v (.int .i64 (GD a0 (A.toN v1)).fBox.fX0), .v (.int .i64 (GD a0 (A.toN v1)).fBox.fY0), .v (.int .i64 (GD a0 (A.toN v1)).fBox.fX1), .v (.int .i64 (GD a0 (A.toN v1)).fBox.fY1)], .agg [.v (.int .i64 (GD a1 (A.toN v1)).fLayer), .v (.int .i64 (GD a1 (A.toN v1)).fBox.fX0), .v (.int .i64 (GD a1 (A.toN v1)).fBox.fY0), .v (.int .i64 (GD a1 (A.toN v1)).fBox.fX1), .v (.int .i64 (GD a1 (A.toN v1)).fBox.fY1)]], o0 := [], r := .c (.v (.bool y16)), o1 := [], fl := true, σ := [], τ := [] }, hf_laws_eqShape _ _ _ hy17, ⟨les_cons (AV.le_refl _) (les_cons (AV.le_refl _) (les_nil)), trivial, rfl, rfl, rfl, rfl, trivial, rfl⟩, ?_⟩
        cbv
        refine fork (fun b18 => ?_) (fun b18 => ?_)
        · replace h := of_br_t b18 h
          cbv
          injection h with h
          refine hY6 _ h.symm _ _ (And.intro rfl ?_) (by intro hh; cases hh)
          exact le_sparse rfl ⟨AV.le_refl _, trivial⟩ trivial rfl
        · replace h := of_br_f b18 h
          cbv
          injection h with h
          refine hK8 _ h.symm _ ?_
          exact le_sparse rfl ⟨AV.le_refl _, AV.le_refl _, AV.le_refl _, trivial⟩ trivial rfl
      · replace h := of_br_f b19 h
        cbv
        injection h with h
        refine hY6 _ h.symm _ _ (And.intro rfl ?_) (by intro hh; cases hh)
        exact le_sparse rfl trivial trivial rfl
    · clear hr4
      have h := hN5
      clear hN5
      intro e12 s13 q11 hne
      rcases y3 with y3k0 | y3m0
      · replace h := h
        obtain ⟨rfl, q11⟩ := q11
        cbv
        injection h with h
        subst h
        refine ⟨(sparse 27 [(4, .c (.v (.bool false)))] []), ?_, ?_⟩
        · refine St.le_trans q11 ?_
          exact le_sparse rfl ⟨AV.le_refl _, trivial⟩ trivial rfl
        · exact ⟨AV.le_refl _, trivial, rfl⟩
      · obtain ⟨rfl, q11⟩ := q11
        cbv
        refine ⟨_, q11, ?_⟩
        cbv
        injection h with h
        subst h
        refine ⟨(sparse 27 [(4, .c (.v (.bool true)))] []), ?_, ?_⟩
        · exact le_sparse rfl ⟨AV.le_refl _, trivial⟩ trivial rfl
        · exact ⟨AV.le_refl _, trivial, rfl⟩

/-- laws.eqPoint -/
noncomputable def F_laws_eqPoint (a0 : TPoint) (a1 : TPoint) : Option (Bool) :=
  br (std.not (std.eq a0.fX a1.fX))
  (some false)
  (br (std.not (std.eq a0.fY a1.fY))
  (some false)
  (some true))
theorem run_laws_eqPoint (a0 : TPoint) (a1 : TPoint) (r : Bool) (h : F_laws_eqPoint a0 a1 = some r) : Fun Try.prog 199 [.agg [.v (.int .i64 a0.fX), .v (.int .i64 a0.fY)], .agg [.v (.int .i64 a1.fX), .v (.int .i64 a1.fY)]] [] (.c (.v (.bool r))) [] true := by
  refine Fun.of_wp (oneOf []) tok mixed Try.func199 (by kernel_rfl) rfl Try.ntmps199 rfl trivial (fun _ => ⟨trivial, trivial⟩) ?_
  unfold F_laws_eqPoint at h
  generalize hLEN : @len = LEN at *
  generalize hGD : @gd = GD at *
  generalize hA : std = A at *
  generalize hP : Try.prog = P at *
  cbv
  refine fork (fun b2 => ?_) (fun b2 => ?_)
  · replace h := of_br_t b2 h
    cbv
    injection h with h
    subst h
    refine ⟨(sparse 15 [(4, .c (.v (.bool false)))] []), ?_, ?_⟩
    · exact le_sparse rfl ⟨AV.le_refl _, trivial⟩ trivial rfl
    · exact ⟨AV.le_refl _, trivial, rfl⟩
  · replace h := of_br_f b2 h
    cbv
    refine fork (fun b1 => ?_) (fun b1 => ?_)
    · replace h := of_br_t b1 h
      cbv
      injection h with h
      subst h
      refine ⟨(sparse 15 [(4, .c (.v (.bool false)))] []), ?_, ?_⟩
      · exact le_sparse rfl ⟨AV.le_refl _, trivial⟩ trivial rfl
      · exact ⟨AV.le_refl _, trivial, rfl⟩
    · replace h := of_br_f b1 h
      cbv
      injection h with h
      subst h
      refine ⟨(sparse 15 [(4, .c (.v (.bool true)))] []), ?_, ?_⟩
      · exact le_sparse rfl ⟨AV.le_refl _, trivial⟩ trivial rfl
      · exact ⟨AV.le_refl _, trivial, rfl⟩
/-- laws.eqLabel -/
noncomputable def F_laws_eqLabel (a0 : TLabel) (a1 : TLabel) : Option (Bool) :=
  br (std.not (std.eq a0.fLayer a1.fLayer))
  (some false)
  ((F_laws_eqPoint a0.fAt a1.fAt).bind fun y1 =>
  br (!(y1))
  (some false)
  (br (std.not (std.seq a0.fName a1.fName))
  (some false)
  (some true)))
theorem run_laws_eqLabel (a0 : TLabel) (a1 : TLabel) (r : Bool) (h : F_laws_eqLabel a0 a1 = some r) : Fun Try.prog 157 [.agg [.v (.int .i64 a0.fLayer), .v (.int .i64 a0.fAt.fX), .v (.int .i64 a0.fAt.fY), .v (.string a0.fName)], .agg [.v (.int .i64 a1.fLayer), .v (.int .i64 a1.fAt.fX), .v (.int .i64 a1.fAt.fY), .v (.string a1.fName)]] [] (.c (.v (.bool r))) [] true := by
  refine Fun.of_wp (oneOf []) tok mixed Try.func157 (by kernel_rfl) rfl Try.ntmps157 rfl trivial (fun _ => ⟨trivial, trivial⟩) ?_
  unfold F_laws_eqLabel at h
  have hf_laws_eqPoint := @run_laws_eqPoint
  generalize hLEN : @len = LEN at *
  generalize hGD : @gd = GD at *
  generalize hA : std = A at *
  generalize hP : Try.prog = P at *
  cbv
  refine fork (fun b5 => ?_) (fun b5 => ?_)
  · replace h := of_br_t b5 h
    cbv
    injection h with h
    subst h
    refine ⟨(sparse 21 [(4, .c (.v (.bool false)))] []), ?_, ?_⟩
    · exact le_sparse rfl ⟨AV.le_refl _, trivial⟩ trivial rfl
    · exact ⟨AV.le_refl _, trivial, rfl⟩
  · replace h := of_br_f b5 h
    cbv
    replace h := of_bind h
    obtain ⟨y1, hy2, h⟩ := h
    refine ⟨{ args := [.agg [.v (.int .i64 a0.fAt.fX), .v (.int .i64 a0.fAt.fY)], .agg [.v (.int .i64 a1.fAt.fX), .v (.int .i64 a1.fAt.fY)]], o0 := [], r := .c (.v (.bool y1)), o1 := [], fl := true, σ := [], τ := [] }, hf_laws_eqPoint _ _ _ hy2, ⟨les_cons (AV.le_refl _) (les_cons (AV.le_refl _) (les_nil)), trivial, rfl, rfl, rfl, rfl, trivial, rfl⟩, ?_⟩
    cbv
    refine fork (fun b4 => ?_) (fun b4 => ?_)
    · replace h := of_br_t b4 h
      cbv
      injection h with h
      subst h
      refine ⟨(sparse 21 [(4, .c (.v (.bool false)))] []), ?_, ?_⟩
      · exact le_sparse rfl ⟨AV.le_refl _, trivial⟩ trivial rfl
      · exact ⟨AV.le_refl _, trivial, rfl⟩
    · replace h := of_br_f b4 h
      cbv
      refine fork (fun b3 => ?_) (fun b3 => ?_)
      · replace h := of_br_t b3 h
        cbv
        injection h with h
        subst h
        refine ⟨(sparse 21 [(4, .c (.v (.bool false)))] []), ?_, ?_⟩
        · exact le_sparse rfl ⟨AV.le_refl _, trivial⟩ trivial rfl
        · exact ⟨AV.le_refl _, trivial, rfl⟩
      · replace h := of_br_f b3 h
        cbv
        injection h with h
        subst h
        refine ⟨(sparse 21 [(4, .c (.v (.bool true)))] []), ?_, ?_⟩
        · exact le_sparse rfl ⟨AV.le_refl _, trivial⟩ trivial rfl
        · exact ⟨AV.le_refl _, trivial, rfl⟩

noncomputable def L_laws_eqLabelS_x2 (a0 : List TLabel) (a1 : List TLabel) : (Int) → Option ((Int) ⊕ ((Unit) ⊕ (Unit))) := fun x2 =>
  letO x2 fun v1 =>
  br (std.lt v1 (std.ofN (len a0)))
  (req (std.inR v1 (len a0)) <|
  req (std.inR v1 (len a1)) <|
  (F_laws_eqLabel (gd a0 (std.toN v1)) (gd a1 (std.toN v1))).bind fun y16 =>
  br (!(y16))
  (some (.inr (.inl ())))
  (some (.inl (std.add .i64 v1 1))))
  (some (.inr (.inr ())))
/-- laws.eqLabelS -/
noncomputable def F_laws_eqLabelS (a0 : List TLabel) (a1 : List TLabel) : Option (Bool) :=
  br (std.not (std.eq (std.ofN (len a0)) (std.ofN (len a1))))
  (some false)
  ((whileP (σ := Int) (ρ := (Unit) ⊕ (Unit)) (L_laws_eqLabelS_x2 a0 a1) 0).bind fun y3 =>
  (match y3 with
    | .inl y3k0 => (
        some false)
    | .inr y3m0 =>
        some true))
theorem run_laws_eqLabelS (a0 : List TLabel) (a1 : List TLabel) (r : Bool) (h : F_laws_eqLabelS a0 a1 = some r) : Fun Try.prog 230 [.c (.bs (len a0) 4 (row gd (encLabel) a0)), .c (.bs (len a1) 4 (row gd (encLabel) a1))] [] (.c (.v (.bool r))) [] true := by
  refine Fun.of_wp (oneOf []) tok mixed Try.func230 (by kernel_rfl) rfl Try.ntmps230 rfl trivial (fun _ => ⟨trivial, trivial⟩) ?_
  unfold F_laws_eqLabelS at h
  unfold L_laws_eqLabelS_x2 at h
  have hf_laws_eqLabel := @run_laws_eqLabel
  generalize hLEN : @len = LEN at *
  generalize hGD : @gd = GD at *
  generalize hA : std = A at *
  generalize hP : Try.prog = P at *
  cbv
  refine fork (fun b20 => ?_) (fun b20 => ?_)
  · replace h := of_br_t b20 h
    cbv
    injection h with h
    subst h
    refine ⟨(sparse 27 [(4, .c (.v (.bool false)))] []), ?_, ?_⟩
    · exact le_sparse rfl ⟨AV.le_refl _, trivial⟩ trivial rfl
    · exact ⟨AV.le_refl _, trivial, rfl⟩
  · replace h := of_br_f b20 h
    cbv
    replace h := of_bind h
    obtain ⟨y3, hr4, hN5⟩ := h
    refine loop_cut hr4 (fun x => (sparse 27 [(0, .c (.bs (LEN a0) 4 (row GD (encLabel) a0))), (1, .c (.bs (LEN a1) 4 (row GD (encLabel) a1))), (5, .c (.v (.int .i64 x)))] [])) ?_ (fun y e s => (match y with | .inl w => e = .ret ∧ s.le (sparse 27 [(4, .c (.v (.bool false)))] []) | .inr w0 => (fun (w : Unit) => e = .exit 0 ∧ s.le (sparse 27 [] [])) w0)) ?_ ?_
    · clear hr4 hN5
      show St.le _ _
      exact le_sparse rfl ⟨AV.le_refl _, AV.le_refl _, AV.le_refl _, trivial⟩ trivial rfl
    · clear hr4 hN5
      intro x z9 h K7 hK8 hY6
      replace h := of_let h
      obtain ⟨v1, hv1, h⟩ := h
      have hv1 : v1 = x := hv1
      subst hv1
      cbv
      refine fork (fun b19 => ?_) (fun b19 => ?_)
      · replace h := of_br_t b19 h
        cbv
        replace h := of_req h
        obtain ⟨c14, h⟩ := h
        refine ⟨⟨c14, trivial⟩, ?_⟩
        replace h := of_req h
        obtain ⟨c15, h⟩ := h
        refine ⟨⟨c15, trivial⟩, ?_⟩
        replace h := of_bind h
        obtain ⟨y16, hy17, h⟩ := h
        refine ⟨{ args := [.agg [.v (.int .i64 (GD a0 (A.toN v1)).fLayer), .v (.int .i64 (GD a0 (A.toN v1)).fAt.fX), .v (.int .i64 (GD a0 (A.toN v1)).fAt.fY), .v (.string (GD a0 (A.toN v1)).fName)], .agg [.v (.int .i64 (GD a1 (A.toN v1)).fLayer), .v (.int .i64 (GD a1 (A.toN v1)).fAt.fX), .v (.int .i64 (GD a1 (A.toN v1)).fAt.fY), .v (.string (GD a1 (A.toN v1)).fName)]], o0 := [], r := .c (.v (.bool y16)), o1 := [], fl := true, σ := [], τ := [] }, hf_laws_eqLabel _ _ _ hy17, ⟨les_cons (AV.le_refl _) (les_cons (AV.le_refl _) (les_nil)), trivial, rfl, rfl, rfl, rfl, trivial, rfl⟩, ?_⟩
        cbv
        refine fork (fun b18 => ?_) (fun b18 => ?_)
        · replace h := of_br_t b18 h
          cbv
          injection h with h
          refine hY6 _ h.symm _ _ (And.intro rfl ?_) (by intro hh; cases hh)
          exact le_sparse rfl ⟨AV.le_refl _, trivial⟩ trivial rfl
        · replace h := of_br_f b18 h
          cbv
          injection h with h
          refine hK8 _ h.symm _ ?_
          exact le_sparse rfl ⟨AV.le_refl _, AV.le_refl _, AV.le_refl _, trivial⟩ trivial rfl
      · replace h := of_br_f b19 h
        cbv
        injection h with h
        refine hY6 _ h.symm _ _ (And.intro rfl ?_) (by intro hh; cases hh)
        exact le_sparse rfl trivial trivial rfl
    · clear hr4
      have h := hN5
      clear hN5
      intro e12 s13 q11 hne
      rcases y3 with y3k0 | y3m0
      · replace h := h
        obtain ⟨rfl, q11⟩ := q11
        cbv
        injection h with h
        subst h
        refine ⟨(sparse 27 [(4, .c (.v (.bool false)))] []), ?_, ?_⟩
        · refine St.le_trans q11 ?_
          exact le_sparse rfl ⟨AV.le_refl _, trivial⟩ trivial rfl
        · exact ⟨AV.le_refl _, trivial, rfl⟩
      · obtain ⟨rfl, q11⟩ := q11
        cbv
        refine ⟨_, q11, ?_⟩
        cbv
        injection h with h
        subst h
        refine ⟨(sparse 27 [(4, .c (.v (.bool true)))] []), ?_, ?_⟩
        · exact le_sparse rfl ⟨AV.le_refl _, trivial⟩ trivial rfl
        · exact ⟨AV.le_refl _, trivial, rfl⟩

/-- laws.eqTransform -/
noncomputable def F_laws_eqTransform (a0 : TTransform) (a1 : TTransform) : Option (Bool) :=
  br (std.not (std.eq a0.fOrientation a1.fOrientation))
  (some false)
  (br (std.not (std.eq a0.fX a1.fX))
  (some false)
  (br (std.not (std.eq a0.fY a1.fY))
  (some false)
  (some true)))
theorem run_laws_eqTransform (a0 : TTransform) (a1 : TTransform) (r : Bool) (h : F_laws_eqTransform a0 a1 = some r) : Fun Try.prog 200 [.agg [.v (.int .i64 a0.fOrientation), .v (.int .i64 a0.fX), .v (.int .i64 a0.fY)], .agg [.v (.int .i64 a1.fOrientation), .v (.int .i64 a1.fX), .v (.int .i64 a1.fY)]] [] (.c (.v (.bool r))) [] true := by
  refine Fun.of_wp (oneOf []) tok mixed Try.func200 (by kernel_rfl) rfl Try.ntmps200 rfl trivial (fun _ => ⟨trivial, trivial⟩) ?_
  unfold F_laws_eqTransform at h
  generalize hLEN : @len = LEN at *
  generalize hGD : @gd = GD at *
  generalize hA : std = A at *
  generalize hP : Try.prog = P at *
  cbv
  refine fork (fun b3 => ?_) (fun b3 => ?_)
  · replace h := of_br_t b3 h
    cbv
    injection h with h
    subst h
    refine ⟨(sparse 20 [(4, .c (.v (.bool false)))] []), ?_, ?_⟩
    · exact le_sparse rfl ⟨AV.le_refl _, trivial⟩ trivial rfl
    · exact ⟨AV.le_refl _, trivial, rfl⟩
  · replace h := of_br_f b3 h
    cbv
    refine fork (fun b2 => ?_) (fun b2 => ?_)
    · replace h := of_br_t b2 h
      cbv
      injection h with h
      subst h
      refine ⟨(sparse 20 [(4, .c (.v (.bool false)))] []), ?_, ?_⟩
      · exact le_sparse rfl ⟨AV.le_refl _, trivial⟩ trivial rfl
      · exact ⟨AV.le_refl _, trivial, rfl⟩
    · replace h := of_br_f b2 h
      cbv
      refine fork (fun b1 => ?_) (fun b1 => ?_)
      · replace h := of_br_t b1 h
        cbv
        injection h with h
        subst h
        refine ⟨(sparse 20 [(4, .c (.v (.bool false)))] []), ?_, ?_⟩
        · exact le_sparse rfl ⟨AV.le_refl _, trivial⟩ trivial rfl
        · exact ⟨AV.le_refl _, trivial, rfl⟩
      · replace h := of_br_f b1 h
        cbv
        injection h with h
        subst h
        refine ⟨(sparse 20 [(4, .c (.v (.bool true)))] []), ?_, ?_⟩
        · exact le_sparse rfl ⟨AV.le_refl _, trivial⟩ trivial rfl
        · exact ⟨AV.le_refl _, trivial, rfl⟩

/-- laws.eqInstance -/
noncomputable def F_laws_eqInstance (a0 : TInstance) (a1 : TInstance) : Option (Bool) :=
  br (std.not (std.eq a0.fCell a1.fCell))
  (some false)
  ((F_laws_eqTransform a0.fPlace a1.fPlace).bind fun y1 =>
  br (!(y1))
  (some false)
  (br (std.not (std.eq a0.fColumns a1.fColumns))
  (some false)
  (br (std.not (std.eq a0.fRows a1.fRows))
  (some false)
  (br (std.not (std.eq a0.fStepX a1.fStepX))
  (some false)
  (br (std.not (std.eq a0.fStepY a1.fStepY))
  (some false)
  (some true))))))
theorem run_laws_eqInstance (a0 : TInstance) (a1 : TInstance) (r : Bool) (h : F_laws_eqInstance a0 a1 = some r) : Fun Try.prog 158 [.agg [.v (.int .i64 a0.fCell), .v (.int .i64 a0.fPlace.fOrientation), .v (.int .i64 a0.fPlace.fX), .v (.int .i64 a0.fPlace.fY), .v (.int .i64 a0.fColumns), .v (.int .i64 a0.fRows), .v (.int .i64 a0.fStepX), .v (.int .i64 a0.fStepY)], .agg [.v (.int .i64 a1.fCell), .v (.int .i64 a1.fPlace.fOrientation), .v (.int .i64 a1.fPlace.fX), .v (.int .i64 a1.fPlace.fY), .v (.int .i64 a1.fColumns), .v (.int .i64 a1.fRows), .v (.int .i64 a1.fStepX), .v (.int .i64 a1.fStepY)]] [] (.c (.v (.bool r))) [] true := by
  refine Fun.of_wp (oneOf []) tok mixed Try.func158 (by kernel_rfl) rfl Try.ntmps158 rfl trivial (fun _ => ⟨trivial, trivial⟩) ?_
  unfold F_laws_eqInstance at h
  have hf_laws_eqTransform := @run_laws_eqTransform
  generalize hLEN : @len = LEN at *
  generalize hGD : @gd = GD at *
  generalize hA : std = A at *
  generalize hP : Try.prog = P at *
  cbv
  refine fork (fun b8 => ?_) (fun b8 => ?_)
  · replace h := of_br_t b8 h
    cbv
    injection h with h
    subst h
    refine ⟨(sparse 36 [(4, .c (.v (.bool false)))] []), ?_, ?_⟩
    · exact le_sparse rfl ⟨AV.le_refl _, trivial⟩ trivial rfl
    · exact ⟨AV.le_refl _, trivial, rfl⟩
  · replace h := of_br_f b8 h
    cbv
    replace h := of_bind h
    obtain ⟨y1, hy2, h⟩ := h
    refine ⟨{ args := [.agg [.v (.int .i64 a0.fPlace.fOrientation), .v (.int .i64 a0.fPlace.fX), .v (.int .i64 a0.fPlace.fY)], .agg [.v (.int .i64 a1.fPlace.fOrientation), .v (.int .i64 a1.fPlace.fX), .v (.int .i64 a1.fPlace.fY)]], o0 := [], r := .c (.v (.bool y1)), o1 := [], fl := true, σ := [], τ := [] }, hf_laws_eqTransform _ _ _ hy2, ⟨les_cons (AV.le_refl _) (les_cons (AV.le_refl _) (les_nil)), trivial, rfl, rfl, rfl, rfl, trivial, rfl⟩, ?_⟩
    cbv
    refine fork (fun b7 => ?_) (fun b7 => ?_)
    · replace h := of_br_t b7 h
      cbv
      injection h with h
      subst h
      refine ⟨(sparse 36 [(4, .c (.v (.bool false)))] []), ?_, ?_⟩
      · exact le_sparse rfl ⟨AV.le_refl _, trivial⟩ trivial rfl
      · exact ⟨AV.le_refl _, trivial, rfl⟩
    · replace h := of_br_f b7 h
      cbv
      refine fork (fun b6 => ?_) (fun b6 => ?_)
      · replace h := of_br_t b6 h
        cbv
        injection h with h
        subst h
        refine ⟨(sparse 36 [(4, .c (.v (.bool false)))] []), ?_, ?_⟩
        · exact le_sparse rfl ⟨AV.le_refl _, trivial⟩ trivial rfl
        · exact ⟨AV.le_refl _, trivial, rfl⟩
      · replace h := of_br_f b6 h
        cbv
        refine fork (fun b5 => ?_) (fun b5 => ?_)
        · replace h := of_br_t b5 h
          cbv
          injection h with h
          subst h
          refine ⟨(sparse 36 [(4, .c (.v (.bool false)))] []), ?_, ?_⟩
          · exact le_sparse rfl ⟨AV.le_refl _, trivial⟩ trivial rfl
          · exact ⟨AV.le_refl _, trivial, rfl⟩
        · replace h := of_br_f b5 h
          cbv
          refine fork (fun b4 => ?_) (fun b4 => ?_)
          · replace h := of_br_t b4 h
            cbv
            injection h with h
            subst h
            refine ⟨(sparse 36 [(4, .c (.v (.bool false)))] []), ?_, ?_⟩
            · exact le_sparse rfl ⟨AV.le_refl _, trivial⟩ trivial rfl
            · exact ⟨AV.le_refl _, trivial, rfl⟩
          · replace h := of_br_f b4 h
            cbv
            refine fork (fun b3 => ?_) (fun b3 => ?_)
            · replace h := of_br_t b3 h
              cbv
              injection h with h
              subst h
              refine ⟨(sparse 36 [(4, .c (.v (.bool false)))] []), ?_, ?_⟩
              · exact le_sparse rfl ⟨AV.le_refl _, trivial⟩ trivial rfl
              · exact ⟨AV.le_refl _, trivial, rfl⟩
            · replace h := of_br_f b3 h
              cbv
              injection h with h
              subst h
              refine ⟨(sparse 36 [(4, .c (.v (.bool true)))] []), ?_, ?_⟩
              · exact le_sparse rfl ⟨AV.le_refl _, trivial⟩ trivial rfl
              · exact ⟨AV.le_refl _, trivial, rfl⟩

noncomputable def L_laws_eqInstanceS_x2 (a0 : List TInstance) (a1 : List TInstance) : (Int) → Option ((Int) ⊕ ((Unit) ⊕ (Unit))) := fun x2 =>
  letO x2 fun v1 =>
  br (std.lt v1 (std.ofN (len a0)))
  (req (std.inR v1 (len a0)) <|
  req (std.inR v1 (len a1)) <|
  (F_laws_eqInstance (gd a0 (std.toN v1)) (gd a1 (std.toN v1))).bind fun y16 =>
  br (!(y16))
  (some (.inr (.inl ())))
  (some (.inl (std.add .i64 v1 1))))
  (some (.inr (.inr ())))
/-- laws.eqInstanceS -/
noncomputable def F_laws_eqInstanceS (a0 : List TInstance) (a1 : List TInstance) : Option (Bool) :=
  br (std.not (std.eq (std.ofN (len a0)) (std.ofN (len a1))))
  (some false)
  ((whileP (σ := Int) (ρ := (Unit) ⊕ (Unit)) (L_laws_eqInstanceS_x2 a0 a1) 0).bind fun y3 =>
  (match y3 with
    | .inl y3k0 => (
        some false)
    | .inr y3m0 =>
        some true))
theorem run_laws_eqInstanceS (a0 : List TInstance) (a1 : List TInstance) (r : Bool) (h : F_laws_eqInstanceS a0 a1 = some r) : Fun Try.prog 231 [.c (.bs (len a0) 8 (row gd (encInstance) a0)), .c (.bs (len a1) 8 (row gd (encInstance) a1))] [] (.c (.v (.bool r))) [] true := by
  refine Fun.of_wp (oneOf []) tok mixed Try.func231 (by kernel_rfl) rfl Try.ntmps231 rfl trivial (fun _ => ⟨trivial, trivial⟩) ?_
  unfold F_laws_eqInstanceS at h
  unfold L_laws_eqInstanceS_x2 at h
  have hf_laws_eqInstance := @run_laws_eqInstance
  generalize hLEN : @len = LEN at *
  generalize hGD : @gd = GD at *
  generalize hA : std = A at *
  generalize hP : Try.prog = P at *
  cbv
  refine fork (fun b20 => ?_) (fun b20 => ?_)
  · replace h := of_br_t b20 h
    cbv
    injection h with h
    subst h
    refine ⟨(sparse 27 [(4, .c (.v (.bool false)))] []), ?_, ?_⟩
    · exact le_sparse rfl ⟨AV.le_refl _, trivial⟩ trivial rfl
    · exact ⟨AV.le_refl _, trivial, rfl⟩
  · replace h := of_br_f b20 h
    cbv
    replace h := of_bind h
    obtain ⟨y3, hr4, hN5⟩ := h
    refine loop_cut hr4 (fun x => (sparse 27 [(0, .c (.bs (LEN a0) 8 (row GD (encInstance) a0))), (1, .c (.bs (LEN a1) 8 (row GD (encInstance) a1))), (5, .c (.v (.int .i64 x)))] [])) ?_ (fun y e s => (match y with | .inl w => e = .ret ∧ s.le (sparse 27 [(4, .c (.v (.bool false)))] []) | .inr w0 => (fun (w : Unit) => e = .exit 0 ∧ s.le (sparse 27 [] [])) w0)) ?_ ?_
    · clear hr4 hN5
      show St.le _ _
      exact le_sparse rfl ⟨AV.le_refl _, AV.le_refl _, AV.le_refl _, trivial⟩ trivial rfl
    · clear hr4 hN5
      intro x z9 h K7 hK8 hY6
      replace h := of_let h
      obtain ⟨v1, hv1, h⟩ := h
      have hv1 : v1 = x := hv1
      subst hv1
      cbv
      refine fork (fun b19 => ?_) (fun b19 => ?_)
      · replace h := of_br_t b19 h
        cbv
        replace h := of_req h
        obtain ⟨c14, h⟩ := h
        refine ⟨⟨c14, trivial⟩, ?_⟩
        replace h := of_req h
        obtain ⟨c15, h⟩ := h
        refine ⟨⟨c15, trivial⟩, ?_⟩
        replace h := of_bind h
        obtain ⟨y16, hy17, h⟩ := h
        refine ⟨{ args := [.agg [.v (.int .i64 (GD a0 (A.toN v1)).fCell), .v (.int .i64 (GD a0 (A.toN v1)).fPlace.fOrientation), .v (.int .i64 (GD a0 (A.toN v1)).fPlace.fX), .v (.int .i64 (GD a0 (A.toN v1)).fPlace.fY), .v (.int .i64 (GD a0 (A.toN v1)).fColumns), .v (.int .i64 (GD a0 (A.toN v1)).fRows), .v (.int .i64 (GD a0 (A.toN v1)).fStepX), .v (.int .i64 (GD a0 (A.toN v1)).fStepY)], .agg [.v (.int .i64 (GD a1 (A.toN v1)).fCell), .v (.int .i64 (GD a1 (A.toN v1)).fPlace.fOrientation), .v (.int .i64 (GD a1 (A.toN v1)).fPlace.fX), .v (.int .i64 (GD a1 (A.toN v1)).fPlace.fY), .v (.int .i64 (GD a1 (A.toN v1)).fColumns), .v (.int .i64 (GD a1 (A.toN v1)).fRows), .v (.int .i64 (GD a1 (A.toN v1)).fStepX), .v (.int .i64 (GD a1 (A.toN v1)).fStepY)]], o0 := [], r := .c (.v (.bool y16)), o1 := [], fl := true, σ := [], τ := [] }, hf_laws_eqInstance _ _ _ hy17, ⟨les_cons (AV.le_refl _) (les_cons (AV.le_refl _) (les_nil)), trivial, rfl, rfl, rfl, rfl, trivial, rfl⟩, ?_⟩
        cbv
        refine fork (fun b18 => ?_) (fun b18 => ?_)
        · replace h := of_br_t b18 h
          cbv
          injection h with h
          refine hY6 _ h.symm _ _ (And.intro rfl ?_) (by intro hh; cases hh)
          exact le_sparse rfl ⟨AV.le_refl _, trivial⟩ trivial rfl
        · replace h := of_br_f b18 h
          cbv
          injection h with h
          refine hK8 _ h.symm _ ?_
          exact le_sparse rfl ⟨AV.le_refl _, AV.le_refl _, AV.le_refl _, trivial⟩ trivial rfl
      · replace h := of_br_f b19 h
        cbv
        injection h with h
        refine hY6 _ h.symm _ _ (And.intro rfl ?_) (by intro hh; cases hh)
        exact le_sparse rfl trivial trivial rfl
    · clear hr4
      have h := hN5
      clear hN5
      intro e12 s13 q11 hne
      rcases y3 with y3k0 | y3m0
      · replace h := h
        obtain ⟨rfl, q11⟩ := q11
        cbv
        injection h with h
        subst h
        refine ⟨(sparse 27 [(4, .c (.v (.bool false)))] []), ?_, ?_⟩
        · refine St.le_trans q11 ?_
          exact le_sparse rfl ⟨AV.le_refl _, trivial⟩ trivial rfl
        · exact ⟨AV.le_refl _, trivial, rfl⟩
      · obtain ⟨rfl, q11⟩ := q11
        cbv
        refine ⟨_, q11, ?_⟩
        cbv
        injection h with h
        subst h
        refine ⟨(sparse 27 [(4, .c (.v (.bool true)))] []), ?_, ?_⟩
        · exact le_sparse rfl ⟨AV.le_refl _, trivial⟩ trivial rfl
        · exact ⟨AV.le_refl _, trivial, rfl⟩

/-- laws.eqCell -/
noncomputable def F_laws_eqCell (a0 : TCell) (a1 : TCell) : Option (Bool) :=
  br (std.not (std.seq a0.fName a1.fName))
  (some false)
  ((F_laws_eqShapeS a0.fShapes a1.fShapes).bind fun y1 =>
  br (!(y1))
  (some false)
  ((F_laws_eqLabelS a0.fLabels a1.fLabels).bind fun y3 =>
  br (!(y3))
  (some false)
  ((F_laws_eqInstanceS a0.fInstances a1.fInstances).bind fun y5 =>
  br (!(y5))
  (some false)
  (some true))))
theorem run_laws_eqCell (a0 : TCell) (a1 : TCell) (r : Bool) (h : F_laws_eqCell a0 a1 = some r) : Fun Try.prog 188 [.agg [.v (.string a0.fName), .bs (len a0.fShapes) 5 (row gd (encShape) a0.fShapes), .bs (len a0.fLabels) 4 (row gd (encLabel) a0.fLabels), .bs (len a0.fInstances) 8 (row gd (encInstance) a0.fInstances)], .agg [.v (.string a1.fName), .bs (len a1.fShapes) 5 (row gd (encShape) a1.fShapes), .bs (len a1.fLabels) 4 (row gd (encLabel) a1.fLabels), .bs (len a1.fInstances) 8 (row gd (encInstance) a1.fInstances)]] [] (.c (.v (.bool r))) [] true := by
  refine Fun.of_wp (oneOf []) tok mixed Try.func188 (by kernel_rfl) rfl Try.ntmps188 rfl trivial (fun _ => ⟨trivial, trivial⟩) ?_
  unfold F_laws_eqCell at h
  have hf_laws_eqInstanceS := @run_laws_eqInstanceS
  have hf_laws_eqLabelS := @run_laws_eqLabelS
  have hf_laws_eqShapeS := @run_laws_eqShapeS
  generalize hLEN : @len = LEN at *
  generalize hGD : @gd = GD at *
  generalize hA : std = A at *
  generalize hP : Try.prog = P at *
  cbv
  refine fork (fun b10 => ?_) (fun b10 => ?_)
  · replace h := of_br_t b10 h
    cbv
    injection h with h
    subst h
    refine ⟨(sparse 28 [(4, .c (.v (.bool false)))] []), ?_, ?_⟩
    · exact le_sparse rfl ⟨AV.le_refl _, trivial⟩ trivial rfl
    · exact ⟨AV.le_refl _, trivial, rfl⟩
  · replace h := of_br_f b10 h
    cbv
    replace h := of_bind h
    obtain ⟨y1, hy2, h⟩ := h
    refine ⟨{ args := [.c (.bs (LEN a0.fShapes) 5 (row GD (encShape) a0.fShapes)), .c (.bs (LEN a1.fShapes) 5 (row GD (encShape) a1.fShapes))], o0 := [], r := .c (.v (.bool y1)), o1 := [], fl := true, σ := [], τ := [] }, hf_laws_eqShapeS _ _ _ hy2, ⟨les_cons (AV.le_refl _) (les_cons (AV.le_refl _) (les_nil)), trivial, rfl, rfl, rfl, rfl, trivial, rfl⟩, ?_⟩
    cbv
    refine fork (fun b9 => ?_) (fun b9 => ?_)
    · replace h := of_br_t b9 h
      cbv
      injection h with h
      subst h
      refine ⟨(sparse 28 [(4, .c (.v (.bool false)))] []), ?_, ?_⟩
      · exact le_sparse rfl ⟨AV.le_refl _, trivial⟩ trivial rfl
      · exact ⟨AV.le_refl _, trivial, rfl⟩
    · replace h := of_br_f b9 h
      cbv
      replace h := of_bind h
      obtain ⟨y3, hy4, h⟩ := h
      refine ⟨{ args := [.c (.bs (LEN a0.fLabels) 4 (row GD (encLabel) a0.fLabels)), .c (.bs (LEN a1.fLabels) 4 (row GD (encLabel) a1.fLabels))], o0 := [], r := .c (.v (.bool y3)), o1 := [], fl := true, σ := [], τ := [] }, hf_laws_eqLabelS _ _ _ hy4, ⟨les_cons (AV.le_refl _) (les_cons (AV.le_refl _) (les_nil)), trivial, rfl, rfl, rfl, rfl, trivial, rfl⟩, ?_⟩
      cbv
      refine fork (fun b8 => ?_) (fun b8 => ?_)
      · replace h := of_br_t b8 h
        cbv
        injection h with h
        subst h
        refine ⟨(sparse 28 [(4, .c (.v (.bool false)))] []), ?_, ?_⟩
        · exact le_sparse rfl ⟨AV.le_refl _, trivial⟩ trivial rfl
        · exact ⟨AV.le_refl _, trivial, rfl⟩
      · replace h := of_br_f b8 h
        cbv
        replace h := of_bind h
        obtain ⟨y5, hy6, h⟩ := h
        refine ⟨{ args := [.c (.bs (LEN a0.fInstances) 8 (row GD (encInstance) a0.fInstances)), .c (.bs (LEN a1.fInstances) 8 (row GD (encInstance) a1.fInstances))], o0 := [], r := .c (.v (.bool y5)), o1 := [], fl := true, σ := [], τ := [] }, hf_laws_eqInstanceS _ _ _ hy6, ⟨les_cons (AV.le_refl _) (les_cons (AV.le_refl _) (les_nil)), trivial, rfl, rfl, rfl, rfl, trivial, rfl⟩, ?_⟩
        cbv
        refine fork (fun b7 => ?_) (fun b7 => ?_)
        · replace h := of_br_t b7 h
          cbv
          injection h with h
          subst h
          refine ⟨(sparse 28 [(4, .c (.v (.bool false)))] []), ?_, ?_⟩
          · exact le_sparse rfl ⟨AV.le_refl _, trivial⟩ trivial rfl
          · exact ⟨AV.le_refl _, trivial, rfl⟩
        · replace h := of_br_f b7 h
          cbv
          injection h with h
          subst h
          refine ⟨(sparse 28 [(4, .c (.v (.bool true)))] []), ?_, ?_⟩
          · exact le_sparse rfl ⟨AV.le_refl _, trivial⟩ trivial rfl
          · exact ⟨AV.le_refl _, trivial, rfl⟩

noncomputable def L_laws_eqCellS_x2 (a0 : List TCell) (a1 : List TCell) : (Int) → Option ((Int) ⊕ ((Unit) ⊕ (Unit))) := fun x2 =>
  letO x2 fun v1 =>
  br (std.lt v1 (std.ofN (len a0)))
  (req (std.inR v1 (len a0)) <|
  req (std.inR v1 (len a1)) <|
  (F_laws_eqCell (gd a0 (std.toN v1)) (gd a1 (std.toN v1))).bind fun y16 =>
  br (!(y16))
  (some (.inr (.inl ())))
  (some (.inl (std.add .i64 v1 1))))
  (some (.inr (.inr ())))
/-- laws.eqCellS -/
noncomputable def F_laws_eqCellS (a0 : List TCell) (a1 : List TCell) : Option (Bool) :=
  br (std.not (std.eq (std.ofN (len a0)) (std.ofN (len a1))))
  (some false)
  ((whileP (σ := Int) (ρ := (Unit) ⊕ (Unit)) (L_laws_eqCellS_x2 a0 a1) 0).bind fun y3 =>
  (match y3 with
    | .inl y3k0 => (
        some false)
    | .inr y3m0 =>
        some true))
theorem run_laws_eqCellS (a0 : List TCell) (a1 : List TCell) (r : Bool) (h : F_laws_eqCellS a0 a1 = some r) : Fun Try.prog 131 [.c (.bs (len a0) 4 (row gd (encCell len gd) a0)), .c (.bs (len a1) 4 (row gd (encCell len gd) a1))] [] (.c (.v (.bool r))) [] true := by
  refine Fun.of_wp (oneOf []) tok mixed Try.func131 (by kernel_rfl) rfl Try.ntmps131 rfl trivial (fun _ => ⟨trivial, trivial⟩) ?_
  unfold F_laws_eqCellS at h
  unfold L_laws_eqCellS_x2 at h
  have hf_laws_eqCell := @run_laws_eqCell
  generalize hLEN : @len = LEN at *
  generalize hGD : @gd = GD at *
  generalize hA : std = A at *
  generalize hP : Try.prog = P at *
  cbv
  refine fork (fun b20 => ?_) (fun b20 => ?_)
  · replace h := of_br_t b20 h
    cbv
    injection h with h
    subst h
    refine ⟨(sparse 27 [(4, .c (.v (.bool false)))] []), ?_, ?_⟩
    · exact le_sparse rfl ⟨AV.le_refl _, trivial⟩ trivial rfl
    · exact ⟨AV.le_refl _, trivial, rfl⟩
  · replace h := of_br_f b20 h
    cbv
    replace h := of_bind h
    obtain ⟨y3, hr4, hN5⟩ := h
    refine loop_cut hr4 (fun x => (sparse 27 [(0, .c (.bs (LEN a0) 4 (row GD (encCell LEN GD) a0))), (1, .c (.bs (LEN a1) 4 (row GD (encCell LEN GD) a1))), (5, .c (.v (.int .i64 x)))] [])) ?_ (fun y e s => (match y with | .inl w => e = .ret ∧ s.le (sparse 27 [(4, .c (.v (.bool false)))] []) | .inr w0 => (fun (w : Unit) => e = .exit 0 ∧ s.le (sparse 27 [] [])) w0)) ?_ ?_
    · clear hr4 hN5
      show St.le _ _
      exact le_sparse rfl ⟨AV.le_refl _, AV.le_refl _, AV.le_refl _, trivial⟩ trivial rfl
    · clear hr4 hN5
      intro x z9 h K7 hK8 hY6
      replace h := of_let h
      obtain ⟨v1, hv1, h⟩ := h
      have hv1 : v1 = x := hv1
      subst hv1
      cbv
      refine fork (fun b19 => ?_) (fun b19 => ?_)
      · replace h := of_br_t b19 h
        cbv
        replace h := of_req h
        obtain ⟨c14, h⟩ := h
        refine ⟨⟨c14, trivial⟩, ?_⟩
        replace h := of_req h
        obtain ⟨c15, h⟩ := h
        refine ⟨⟨c15, trivial⟩, ?_⟩
        replace h := of_bind h
        obtain ⟨y16, hy17, h⟩ := h
        refine ⟨{ args := [.agg [.v (.string (GD a0 (A.toN v1)).fName), .bs (LEN (GD a0 (A.toN v1)).fShapes) 5 (row GD (encShape) (GD a0 (A.toN v1)).fShapes), .bs (LEN (GD a0 (A.toN v1)).fLabels) 4 (row GD (encLabel) (GD a0 (A.toN v1)).fLabels), .bs (LEN (GD a0 (A.toN v1)).fInstances) 8 (row GD (encInstance) (GD a0 (A.toN v1)).fInstances)], .agg [.v (.string (GD a1 (A.toN v1)).fName), .bs (LEN (GD a1 (A.toN v1)).fShapes) 5 (row GD (encShape) (GD a1 (A.toN v1)).fShapes), .bs (LEN (GD a1 (A.toN v1)).fLabels) 4 (row GD (encLabel) (GD a1 (A.toN v1)).fLabels), .bs (LEN (GD a1 (A.toN v1)).fInstances) 8 (row GD (encInstance) (GD a1 (A.toN v1)).fInstances)]], o0 := [], r := .c (.v (.bool y16)), o1 := [], fl := true, σ := [], τ := [] }, hf_laws_eqCell _ _ _ hy17, ⟨les_cons (AV.le_refl _) (les_cons (AV.le_refl _) (les_nil)), trivial, rfl, rfl, rfl, rfl, trivial, rfl⟩, ?_⟩
        cbv
        refine fork (fun b18 => ?_) (fun b18 => ?_)
        · replace h := of_br_t b18 h
          cbv
          injection h with h
          refine hY6 _ h.symm _ _ (And.intro rfl ?_) (by intro hh; cases hh)
          exact le_sparse rfl ⟨AV.le_refl _, trivial⟩ trivial rfl
        · replace h := of_br_f b18 h
          cbv
          injection h with h
          refine hK8 _ h.symm _ ?_
          exact le_sparse rfl ⟨AV.le_refl _, AV.le_refl _, AV.le_refl _, trivial⟩ trivial rfl
      · replace h := of_br_f b19 h
        cbv
        injection h with h
        refine hY6 _ h.symm _ _ (And.intro rfl ?_) (by intro hh; cases hh)
        exact le_sparse rfl trivial trivial rfl
    · clear hr4
      have h := hN5
      clear hN5
      intro e12 s13 q11 hne
      rcases y3 with y3k0 | y3m0
      · replace h := h
        obtain ⟨rfl, q11⟩ := q11
        cbv
        injection h with h
        subst h
        refine ⟨(sparse 27 [(4, .c (.v (.bool false)))] []), ?_, ?_⟩
        · refine St.le_trans q11 ?_
          exact le_sparse rfl ⟨AV.le_refl _, trivial⟩ trivial rfl
        · exact ⟨AV.le_refl _, trivial, rfl⟩
      · obtain ⟨rfl, q11⟩ := q11
        cbv
        refine ⟨_, q11, ?_⟩
        cbv
        injection h with h
        subst h
        refine ⟨(sparse 27 [(4, .c (.v (.bool true)))] []), ?_, ?_⟩
        · exact le_sparse rfl ⟨AV.le_refl _, trivial⟩ trivial rfl
        · exact ⟨AV.le_refl _, trivial, rfl⟩

/-- laws.eqLibrary -/
noncomputable def F_laws_eqLibrary (a0 : TLibrary) (a1 : TLibrary) : Option (Bool) :=
  (F_laws_eqCellS a0.fCells a1.fCells).bind fun y1 =>
  br (!(y1))
  (some false)
  (some true)
theorem run_laws_eqLibrary (a0 : TLibrary) (a1 : TLibrary) (r : Bool) (h : F_laws_eqLibrary a0 a1 = some r) : Fun Try.prog 60 [.agg [.bs (len a0.fCells) 4 (row gd (encCell len gd) a0.fCells)], .agg [.bs (len a1.fCells) 4 (row gd (encCell len gd) a1.fCells)]] [] (.c (.v (.bool r))) [] true := by
  refine Fun.of_wp (oneOf []) tok mixed Try.func60 (by kernel_rfl) rfl Try.ntmps60 rfl trivial (fun _ => ⟨trivial, trivial⟩) ?_
  unfold F_laws_eqLibrary at h
  have hf_laws_eqCellS := @run_laws_eqCellS
  generalize hLEN : @len = LEN at *
  generalize hGD : @gd = GD at *
  generalize hA : std = A at *
  generalize hP : Try.prog = P at *
  cbv
  replace h := of_bind h
  obtain ⟨y1, hy2, h⟩ := h
  refine ⟨{ args := [.c (.bs (LEN a0.fCells) 4 (row GD (encCell LEN GD) a0.fCells)), .c (.bs (LEN a1.fCells) 4 (row GD (encCell LEN GD) a1.fCells))], o0 := [], r := .c (.v (.bool y1)), o1 := [], fl := true, σ := [], τ := [] }, hf_laws_eqCellS _ _ _ hy2, ⟨les_cons (AV.le_refl _) (les_cons (AV.le_refl _) (les_nil)), trivial, rfl, rfl, rfl, rfl, trivial, rfl⟩, ?_⟩
  cbv
  refine fork (fun b3 => ?_) (fun b3 => ?_)
  · replace h := of_br_t b3 h
    cbv
    injection h with h
    subst h
    refine ⟨(sparse 11 [(4, .c (.v (.bool false)))] []), ?_, ?_⟩
    · exact le_sparse rfl ⟨AV.le_refl _, trivial⟩ trivial rfl
    · exact ⟨AV.le_refl _, trivial, rfl⟩
  · replace h := of_br_f b3 h
    cbv
    injection h with h
    subst h
    refine ⟨(sparse 11 [(4, .c (.v (.bool true)))] []), ?_, ?_⟩
    · exact le_sparse rfl ⟨AV.le_refl _, trivial⟩ trivial rfl
    · exact ⟨AV.le_refl _, trivial, rfl⟩

/-- laws.FnExactCellLine -/
noncomputable def F_laws_FnExactCellLine (a0 : TLibrary) (a1 : Int) : Option (Bool) :=
  (F_laws_szLibrary (TLibrary.mk a0.fCells) 1048576).bind fun y1 =>
  br (std.lt y1 0)
  (some true)
  ((F_laws_toLibrary (TLibrary.mk a0.fCells)).bind fun y3 =>
  (F_spec_CellLine y3 a1).bind fun y5 =>
  (F_laws_toLibrary (TLibrary.mk a0.fCells)).bind fun y7 =>
  (F_impl_CellLine y7 a1).bind fun y9 =>
  br (std.not (std.eq y9 y5))
  (some false)
  ((F_laws_toLibrary (TLibrary.mk a0.fCells)).bind fun y11 =>
  (F_laws_eqLibrary y7 y11).bind fun y13 =>
  br (!(y13))
  (some false)
  (some true)))
theorem run_laws_FnExactCellLine (a0 : TLibrary) (a1 : Int) (r : Bool) (h : F_laws_FnExactCellLine a0 a1 = some r) : Fun Try.prog 12 [.agg [.bs (len a0.fCells) 4 (row gd (encCell len gd) a0.fCells)], .c (.v (.int .i64 a1))] [] (.c (.v (.bool r))) [] true := by
  refine Fun.of_wp (oneOf []) tok mixed Try.func12 (by kernel_rfl) rfl Try.ntmps12 rfl trivial (fun _ => ⟨trivial, trivial⟩) ?_
  unfold F_laws_FnExactCellLine at h
  have hf_impl_CellLine := @run_impl_CellLine
  have hf_laws_eqLibrary := @run_laws_eqLibrary
  have hf_laws_szLibrary := @run_laws_szLibrary
  have hf_laws_toLibrary := @run_laws_toLibrary
  have hf_spec_CellLine := @run_spec_CellLine
  generalize hLEN : @len = LEN at *
  generalize hGD : @gd = GD at *
  generalize hA : std = A at *
  generalize hP : Try.prog = P at *
  cbv
  replace h := of_bind h
  obtain ⟨y1, hy2, h⟩ := h
  refine ⟨{ args := [.agg [.bs (LEN a0.fCells) 4 (row GD (encCell LEN GD) a0.fCells)], .c (.v (.int .i64 1048576))], o0 := [], r := .c (.v (.int .i64 y1)), o1 := [], fl := true, σ := [], τ := [] }, hf_laws_szLibrary _ _ _ hy2, ⟨les_cons (AV.le_refl _) (les_cons (AV.le_refl _) (les_nil)), trivial, rfl, rfl, rfl, rfl, trivial, rfl⟩, ?_⟩
  cbv
  refine fork (fun b17 => ?_) (fun b17 => ?_)
  · replace h := of_br_t b17 h
    cbv
    injection h with h
    subst h
    refine ⟨(sparse 31 [(4, .c (.v (.bool true)))] []), ?_, ?_⟩
    · exact le_sparse rfl ⟨AV.le_refl _, trivial⟩ trivial rfl
    · exact ⟨AV.le_refl _, trivial, rfl⟩
  · replace h := of_br_f b17 h
    cbv
    replace h := of_bind h
    obtain ⟨y3, hy4, h⟩ := h
    refine ⟨{ args := [.agg [.bs (LEN a0.fCells) 4 (row GD (encCell LEN GD) a0.fCells)]], o0 := [], r := .agg [.os 64000 0 (LEN y3.fCells)], o1 := [(64000, .arr .rw [] (LEN y3.fCells) 4 (row GD (oncCell LEN GD) y3.fCells))], fl := true, σ := [], τ := [(64000, 960)] }, hf_laws_toLibrary _ _ hy4, ⟨les_cons (AV.le_refl _) (les_nil), trivial, rfl, rfl, rfl, rfl, ⟨fun h => absurd (show (64000 : Nat) % 2 = 1 from h) (by decide), trivial⟩, rfl⟩, _, rfl, _, _, rfl, fun _ _ _ _ => rfl, ?_⟩
    cbv
    replace h := of_bind h
    obtain ⟨y5, hy6, h⟩ := h
    refine ⟨{ args := [.agg [.bs (LEN y3.fCells) 4 (row GD (encCell LEN GD) y3.fCells)], .c (.v (.int .i64 a1))], o0 := [], r := .c (.v (.int .i64 y5)), o1 := [], fl := true, σ := [], τ := [] }, hf_spec_CellLine _ _ _ hy6, ⟨les_cons (le_agg ⟨give_osD (rf_oncCell) (ln_oncCell) rfl rfl rfl, trivial⟩) (les_cons (AV.le_refl _) (les_nil)), trivial, rfl, rfl, rfl, rfl, trivial, rfl⟩, ?_⟩
    cbv
    replace h := of_bind h
    obtain ⟨y7, hy8, h⟩ := h
    refine ⟨{ args := [.agg [.bs (LEN a0.fCells) 4 (row GD (encCell LEN GD) a0.fCells)]], o0 := [], r := .agg [.os 64000 0 (LEN y7.fCells)], o1 := [(64000, .arr .rw [] (LEN y7.fCells) 4 (row GD (oncCell LEN GD) y7.fCells))], fl := true, σ := [], τ := [(64000, 1216)] }, hf_laws_toLibrary _ _ hy8, ⟨les_cons (AV.le_refl _) (les_nil), trivial, rfl, rfl, rfl, rfl, ⟨fun h => absurd (show (64000 : Nat) % 2 = 1 from h) (by decide), trivial⟩, rfl⟩, _, rfl, _, _, rfl, fun _ _ _ _ => rfl, ?_⟩
    cbv
    replace h := of_bind h
    obtain ⟨y9, hy10, h⟩ := h
    refine ⟨{ args := [.agg [.bs (LEN y7.fCells) 4 (row GD (encCell LEN GD) y7.fCells)], .c (.v (.int .i64 a1))], o0 := [], r := .c (.v (.int .i64 y9)), o1 := [], fl := true, σ := [], τ := [] }, hf_impl_CellLine _ _ _ hy10, ⟨les_cons (le_agg ⟨give_osD (rf_oncCell) (ln_oncCell) rfl rfl rfl, trivial⟩) (les_cons (AV.le_refl _) (les_nil)), trivial, rfl, rfl, rfl, rfl, trivial, rfl⟩, ?_⟩
    cbv
    refine fork (fun b16 => ?_) (fun b16 => ?_)
    · replace h := of_br_t b16 h
      cbv
      injection h with h
      subst h
      refine ⟨(sparse 31 [(4, .c (.v (.bool false)))] []), ?_, ?_⟩
      · exact le_sparse rfl ⟨AV.le_refl _, trivial⟩ trivial rfl
      · exact ⟨AV.le_refl _, trivial, rfl⟩
    · replace h := of_br_f b16 h
      cbv
      replace h := of_bind h
      obtain ⟨y11, hy12, h⟩ := h
      refine ⟨{ args := [.agg [.bs (LEN a0.fCells) 4 (row GD (encCell LEN GD) a0.fCells)]], o0 := [], r := .agg [.os 64000 0 (LEN y11.fCells)], o1 := [(64000, .arr .rw [] (LEN y11.fCells) 4 (row GD (oncCell LEN GD) y11.fCells))], fl := true, σ := [], τ := [(64000, 1792)] }, hf_laws_toLibrary _ _ hy12, ⟨les_cons (AV.le_refl _) (les_nil), trivial, rfl, rfl, rfl, rfl, ⟨fun h => absurd (show (64000 : Nat) % 2 = 1 from h) (by decide), trivial⟩, rfl⟩, _, rfl, _, _, rfl, fun _ _ _ _ => rfl, ?_⟩
      cbv
      replace h := of_bind h
      obtain ⟨y13, hy14, h⟩ := h
      refine ⟨{ args := [.agg [.bs (LEN y7.fCells) 4 (row GD (encCell LEN GD) y7.fCells)], .agg [.bs (LEN y11.fCells) 4 (row GD (encCell LEN GD) y11.fCells)]], o0 := [], r := .c (.v (.bool y13)), o1 := [], fl := true, σ := [], τ := [] }, hf_laws_eqLibrary _ _ _ hy14, ⟨les_cons (le_agg ⟨give_osD (rf_oncCell) (ln_oncCell) rfl rfl rfl, trivial⟩) (les_cons (le_agg ⟨give_osD (rf_oncCell) (ln_oncCell) rfl rfl rfl, trivial⟩) (les_nil)), trivial, rfl, rfl, rfl, rfl, trivial, rfl⟩, ?_⟩
      cbv
      refine fork (fun b15 => ?_) (fun b15 => ?_)
      · replace h := of_br_t b15 h
        cbv
        injection h with h
        subst h
        refine ⟨(sparse 31 [(4, .c (.v (.bool false)))] []), ?_, ?_⟩
        · exact le_sparse rfl ⟨AV.le_refl _, trivial⟩ trivial rfl
        · exact ⟨AV.le_refl _, trivial, rfl⟩
      · replace h := of_br_f b15 h
        cbv
        injection h with h
        subst h
        refine ⟨(sparse 31 [(4, .c (.v (.bool true)))] []), ?_, ?_⟩
        · exact le_sparse rfl ⟨AV.le_refl _, trivial⟩ trivial rfl
        · exact ⟨AV.le_refl _, trivial, rfl⟩

/-- spec.l13Byte -/
noncomputable def F_spec_l13Byte (a0 : Int) : Option (ByteArray) :=
  letO ([std.conv .u8 a0] : List Int) fun l1 =>
  some (std.ofBytes (len l1) (fun i => gd l1 (0 + i)))
theorem run_spec_l13Byte (a0 : Int) (r : ByteArray) (h : F_spec_l13Byte a0 = some r) : Fun Try.prog 69 [.c (.v (.int .i64 a0))] [] (.c (.v (.string r))) [] true := by
  refine Fun.of_wp (oneOf []) tok mixed Try.func69 (by kernel_rfl) rfl Try.ntmps69 rfl trivial (fun _ => ⟨trivial, trivial⟩) ?_
  unfold F_spec_l13Byte at h
  generalize hLEN : @len = LEN at *
  generalize hGD : @gd = GD at *
  generalize hA : std = A at *
  generalize hP : Try.prog = P at *
  cbv
  replace h := of_let h
  obtain ⟨l1, hl1, h⟩ := h
  have e2 : 1 = LEN l1 := by subst hl1 hLEN; rfl
  refine ⟨_, congrArg (fun n => AV.c (AC.os 320 0 n)) e2, _, row GD (encI .u8) l1, e2, ?_, ?_⟩
  · intro i hi j hj
    rw [← e2] at hi
    subst hl1
    subst hGD
    obtain rfl : i = 0 := by omega
    all_goals obtain rfl : j = 0 := by omega
    all_goals rfl
  cbv
  refine ⟨fun _ _ => rfl, ?_⟩
  injection h with h
  subst h
  refine ⟨(sparse 7 [(2, .c (.v (.string (A.ofBytes (LEN l1) (fun i => GD l1 (0 + i))))))] []), ?_, ?_⟩
  · exact le_sparse rfl ⟨AV.le_refl _, trivial⟩ trivial rfl
  · exact ⟨AV.le_refl _, trivial, rfl⟩
/-- spec.l13Name -/
noncomputable def F_spec_l13Name (a0 : ByteArray) : Option (ByteArray) :=
  (F_spec_l13Byte (std.ofN (std.slen a0))).bind fun y1 =>
  req (std.room (std.nadd (std.slen y1) (std.slen a0)) 1) <|
  some (std.scat y1 a0)
theorem run_spec_l13Name (a0 : ByteArray) (r : ByteArray) (h : F_spec_l13Name a0 = some r) : Fun Try.prog 73 [.c (.v (.string a0))] [] (.c (.v (.string r))) [] true := by
  refine Fun.of_wp (oneOf []) tok mixed Try.func73 (by kernel_rfl) rfl Try.ntmps73 rfl trivial (fun _ => ⟨trivial, trivial⟩) ?_
  unfold F_spec_l13Name at h
  have hf_spec_l13Byte := @run_spec_l13Byte
  generalize hLEN : @len = LEN at *
  generalize hGD : @gd = GD at *
  generalize hA : std = A at *
  generalize hP : Try.prog = P at *
  cbv
  replace h := of_bind h
  obtain ⟨y1, hy2, h⟩ := h
  refine ⟨{ args := [.c (.v (.int .i64 (A.ofN (A.slen a0))))], o0 := [], r := .c (.v (.string y1)), o1 := [], fl := true, σ := [], τ := [] }, hf_spec_l13Byte _ _ hy2, ⟨les_cons (AV.le_refl _) (les_nil), trivial, rfl, rfl, rfl, rfl, trivial, rfl⟩, ?_⟩
  cbv
  replace h := of_req h
  obtain ⟨c3, h⟩ := h
  refine ⟨c3, ?_⟩
  injection h with h
  subst h
  refine ⟨(sparse 8 [(2, .c (.v (.string (A.scat y1 a0))))] []), ?_, ?_⟩
  · exact le_sparse rfl ⟨AV.le_refl _, trivial⟩ trivial rfl
  · exact ⟨AV.le_refl _, trivial, rfl⟩

/-- spec.l13Two -/
noncomputable def F_spec_l13Two (a0 : Int) : Option (ByteArray) :=
  req (std.nneg 8) <|
  letO ([std.conv .u8 (std.shr .i64 a0 8), std.conv .u8 a0] : List Int) fun l2 =>
  some (std.ofBytes (len l2) (fun i => gd l2 (0 + i)))
theorem run_spec_l13Two (a0 : Int) (r : ByteArray) (h : F_spec_l13Two a0 = some r) : Fun Try.prog 83 [.c (.v (.int .i64 a0))] [] (.c (.v (.string r))) [] true := by
  refine Fun.of_wp (oneOf []) tok mixed Try.func83 (by kernel_rfl) rfl Try.ntmps83 rfl trivial (fun _ => ⟨trivial, trivial⟩) ?_
  unfold F_spec_l13Two at h
  generalize hLEN : @len = LEN at *
  generalize hGD : @gd = GD at *
  generalize hA : std = A at *
  generalize hP : Try.prog = P at *
  cbv
  replace h := of_req h
  obtain ⟨c1, h⟩ := h
  refine ⟨c1, ?_⟩
  replace h := of_let h
  obtain ⟨l2, hl2, h⟩ := h
  have e3 : 2 = LEN l2 := by subst hl2 hLEN; rfl
  refine ⟨_, congrArg (fun n => AV.c (AC.os 512 0 n)) e3, _, row GD (encI .u8) l2, e3, ?_, ?_⟩
  · intro i hi j hj
    rw [← e3] at hi
    subst hl2
    subst hGD
    obtain rfl | rfl : i = 0 ∨ i = 1 := by omega
    all_goals obtain rfl : j = 0 := by omega
    all_goals rfl
  cbv
  refine ⟨fun _ _ => rfl, ?_⟩
  injection h with h
  subst h
  refine ⟨(sparse 10 [(2, .c (.v (.string (A.ofBytes (LEN l2) (fun i => GD l2 (0 + i))))))] []), ?_, ?_⟩
  · exact le_sparse rfl ⟨AV.le_refl _, trivial⟩ trivial rfl
  · exact ⟨AV.le_refl _, trivial, rfl⟩

noncomputable def L_spec_Checksum16_x3 (a0 : ByteArray) : (Int × Int) → Option ((Int × Int) ⊕ ((Int))) := fun x3 =>
  letO x3.1 fun v1 =>
  letO x3.2 fun v2 =>
  br (std.lt v2 (std.ofN (std.slen a0)))
  (req (std.inR v2 (std.slen a0)) <|
  req (std.nz 65521) <|
  some (.inl (std.rem (std.add .i64 (std.add .i64 (std.mul .i64 31 v1) (std.conv .i64 (std.sat a0 (std.toN v2)))) 1) 65521, std.add .i64 v2 1)))
  (some (.inr v1))
/-- spec.Checksum16 -/
noncomputable def F_spec_Checksum16 (a0 : ByteArray) : Option (Int) :=
  (whileP (σ := Int × Int) (ρ := (Int)) (L_spec_Checksum16_x3 a0) (1, 0)).bind fun y4 =>
  letO y4 fun y4k0 =>
  letO y4k0 fun w18 =>
  some w18
theorem run_spec_Checksum16 (a0 : ByteArray) (r : Int) (h : F_spec_Checksum16 a0 = some r) : Fun Try.prog 84 [.c (.v (.string a0))] [] (.c (.v (.int .i64 r))) [] true := by
  refine Fun.of_wp (oneOf []) tok mixed Try.func84 (by kernel_rfl) rfl Try.ntmps84 rfl trivial (fun _ => ⟨trivial, trivial⟩) ?_
  unfold F_spec_Checksum16 at h
  unfold L_spec_Checksum16_x3 at h
  generalize hLEN : @len = LEN at *
  generalize hGD : @gd = GD at *
  generalize hA : std = A at *
  generalize hP : Try.prog = P at *
  cbv
  replace h := of_bind h
  obtain ⟨y4, hr5, hN6⟩ := h
  refine loop_cut hr5 (fun x => (sparse 21 [(0, .c (.v (.string a0))), (3, .c (.v (.int .i64 x.1))), (4, .c (.v (.int .i64 x.2)))] [])) ?_ (fun y e s => (fun (w : Int) => e = .exit 0 ∧ s.le (sparse 21 [(3, .c (.v (.int .i64 w)))] [])) y) ?_ ?_
  · clear hr5 hN6
    show St.le _ _
    exact le_sparse rfl ⟨AV.le_refl _, AV.le_refl _, AV.le_refl _, trivial⟩ trivial rfl
  · clear hr5 hN6
    intro x z10 h K8 hK9 hY7
    obtain ⟨x0_, x1_⟩ := x
    replace h := of_let h
    obtain ⟨v1, hv1, h⟩ := h
    have hv1 : v1 = x0_ := hv1
    subst hv1
    replace h := of_let h
    obtain ⟨v2, hv2, h⟩ := h
    have hv2 : v2 = x1_ := hv2
    subst hv2
    cbv
    refine fork (fun b17 => ?_) (fun b17 => ?_)
    · replace h := of_br_t b17 h
      cbv
      replace h := of_req h
      obtain ⟨c15, h⟩ := h
      refine ⟨c15, ?_⟩
      replace h := of_req h
      obtain ⟨c16, h⟩ := h
      refine ⟨c16, ?_⟩
      injection h with h
      refine hK9 _ h.symm _ ?_
      exact le_sparse rfl ⟨AV.le_refl _, AV.le_refl _, AV.le_refl _, trivial⟩ trivial rfl
    · replace h := of_br_f b17 h
      cbv
      injection h with h
      refine hY7 _ h.symm _ _ (And.intro rfl ?_) (by intro hh; cases hh)
      exact le_sparse rfl ⟨AV.le_refl _, trivial⟩ trivial rfl
  · clear hr5
    have h := hN6
    clear hN6
    intro e13 s14 q12 hne
    replace h := of_let h
    obtain ⟨y4k0, hyk, h⟩ := h
    have hyk : y4k0 = y4 := hyk
    subst hyk
    obtain ⟨rfl, q12⟩ := q12
    replace h := of_let h
    obtain ⟨w18, hw18, h⟩ := h
    have hw18 : w18 = y4k0 := hw18
    subst hw18
    cbv
    refine ⟨_, q12, ?_⟩
    cbv
    injection h with h
    subst h
    refine ⟨(sparse 21 [(2, .c (.v (.int .i64 w18)))] []), ?_, ?_⟩
    · exact le_sparse rfl ⟨AV.le_refl _, trivial⟩ trivial rfl
    · exact ⟨AV.le_refl _, trivial, rfl⟩

/-- spec.l14Record -/
noncomputable def F_spec_l14Record (a0 : Int) (a1 : ByteArray) : Option (ByteArray) :=
  (F_spec_l13Two (std.add .i64 (std.ofN (std.slen a1)) 5)).bind fun y1 =>
  (F_spec_l13Byte a0).bind fun y3 =>
  req (std.room (std.nadd (std.slen y1) (std.slen y3)) 1) <|
  req (std.room (std.nadd (std.slen (std.scat y1 y3)) (std.slen a1)) 1) <|
  (F_spec_Checksum16 (std.scat (std.scat y1 y3) a1)).bind fun y7 =>
  (F_spec_l13Two y7).bind fun y9 =>
  req (std.room (std.nadd (std.slen (std.scat (std.scat y1 y3) a1)) (std.slen y9)) 1) <|
  some (std.scat (std.scat (std.scat y1 y3) a1) y9)
theorem run_spec_l14Record (a0 : Int) (a1 : ByteArray) (r : ByteArray) (h : F_spec_l14Record a0 a1 = some r) : Fun Try.prog 133 [.c (.v (.int .i64 a0)), .c (.v (.string a1))] [] (.c (.v (.string r))) [] true := by
  refine Fun.of_wp (oneOf []) tok mixed Try.func133 (by kernel_rfl) rfl Try.ntmps133 rfl trivial (fun _ => ⟨trivial, trivial⟩) ?_
  unfold F_spec_l14Record at h
  have hf_spec_Checksum16 := @run_spec_Checksum16
  have hf_spec_l13Byte := @run_spec_l13Byte
  have hf_spec_l13Two := @run_spec_l13Two
  generalize hLEN : @len = LEN at *
  generalize hGD : @gd = GD at *
  generalize hA : std = A at *
  generalize hP : Try.prog = P at *
  cbv
  replace h := of_bind h
  obtain ⟨y1, hy2, h⟩ := h
  refine ⟨{ args := [.c (.v (.int .i64 (A.add .i64 (A.ofN (A.slen a1)) 5)))], o0 := [], r := .c (.v (.string y1)), o1 := [], fl := true, σ := [], τ := [] }, hf_spec_l13Two _ _ hy2, ⟨les_cons (AV.le_refl _) (les_nil), trivial, rfl, rfl, rfl, rfl, trivial, rfl⟩, ?_⟩
  cbv
  replace h := of_bind h
  obtain ⟨y3, hy4, h⟩ := h
  refine ⟨{ args := [.c (.v (.int .i64 a0))], o0 := [], r := .c (.v (.string y3)), o1 := [], fl := true, σ := [], τ := [] }, hf_spec_l13Byte _ _ hy4, ⟨les_cons (AV.le_refl _) (les_nil), trivial, rfl, rfl, rfl, rfl, trivial, rfl⟩, ?_⟩
  cbv
  replace h := of_req h
  obtain ⟨c5, h⟩ := h
  refine ⟨c5, ?_⟩
  replace h := of_req h
  obtain ⟨c6, h⟩ := h
  refine ⟨c6, ?_⟩
  replace h := of_bind h
  obtain ⟨y7, hy8, h⟩ := h
  refine ⟨{ args := [.c (.v (.string (A.scat (A.scat y1 y3) a1)))], o0 := [], r := .c (.v (.int .i64 y7)), o1 := [], fl := true, σ := [], τ := [] }, hf_spec_Checksum16 _ _ hy8, ⟨les_cons (AV.le_refl _) (les_nil), trivial, rfl, rfl, rfl, rfl, trivial, rfl⟩, ?_⟩
  cbv
  replace h := of_bind h
  obtain ⟨y9, hy10, h⟩ := h
  refine ⟨{ args := [.c (.v (.int .i64 y7))], o0 := [], r := .c (.v (.string y9)), o1 := [], fl := true, σ := [], τ := [] }, hf_spec_l13Two _ _ hy10, ⟨les_cons (AV.le_refl _) (les_nil), trivial, rfl, rfl, rfl, rfl, trivial, rfl⟩, ?_⟩
  cbv
  replace h := of_req h
  obtain ⟨c11, h⟩ := h
  refine ⟨c11, ?_⟩
  injection h with h
  subst h
  refine ⟨(sparse 20 [(4, .c (.v (.string (A.scat (A.scat (A.scat y1 y3) a1) y9))))] []), ?_, ?_⟩
  · exact le_sparse rfl ⟨AV.le_refl _, trivial⟩ trivial rfl
  · exact ⟨AV.le_refl _, trivial, rfl⟩

/-- spec.l13Coordinate -/
noncomputable def F_spec_l13Coordinate (a0 : Int) : Option (ByteArray) :=
  (F_spec_l13Two (std.add .i64 a0 32768)).bind fun y1 =>
  some y1
theorem run_spec_l13Coordinate (a0 : Int) (r : ByteArray) (h : F_spec_l13Coordinate a0 = some r) : Fun Try.prog 146 [.c (.v (.int .i64 a0))] [] (.c (.v (.string r))) [] true := by
  refine Fun.of_wp (oneOf []) tok mixed Try.func146 (by kernel_rfl) rfl Try.ntmps146 rfl trivial (fun _ => ⟨trivial, trivial⟩) ?_
  unfold F_spec_l13Coordinate at h
  have hf_spec_l13Two := @run_spec_l13Two
  generalize hLEN : @len = LEN at *
  generalize hGD : @gd = GD at *
  generalize hA : std = A at *
  generalize hP : Try.prog = P at *
  cbv
  replace h := of_bind h
  obtain ⟨y1, hy2, h⟩ := h
  refine ⟨{ args := [.c (.v (.int .i64 (A.add .i64 a0 32768)))], o0 := [], r := .c (.v (.string y1)), o1 := [], fl := true, σ := [], τ := [] }, hf_spec_l13Two _ _ hy2, ⟨les_cons (AV.le_refl _) (les_nil), trivial, rfl, rfl, rfl, rfl, trivial, rfl⟩, ?_⟩
  cbv
  injection h with h
  subst h
  refine ⟨(sparse 6 [(2, .c (.v (.string y1)))] []), ?_, ?_⟩
  · exact le_sparse rfl ⟨AV.le_refl _, trivial⟩ trivial rfl
  · exact ⟨AV.le_refl _, trivial, rfl⟩

/-- spec.l13ShapeBytes -/
noncomputable def F_spec_l13ShapeBytes (a0 : TShape) : Option (ByteArray) :=
  (F_spec_l13Byte a0.fLayer).bind fun y1 =>
  (F_spec_l13Coordinate a0.fBox.fX0).bind fun y3 =>
  req (std.room (std.nadd (std.slen y1) (std.slen y3)) 1) <|
  (F_spec_l13Coordinate a0.fBox.fY0).bind fun y6 =>
  req (std.room (std.nadd (std.slen (std.scat y1 y3)) (std.slen y6)) 1) <|
  (F_spec_l13Coordinate a0.fBox.fX1).bind fun y9 =>
  req (std.room (std.nadd (std.slen (std.scat (std.scat y1 y3) y6)) (std.slen y9)) 1) <|
  (F_spec_l13Coordinate a0.fBox.fY1).bind fun y12 =>
  req (std.room (std.nadd (std.slen (std.scat (std.scat (std.scat y1 y3) y6) y9)) (std.slen y12)) 1) <|
  some (std.scat (std.scat (std.scat (std.scat y1 y3) y6) y9) y12)
theorem run_spec_l13ShapeBytes (a0 : TShape) (r : ByteArray) (h : F_spec_l13ShapeBytes a0 = some r) : Fun Try.prog 70 [.agg [.v (.int .i64 a0.fLayer), .v (.int .i64 a0.fBox.fX0), .v (.int .i64 a0.fBox.fY0), .v (.int .i64 a0.fBox.fX1), .v (.int .i64 a0.fBox.fY1)]] [] (.c (.v (.string r))) [] true := by
  refine Fun.of_wp (oneOf []) tok mixed Try.func70 (by kernel_rfl) rfl Try.ntmps70 rfl trivial (fun _ => ⟨trivial, trivial⟩) ?_
  unfold F_spec_l13ShapeBytes at h
  have hf_spec_l13Byte := @run_spec_l13Byte
  have hf_spec_l13Coordinate := @run_spec_l13Coordinate
  generalize hLEN : @len = LEN at *
  generalize hGD : @gd = GD at *
  generalize hA : std = A at *
  generalize hP : Try.prog = P at *
  cbv
  replace h := of_bind h
  obtain ⟨y1, hy2, h⟩ := h
  refine ⟨{ args := [.c (.v (.int .i64 a0.fLayer))], o0 := [], r := .c (.v (.string y1)), o1 := [], fl := true, σ := [], τ := [] }, hf_spec_l13Byte _ _ hy2, ⟨les_cons (AV.le_refl _) (les_nil), trivial, rfl, rfl, rfl, rfl, trivial, rfl⟩, ?_⟩
  cbv
  replace h := of_bind h
  obtain ⟨y3, hy4, h⟩ := h
  refine ⟨{ args := [.c (.v (.int .i64 a0.fBox.fX0))], o0 := [], r := .c (.v (.string y3)), o1 := [], fl := true, σ := [], τ := [] }, hf_spec_l13Coordinate _ _ hy4, ⟨les_cons (AV.le_refl _) (les_nil), trivial, rfl, rfl, rfl, rfl, trivial, rfl⟩, ?_⟩
  cbv
  replace h := of_req h
  obtain ⟨c5, h⟩ := h
  refine ⟨c5, ?_⟩
  replace h := of_bind h
  obtain ⟨y6, hy7, h⟩ := h
  refine ⟨{ args := [.c (.v (.int .i64 a0.fBox.fY0))], o0 := [], r := .c (.v (.string y6)), o1 := [], fl := true, σ := [], τ := [] }, hf_spec_l13Coordinate _ _ hy7, ⟨les_cons (AV.le_refl _) (les_nil), trivial, rfl, rfl, rfl, rfl, trivial, rfl⟩, ?_⟩
  cbv
  replace h := of_req h
  obtain ⟨c8, h⟩ := h
  refine ⟨c8, ?_⟩
  replace h := of_bind h
  obtain ⟨y9, hy10, h⟩ := h
  refine ⟨{ args := [.c (.v (.int .i64 a0.fBox.fX1))], o0 := [], r := .c (.v (.string y9)), o1 := [], fl := true, σ := [], τ := [] }, hf_spec_l13Coordinate _ _ hy10, ⟨les_cons (AV.le_refl _) (les_nil), trivial, rfl, rfl, rfl, rfl, trivial, rfl⟩, ?_⟩
  cbv
  replace h := of_req h
  obtain ⟨c11, h⟩ := h
  refine ⟨c11, ?_⟩
  replace h := of_bind h
  obtain ⟨y12, hy13, h⟩ := h
  refine ⟨{ args := [.c (.v (.int .i64 a0.fBox.fY1))], o0 := [], r := .c (.v (.string y12)), o1 := [], fl := true, σ := [], τ := [] }, hf_spec_l13Coordinate _ _ hy13, ⟨les_cons (AV.le_refl _) (les_nil), trivial, rfl, rfl, rfl, rfl, trivial, rfl⟩, ?_⟩
  cbv
  replace h := of_req h
  obtain ⟨c14, h⟩ := h
  refine ⟨c14, ?_⟩
  injection h with h
  subst h
  refine ⟨(sparse 26 [(2, .c (.v (.string (A.scat (A.scat (A.scat (A.scat y1 y3) y6) y9) y12))))] []), ?_, ?_⟩
  · exact le_sparse rfl ⟨AV.le_refl _, trivial⟩ trivial rfl
  · exact ⟨AV.le_refl _, trivial, rfl⟩

/-- spec.l13LabelBytes -/
noncomputable def F_spec_l13LabelBytes (a0 : TLabel) : Option (ByteArray) :=
  (F_spec_l13Byte a0.fLayer).bind fun y1 =>
  (F_spec_l13Coordinate a0.fAt.fX).bind fun y3 =>
  req (std.room (std.nadd (std.slen y1) (std.slen y3)) 1) <|
  (F_spec_l13Coordinate a0.fAt.fY).bind fun y6 =>
  req (std.room (std.nadd (std.slen (std.scat y1 y3)) (std.slen y6)) 1) <|
  (F_spec_l13Name a0.fName).bind fun y9 =>
  req (std.room (std.nadd (std.slen (std.scat (std.scat y1 y3) y6)) (std.slen y9)) 1) <|
  some (std.scat (std.scat (std.scat y1 y3) y6) y9)
theorem run_spec_l13LabelBytes (a0 : TLabel) (r : ByteArray) (h : F_spec_l13LabelBytes a0 = some r) : Fun Try.prog 71 [.agg [.v (.int .i64 a0.fLayer), .v (.int .i64 a0.fAt.fX), .v (.int .i64 a0.fAt.fY), .v (.string a0.fName)]] [] (.c (.v (.string r))) [] true := by
  refine Fun.of_wp (oneOf []) tok mixed Try.func71 (by kernel_rfl) rfl Try.ntmps71 rfl trivial (fun _ => ⟨trivial, trivial⟩) ?_
  unfold F_spec_l13LabelBytes at h
  have hf_spec_l13Byte := @run_spec_l13Byte
  have hf_spec_l13Coordinate := @run_spec_l13Coordinate
  have hf_spec_l13Name := @run_spec_l13Name
  generalize hLEN : @len = LEN at *
  generalize hGD : @gd = GD at *
  generalize hA : std = A at *
  generalize hP : Try.prog = P at *
  cbv
  replace h := of_bind h
  obtain ⟨y1, hy2, h⟩ := h
  refine ⟨{ args := [.c (.v (.int .i64 a0.fLayer))], o0 := [], r := .c (.v (.string y1)), o1 := [], fl := true, σ := [], τ := [] }, hf_spec_l13Byte _ _ hy2, ⟨les_cons (AV.le_refl _) (les_nil), trivial, rfl, rfl, rfl, rfl, trivial, rfl⟩, ?_⟩
  cbv
  replace h := of_bind h
  obtain ⟨y3, hy4, h⟩ := h
  refine ⟨{ args := [.c (.v (.int .i64 a0.fAt.fX))], o0 := [], r := .c (.v (.string y3)), o1 := [], fl := true, σ := [], τ := [] }, hf_spec_l13Coordinate _ _ hy4, ⟨les_cons (AV.le_refl _) (les_nil), trivial, rfl, rfl, rfl, rfl, trivial, rfl⟩, ?_⟩
  cbv
  replace h := of_req h
  obtain ⟨c5, h⟩ := h
  refine ⟨c5, ?_⟩
  replace h := of_bind h
  obtain ⟨y6, hy7, h⟩ := h
  refine ⟨{ args := [.c (.v (.int .i64 a0.fAt.fY))], o0 := [], r := .c (.v (.string y6)), o1 := [], fl := true, σ := [], τ := [] }, hf_spec_l13Coordinate _ _ hy7, ⟨les_cons (AV.le_refl _) (les_nil), trivial, rfl, rfl, rfl, rfl, trivial, rfl⟩, ?_⟩
  cbv
  replace h := of_req h
  obtain ⟨c8, h⟩ := h
  refine ⟨c8, ?_⟩
  replace h := of_bind h
  obtain ⟨y9, hy10, h⟩ := h
  refine ⟨{ args := [.c (.v (.string a0.fName))], o0 := [], r := .c (.v (.string y9)), o1 := [], fl := true, σ := [], τ := [] }, hf_spec_l13Name _ _ hy10, ⟨les_cons (AV.le_refl _) (les_nil), trivial, rfl, rfl, rfl, rfl, trivial, rfl⟩, ?_⟩
  cbv
  replace h := of_req h
  obtain ⟨c11, h⟩ := h
  refine ⟨c11, ?_⟩
  injection h with h
  subst h
  refine ⟨(sparse 20 [(2, .c (.v (.string (A.scat (A.scat (A.scat y1 y3) y6) y9))))] []), ?_, ?_⟩
  · exact le_sparse rfl ⟨AV.le_refl _, trivial⟩ trivial rfl
  · exact ⟨AV.le_refl _, trivial, rfl⟩

/-- spec.l13InstanceBytes -/
noncomputable def F_spec_l13InstanceBytes (a0 : TInstance) : Option (ByteArray) :=
  (F_spec_l13Byte a0.fCell).bind fun y1 =>
  (F_spec_l13Byte a0.fPlace.fOrientation).bind fun y3 =>
  req (std.room (std.nadd (std.slen y1) (std.slen y3)) 1) <|
  (F_spec_l13Coordinate a0.fPlace.fX).bind fun y6 =>
  req (std.room (std.nadd (std.slen (std.scat y1 y3)) (std.slen y6)) 1) <|
  (F_spec_l13Coordinate a0.fPlace.fY).bind fun y9 =>
  req (std.room (std.nadd (std.slen (std.scat (std.scat y1 y3) y6)) (std.slen y9)) 1) <|
  (F_spec_l13Byte a0.fColumns).bind fun y12 =>
  req (std.room (std.nadd (std.slen (std.scat (std.scat (std.scat y1 y3) y6) y9)) (std.slen y12)) 1) <|
  (F_spec_l13Byte a0.fRows).bind fun y15 =>
  req (std.room (std.nadd (std.slen (std.scat (std.scat (std.scat (std.scat y1 y3) y6) y9) y12)) (std.slen y15)) 1) <|
  (F_spec_l13Coordinate a0.fStepX).bind fun y18 =>
  req (std.room (std.nadd (std.slen (std.scat (std.scat (std.scat (std.scat (std.scat y1 y3) y6) y9) y12) y15)) (std.slen y18)) 1) <|
  (F_spec_l13Coordinate a0.fStepY).bind fun y21 =>
  req (std.room (std.nadd (std.slen (std.scat (std.scat (std.scat (std.scat (std.scat (std.scat y1 y3) y6) y9) y12) y15) y18)) (std.slen y21)) 1) <|
  some (std.scat (std.scat (std.scat (std.scat (std.scat (std.scat (std.scat y1 y3) y6) y9) y12) y15) y18) y21)
theorem run_spec_l13InstanceBytes (a0 : TInstance) (r : ByteArray) (h : F_spec_l13InstanceBytes a0 = some r) : Fun Try.prog 72 [.agg [.v (.int .i64 a0.fCell), .v (.int .i64 a0.fPlace.fOrientation), .v (.int .i64 a0.fPlace.fX), .v (.int .i64 a0.fPlace.fY), .v (.int .i64 a0.fColumns), .v (.int .i64 a0.fRows), .v (.int .i64 a0.fStepX), .v (.int .i64 a0.fStepY)]] [] (.c (.v (.string r))) [] true := by
  refine Fun.of_wp (oneOf []) tok mixed Try.func72 (by kernel_rfl) rfl Try.ntmps72 rfl trivial (fun _ => ⟨trivial, trivial⟩) ?_
  unfold F_spec_l13InstanceBytes at h
  have hf_spec_l13Byte := @run_spec_l13Byte
  have hf_spec_l13Coordinate := @run_spec_l13Coordinate
  generalize hLEN : @len = LEN at *
  generalize hGD : @gd = GD at *
  generalize hA : std = A at *
  generalize hP : Try.prog = P at *
  cbv
  replace h := of_bind h
  obtain ⟨y1, hy2, h⟩ := h
  refine ⟨{ args := [.c (.v (.int .i64 a0.fCell))], o0 := [], r := .c (.v (.string y1)), o1 := [], fl := true, σ := [], τ := [] }, hf_spec_l13Byte _ _ hy2, ⟨les_cons (AV.le_refl _) (les_nil), trivial, rfl, rfl, rfl, rfl, trivial, rfl⟩, ?_⟩
  cbv
  replace h := of_bind h
  obtain ⟨y3, hy4, h⟩ := h
  refine ⟨{ args := [.c (.v (.int .i64 a0.fPlace.fOrientation))], o0 := [], r := .c (.v (.string y3)), o1 := [], fl := true, σ := [], τ := [] }, hf_spec_l13Byte _ _ hy4, ⟨les_cons (AV.le_refl _) (les_nil), trivial, rfl, rfl, rfl, rfl, trivial, rfl⟩, ?_⟩
  cbv
  replace h := of_req h
  obtain ⟨c5, h⟩ := h
  refine ⟨c5, ?_⟩
  replace h := of_bind h
  obtain ⟨y6, hy7, h⟩ := h
  refine ⟨{ args := [.c (.v (.int .i64 a0.fPlace.fX))], o0 := [], r := .c (.v (.string y6)), o1 := [], fl := true, σ := [], τ := [] }, hf_spec_l13Coordinate _ _ hy7, ⟨les_cons (AV.le_refl _) (les_nil), trivial, rfl, rfl, rfl, rfl, trivial, rfl⟩, ?_⟩
  cbv
  replace h := of_req h
  obtain ⟨c8, h⟩ := h
  refine ⟨c8, ?_⟩
  replace h := of_bind h
  obtain ⟨y9, hy10, h⟩ := h
  refine ⟨{ args := [.c (.v (.int .i64 a0.fPlace.fY))], o0 := [], r := .c (.v (.string y9)), o1 := [], fl := true, σ := [], τ := [] }, hf_spec_l13Coordinate _ _ hy10, ⟨les_cons (AV.le_refl _) (les_nil), trivial, rfl, rfl, rfl, rfl, trivial, rfl⟩, ?_⟩
  cbv
  replace h := of_req h
  obtain ⟨c11, h⟩ := h
  refine ⟨c11, ?_⟩
  replace h := of_bind h
  obtain ⟨y12, hy13, h⟩ := h
  refine ⟨{ args := [.c (.v (.int .i64 a0.fColumns))], o0 := [], r := .c (.v (.string y12)), o1 := [], fl := true, σ := [], τ := [] }, hf_spec_l13Byte _ _ hy13, ⟨les_cons (AV.le_refl _) (les_nil), trivial, rfl, rfl, rfl, rfl, trivial, rfl⟩, ?_⟩
  cbv
  replace h := of_req h
  obtain ⟨c14, h⟩ := h
  refine ⟨c14, ?_⟩
  replace h := of_bind h
  obtain ⟨y15, hy16, h⟩ := h
  refine ⟨{ args := [.c (.v (.int .i64 a0.fRows))], o0 := [], r := .c (.v (.string y15)), o1 := [], fl := true, σ := [], τ := [] }, hf_spec_l13Byte _ _ hy16, ⟨les_cons (AV.le_refl _) (les_nil), trivial, rfl, rfl, rfl, rfl, trivial, rfl⟩, ?_⟩
  cbv
  replace h := of_req h
  obtain ⟨c17, h⟩ := h
  refine ⟨c17, ?_⟩
  replace h := of_bind h
  obtain ⟨y18, hy19, h⟩ := h
  refine ⟨{ args := [.c (.v (.int .i64 a0.fStepX))], o0 := [], r := .c (.v (.string y18)), o1 := [], fl := true, σ := [], τ := [] }, hf_spec_l13Coordinate _ _ hy19, ⟨les_cons (AV.le_refl _) (les_nil), trivial, rfl, rfl, rfl, rfl, trivial, rfl⟩, ?_⟩
  cbv
  replace h := of_req h
  obtain ⟨c20, h⟩ := h
  refine ⟨c20, ?_⟩
  replace h := of_bind h
  obtain ⟨y21, hy22, h⟩ := h
  refine ⟨{ args := [.c (.v (.int .i64 a0.fStepY))], o0 := [], r := .c (.v (.string y21)), o1 := [], fl := true, σ := [], τ := [] }, hf_spec_l13Coordinate _ _ hy22, ⟨les_cons (AV.le_refl _) (les_nil), trivial, rfl, rfl, rfl, rfl, trivial, rfl⟩, ?_⟩
  cbv
  replace h := of_req h
  obtain ⟨c23, h⟩ := h
  refine ⟨c23, ?_⟩
  injection h with h
  subst h
  refine ⟨(sparse 37 [(2, .c (.v (.string (A.scat (A.scat (A.scat (A.scat (A.scat (A.scat (A.scat y1 y3) y6) y9) y12) y15) y18) y21))))] []), ?_, ?_⟩
  · exact le_sparse rfl ⟨AV.le_refl _, trivial⟩ trivial rfl
  · exact ⟨AV.le_refl _, trivial, rfl⟩

/-- spec.l14Instance -/
noncomputable def F_spec_l14Instance (a0 : TLibrary) (a1 : TInstance) : Option (ByteArray) :=
  req (std.inR a1.fCell (len a0.fCells)) <|
  (F_spec_l13Name (gd a0.fCells (std.toN a1.fCell)).fName).bind fun y2 =>
  (F_spec_l13InstanceBytes a1).bind fun y4 =>
  req (std.upTo 1 (std.slen y4)) <|
  req (std.room (std.nadd (std.slen y2) (std.slen (std.ssub y4 (std.toN 1) (std.slen y4)))) 1) <|
  some (std.scat y2 (std.ssub y4 (std.toN 1) (std.slen y4)))
theorem run_spec_l14Instance (a0 : TLibrary) (a1 : TInstance) (r : ByteArray) (h : F_spec_l14Instance a0 a1 = some r) : Fun Try.prog 189 [.agg [.bs (len a0.fCells) 4 (row gd (encCell len gd) a0.fCells)], .agg [.v (.int .i64 a1.fCell), .v (.int .i64 a1.fPlace.fOrientation), .v (.int .i64 a1.fPlace.fX), .v (.int .i64 a1.fPlace.fY), .v (.int .i64 a1.fColumns), .v (.int .i64 a1.fRows), .v (.int .i64 a1.fStepX), .v (.int .i64 a1.fStepY)]] [] (.c (.v (.string r))) [] true := by
  refine Fun.of_wp (oneOf []) tok mixed Try.func189 (by kernel_rfl) rfl Try.ntmps189 rfl trivial (fun _ => ⟨trivial, trivial⟩) ?_
  unfold F_spec_l14Instance at h
  have hf_spec_l13InstanceBytes := @run_spec_l13InstanceBytes
  have hf_spec_l13Name := @run_spec_l13Name
  generalize hLEN : @len = LEN at *
  generalize hGD : @gd = GD at *
  generalize hA : std = A at *
  generalize hP : Try.prog = P at *
  cbv
  replace h := of_req h
  obtain ⟨c1, h⟩ := h
  refine ⟨⟨c1, trivial⟩, ?_⟩
  replace h := of_bind h
  obtain ⟨y2, hy3, h⟩ := h
  refine ⟨{ args := [.c (.v (.string (GD a0.fCells (A.toN a1.fCell)).fName))], o0 := [], r := .c (.v (.string y2)), o1 := [], fl := true, σ := [], τ := [] }, hf_spec_l13Name _ _ hy3, ⟨les_cons (AV.le_refl _) (les_nil), trivial, rfl, rfl, rfl, rfl, trivial, rfl⟩, ?_⟩
  cbv
  replace h := of_bind h
  obtain ⟨y4, hy5, h⟩ := h
  refine ⟨{ args := [.agg [.v (.int .i64 a1.fCell), .v (.int .i64 a1.fPlace.fOrientation), .v (.int .i64 a1.fPlace.fX), .v (.int .i64 a1.fPlace.fY), .v (.int .i64 a1.fColumns), .v (.int .i64 a1.fRows), .v (.int .i64 a1.fStepX), .v (.int .i64 a1.fStepY)]], o0 := [], r := .c (.v (.string y4)), o1 := [], fl := true, σ := [], τ := [] }, hf_spec_l13InstanceBytes _ _ hy5, ⟨les_cons (AV.le_refl _) (les_nil), trivial, rfl, rfl, rfl, rfl, trivial, rfl⟩, ?_⟩
  cbv
  replace h := of_req h
  obtain ⟨c6, h⟩ := h
  refine ⟨c6, ?_⟩
  replace h := of_req h
  obtain ⟨c7, h⟩ := h
  refine ⟨c7, ?_⟩
  injection h with h
  subst h
  refine ⟨(sparse 17 [(4, .c (.v (.string (A.scat y2 (A.ssub y4 (A.toN 1) (A.slen y4))))))] []), ?_, ?_⟩
  · exact le_sparse rfl ⟨AV.le_refl _, trivial⟩ trivial rfl
  · exact ⟨AV.le_refl _, trivial, rfl⟩

noncomputable def L_spec_l14Cell_x52 (a0 : TLibrary) (a1 : Int) : (ByteArray × Int) → Option ((ByteArray × Int) ⊕ ((ByteArray))) := fun x52 =>
  letO x52.1 fun v50 =>
  letO x52.2 fun v51 =>
  br (std.lt v51 (std.ofN (len (gd a0.fCells (std.toN a1)).fInstances)))
  (req (std.inR v51 (len (gd a0.fCells (std.toN a1)).fInstances)) <|
  (F_spec_l14Instance (TLibrary.mk a0.fCells) (gd (gd a0.fCells (std.toN a1)).fInstances (std.toN v51))).bind fun y65 =>
  (F_spec_l14Record 5 y65).bind fun y67 =>
  req (std.room (std.nadd (std.slen v50) (std.slen y67)) 1) <|
  some (.inl (std.scat v50 y67, std.add .i64 v51 1)))
  (some (.inr v50))
noncomputable def L_spec_l14Cell_x30 (a0 : TLibrary) (a1 : Int) : (ByteArray × Int) → Option ((ByteArray × Int) ⊕ ((ByteArray))) := fun x30 =>
  letO x30.1 fun v28 =>
  letO x30.2 fun v29 =>
  br (std.lt v29 (std.ofN (len (gd a0.fCells (std.toN a1)).fLabels)))
  (req (std.inR v29 (len (gd a0.fCells (std.toN a1)).fLabels)) <|
  (F_spec_l13LabelBytes (gd (gd a0.fCells (std.toN a1)).fLabels (std.toN v29))).bind fun y43 =>
  (F_spec_l14Record 4 y43).bind fun y45 =>
  req (std.room (std.nadd (std.slen v28) (std.slen y45)) 1) <|
  some (.inl (std.scat v28 y45, std.add .i64 v29 1)))
  (some (.inr v28))
noncomputable def L_spec_l14Cell_x8 (a0 : TLibrary) (a1 : Int) : (ByteArray × Int) → Option ((ByteArray × Int) ⊕ ((ByteArray))) := fun x8 =>
  letO x8.1 fun v6 =>
  letO x8.2 fun v7 =>
  br (std.lt v7 (std.ofN (len (gd a0.fCells (std.toN a1)).fShapes)))
  (req (std.inR v7 (len (gd a0.fCells (std.toN a1)).fShapes)) <|
  (F_spec_l13ShapeBytes (gd (gd a0.fCells (std.toN a1)).fShapes (std.toN v7))).bind fun y21 =>
  (F_spec_l14Record 3 y21).bind fun y23 =>
  req (std.room (std.nadd (std.slen v6) (std.slen y23)) 1) <|
  some (.inl (std.scat v6 y23, std.add .i64 v7 1)))
  (some (.inr v6))
/-- spec.l14Cell -/
noncomputable def F_spec_l14Cell (a0 : TLibrary) (a1 : Int) : Option (ByteArray) :=
  req (std.inR a1 (len a0.fCells)) <|
  (F_spec_l13Name (gd a0.fCells (std.toN a1)).fName).bind fun y2 =>
  (F_spec_l14Record 2 y2).bind fun y4 =>
  (whileP (σ := ByteArray × Int) (ρ := (ByteArray)) (L_spec_l14Cell_x8 a0 a1) (y4, 0)).bind fun y9 =>
  letO y9 fun y9k0 =>
  letO y9k0 fun w27 =>
  (whileP (σ := ByteArray × Int) (ρ := (ByteArray)) (L_spec_l14Cell_x30 a0 a1) (w27, 0)).bind fun y31 =>
  letO y31 fun y31k0 =>
  letO y31k0 fun w49 =>
  (whileP (σ := ByteArray × Int) (ρ := (ByteArray)) (L_spec_l14Cell_x52 a0 a1) (w49, 0)).bind fun y53 =>
  letO y53 fun y53k0 =>
  letO y53k0 fun w71 =>
  (F_spec_l13Byte (std.ofN (len (gd a0.fCells (std.toN a1)).fShapes))).bind fun y72 =>
  (F_spec_l13Byte (std.ofN (len (gd a0.fCells (std.toN a1)).fLabels))).bind fun y74 =>
  req (std.room (std.nadd (std.slen y72) (std.slen y74)) 1) <|
  (F_spec_l13Byte (std.ofN (len (gd a0.fCells (std.toN a1)).fInstances))).bind fun y77 =>
  req (std.room (std.nadd (std.slen (std.scat y72 y74)) (std.slen y77)) 1) <|
  (F_spec_l14Record 6 (std.scat (std.scat y72 y74) y77)).bind fun y80 =>
  req (std.room (std.nadd (std.slen w71) (std.slen y80)) 1) <|
  some (std.scat w71 y80)
theorem run_spec_l14Cell (a0 : TLibrary) (a1 : Int) (r : ByteArray) (h : F_spec_l14Cell a0 a1 = some r) : Fun Try.prog 132 [.agg [.bs (len a0.fCells) 4 (row gd (encCell len gd) a0.fCells)], .c (.v (.int .i64 a1))] [] (.c (.v (.string r))) [] true := by
  refine Fun.of_wp (oneOf []) tok mixed Try.func132 (by kernel_rfl) rfl Try.ntmps132 rfl trivial (fun _ => ⟨trivial, trivial⟩) ?_
  unfold F_spec_l14Cell at h
  unfold L_spec_l14Cell_x8 at h
  unfold L_spec_l14Cell_x30 at h
  unfold L_spec_l14Cell_x52 at h
  have hf_spec_l13Byte := @run_spec_l13Byte
  have hf_spec_l13LabelBytes := @run_spec_l13LabelBytes
  have hf_spec_l13Name := @run_spec_l13Name
  have hf_spec_l13ShapeBytes := @run_spec_l13ShapeBytes
  have hf_spec_l14Instance := @run_spec_l14Instance
  have hf_spec_l14Record := @run_spec_l14Record
  generalize hLEN : @len = LEN at *
  generalize hGD : @gd = GD at *
  generalize hA : std = A at *
  generalize hP : Try.prog = P at *
  cbv
  replace h := of_req h
  obtain ⟨c1, h⟩ := h
  refine ⟨⟨c1, trivial⟩, ?_⟩
  replace h := of_bind h
  obtain ⟨y2, hy3, h⟩ := h
  refine ⟨{ args := [.c (.v (.string (GD a0.fCells (A.toN a1)).fName))], o0 := [], r := .c (.v (.string y2)), o1 := [], fl := true, σ := [], τ := [] }, hf_spec_l13Name _ _ hy3, ⟨les_cons (AV.le_refl _) (les_nil), trivial, rfl, rfl, rfl, rfl, trivial, rfl⟩, ?_⟩
  cbv
  replace h := of_bind h
  obtain ⟨y4, hy5, h⟩ := h
  refine ⟨{ args := [.c (.v (.int .i64 2)), .c (.v (.string y2))], o0 := [], r := .c (.v (.string y4)), o1 := [], fl := true, σ := [], τ := [] }, hf_spec_l14Record _ _ _ hy5, ⟨les_cons (AV.le_refl _) (les_cons (AV.le_refl _) (les_nil)), trivial, rfl, rfl, rfl, rfl, trivial, rfl⟩, ?_⟩
  cbv
  replace h := of_bind h
  obtain ⟨y9, hr10, hN11⟩ := h
  refine loop_cut hr10 (fun x => (sparse 85 [(2, .c (.ptr 128 0)), (5, .c (.ptr 320 0)), (6, .c (.v (.string x.1))), (7, .c (.v (.int .i64 x.2)))] [(128, .var [.bs (LEN a0.fCells) 4 (row GD (encCell LEN GD) a0.fCells)]), (320, .var [.v (.string (GD a0.fCells (A.toN a1)).fName), .bs (LEN (GD a0.fCells (A.toN a1)).fShapes) 5 (row GD (encShape) (GD a0.fCells (A.toN a1)).fShapes), .bs (LEN (GD a0.fCells (A.toN a1)).fLabels) 4 (row GD (encLabel) (GD a0.fCells (A.toN a1)).fLabels), .bs (LEN (GD a0.fCells (A.toN a1)).fInstances) 8 (row GD (encInstance) (GD a0.fCells (A.toN a1)).fInstances)])])) ?_ (fun y e s => (fun (w : ByteArray) => e = .exit 0 ∧ s.le (sparse 85 [(2, .c (.ptr 128 0)), (5, .c (.ptr 320 0)), (6, .c (.v (.string w)))] [(128, .var [.bs (LEN a0.fCells) 4 (row GD (encCell LEN GD) a0.fCells)]), (320, .var [.v (.string (GD a0.fCells (A.toN a1)).fName), .bs (LEN (GD a0.fCells (A.toN a1)).fShapes) 5 (row GD (encShape) (GD a0.fCells (A.toN a1)).fShapes), .bs (LEN (GD a0.fCells (A.toN a1)).fLabels) 4 (row GD (encLabel) (GD a0.fCells (A.toN a1)).fLabels), .bs (LEN (GD a0.fCells (A.toN a1)).fInstances) 8 (row GD (encInstance) (GD a0.fCells (A.toN a1)).fInstances)])])) y) ?_ ?_
  · clear hr10 hN11
    show St.le _ _
    exact le_sparse rfl ⟨AV.le_refl _, AV.le_refl _, AV.le_refl _, AV.le_refl _, trivial⟩ ⟨rfl, rfl, trivial⟩ rfl
  · clear hr10 hN11
    intro x z15 h K13 hK14 hY12
    obtain ⟨x0_, x1_⟩ := x
    replace h := of_let h
    obtain ⟨v6, hv6, h⟩ := h
    have hv6 : v6 = x0_ := hv6
    subst hv6
    replace h := of_let h
    obtain ⟨v7, hv7, h⟩ := h
    have hv7 : v7 = x1_ := hv7
    subst hv7
    cbv
    refine fork (fun b26 => ?_) (fun b26 => ?_)
    · replace h := of_br_t b26 h
      cbv
      replace h := of_req h
      obtain ⟨c20, h⟩ := h
      refine ⟨⟨c20, trivial⟩, ?_⟩
      replace h := of_bind h
      obtain ⟨y21, hy22, h⟩ := h
      refine ⟨{ args := [.agg [.v (.int .i64 (GD (GD a0.fCells (A.toN a1)).fShapes (A.toN v7)).fLayer), .v (.int .i64 (GD (GD a0.fCells (A.toN a1)).fShapes (A.toN v7)).fBox.fX0), .v (.int .i64 (GD (GD a0.fCells (A.toN a1)).fShapes (A.toN v7)).fBox.fY0), .v (.int .i64 (GD (GD a0.fCells (A.toN a1)).fShapes (A.toN v7)).fBox.fX1), .v (.int .i64 (GD (GD a0.fCells (A.toN a1)).fShapes (A.toN v7)).fBox.fY1)]], o0 := [], r := .c (.v (.string y21)), o1 := [], fl := true, σ := [], τ := [] }, hf_spec_l13ShapeBytes _ _ hy22, ⟨les_cons (AV.le_refl _) (les_nil), trivial, rfl, rfl, rfl, rfl, trivial, rfl⟩, ?_⟩
      cbv
      replace h := of_bind h
      obtain ⟨y23, hy24, h⟩ := h
      refine ⟨{ args := [.c (.v (.int .i64 3)), .c (.v (.string y21))], o0 := [], r := .c (.v (.string y23)), o1 := [], fl := true, σ := [], τ := [] }, hf_spec_l14Record _ _ _ hy24, ⟨les_cons (AV.le_refl _) (les_cons (AV.le_refl _) (les_nil)), trivial, rfl, rfl, rfl, rfl, trivial, rfl⟩, ?_⟩
      cbv
      replace h := of_req h
      obtain ⟨c25, h⟩ := h
      refine ⟨c25, ?_⟩
      injection h with h
      refine hK14 _ h.symm _ ?_
      exact le_sparse rfl ⟨AV.le_refl _, AV.le_refl _, AV.le_refl _, AV.le_refl _, trivial⟩ ⟨rfl, rfl, trivial⟩ rfl
    · replace h := of_br_f b26 h
      cbv
      injection h with h
      refine hY12 _ h.symm _ _ (And.intro rfl ?_) (by intro hh; cases hh)
      exact le_sparse rfl ⟨AV.le_refl _, AV.le_refl _, AV.le_refl _, trivial⟩ ⟨rfl, rfl, trivial⟩ rfl
  · clear hr10
    have h := hN11
    clear hN11
    intro e18 s19 q17 hne
    replace h := of_let h
    obtain ⟨y9k0, hyk, h⟩ := h
    have hyk : y9k0 = y9 := hyk
    subst hyk
    obtain ⟨rfl, q17⟩ := q17
    replace h := of_let h
    obtain ⟨w27, hw27, h⟩ := h
    have hw27 : w27 = y9k0 := hw27
    subst hw27
    cbv
    refine ⟨_, q17, ?_⟩
    cbv
    replace h := of_bind h
    obtain ⟨y31, hr32, hN33⟩ := h
    refine loop_cut hr32 (fun x => (sparse 85 [(2, .c (.ptr 128 0)), (5, .c (.ptr 320 0)), (6, .c (.v (.string x.1))), (8, .c (.v (.int .i64 x.2)))] [(128, .var [.bs (LEN a0.fCells) 4 (row GD (encCell LEN GD) a0.fCells)]), (320, .var [.v (.string (GD a0.fCells (A.toN a1)).fName), .bs (LEN (GD a0.fCells (A.toN a1)).fShapes) 5 (row GD (encShape) (GD a0.fCells (A.toN a1)).fShapes), .bs (LEN (GD a0.fCells (A.toN a1)).fLabels) 4 (row GD (encLabel) (GD a0.fCells (A.toN a1)).fLabels), .bs (LEN (GD a0.fCells (A.toN a1)).fInstances) 8 (row GD (encInstance) (GD a0.fCells (A.toN a1)).fInstances)])])) ?_ (fun y e s => (fun (w : ByteArray) => e = .exit 2 ∧ s.le (sparse 85 [(2, .c (.ptr 128 0)), (5, .c (.ptr 320 0)), (6, .c (.v (.string w)))] [(128, .var [.bs (LEN a0.fCells) 4 (row GD (encCell LEN GD) a0.fCells)]), (320, .var [.v (.string (GD a0.fCells (A.toN a1)).fName), .bs (LEN (GD a0.fCells (A.toN a1)).fShapes) 5 (row GD (encShape) (GD a0.fCells (A.toN a1)).fShapes), .bs (LEN (GD a0.fCells (A.toN a1)).fLabels) 4 (row GD (encLabel) (GD a0.fCells (A.toN a1)).fLabels), .bs (LEN (GD a0.fCells (A.toN a1)).fInstances) 8 (row GD (encInstance) (GD a0.fCells (A.toN a1)).fInstances)])])) y) ?_ ?_
    · clear hr32 hN33
      show St.le _ _
      exact le_sparse rfl ⟨AV.le_refl _, AV.le_refl _, AV.le_refl _, AV.le_refl _, trivial⟩ ⟨rfl, rfl, trivial⟩ rfl
    · clear hr32 hN33
      intro x z37 h K35 hK36 hY34
      obtain ⟨x0_, x1_⟩ := x
      replace h := of_let h
      obtain ⟨v28, hv28, h⟩ := h
      have hv28 : v28 = x0_ := hv28
      subst hv28
      replace h := of_let h
      obtain ⟨v29, hv29, h⟩ := h
      have hv29 : v29 = x1_ := hv29
      subst hv29
      cbv
      refine fork (fun b48 => ?_) (fun b48 => ?_)
      · replace h := of_br_t b48 h
        cbv
        replace h := of_req h
        obtain ⟨c42, h⟩ := h
        refine ⟨⟨c42, trivial⟩, ?_⟩
        replace h := of_bind h
        obtain ⟨y43, hy44, h⟩ := h
        refine ⟨{ args := [.agg [.v (.int .i64 (GD (GD a0.fCells (A.toN a1)).fLabels (A.toN v29)).fLayer), .v (.int .i64 (GD (GD a0.fCells (A.toN a1)).fLabels (A.toN v29)).fAt.fX), .v (.int .i64 (GD (GD a0.fCells (A.toN a1)).fLabels (A.toN v29)).fAt.fY), .v (.string (GD (GD a0.fCells (A.toN a1)).fLabels (A.toN v29)).fName)]], o0 := [], r := .c (.v (.string y43)), o1 := [], fl := true, σ := [], τ := [] }, hf_spec_l13LabelBytes _ _ hy44, ⟨les_cons (AV.le_refl _) (les_nil), trivial, rfl, rfl, rfl, rfl, trivial, rfl⟩, ?_⟩
        cbv
        replace h := of_bind h
        obtain ⟨y45, hy46, h⟩ := h
        refine ⟨{ args := [.c (.v (.int .i64 4)), .c (.v (.string y43))], o0 := [], r := .c (.v (.string y45)), o1 := [], fl := true, σ := [], τ := [] }, hf_spec_l14Record _ _ _ hy46, ⟨les_cons (AV.le_refl _) (les_cons (AV.le_refl _) (les_nil)), trivial, rfl, rfl, rfl, rfl, trivial, rfl⟩, ?_⟩
        cbv
        replace h := of_req h
        obtain ⟨c47, h⟩ := h
        refine ⟨c47, ?_⟩
        injection h with h
        refine hK36 _ h.symm _ ?_
        exact le_sparse rfl ⟨AV.le_refl _, AV.le_refl _, AV.le_refl _, AV.le_refl _, trivial⟩ ⟨rfl, rfl, trivial⟩ rfl
      · replace h := of_br_f b48 h
        cbv
        injection h with h
        refine hY34 _ h.symm _ _ (And.intro rfl ?_) (by intro hh; cases hh)
        exact le_sparse rfl ⟨AV.le_refl _, AV.le_refl _, AV.le_refl _, trivial⟩ ⟨rfl, rfl, trivial⟩ rfl
    · clear hr32
      have h := hN33
      clear hN33
      intro e40 s41 q39 hne
      replace h := of_let h
      obtain ⟨y31k0, hyk, h⟩ := h
      have hyk : y31k0 = y31 := hyk
      subst hyk
      obtain ⟨rfl, q39⟩ := q39
      replace h := of_let h
      obtain ⟨w49, hw49, h⟩ := h
      have hw49 : w49 = y31k0 := hw49
      subst hw49
      cbv
      refine ⟨_, q39, ?_⟩
      cbv
      replace h := of_bind h
      obtain ⟨y53, hr54, hN55⟩ := h
      refine loop_cut hr54 (fun x => (sparse 85 [(2, .c (.ptr 128 0)), (5, .c (.ptr 320 0)), (6, .c (.v (.string x.1))), (9, .c (.v (.int .i64 x.2)))] [(128, .var [.bs (LEN a0.fCells) 4 (row GD (encCell LEN GD) a0.fCells)]), (320, .var [.v (.string (GD a0.fCells (A.toN a1)).fName), .bs (LEN (GD a0.fCells (A.toN a1)).fShapes) 5 (row GD (encShape) (GD a0.fCells (A.toN a1)).fShapes), .bs (LEN (GD a0.fCells (A.toN a1)).fLabels) 4 (row GD (encLabel) (GD a0.fCells (A.toN a1)).fLabels), .bs (LEN (GD a0.fCells (A.toN a1)).fInstances) 8 (row GD (encInstance) (GD a0.fCells (A.toN a1)).fInstances)])])) ?_ (fun y e s => (fun (w : ByteArray) => e = .exit 4 ∧ s.le (sparse 85 [(5, .c (.ptr 320 0)), (6, .c (.v (.string w)))] [(320, .var [.v (.string (GD a0.fCells (A.toN a1)).fName), .bs (LEN (GD a0.fCells (A.toN a1)).fShapes) 5 (row GD (encShape) (GD a0.fCells (A.toN a1)).fShapes), .bs (LEN (GD a0.fCells (A.toN a1)).fLabels) 4 (row GD (encLabel) (GD a0.fCells (A.toN a1)).fLabels), .bs (LEN (GD a0.fCells (A.toN a1)).fInstances) 8 (row GD (encInstance) (GD a0.fCells (A.toN a1)).fInstances)])])) y) ?_ ?_
      · clear hr54 hN55
        show St.le _ _
        exact le_sparse rfl ⟨AV.le_refl _, AV.le_refl _, AV.le_refl _, AV.le_refl _, trivial⟩ ⟨rfl, rfl, trivial⟩ rfl
      · clear hr54 hN55
        intro x z59 h K57 hK58 hY56
        obtain ⟨x0_, x1_⟩ := x
        replace h := of_let h
        obtain ⟨v50, hv50, h⟩ := h
        have hv50 : v50 = x0_ := hv50
        subst hv50
        replace h := of_let h
        obtain ⟨v51, hv51, h⟩ := h
        have hv51 : v51 = x1_ := hv51
        subst hv51
        cbv
        refine fork (fun b70 => ?_) (fun b70 => ?_)
        · replace h := of_br_t b70 h
          cbv
          replace h := of_req h
          obtain ⟨c64, h⟩ := h
          refine ⟨⟨c64, trivial⟩, ?_⟩
          replace h := of_bind h
          obtain ⟨y65, hy66, h⟩ := h
          refine ⟨{ args := [.agg [.bs (LEN a0.fCells) 4 (row GD (encCell LEN GD) a0.fCells)], .agg [.v (.int .i64 (GD (GD a0.fCells (A.toN a1)).fInstances (A.toN v51)).fCell), .v (.int .i64 (GD (GD a0.fCells (A.toN a1)).fInstances (A.toN v51)).fPlace.fOrientation), .v (.int .i64 (GD (GD a0.fCells (A.toN a1)).fInstances (A.toN v51)).fPlace.fX), .v (.int .i64 (GD (GD a0.fCells (A.toN a1)).fInstances (A.toN v51)).fPlace.fY), .v (.int .i64 (GD (GD a0.fCells (A.toN a1)).fInstances (A.toN v51)).fColumns), .v (.int .i64 (GD (GD a0.fCells (A.toN a1)).fInstances (A.toN v51)).fRows), .v (.int .i64 (GD (GD a0.fCells (A.toN a1)).fInstances (A.toN v51)).fStepX), .v (.int .i64 (GD (GD a0.fCells (A.toN a1)).fInstances (A.toN v51)).fStepY)]], o0 := [], r := .c (.v (.string y65)), o1 := [], fl := true, σ := [], τ := [] }, hf_spec_l14Instance _ _ _ hy66, ⟨les_cons (AV.le_refl _) (les_cons (AV.le_refl _) (les_nil)), trivial, rfl, rfl, rfl, rfl, trivial, rfl⟩, ?_⟩
          cbv
          replace h := of_bind h
          obtain ⟨y67, hy68, h⟩ := h
          refine ⟨{ args := [.c (.v (.int .i64 5)), .c (.v (.string y65))], o0 := [], r := .c (.v (.string y67)), o1 := [], fl := true, σ := [], τ := [] }, hf_spec_l14Record _ _ _ hy68, ⟨les_cons (AV.le_refl _) (les_cons (AV.le_refl _) (les_nil)), trivial, rfl, rfl, rfl, rfl, trivial, rfl⟩, ?_⟩
          cbv
          replace h := of_req h
          obtain ⟨c69, h⟩ := h
          refine ⟨c69, ?_⟩
          injection h with h
          refine hK58 _ h.symm _ ?_
          exact le_sparse rfl ⟨AV.le_refl _, AV.le_refl _, AV.le_refl _, AV.le_refl _, trivial⟩ ⟨rfl, rfl, trivial⟩ rfl
        · replace h := of_br_f b70 h
          cbv
          injection h with h
          refine hY56 _ h.symm _ _ (And.intro rfl ?_) (by intro hh; cases hh)
          exact le_sparse rfl ⟨AV.le_refl _, AV.le_refl _, trivial⟩ ⟨rfl, trivial⟩ rfl
      · clear hr54
        have h := hN55
        clear hN55
        intro e62 s63 q61 hne
        replace h := of_let h
        obtain ⟨y53k0, hyk, h⟩ := h
        have hyk : y53k0 = y53 := hyk
        subst hyk
        obtain ⟨rfl, q61⟩ := q61
        replace h := of_let h
        obtain ⟨w71, hw71, h⟩ := h
        have hw71 : w71 = y53k0 := hw71
        subst hw71
        cbv
        refine ⟨_, q61, ?_⟩
        cbv
        replace h := of_bind h
        obtain ⟨y72, hy73, h⟩ := h
        refine ⟨{ args := [.c (.v (.int .i64 (A.ofN (LEN (GD a0.fCells (A.toN a1)).fShapes))))], o0 := [], r := .c (.v (.string y72)), o1 := [], fl := true, σ := [], τ := [] }, hf_spec_l13Byte _ _ hy73, ⟨les_cons (AV.le_refl _) (les_nil), trivial, rfl, rfl, rfl, rfl, trivial, rfl⟩, ?_⟩
        cbv
        replace h := of_bind h
        obtain ⟨y74, hy75, h⟩ := h
        refine ⟨{ args := [.c (.v (.int .i64 (A.ofN (LEN (GD a0.fCells (A.toN a1)).fLabels))))], o0 := [], r := .c (.v (.string y74)), o1 := [], fl := true, σ := [], τ := [] }, hf_spec_l13Byte _ _ hy75, ⟨les_cons (AV.le_refl _) (les_nil), trivial, rfl, rfl, rfl, rfl, trivial, rfl⟩, ?_⟩
        cbv
        replace h := of_req h
        obtain ⟨c76, h⟩ := h
        refine ⟨c76, ?_⟩
        replace h := of_bind h
        obtain ⟨y77, hy78, h⟩ := h
        refine ⟨{ args := [.c (.v (.int .i64 (A.ofN (LEN (GD a0.fCells (A.toN a1)).fInstances))))], o0 := [], r := .c (.v (.string y77)), o1 := [], fl := true, σ := [], τ := [] }, hf_spec_l13Byte _ _ hy78, ⟨les_cons (AV.le_refl _) (les_nil), trivial, rfl, rfl, rfl, rfl, trivial, rfl⟩, ?_⟩
        cbv
        replace h := of_req h
        obtain ⟨c79, h⟩ := h
        refine ⟨c79, ?_⟩
        replace h := of_bind h
        obtain ⟨y80, hy81, h⟩ := h
        refine ⟨{ args := [.c (.v (.int .i64 6)), .c (.v (.string (A.scat (A.scat y72 y74) y77)))], o0 := [], r := .c (.v (.string y80)), o1 := [], fl := true, σ := [], τ := [] }, hf_spec_l14Record _ _ _ hy81, ⟨les_cons (AV.le_refl _) (les_cons (AV.le_refl _) (les_nil)), trivial, rfl, rfl, rfl, rfl, trivial, rfl⟩, ?_⟩
        cbv
        replace h := of_req h
        obtain ⟨c82, h⟩ := h
        refine ⟨c82, ?_⟩
        injection h with h
        subst h
        refine ⟨(sparse 85 [(4, .c (.v (.string (A.scat w71 y80))))] []), ?_, ?_⟩
        · exact le_sparse rfl ⟨AV.le_refl _, trivial⟩ trivial rfl
        · exact ⟨AV.le_refl _, trivial, rfl⟩
/-- spec.CellRecords -/
noncomputable def F_spec_CellRecords (a0 : TLibrary) (a1 : Int) : Option (ByteArray) :=
  (F_spec_l09Has (TLibrary.mk a0.fCells) a1).bind fun y1 =>
  br (!(y1))
  (some (ByteArray.mk #[]))
  ((F_spec_l14Cell (TLibrary.mk a0.fCells) a1).bind fun y3 =>
  some y3)
theorem run_spec_CellRecords (a0 : TLibrary) (a1 : Int) (r : ByteArray) (h : F_spec_CellRecords a0 a1 = some r) : Fun Try.prog 61 [.agg [.bs (len a0.fCells) 4 (row gd (encCell len gd) a0.fCells)], .c (.v (.int .i64 a1))] [] (.c (.v (.string r))) [] true := by
  refine Fun.of_wp (oneOf []) tok mixed Try.func61 (by kernel_rfl) rfl Try.ntmps61 rfl trivial (fun _ => ⟨trivial, trivial⟩) ?_
  unfold F_spec_CellRecords at h
  have hf_spec_l09Has := @run_spec_l09Has
  have hf_spec_l14Cell := @run_spec_l14Cell
  generalize hLEN : @len = LEN at *
  generalize hGD : @gd = GD at *
  generalize hA : std = A at *
  generalize hP : Try.prog = P at *
  cbv
  replace h := of_bind h
  obtain ⟨y1, hy2, h⟩ := h
  refine ⟨{ args := [.agg [.bs (LEN a0.fCells) 4 (row GD (encCell LEN GD) a0.fCells)], .c (.v (.int .i64 a1))], o0 := [], r := .c (.v (.bool y1)), o1 := [], fl := true, σ := [], τ := [] }, hf_spec_l09Has _ _ _ hy2, ⟨les_cons (AV.le_refl _) (les_cons (AV.le_refl _) (les_nil)), trivial, rfl, rfl, rfl, rfl, trivial, rfl⟩, ?_⟩
  cbv
  refine fork (fun b5 => ?_) (fun b5 => ?_)
  · replace h := of_br_t b5 h
    cbv
    injection h with h
    subst h
    refine ⟨(sparse 12 [(4, .c (.v (.string (ByteArray.mk #[]))))] []), ?_, ?_⟩
    · exact le_sparse rfl ⟨AV.le_refl _, trivial⟩ trivial rfl
    · exact ⟨AV.le_refl _, trivial, rfl⟩
  · replace h := of_br_f b5 h
    cbv
    replace h := of_bind h
    obtain ⟨y3, hy4, h⟩ := h
    refine ⟨{ args := [.agg [.bs (LEN a0.fCells) 4 (row GD (encCell LEN GD) a0.fCells)], .c (.v (.int .i64 a1))], o0 := [], r := .c (.v (.string y3)), o1 := [], fl := true, σ := [], τ := [] }, hf_spec_l14Cell _ _ _ hy4, ⟨les_cons (AV.le_refl _) (les_cons (AV.le_refl _) (les_nil)), trivial, rfl, rfl, rfl, rfl, trivial, rfl⟩, ?_⟩
    cbv
    injection h with h
    subst h
    refine ⟨(sparse 12 [(4, .c (.v (.string y3)))] []), ?_, ?_⟩
    · exact le_sparse rfl ⟨AV.le_refl _, trivial⟩ trivial rfl
    · exact ⟨AV.le_refl _, trivial, rfl⟩

/-- impl.nameBytes -/
noncomputable def F_impl_nameBytes_mnb (a0 : List Int) (a1 : ByteArray) : Option (List Int) :=
  letO ([std.conv .u8 (std.ofN (std.slen a1))] : List Int) fun l1 =>
  req (std.room (std.nadd 0 (len l1)) 1) <|
  letO (([] : List Int) ++ l1) fun l3 =>
  req (std.room (std.nadd (len l3) (std.slen a1)) 1) <|
  letO (l3 ++ strL a1) fun l6 =>
  some l6
theorem run_impl_nameBytes_mnb (a0 : List Int) (a1 : ByteArray) (r : List Int) (h : F_impl_nameBytes_mnb a0 a1 = some r) : Fun Try.prog 81 [.c (.v (.slice none 0 0)), .c (.v (.string a1))] [] (.c (.os 64000 0 (len r))) [(64000, .arr .rw [] (len r) 1 (row gd (encI .u8) r))] true := by
  refine Fun.of_wp (oneOf []) tok mixed Try.func81 (by kernel_rfl) rfl Try.ntmps81 rfl trivial (fun _ => ⟨trivial, ⟨fun i _ j _ => val_flat (rfl), trivial⟩⟩) ?_
  unfold F_impl_nameBytes_mnb at h
  generalize hLEN : @len = LEN at *
  generalize hGD : @gd = GD at *
  generalize hA : std = A at *
  generalize hP : Try.prog = P at *
  cbv
  replace h := of_let h
  obtain ⟨l1, hl1, h⟩ := h
  have e2 : 1 = LEN l1 := by subst hl1 hLEN; rfl
  refine ⟨_, congrArg (fun n => AV.c (AC.os 576 0 n)) e2, _, row GD (encI .u8) l1, e2, ?_, ?_⟩
  · intro i hi j hj
    rw [← e2] at hi
    subst hl1
    subst hGD
    obtain rfl : i = 0 := by omega
    all_goals obtain rfl : j = 0 := by omega
    all_goals rfl
  cbv
  replace h := of_req h
  obtain ⟨c5, h⟩ := h
  replace h := of_let h
  obtain ⟨l3, hl3, h⟩ := h
  have e4 : A.nadd 0 (LEN l1) = LEN l3 := by subst hl3 hLEN hA; simp [std, len]
  refine ⟨c5, _, congrArg (fun n => AV.c (AC.os 640 0 n)) e4, _, row GD (encI .u8) l3, e4, ?_, ?_⟩
  · subst hGD hLEN hA
    exact app_nil_os (off := 0) (fun _ _ => rfl) hl3 (Nat.le_refl _)
  cbv
  replace h := of_req h
  obtain ⟨c8, h⟩ := h
  replace h := of_let h
  obtain ⟨l6, hl6, h⟩ := h
  have e7 : A.nadd (LEN l3) (A.slen a1) = LEN l6 := by subst hl6 hLEN hA; exact (strapp_len _ _).symm
  refine ⟨c8, _, congrArg (fun n => AV.c (AC.os 640 0 n)) e7, _, row GD (encI .u8) l6, e7, ?_, ?_⟩
  · subst hGD hLEN hA
    exact app_str hl6 (Nat.le_refl _)
  cbv
  injection h with h
  subst h
  refine ⟨(sparse 13 [(4, .c (.os 64000 0 (LEN l6)))] [(64000, .arr .rw [] (LEN l6) 1 (row GD (encI .u8) l6))]), ?_, ?_⟩
  · refine St.le_trans (le_ren 640 64000 (by decide) rfl) ?_
    exact le_sparse rfl ⟨AV.le_refl _, trivial⟩ ⟨⟨fun hw => hw, fun c hc => (by cases hc), .inl rfl, rfl, rfl, fun i hi j hj => rfl⟩, trivial⟩ rfl
  · exact ⟨AV.le_refl _, ⟨⟨fun hw => hw, fun c hc => (by cases hc), .inl rfl, rfl, rfl, fun i hi j hj => rfl⟩, trivial⟩, rfl⟩

/-- impl.two -/
noncomputable def F_impl_two_mnb (a0 : List Int) (a1 : Int) : Option (List Int) :=
  req (std.nneg 8) <|
  letO ([std.conv .u8 (std.shr .i64 a1 8), std.conv .u8 a1] : List Int) fun l2 =>
  req (std.room (std.nadd 0 (len l2)) 1) <|
  letO (([] : List Int) ++ l2) fun l4 =>
  some l4
theorem run_impl_two_mnb (a0 : List Int) (a1 : Int) (r : List Int) (h : F_impl_two_mnb a0 a1 = some r) : Fun Try.prog 86 [.c (.v (.slice none 0 0)), .c (.v (.int .i64 a1))] [] (.c (.os 64000 0 (len r))) [(64000, .arr .rw [] (len r) 1 (row gd (encI .u8) r))] true := by
  refine Fun.of_wp (oneOf []) tok mixed Try.func86 (by kernel_rfl) rfl Try.ntmps86 rfl trivial (fun _ => ⟨trivial, ⟨fun i _ j _ => val_flat (rfl), trivial⟩⟩) ?_
  unfold F_impl_two_mnb at h
  generalize hLEN : @len = LEN at *
  generalize hGD : @gd = GD at *
  generalize hA : std = A at *
  generalize hP : Try.prog = P at *
  cbv
  replace h := of_req h
  obtain ⟨c1, h⟩ := h
  refine ⟨c1, ?_⟩
  replace h := of_let h
  obtain ⟨l2, hl2, h⟩ := h
  have e3 : 2 = LEN l2 := by subst hl2 hLEN; rfl
  refine ⟨_, congrArg (fun n => AV.c (AC.os 704 0 n)) e3, _, row GD (encI .u8) l2, e3, ?_, ?_⟩
  · intro i hi j hj
    rw [← e3] at hi
    subst hl2
    subst hGD
    obtain rfl | rfl : i = 0 ∨ i = 1 := by omega
    all_goals obtain rfl : j = 0 := by omega
    all_goals rfl
  cbv
  replace h := of_req h
  obtain ⟨c6, h⟩ := h
  replace h := of_let h
  obtain ⟨l4, hl4, h⟩ := h
  have e5 : A.nadd 0 (LEN l2) = LEN l4 := by subst hl4 hLEN hA; simp [std, len]
  refine ⟨c6, _, congrArg (fun n => AV.c (AC.os 768 0 n)) e5, _, row GD (encI .u8) l4, e5, ?_, ?_⟩
  · subst hGD hLEN hA
    exact app_nil_os (off := 0) (fun _ _ => rfl) hl4 (Nat.le_refl _)
  cbv
  injection h with h
  subst h
  refine ⟨(sparse 13 [(4, .c (.os 64000 0 (LEN l4)))] [(64000, .arr .rw [] (LEN l4) 1 (row GD (encI .u8) l4))]), ?_, ?_⟩
  · refine St.le_trans (le_ren 768 64000 (by decide) rfl) ?_
    exact le_sparse rfl ⟨AV.le_refl _, trivial⟩ ⟨⟨fun hw => hw, fun c hc => (by cases hc), .inl rfl, rfl, rfl, fun i hi j hj => rfl⟩, trivial⟩ rfl
  · exact ⟨AV.le_refl _, ⟨⟨fun hw => hw, fun c hc => (by cases hc), .inl rfl, rfl, rfl, fun i hi j hj => rfl⟩, trivial⟩, rfl⟩

noncomputable def L_impl_Checksum16_x3 (a0 : ByteArray) : (Int × Int) → Option ((Int × Int) ⊕ ((Int))) := fun x3 =>
  letO x3.1 fun v1 =>
  letO x3.2 fun v2 =>
  br (std.lt v2 (std.ofN (std.slen a0)))
  (req (std.inR v2 (std.slen a0)) <|
  req (std.nz 65521) <|
  some (.inl (std.rem (std.add .i64 (std.add .i64 (std.mul .i64 31 v1) (std.conv .i64 (std.sat a0 (std.toN v2)))) 1) 65521, std.add .i64 v2 1)))
  (some (.inr v1))
/-- impl.Checksum16 -/
noncomputable def F_impl_Checksum16 (a0 : ByteArray) : Option (Int) :=
  (whileP (σ := Int × Int) (ρ := (Int)) (L_impl_Checksum16_x3 a0) (1, 0)).bind fun y4 =>
  letO y4 fun y4k0 =>
  letO y4k0 fun w18 =>
  some w18
theorem run_impl_Checksum16 (a0 : ByteArray) (r : Int) (h : F_impl_Checksum16 a0 = some r) : Fun Try.prog 87 [.c (.v (.string a0))] [] (.c (.v (.int .i64 r))) [] true := by
  refine Fun.of_wp (oneOf []) tok mixed Try.func87 (by kernel_rfl) rfl Try.ntmps87 rfl trivial (fun _ => ⟨trivial, trivial⟩) ?_
  unfold F_impl_Checksum16 at h
  unfold L_impl_Checksum16_x3 at h
  generalize hLEN : @len = LEN at *
  generalize hGD : @gd = GD at *
  generalize hA : std = A at *
  generalize hP : Try.prog = P at *
  cbv
  replace h := of_bind h
  obtain ⟨y4, hr5, hN6⟩ := h
  refine loop_cut hr5 (fun x => (sparse 21 [(0, .c (.v (.string a0))), (3, .c (.v (.int .i64 x.1))), (4, .c (.v (.int .i64 x.2)))] [])) ?_ (fun y e s => (fun (w : Int) => e = .exit 0 ∧ s.le (sparse 21 [(3, .c (.v (.int .i64 w)))] [])) y) ?_ ?_
  · clear hr5 hN6
    show St.le _ _
    exact le_sparse rfl ⟨AV.le_refl _, AV.le_refl _, AV.le_refl _, trivial⟩ trivial rfl
  · clear hr5 hN6
    intro x z10 h K8 hK9 hY7
    obtain ⟨x0_, x1_⟩ := x
    replace h := of_let h
    obtain ⟨v1, hv1, h⟩ := h
    have hv1 : v1 = x0_ := hv1
    subst hv1
    replace h := of_let h
    obtain ⟨v2, hv2, h⟩ := h
    have hv2 : v2 = x1_ := hv2
    subst hv2
    cbv
    refine fork (fun b17 => ?_) (fun b17 => ?_)
    · replace h := of_br_t b17 h
      cbv
      replace h := of_req h
      obtain ⟨c15, h⟩ := h
      refine ⟨c15, ?_⟩
      replace h := of_req h
      obtain ⟨c16, h⟩ := h
      refine ⟨c16, ?_⟩
      injection h with h
      refine hK9 _ h.symm _ ?_
      exact le_sparse rfl ⟨AV.le_refl _, AV.le_refl _, AV.le_refl _, trivial⟩ trivial rfl
    · replace h := of_br_f b17 h
      cbv
      injection h with h
      refine hY7 _ h.symm _ _ (And.intro rfl ?_) (by intro hh; cases hh)
      exact le_sparse rfl ⟨AV.le_refl _, trivial⟩ trivial rfl
  · clear hr5
    have h := hN6
    clear hN6
    intro e13 s14 q12 hne
    replace h := of_let h
    obtain ⟨y4k0, hyk, h⟩ := h
    have hyk : y4k0 = y4 := hyk
    subst hyk
    obtain ⟨rfl, q12⟩ := q12
    replace h := of_let h
    obtain ⟨w18, hw18, h⟩ := h
    have hw18 : w18 = y4k0 := hw18
    subst hw18
    cbv
    refine ⟨_, q12, ?_⟩
    cbv
    injection h with h
    subst h
    refine ⟨(sparse 21 [(2, .c (.v (.int .i64 w18)))] []), ?_, ?_⟩
    · exact le_sparse rfl ⟨AV.le_refl _, trivial⟩ trivial rfl
    · exact ⟨AV.le_refl _, trivial, rfl⟩

/-- impl.two -/
noncomputable def F_impl_two_mob (a0 : List Int) (a1 : Int) : Option (List Int) :=
  req (std.nneg 8) <|
  letO ([std.conv .u8 (std.shr .i64 a1 8), std.conv .u8 a1] : List Int) fun l2 =>
  req (std.room (std.nadd (len a0) (len l2)) 1) <|
  letO (a0 ++ l2) fun l4 =>
  some l4
theorem run_impl_two_mob (a0 : List Int) (a1 : Int) (r : List Int) (h : F_impl_two_mob a0 a1 = some r) : Fun Try.prog 86 [.c (.os 5 0 (len a0)), .c (.v (.int .i64 a1))] [(5, .arr .rw [] (len a0) 1 (row gd (encI .u8) a0))] (.c (.os 64000 0 (len r))) [(64000, .arr .rw [] (len r) 1 (row gd (encI .u8) r))] true := by
  refine Fun.of_wp (oneOf []) tok mixed Try.func86 (by kernel_rfl) rfl Try.ntmps86 rfl ⟨fun i _ j _ k hk => (noref (plain_nil (rfl)) hk).elim, trivial⟩ (fun _ => ⟨trivial, ⟨fun i _ j _ => val_flat (rfl), trivial⟩⟩) ?_
  unfold F_impl_two_mob at h
  generalize hLEN : @len = LEN at *
  generalize hGD : @gd = GD at *
  generalize hA : std = A at *
  generalize hP : Try.prog = P at *
  cbv
  replace h := of_req h
  obtain ⟨c1, h⟩ := h
  refine ⟨c1, ?_⟩
  replace h := of_let h
  obtain ⟨l2, hl2, h⟩ := h
  have e3 : 2 = LEN l2 := by subst hl2 hLEN; rfl
  refine ⟨_, congrArg (fun n => AV.c (AC.os 704 0 n)) e3, _, row GD (encI .u8) l2, e3, ?_, ?_⟩
  · intro i hi j hj
    rw [← e3] at hi
    subst hl2
    subst hGD
    obtain rfl | rfl : i = 0 ∨ i = 1 := by omega
    all_goals obtain rfl : j = 0 := by omega
    all_goals rfl
  cbv
  replace h := of_req h
  obtain ⟨c6, h⟩ := h
  replace h := of_let h
  obtain ⟨l4, hl4, h⟩ := h
  have e5 : A.nadd (LEN a0) (LEN l2) = LEN l4 := by subst hl4 hLEN hA; simp [std, len]
  refine ⟨c6, _, congrArg (fun n => AV.c (AC.os 768 0 n)) e5, _, row GD (encI .u8) l4, e5, ?_, ?_⟩
  · subst hGD hLEN hA
    exact app_os (off := 0) (fun _ _ => rfl) hl4 (Nat.le_refl _)
  cbv
  injection h with h
  subst h
  refine ⟨(sparse 13 [(4, .c (.os 64000 0 (LEN l4)))] [(64000, .arr .rw [] (LEN l4) 1 (row GD (encI .u8) l4))]), ?_, ?_⟩
  · refine St.le_trans (le_ren 768 64000 (by decide) rfl) ?_
    exact le_sparse rfl ⟨AV.le_refl _, trivial⟩ ⟨⟨fun hw => hw, fun c hc => (by cases hc), .inl rfl, rfl, rfl, fun i hi j hj => rfl⟩, trivial⟩ rfl
  · exact ⟨AV.le_refl _, ⟨⟨fun hw => hw, fun c hc => (by cases hc), .inl rfl, rfl, rfl, fun i hi j hj => rfl⟩, trivial⟩, rfl⟩

/-- impl.StreamRecord -/
noncomputable def F_impl_StreamRecord (a0 : Int) (a1 : ByteArray) : Option (ByteArray) :=
  ((
        (F_impl_within a0 1 7).bind fun y8 =>
        br (!(y8))
        (some true)
        (some (std.lt 200 (std.ofN (std.slen a1))))
    ) : Option (Bool)).bind fun y1 =>
  letO y1 fun w7 =>
  br w7
  (some (ByteArray.mk #[]))
  ((F_impl_two_mnb ([] : List Int) (std.add .i64 (std.ofN (std.slen a1)) 5)).bind fun y11 =>
  letO ([std.conv .u8 a0] : List Int) fun l13 =>
  req (std.room (std.nadd (len y11) (len l13)) 1) <|
  letO (y11 ++ l13) fun l15 =>
  req (std.room (std.nadd (len l15) (std.slen a1)) 1) <|
  letO (l15 ++ strL a1) fun l18 =>
  (F_impl_Checksum16 (std.ofBytes (len l18) (fun i => gd l18 (0 + i)))).bind fun y21 =>
  (F_impl_two_mob l18 y21).bind fun y23 =>
  some (std.ofBytes (len y23) (fun i => gd y23 (0 + i))))
theorem run_impl_StreamRecord (a0 : Int) (a1 : ByteArray) (r : ByteArray) (h : F_impl_StreamRecord a0 a1 = some r) : Fun Try.prog 53 [.c (.v (.int .i64 a0)), .c (.v (.string a1))] [] (.c (.v (.string r))) [] true := by
  refine Fun.of_wp (oneOf [1]) tok mixed Try.func53 (by kernel_rfl) rfl Try.ntmps53 rfl trivial (fun _ => ⟨trivial, trivial⟩) ?_
  unfold F_impl_StreamRecord at h
  have hf_impl_Checksum16 := @run_impl_Checksum16
  have hf_impl_two_mnb := @run_impl_two_mnb
  have hf_impl_two_mob := @run_impl_two_mob
  have hf_impl_within := @run_impl_within
  generalize hLEN : @len = LEN at *
  generalize hGD : @gd = GD at *
  generalize hA : std = A at *
  generalize hP : Try.prog = P at *
  cbv
  replace h := of_bind h
  obtain ⟨y1, hy2, h⟩ := h
  obtain ⟨S5, hS6⟩ : ∃ S, S = (sparse 31 [(0, .c (.v (.int .i64 a0))), (1, .c (.v (.string a1))), (13, .c (.v (.bool y1)))] []) := ⟨_, rfl⟩
  refine ⟨S5, ?_, ?_⟩
  · clear h
    have h := hy2
    clear hy2
    cbv
    replace h := of_bind h
    obtain ⟨y8, hy9, h⟩ := h
    refine ⟨{ args := [.c (.v (.int .i64 a0)), .c (.v (.int .i64 1)), .c (.v (.int .i64 7))], o0 := [], r := .c (.v (.bool y8)), o1 := [], fl := true, σ := [], τ := [] }, hf_impl_within _ _ _ _ hy9, ⟨les_cons (AV.le_refl _) (les_cons (AV.le_refl _) (les_cons (AV.le_refl _) (les_nil))), trivial, rfl, rfl, rfl, rfl, trivial, rfl⟩, ?_⟩
    cbv
    refine fork (fun b10 => ?_) (fun b10 => ?_)
    · replace h := of_br_t b10 h
      cbv
      injection h with h
      subst h
      subst hS6
      show St.le _ _
      exact le_sparse rfl ⟨AV.le_refl _, AV.le_refl _, AV.le_refl _, trivial⟩ trivial rfl
    · replace h := of_br_f b10 h
      cbv
      injection h with h
      subst h
      subst hS6
      show St.le _ _
      exact le_sparse rfl ⟨AV.le_refl _, AV.le_refl _, AV.le_refl _, trivial⟩ trivial rfl
  · clear hy2
    subst hS6
    replace h := of_let h
    obtain ⟨w7, hw7, h⟩ := h
    have hw7 : w7 = y1 := hw7
    subst hw7
    cbv
    refine fork (fun b25 => ?_) (fun b25 => ?_)
    · replace h := of_br_t b25 h
      cbv
      injection h with h
      subst h
      refine ⟨(sparse 31 [(4, .c (.v (.string (ByteArray.mk #[]))))] []), ?_, ?_⟩
      · exact le_sparse rfl ⟨AV.le_refl _, trivial⟩ trivial rfl
      · exact ⟨AV.le_refl _, trivial, rfl⟩
    · replace h := of_br_f b25 h
      cbv
      replace h := of_bind h
      obtain ⟨y11, hy12, h⟩ := h
      refine ⟨{ args := [.c (.v (.slice none 0 0)), .c (.v (.int .i64 (A.add .i64 (A.ofN (A.slen a1)) 5)))], o0 := [], r := .c (.os 64000 0 (LEN y11)), o1 := [(64000, .arr .rw [] (LEN y11) 1 (row GD (encI .u8) y11))], fl := true, σ := [], τ := [(64000, 1088)] }, hf_impl_two_mnb _ _ _ hy12, ⟨les_cons (AV.le_refl _) (les_cons (AV.le_refl _) (les_nil)), trivial, rfl, rfl, rfl, rfl, ⟨fun h => absurd (show (64000 : Nat) % 2 = 1 from h) (by decide), trivial⟩, rfl⟩, _, rfl, _, _, rfl, fun _ _ _ _ => rfl, ?_⟩
      cbv
      replace h := of_let h
      obtain ⟨l13, hl13, h⟩ := h
      have e14 : 1 = LEN l13 := by subst hl13 hLEN; rfl
      refine ⟨_, congrArg (fun n => AV.c (AC.os 1344 0 n)) e14, _, row GD (encI .u8) l13, e14, ?_, ?_⟩
      · intro i hi j hj
        rw [← e14] at hi
        subst hl13
        subst hGD
        obtain rfl : i = 0 := by omega
        all_goals obtain rfl : j = 0 := by omega
        all_goals rfl
      cbv
      replace h := of_req h
      obtain ⟨c17, h⟩ := h
      replace h := of_let h
      obtain ⟨l15, hl15, h⟩ := h
      have e16 : A.nadd (LEN y11) (LEN l13) = LEN l15 := by subst hl15 hLEN hA; simp [std, len]
      refine ⟨c17, _, congrArg (fun n => AV.c (AC.os 1088 0 n)) e16, _, row GD (encI .u8) l15, e16, ?_, ?_⟩
      · subst hGD hLEN hA
        exact app_os (off := 0) (fun _ _ => rfl) hl15 (Nat.le_refl _)
      cbv
      replace h := of_req h
      obtain ⟨c20, h⟩ := h
      replace h := of_let h
      obtain ⟨l18, hl18, h⟩ := h
      have e19 : A.nadd (LEN l15) (A.slen a1) = LEN l18 := by subst hl18 hLEN hA; exact (strapp_len _ _).symm
      refine ⟨c20, _, congrArg (fun n => AV.c (AC.os 1088 0 n)) e19, _, row GD (encI .u8) l18, e19, ?_, ?_⟩
      · subst hGD hLEN hA
        exact app_str hl18 (Nat.le_refl _)
      cbv
      refine ⟨fun _ _ => rfl, ?_⟩
      replace h := of_bind h
      obtain ⟨y21, hy22, h⟩ := h
      refine ⟨{ args := [.c (.v (.string (A.ofBytes (LEN l18) (fun i => GD l18 (0 + i)))))], o0 := [], r := .c (.v (.int .i64 y21)), o1 := [], fl := true, σ := [], τ := [] }, hf_impl_Checksum16 _ _ hy22, ⟨les_cons (AV.le_refl _) (les_nil), trivial, rfl, rfl, rfl, rfl, trivial, rfl⟩, ?_⟩
      cbv
      replace h := of_bind h
      obtain ⟨y23, hy24, h⟩ := h
      refine ⟨{ args := [.c (.os 5 0 (LEN l18)), .c (.v (.int .i64 y21))], o0 := [(5, .arr .rw [] (LEN l18) 1 (row GD (encI .u8) l18))], r := .c (.os 64000 0 (LEN y23)), o1 := [(64000, .arr .rw [] (LEN y23) 1 (row GD (encI .u8) y23))], fl := true, σ := [(5, 1088)], τ := [(64000, 1856)] }, hf_impl_two_mob _ _ _ hy24, ⟨les_cons (AV.le_refl _) (les_cons (AV.le_refl _) (les_nil)), ⟨⟨fun hw => hw, fun c hc => (by cases hc), .inl rfl, rfl, rfl, fun i hi j hj => rfl⟩, trivial⟩, rfl, rfl, rfl, rfl, ⟨fun h => absurd (show (64000 : Nat) % 2 = 1 from h) (by decide), trivial⟩, rfl⟩, _, rfl, _, _, rfl, fun _ _ _ _ => rfl, ?_⟩
      cbv
      refine ⟨fun _ _ => rfl, ?_⟩
      injection h with h
      subst h
      refine ⟨(sparse 31 [(4, .c (.v (.string (A.ofBytes (LEN y23) (fun i => GD y23 (0 + i))))))] []), ?_, ?_⟩
      · exact le_sparse rfl ⟨AV.le_refl _, trivial⟩ trivial rfl
      · exact ⟨AV.le_refl _, trivial, rfl⟩

noncomputable def L_impl_coordinates_mob_x3 (a1 : List Int) : (Int × (List Int)) → Option ((Int × (List Int)) ⊕ (((List Int)))) := fun x3 =>
  letO x3.1 fun v1 =>
  letO x3.2 fun v2 =>
  br (std.lt v1 (std.ofN (len a1)))
  (req (std.inR v1 (len a1)) <|
  (F_impl_two_mob v2 (std.add .i64 (gd a1 (std.toN v1)) 32768)).bind fun y16 =>
  some (.inl (std.add .i64 v1 1, y16)))
  (some (.inr v2))
/-- impl.coordinates -/
noncomputable def F_impl_coordinates_mob (a0 : List Int) (a1 : List Int) : Option (List Int) :=
  (whileP (σ := Int × (List Int)) (ρ := ((List Int))) (L_impl_coordinates_mob_x3 a1) (0, a0)).bind fun y4 =>
  letO y4 fun y4k0 =>
  letO y4k0 fun w19 =>
  some w19
theorem run_impl_coordinates_mob (a0 : List Int) (a1 : List Int) (r : List Int) (h : F_impl_coordinates_mob a0 a1 = some r) : Fun Try.prog 153 [.c (.os 5 0 (len a0)), .c (.bs (len a1) 1 (row gd (encI .i64) a1))] [(5, .arr .rw [] (len a0) 1 (row gd (encI .u8) a0))] (.c (.os 64000 0 (len r))) [(64000, .arr .rw [] (len r) 1 (row gd (encI .u8) r))] true := by
  refine Fun.of_wp (oneOf []) tok mixed Try.func153 (by kernel_rfl) rfl Try.ntmps153 rfl ⟨fun i _ j _ k hk => (noref (plain_nil (rfl)) hk).elim, trivial⟩ (fun _ => ⟨trivial, ⟨fun i _ j _ => val_flat (rfl), trivial⟩⟩) ?_
  unfold F_impl_coordinates_mob at h
  unfold L_impl_coordinates_mob_x3 at h
  have hf_impl_two_mob := @run_impl_two_mob
  generalize hLEN : @len = LEN at *
  generalize hGD : @gd = GD at *
  generalize hA : std = A at *
  generalize hP : Try.prog = P at *
  cbv
  replace h := of_bind h
  obtain ⟨y4, hr5, hN6⟩ := h
  refine loop_cut hr5 (fun x => (sparse 19 [(0, .c (.os 1024 0 (LEN x.2))), (7, .c (.bs (LEN a1) 1 (row GD (encI .i64) a1))), (8, .c (.v (.int .i64 (A.ofN (LEN a1))))), (9, .c (.v (.int .i64 x.1)))] [(1024, .arr .rw [] (LEN x.2) 1 (row GD (encI .u8) x.2))])) ?_ (fun y e s => (fun (w : (List Int)) => e = .exit 0 ∧ s.le (sparse 19 [(0, .c (.os 1024 0 (LEN w)))] [(1024, .arr .rw [] (LEN w) 1 (row GD (encI .u8) w))])) y) ?_ ?_
  · clear hr5 hN6
    show St.le _ _
    refine St.le_trans (le_ren 5 1024 (by decide) rfl) ?_
    exact le_sparse rfl ⟨AV.le_refl _, AV.le_refl _, AV.le_refl _, AV.le_refl _, trivial⟩ ⟨⟨fun hw => hw, fun c hc => (by cases hc), .inl rfl, rfl, rfl, fun i hi j hj => rfl⟩, trivial⟩ rfl
  · clear hr5 hN6
    intro x z10 h K8 hK9 hY7
    obtain ⟨x0_, x1_⟩ := x
    replace h := of_let h
    obtain ⟨v1, hv1, h⟩ := h
    have hv1 : v1 = x0_ := hv1
    subst hv1
    replace h := of_let h
    obtain ⟨v2, hv2, h⟩ := h
    have hv2 : v2 = x1_ := hv2
    subst hv2
    cbv
    refine fork (fun b18 => ?_) (fun b18 => ?_)
    · replace h := of_br_t b18 h
      cbv
      replace h := of_req h
      obtain ⟨c15, h⟩ := h
      refine ⟨⟨c15, trivial⟩, ?_⟩
      replace h := of_bind h
      obtain ⟨y16, hy17, h⟩ := h
      refine ⟨{ args := [.c (.os 5 0 (LEN v2)), .c (.v (.int .i64 (A.add .i64 (GD a1 (A.toN v1)) 32768)))], o0 := [(5, .arr .rw [] (LEN v2) 1 (row GD (encI .u8) v2))], r := .c (.os 64000 0 (LEN y16)), o1 := [(64000, .arr .rw [] (LEN y16) 1 (row GD (encI .u8) y16))], fl := true, σ := [(5, 1024)], τ := [(64000, 1024)] }, hf_impl_two_mob _ _ _ hy17, ⟨les_cons (AV.le_refl _) (les_cons (AV.le_refl _) (les_nil)), ⟨⟨fun hw => hw, fun c hc => (by cases hc), .inl rfl, rfl, rfl, fun i hi j hj => rfl⟩, trivial⟩, rfl, rfl, rfl, rfl, ⟨fun h => absurd (show (64000 : Nat) % 2 = 1 from h) (by decide), trivial⟩, rfl⟩, _, rfl, _, _, rfl, fun _ _ _ _ => rfl, ?_⟩
      cbv
      injection h with h
      refine hK9 _ h.symm _ ?_
      exact le_sparse rfl ⟨AV.le_refl _, AV.le_refl _, AV.le_refl _, AV.le_refl _, trivial⟩ ⟨⟨fun hw => hw, fun c hc => (by cases hc), .inl rfl, rfl, rfl, fun i hi j hj => rfl⟩, trivial⟩ rfl
    · replace h := of_br_f b18 h
      cbv
      injection h with h
      refine hY7 _ h.symm _ _ (And.intro rfl ?_) (by intro hh; cases hh)
      exact le_sparse rfl ⟨AV.le_refl _, trivial⟩ ⟨⟨fun hw => hw, fun c hc => (by cases hc), .inl rfl, rfl, rfl, fun i hi j hj => rfl⟩, trivial⟩ rfl
  · clear hr5
    have h := hN6
    clear hN6
    intro e13 s14 q12 hne
    replace h := of_let h
    obtain ⟨y4k0, hyk, h⟩ := h
    have hyk : y4k0 = y4 := hyk
    subst hyk
    obtain ⟨rfl, q12⟩ := q12
    replace h := of_let h
    obtain ⟨w19, hw19, h⟩ := h
    have hw19 : w19 = y4k0 := hw19
    subst hw19
    cbv
    refine ⟨_, q12, ?_⟩
    cbv
    injection h with h
    subst h
    refine ⟨(sparse 19 [(4, .c (.os 64000 0 (LEN w19)))] [(64000, .arr .rw [] (LEN w19) 1 (row GD (encI .u8) w19))]), ?_, ?_⟩
    · refine St.le_trans (le_ren 1024 64000 (by decide) rfl) ?_
      exact le_sparse rfl ⟨AV.le_refl _, trivial⟩ ⟨⟨fun hw => hw, fun c hc => (by cases hc), .inl rfl, rfl, rfl, fun i hi j hj => rfl⟩, trivial⟩ rfl
    · exact ⟨AV.le_refl _, ⟨⟨fun hw => hw, fun c hc => (by cases hc), .inl rfl, rfl, rfl, fun i hi j hj => rfl⟩, trivial⟩, rfl⟩

/-- impl.shapeBytes -/
noncomputable def F_impl_shapeBytes_mnb (a0 : List Int) (a1 : TShape) : Option (List Int) :=
  letO ([std.conv .u8 a1.fLayer] : List Int) fun l1 =>
  req (std.room (std.nadd 0 (len l1)) 1) <|
  letO (([] : List Int) ++ l1) fun l3 =>
  letO ([a1.fBox.fX0, a1.fBox.fY0, a1.fBox.fX1, a1.fBox.fY1] : List Int) fun l6 =>
  (F_impl_coordinates_mob l3 l6).bind fun y8 =>
  some y8
theorem run_impl_shapeBytes_mnb (a0 : List Int) (a1 : TShape) (r : List Int) (h : F_impl_shapeBytes_mnb a0 a1 = some r) : Fun Try.prog 78 [.c (.v (.slice none 0 0)), .agg [.v (.int .i64 a1.fLayer), .v (.int .i64 a1.fBox.fX0), .v (.int .i64 a1.fBox.fY0), .v (.int .i64 a1.fBox.fX1), .v (.int .i64 a1.fBox.fY1)]] [] (.c (.os 64000 0 (len r))) [(64000, .arr .rw [] (len r) 1 (row gd (encI .u8) r))] true := by
  refine Fun.of_wp (oneOf []) tok mixed Try.func78 (by kernel_rfl) rfl Try.ntmps78 rfl trivial (fun _ => ⟨trivial, ⟨fun i _ j _ => val_flat (rfl), trivial⟩⟩) ?_
  unfold F_impl_shapeBytes_mnb at h
  have hf_impl_coordinates_mob := @run_impl_coordinates_mob
  generalize hLEN : @len = LEN at *
  generalize hGD : @gd = GD at *
  generalize hA : std = A at *
  generalize hP : Try.prog = P at *
  cbv
  replace h := of_let h
  obtain ⟨l1, hl1, h⟩ := h
  have e2 : 1 = LEN l1 := by subst hl1 hLEN; rfl
  refine ⟨_, congrArg (fun n => AV.c (AC.os 576 0 n)) e2, _, row GD (encI .u8) l1, e2, ?_, ?_⟩
  · intro i hi j hj
    rw [← e2] at hi
    subst hl1
    subst hGD
    obtain rfl : i = 0 := by omega
    all_goals obtain rfl : j = 0 := by omega
    all_goals rfl
  cbv
  replace h := of_req h
  obtain ⟨c5, h⟩ := h
  replace h := of_let h
  obtain ⟨l3, hl3, h⟩ := h
  have e4 : A.nadd 0 (LEN l1) = LEN l3 := by subst hl3 hLEN hA; simp [std, len]
  refine ⟨c5, _, congrArg (fun n => AV.c (AC.os 640 0 n)) e4, _, row GD (encI .u8) l3, e4, ?_, ?_⟩
  · subst hGD hLEN hA
    exact app_nil_os (off := 0) (fun _ _ => rfl) hl3 (Nat.le_refl _)
  cbv
  replace h := of_let h
  obtain ⟨l6, hl6, h⟩ := h
  have e7 : 4 = LEN l6 := by subst hl6 hLEN; rfl
  refine ⟨_, congrArg (fun n => AV.c (AC.os 1472 0 n)) e7, _, row GD (encI .i64) l6, e7, ?_, ?_⟩
  · intro i hi j hj
    rw [← e7] at hi
    subst hl6
    subst hGD
    obtain rfl | rfl | rfl | rfl : i = 0 ∨ i = 1 ∨ i = 2 ∨ i = 3 := by omega
    all_goals obtain rfl : j = 0 := by omega
    all_goals rfl
  cbv
  replace h := of_bind h
  obtain ⟨y8, hy9, h⟩ := h
  refine ⟨{ args := [.c (.os 5 0 (LEN l3)), .c (.bs (LEN l6) 1 (row GD (encI .i64) l6))], o0 := [(5, .arr .rw [] (LEN l3) 1 (row GD (encI .u8) l3))], r := .c (.os 64000 0 (LEN y8)), o1 := [(64000, .arr .rw [] (LEN y8) 1 (row GD (encI .u8) y8))], fl := true, σ := [(5, 640)], τ := [(64000, 1536)] }, hf_impl_coordinates_mob _ _ _ hy9, ⟨les_cons (AV.le_refl _) (les_cons (give_os (fun _ _ => rfl) rfl rfl rfl) (les_nil)), ⟨⟨fun hw => hw, fun c hc => (by cases hc), .inl rfl, rfl, rfl, fun i hi j hj => rfl⟩, trivial⟩, rfl, rfl, rfl, rfl, ⟨fun h => absurd (show (64000 : Nat) % 2 = 1 from h) (by decide), trivial⟩, rfl⟩, _, rfl, _, _, rfl, fun _ _ _ _ => rfl, ?_⟩
  cbv
  injection h with h
  subst h
  refine ⟨(sparse 25 [(4, .c (.os 64000 0 (LEN y8)))] [(64000, .arr .rw [] (LEN y8) 1 (row GD (encI .u8) y8))]), ?_, ?_⟩
  · refine St.le_trans (le_ren 1536 64000 (by decide) rfl) ?_
    exact le_sparse rfl ⟨AV.le_refl _, trivial⟩ ⟨⟨fun hw => hw, fun c hc => (by cases hc), .inl rfl, rfl, rfl, fun i hi j hj => rfl⟩, trivial⟩ rfl
  · exact ⟨AV.le_refl _, ⟨⟨fun hw => hw, fun c hc => (by cases hc), .inl rfl, rfl, rfl, fun i hi j hj => rfl⟩, trivial⟩, rfl⟩

/-- impl.nameBytes -/
noncomputable def F_impl_nameBytes_mob (a0 : List Int) (a1 : ByteArray) : Option (List Int) :=
  letO ([std.conv .u8 (std.ofN (std.slen a1))] : List Int) fun l1 =>
  req (std.room (std.nadd (len a0) (len l1)) 1) <|
  letO (a0 ++ l1) fun l3 =>
  req (std.room (std.nadd (len l3) (std.slen a1)) 1) <|
  letO (l3 ++ strL a1) fun l6 =>
  some l6
theorem run_impl_nameBytes_mob (a0 : List Int) (a1 : ByteArray) (r : List Int) (h : F_impl_nameBytes_mob a0 a1 = some r) : Fun Try.prog 81 [.c (.os 5 0 (len a0)), .c (.v (.string a1))] [(5, .arr .rw [] (len a0) 1 (row gd (encI .u8) a0))] (.c (.os 64000 0 (len r))) [(64000, .arr .rw [] (len r) 1 (row gd (encI .u8) r))] true := by
  refine Fun.of_wp (oneOf []) tok mixed Try.func81 (by kernel_rfl) rfl Try.ntmps81 rfl ⟨fun i _ j _ k hk => (noref (plain_nil (rfl)) hk).elim, trivial⟩ (fun _ => ⟨trivial, ⟨fun i _ j _ => val_flat (rfl), trivial⟩⟩) ?_
  unfold F_impl_nameBytes_mob at h
  generalize hLEN : @len = LEN at *
  generalize hGD : @gd = GD at *
  generalize hA : std = A at *
  generalize hP : Try.prog = P at *
  cbv
  replace h := of_let h
  obtain ⟨l1, hl1, h⟩ := h
  have e2 : 1 = LEN l1 := by subst hl1 hLEN; rfl
  refine ⟨_, congrArg (fun n => AV.c (AC.os 576 0 n)) e2, _, row GD (encI .u8) l1, e2, ?_, ?_⟩
  · intro i hi j hj
    rw [← e2] at hi
    subst hl1
    subst hGD
    obtain rfl : i = 0 := by omega
    all_goals obtain rfl : j = 0 := by omega
    all_goals rfl
  cbv
  replace h := of_req h
  obtain ⟨c5, h⟩ := h
  replace h := of_let h
  obtain ⟨l3, hl3, h⟩ := h
  have e4 : A.nadd (LEN a0) (LEN l1) = LEN l3 := by subst hl3 hLEN hA; simp [std, len]
  refine ⟨c5, _, congrArg (fun n => AV.c (AC.os 640 0 n)) e4, _, row GD (encI .u8) l3, e4, ?_, ?_⟩
  · subst hGD hLEN hA
    exact app_os (off := 0) (fun _ _ => rfl) hl3 (Nat.le_refl _)
  cbv
  replace h := of_req h
  obtain ⟨c8, h⟩ := h
  replace h := of_let h
  obtain ⟨l6, hl6, h⟩ := h
  have e7 : A.nadd (LEN l3) (A.slen a1) = LEN l6 := by subst hl6 hLEN hA; exact (strapp_len _ _).symm
  refine ⟨c8, _, congrArg (fun n => AV.c (AC.os 640 0 n)) e7, _, row GD (encI .u8) l6, e7, ?_, ?_⟩
  · subst hGD hLEN hA
    exact app_str hl6 (Nat.le_refl _)
  cbv
  injection h with h
  subst h
  refine ⟨(sparse 13 [(4, .c (.os 64000 0 (LEN l6)))] [(64000, .arr .rw [] (LEN l6) 1 (row GD (encI .u8) l6))]), ?_, ?_⟩
  · refine St.le_trans (le_ren 640 64000 (by decide) rfl) ?_
    exact le_sparse rfl ⟨AV.le_refl _, trivial⟩ ⟨⟨fun hw => hw, fun c hc => (by cases hc), .inl rfl, rfl, rfl, fun i hi j hj => rfl⟩, trivial⟩ rfl
  · exact ⟨AV.le_refl _, ⟨⟨fun hw => hw, fun c hc => (by cases hc), .inl rfl, rfl, rfl, fun i hi j hj => rfl⟩, trivial⟩, rfl⟩

/-- impl.labelBytes -/
noncomputable def F_impl_labelBytes_mnb (a0 : List Int) (a1 : TLabel) : Option (List Int) :=
  letO ([std.conv .u8 a1.fLayer] : List Int) fun l1 =>
  req (std.room (std.nadd 0 (len l1)) 1) <|
  letO (([] : List Int) ++ l1) fun l3 =>
  letO ([a1.fAt.fX, a1.fAt.fY] : List Int) fun l6 =>
  (F_impl_coordinates_mob l3 l6).bind fun y8 =>
  (F_impl_nameBytes_mob y8 a1.fName).bind fun y10 =>
  some y10
theorem run_impl_labelBytes_mnb (a0 : List Int) (a1 : TLabel) (r : List Int) (h : F_impl_labelBytes_mnb a0 a1 = some r) : Fun Try.prog 79 [.c (.v (.slice none 0 0)), .agg [.v (.int .i64 a1.fLayer), .v (.int .i64 a1.fAt.fX), .v (.int .i64 a1.fAt.fY), .v (.string a1.fName)]] [] (.c (.os 64000 0 (len r))) [(64000, .arr .rw [] (len r) 1 (row gd (encI .u8) r))] true := by
  refine Fun.of_wp (oneOf []) tok mixed Try.func79 (by kernel_rfl) rfl Try.ntmps79 rfl trivial (fun _ => ⟨trivial, ⟨fun i _ j _ => val_flat (rfl), trivial⟩⟩) ?_
  unfold F_impl_labelBytes_mnb at h
  have hf_impl_coordinates_mob := @run_impl_coordinates_mob
  have hf_impl_nameBytes_mob := @run_impl_nameBytes_mob
  generalize hLEN : @len = LEN at *
  generalize hGD : @gd = GD at *
  generalize hA : std = A at *
  generalize hP : Try.prog = P at *
  cbv
  replace h := of_let h
  obtain ⟨l1, hl1, h⟩ := h
  have e2 : 1 = LEN l1 := by subst hl1 hLEN; rfl
  refine ⟨_, congrArg (fun n => AV.c (AC.os 576 0 n)) e2, _, row GD (encI .u8) l1, e2, ?_, ?_⟩
  · intro i hi j hj
    rw [← e2] at hi
    subst hl1
    subst hGD
    obtain rfl : i = 0 := by omega
    all_goals obtain rfl : j = 0 := by omega
    all_goals rfl
  cbv
  replace h := of_req h
  obtain ⟨c5, h⟩ := h
  replace h := of_let h
  obtain ⟨l3, hl3, h⟩ := h
  have e4 : A.nadd 0 (LEN l1) = LEN l3 := by subst hl3 hLEN hA; simp [std, len]
  refine ⟨c5, _, congrArg (fun n => AV.c (AC.os 640 0 n)) e4, _, row GD (encI .u8) l3, e4, ?_, ?_⟩
  · subst hGD hLEN hA
    exact app_nil_os (off := 0) (fun _ _ => rfl) hl3 (Nat.le_refl _)
  cbv
  replace h := of_let h
  obtain ⟨l6, hl6, h⟩ := h
  have e7 : 2 = LEN l6 := by subst hl6 hLEN; rfl
  refine ⟨_, congrArg (fun n => AV.c (AC.os 1088 0 n)) e7, _, row GD (encI .i64) l6, e7, ?_, ?_⟩
  · intro i hi j hj
    rw [← e7] at hi
    subst hl6
    subst hGD
    obtain rfl | rfl : i = 0 ∨ i = 1 := by omega
    all_goals obtain rfl : j = 0 := by omega
    all_goals rfl
  cbv
  replace h := of_bind h
  obtain ⟨y8, hy9, h⟩ := h
  refine ⟨{ args := [.c (.os 5 0 (LEN l3)), .c (.bs (LEN l6) 1 (row GD (encI .i64) l6))], o0 := [(5, .arr .rw [] (LEN l3) 1 (row GD (encI .u8) l3))], r := .c (.os 64000 0 (LEN y8)), o1 := [(64000, .arr .rw [] (LEN y8) 1 (row GD (encI .u8) y8))], fl := true, σ := [(5, 640)], τ := [(64000, 1152)] }, hf_impl_coordinates_mob _ _ _ hy9, ⟨les_cons (AV.le_refl _) (les_cons (give_os (fun _ _ => rfl) rfl rfl rfl) (les_nil)), ⟨⟨fun hw => hw, fun c hc => (by cases hc), .inl rfl, rfl, rfl, fun i hi j hj => rfl⟩, trivial⟩, rfl, rfl, rfl, rfl, ⟨fun h => absurd (show (64000 : Nat) % 2 = 1 from h) (by decide), trivial⟩, rfl⟩, _, rfl, _, _, rfl, fun _ _ _ _ => rfl, ?_⟩
  cbv
  replace h := of_bind h
  obtain ⟨y10, hy11, h⟩ := h
  refine ⟨{ args := [.c (.os 5 0 (LEN y8)), .c (.v (.string a1.fName))], o0 := [(5, .arr .rw [] (LEN y8) 1 (row GD (encI .u8) y8))], r := .c (.os 64000 0 (LEN y10)), o1 := [(64000, .arr .rw [] (LEN y10) 1 (row GD (encI .u8) y10))], fl := true, σ := [(5, 1152)], τ := [(64000, 1344)] }, hf_impl_nameBytes_mob _ _ _ hy11, ⟨les_cons (AV.le_refl _) (les_cons (AV.le_refl _) (les_nil)), ⟨⟨fun hw => hw, fun c hc => (by cases hc), .inl rfl, rfl, rfl, fun i hi j hj => rfl⟩, trivial⟩, rfl, rfl, rfl, rfl, ⟨fun h => absurd (show (64000 : Nat) % 2 = 1 from h) (by decide), trivial⟩, rfl⟩, _, rfl, _, _, rfl, fun _ _ _ _ => rfl, ?_⟩
  cbv
  injection h with h
  subst h
  refine ⟨(sparse 22 [(4, .c (.os 64000 0 (LEN y10)))] [(64000, .arr .rw [] (LEN y10) 1 (row GD (encI .u8) y10))]), ?_, ?_⟩
  · refine St.le_trans (le_ren 1344 64000 (by decide) rfl) ?_
    exact le_sparse rfl ⟨AV.le_refl _, trivial⟩ ⟨⟨fun hw => hw, fun c hc => (by cases hc), .inl rfl, rfl, rfl, fun i hi j hj => rfl⟩, trivial⟩ rfl
  · exact ⟨AV.le_refl _, ⟨⟨fun hw => hw, fun c hc => (by cases hc), .inl rfl, rfl, rfl, fun i hi j hj => rfl⟩, trivial⟩, rfl⟩
/-- impl.placeBytes -/
noncomputable def F_impl_placeBytes_mob (a0 : List Int) (a1 : TInstance) : Option (List Int) :=
  letO ([std.conv .u8 a1.fPlace.fOrientation] : List Int) fun l1 =>
  req (std.room (std.nadd (len a0) (len l1)) 1) <|
  letO (a0 ++ l1) fun l3 =>
  letO ([a1.fPlace.fX, a1.fPlace.fY] : List Int) fun l6 =>
  (F_impl_coordinates_mob l3 l6).bind fun y8 =>
  letO ([std.conv .u8 a1.fColumns, std.conv .u8 a1.fRows] : List Int) fun l10 =>
  req (std.room (std.nadd (len y8) (len l10)) 1) <|
  letO (y8 ++ l10) fun l12 =>
  letO ([a1.fStepX, a1.fStepY] : List Int) fun l15 =>
  (F_impl_coordinates_mob l12 l15).bind fun y17 =>
  some y17
theorem run_impl_placeBytes_mob (a0 : List Int) (a1 : TInstance) (r : List Int) (h : F_impl_placeBytes_mob a0 a1 = some r) : Fun Try.prog 80 [.c (.os 5 0 (len a0)), .agg [.v (.int .i64 a1.fCell), .v (.int .i64 a1.fPlace.fOrientation), .v (.int .i64 a1.fPlace.fX), .v (.int .i64 a1.fPlace.fY), .v (.int .i64 a1.fColumns), .v (.int .i64 a1.fRows), .v (.int .i64 a1.fStepX), .v (.int .i64 a1.fStepY)]] [(5, .arr .rw [] (len a0) 1 (row gd (encI .u8) a0))] (.c (.os 64000 0 (len r))) [(64000, .arr .rw [] (len r) 1 (row gd (encI .u8) r))] true := by
  refine Fun.of_wp (oneOf []) tok mixed Try.func80 (by kernel_rfl) rfl Try.ntmps80 rfl ⟨fun i _ j _ k hk => (noref (plain_nil (rfl)) hk).elim, trivial⟩ (fun _ => ⟨trivial, ⟨fun i _ j _ => val_flat (rfl), trivial⟩⟩) ?_
  unfold F_impl_placeBytes_mob at h
  have hf_impl_coordinates_mob := @run_impl_coordinates_mob
  generalize hLEN : @len = LEN at *
  generalize hGD : @gd = GD at *
  generalize hA : std = A at *
  generalize hP : Try.prog = P at *
  cbv
  replace h := of_let h
  obtain ⟨l1, hl1, h⟩ := h
  have e2 : 1 = LEN l1 := by subst hl1 hLEN; rfl
  refine ⟨_, congrArg (fun n => AV.c (AC.os 640 0 n)) e2, _, row GD (encI .u8) l1, e2, ?_, ?_⟩
  · intro i hi j hj
    rw [← e2] at hi
    subst hl1
    subst hGD
    obtain rfl : i = 0 := by omega
    all_goals obtain rfl : j = 0 := by omega
    all_goals rfl
  cbv
  replace h := of_req h
  obtain ⟨c5, h⟩ := h
  replace h := of_let h
  obtain ⟨l3, hl3, h⟩ := h
  have e4 : A.nadd (LEN a0) (LEN l1) = LEN l3 := by subst hl3 hLEN hA; simp [std, len]
  refine ⟨c5, _, congrArg (fun n => AV.c (AC.os 704 0 n)) e4, _, row GD (encI .u8) l3, e4, ?_, ?_⟩
  · subst hGD hLEN hA
    exact app_os (off := 0) (fun _ _ => rfl) hl3 (Nat.le_refl _)
  cbv
  replace h := of_let h
  obtain ⟨l6, hl6, h⟩ := h
  have e7 : 2 = LEN l6 := by subst hl6 hLEN; rfl
  refine ⟨_, congrArg (fun n => AV.c (AC.os 1152 0 n)) e7, _, row GD (encI .i64) l6, e7, ?_, ?_⟩
  · intro i hi j hj
    rw [← e7] at hi
    subst hl6
    subst hGD
    obtain rfl | rfl : i = 0 ∨ i = 1 := by omega
    all_goals obtain rfl : j = 0 := by omega
    all_goals rfl
  cbv
  replace h := of_bind h
  obtain ⟨y8, hy9, h⟩ := h
  refine ⟨{ args := [.c (.os 5 0 (LEN l3)), .c (.bs (LEN l6) 1 (row GD (encI .i64) l6))], o0 := [(5, .arr .rw [] (LEN l3) 1 (row GD (encI .u8) l3))], r := .c (.os 64000 0 (LEN y8)), o1 := [(64000, .arr .rw [] (LEN y8) 1 (row GD (encI .u8) y8))], fl := true, σ := [(5, 704)], τ := [(64000, 1216)] }, hf_impl_coordinates_mob _ _ _ hy9, ⟨les_cons (AV.le_refl _) (les_cons (give_os (fun _ _ => rfl) rfl rfl rfl) (les_nil)), ⟨⟨fun hw => hw, fun c hc => (by cases hc), .inl rfl, rfl, rfl, fun i hi j hj => rfl⟩, trivial⟩, rfl, rfl, rfl, rfl, ⟨fun h => absurd (show (64000 : Nat) % 2 = 1 from h) (by decide), trivial⟩, rfl⟩, _, rfl, _, _, rfl, fun _ _ _ _ => rfl, ?_⟩
  cbv
  replace h := of_let h
  obtain ⟨l10, hl10, h⟩ := h
  have e11 : 2 = LEN l10 := by subst hl10 hLEN; rfl
  refine ⟨_, congrArg (fun n => AV.c (AC.os 1728 0 n)) e11, _, row GD (encI .u8) l10, e11, ?_, ?_⟩
  · intro i hi j hj
    rw [← e11] at hi
    subst hl10
    subst hGD
    obtain rfl | rfl : i = 0 ∨ i = 1 := by omega
    all_goals obtain rfl : j = 0 := by omega
    all_goals rfl
  cbv
  replace h := of_req h
  obtain ⟨c14, h⟩ := h
  replace h := of_let h
  obtain ⟨l12, hl12, h⟩ := h
  have e13 : A.nadd (LEN y8) (LEN l10) = LEN l12 := by subst hl12 hLEN hA; simp [std, len]
  refine ⟨c14, _, congrArg (fun n => AV.c (AC.os 1216 0 n)) e13, _, row GD (encI .u8) l12, e13, ?_, ?_⟩
  · subst hGD hLEN hA
    exact app_os (off := 0) (fun _ _ => rfl) hl12 (Nat.le_refl _)
  cbv
  replace h := of_let h
  obtain ⟨l15, hl15, h⟩ := h
  have e16 : 2 = LEN l15 := by subst hl15 hLEN; rfl
  refine ⟨_, congrArg (fun n => AV.c (AC.os 2112 0 n)) e16, _, row GD (encI .i64) l15, e16, ?_, ?_⟩
  · intro i hi j hj
    rw [← e16] at hi
    subst hl15
    subst hGD
    obtain rfl | rfl : i = 0 ∨ i = 1 := by omega
    all_goals obtain rfl : j = 0 := by omega
    all_goals rfl
  cbv
  replace h := of_bind h
  obtain ⟨y17, hy18, h⟩ := h
  refine ⟨{ args := [.c (.os 5 0 (LEN l12)), .c (.bs (LEN l15) 1 (row GD (encI .i64) l15))], o0 := [(5, .arr .rw [] (LEN l12) 1 (row GD (encI .u8) l12))], r := .c (.os 64000 0 (LEN y17)), o1 := [(64000, .arr .rw [] (LEN y17) 1 (row GD (encI .u8) y17))], fl := true, σ := [(5, 1216)], τ := [(64000, 2176)] }, hf_impl_coordinates_mob _ _ _ hy18, ⟨les_cons (AV.le_refl _) (les_cons (give_os (fun _ _ => rfl) rfl rfl rfl) (les_nil)), ⟨⟨fun hw => hw, fun c hc => (by cases hc), .inl rfl, rfl, rfl, fun i hi j hj => rfl⟩, trivial⟩, rfl, rfl, rfl, rfl, ⟨fun h => absurd (show (64000 : Nat) % 2 = 1 from h) (by decide), trivial⟩, rfl⟩, _, rfl, _, _, rfl, fun _ _ _ _ => rfl, ?_⟩
  cbv
  injection h with h
  subst h
  refine ⟨(sparse 35 [(4, .c (.os 64000 0 (LEN y17)))] [(64000, .arr .rw [] (LEN y17) 1 (row GD (encI .u8) y17))]), ?_, ?_⟩
  · refine St.le_trans (le_ren 2176 64000 (by decide) rfl) ?_
    exact le_sparse rfl ⟨AV.le_refl _, trivial⟩ ⟨⟨fun hw => hw, fun c hc => (by cases hc), .inl rfl, rfl, rfl, fun i hi j hj => rfl⟩, trivial⟩ rfl
  · exact ⟨AV.le_refl _, ⟨⟨fun hw => hw, fun c hc => (by cases hc), .inl rfl, rfl, rfl, fun i hi j hj => rfl⟩, trivial⟩, rfl⟩

noncomputable def L_impl_cellRecords_x51 (a0 : TLibrary) (a1 : TCell) : (ByteArray × Int) → Option ((ByteArray × Int) ⊕ ((ByteArray))) := fun x51 =>
  letO x51.1 fun v49 =>
  letO x51.2 fun v50 =>
  br (std.lt v50 (std.ofN (len a1.fInstances)))
  (req (std.inR v50 (len a1.fInstances)) <|
  req (std.inR (gd a1.fInstances (std.toN v50)).fCell (len a0.fCells)) <|
  (F_impl_nameBytes_mnb ([] : List Int) (gd a0.fCells (std.toN (gd a1.fInstances (std.toN v50)).fCell)).fName).bind fun y65 =>
  (F_impl_placeBytes_mob y65 (gd a1.fInstances (std.toN v50))).bind fun y67 =>
  (F_impl_StreamRecord 5 (std.ofBytes (len y67) (fun i => gd y67 (0 + i)))).bind fun y69 =>
  req (std.room (std.nadd (std.slen v49) (std.slen y69)) 1) <|
  some (.inl (std.scat v49 y69, std.add .i64 v50 1)))
  (some (.inr v49))
noncomputable def L_impl_cellRecords_x29 (a1 : TCell) : (ByteArray × Int) → Option ((ByteArray × Int) ⊕ ((ByteArray))) := fun x29 =>
  letO x29.1 fun v27 =>
  letO x29.2 fun v28 =>
  br (std.lt v28 (std.ofN (len a1.fLabels)))
  (req (std.inR v28 (len a1.fLabels)) <|
  (F_impl_labelBytes_mnb ([] : List Int) (gd a1.fLabels (std.toN v28))).bind fun y42 =>
  (F_impl_StreamRecord 4 (std.ofBytes (len y42) (fun i => gd y42 (0 + i)))).bind fun y44 =>
  req (std.room (std.nadd (std.slen v27) (std.slen y44)) 1) <|
  some (.inl (std.scat v27 y44, std.add .i64 v28 1)))
  (some (.inr v27))
noncomputable def L_impl_cellRecords_x7 (a1 : TCell) : (ByteArray × Int) → Option ((ByteArray × Int) ⊕ ((ByteArray))) := fun x7 =>
  letO x7.1 fun v5 =>
  letO x7.2 fun v6 =>
  br (std.lt v6 (std.ofN (len a1.fShapes)))
  (req (std.inR v6 (len a1.fShapes)) <|
  (F_impl_shapeBytes_mnb ([] : List Int) (gd a1.fShapes (std.toN v6))).bind fun y20 =>
  (F_impl_StreamRecord 3 (std.ofBytes (len y20) (fun i => gd y20 (0 + i)))).bind fun y22 =>
  req (std.room (std.nadd (std.slen v5) (std.slen y22)) 1) <|
  some (.inl (std.scat v5 y22, std.add .i64 v6 1)))
  (some (.inr v5))
/-- impl.cellRecords -/
noncomputable def F_impl_cellRecords (a0 : TLibrary) (a1 : TCell) : Option (ByteArray) :=
  (F_impl_nameBytes_mnb ([] : List Int) a1.fName).bind fun y1 =>
  (F_impl_StreamRecord 2 (std.ofBytes (len y1) (fun i => gd y1 (0 + i)))).bind fun y3 =>
  (whileP (σ := ByteArray × Int) (ρ := (ByteArray)) (L_impl_cellRecords_x7 a1) (y3, 0)).bind fun y8 =>
  letO y8 fun y8k0 =>
  letO y8k0 fun w26 =>
  (whileP (σ := ByteArray × Int) (ρ := (ByteArray)) (L_impl_cellRecords_x29 a1) (w26, 0)).bind fun y30 =>
  letO y30 fun y30k0 =>
  letO y30k0 fun w48 =>
  (whileP (σ := ByteArray × Int) (ρ := (ByteArray)) (L_impl_cellRecords_x51 a0 a1) (w48, 0)).bind fun y52 =>
  letO y52 fun y52k0 =>
  letO y52k0 fun w73 =>
  letO ([std.conv .u8 (std.ofN (len a1.fShapes)), std.conv .u8 (std.ofN (len a1.fLabels)), std.conv .u8 (std.ofN (len a1.fInstances))] : List Int) fun l74 =>
  (F_impl_StreamRecord 6 (std.ofBytes (len l74) (fun i => gd l74 (0 + i)))).bind fun y76 =>
  req (std.room (std.nadd (std.slen w73) (std.slen y76)) 1) <|
  some (std.scat w73 y76)
theorem run_impl_cellRecords (a0 : TLibrary) (a1 : TCell) (r : ByteArray) (h : F_impl_cellRecords a0 a1 = some r) : Fun Try.prog 125 [.agg [.bs (len a0.fCells) 4 (row gd (encCell len gd) a0.fCells)], .agg [.v (.string a1.fName), .bs (len a1.fShapes) 5 (row gd (encShape) a1.fShapes), .bs (len a1.fLabels) 4 (row gd (encLabel) a1.fLabels), .bs (len a1.fInstances) 8 (row gd (encInstance) a1.fInstances)]] [] (.c (.v (.string r))) [] true := by
  refine Fun.of_wp (oneOf []) tok mixed Try.func125 (by kernel_rfl) rfl Try.ntmps125 rfl trivial (fun _ => ⟨trivial, trivial⟩) ?_
  unfold F_impl_cellRecords at h
  unfold L_impl_cellRecords_x7 at h
  unfold L_impl_cellRecords_x29 at h
  unfold L_impl_cellRecords_x51 at h
  have hf_impl_StreamRecord := @run_impl_StreamRecord
  have hf_impl_labelBytes_mnb := @run_impl_labelBytes_mnb
  have hf_impl_nameBytes_mnb := @run_impl_nameBytes_mnb
  have hf_impl_placeBytes_mob := @run_impl_placeBytes_mob
  have hf_impl_shapeBytes_mnb := @run_impl_shapeBytes_mnb
  generalize hLEN : @len = LEN at *
  generalize hGD : @gd = GD at *
  generalize hA : std = A at *
  generalize hP : Try.prog = P at *
  cbv
  replace h := of_bind h
  obtain ⟨y1, hy2, h⟩ := h
  refine ⟨{ args := [.c (.v (.slice none 0 0)), .c (.v (.string a1.fName))], o0 := [], r := .c (.os 64000 0 (LEN y1)), o1 := [(64000, .arr .rw [] (LEN y1) 1 (row GD (encI .u8) y1))], fl := true, σ := [], τ := [(64000, 896)] }, hf_impl_nameBytes_mnb _ _ _ hy2, ⟨les_cons (AV.le_refl _) (les_cons (AV.le_refl _) (les_nil)), trivial, rfl, rfl, rfl, rfl, ⟨fun h => absurd (show (64000 : Nat) % 2 = 1 from h) (by decide), trivial⟩, rfl⟩, _, rfl, _, _, rfl, fun _ _ _ _ => rfl, ?_⟩
  cbv
  refine ⟨fun _ _ => rfl, ?_⟩
  replace h := of_bind h
  obtain ⟨y3, hy4, h⟩ := h
  refine ⟨{ args := [.c (.v (.int .i64 2)), .c (.v (.string (A.ofBytes (LEN y1) (fun i => GD y1 (0 + i)))))], o0 := [], r := .c (.v (.string y3)), o1 := [], fl := true, σ := [], τ := [] }, hf_impl_StreamRecord _ _ _ hy4, ⟨les_cons (AV.le_refl _) (les_cons (AV.le_refl _) (les_nil)), trivial, rfl, rfl, rfl, rfl, trivial, rfl⟩, ?_⟩
  cbv
  replace h := of_bind h
  obtain ⟨y8, hr9, hN10⟩ := h
  refine loop_cut hr9 (fun x => (sparse 84 [(2, .c (.ptr 128 0)), (3, .c (.ptr 192 0)), (5, .c (.v (.string x.1))), (18, .c (.bs (LEN a1.fShapes) 5 (row GD (encShape) a1.fShapes))), (19, .c (.v (.int .i64 (A.ofN (LEN a1.fShapes))))), (20, .c (.v (.int .i64 x.2)))] [(128, .var [.bs (LEN a0.fCells) 4 (row GD (encCell LEN GD) a0.fCells)]), (192, .var [.v (.string a1.fName), .bs (LEN a1.fShapes) 5 (row GD (encShape) a1.fShapes), .bs (LEN a1.fLabels) 4 (row GD (encLabel) a1.fLabels), .bs (LEN a1.fInstances) 8 (row GD (encInstance) a1.fInstances)])])) ?_ (fun y e s => (fun (w : ByteArray) => e = .exit 0 ∧ s.le (sparse 84 [(2, .c (.ptr 128 0)), (3, .c (.ptr 192 0)), (5, .c (.v (.string w)))] [(128, .var [.bs (LEN a0.fCells) 4 (row GD (encCell LEN GD) a0.fCells)]), (192, .var [.v (.string a1.fName), .bs (LEN a1.fShapes) 5 (row GD (encShape) a1.fShapes), .bs (LEN a1.fLabels) 4 (row GD (encLabel) a1.fLabels), .bs (LEN a1.fInstances) 8 (row GD (encInstance) a1.fInstances)])])) y) ?_ ?_
  · clear hr9 hN10
    show St.le _ _
    exact le_sparse rfl ⟨AV.le_refl _, AV.le_refl _, AV.le_refl _, AV.le_refl _, AV.le_refl _, AV.le_refl _, trivial⟩ ⟨rfl, rfl, trivial⟩ rfl
  · clear hr9 hN10
    intro x z14 h K12 hK13 hY11
    obtain ⟨x0_, x1_⟩ := x
    replace h := of_let h
    obtain ⟨v5, hv5, h⟩ := h
    have hv5 : v5 = x0_ := hv5
    subst hv5
    replace h := of_let h
    obtain ⟨v6, hv6, h⟩ := h
    have hv6 : v6 = x1_ := hv6
    subst hv6
    cbv
    refine fork (fun b25 => ?_) (fun b25 => ?_)
    · replace h := of_br_t b25 h
      cbv
      replace h := of_req h
      obtain ⟨c19, h⟩ := h
      refine ⟨⟨c19, trivial⟩, ?_⟩
      replace h := of_bind h
      obtain ⟨y20, hy21, h⟩ := h
      refine ⟨{ args := [.c (.v (.slice none 0 0)), .agg [.v (.int .i64 (GD a1.fShapes (A.toN v6)).fLayer), .v (.int .i64 (GD a1.fShapes (A.toN v6)).fBox.fX0), .v (.int .i64 (GD a1.fShapes (A.toN v6)).fBox.fY0), .v (.int .i64 (GD a1.fShapes (A.toN v6)).fBox.fX1), .v (.int .i64 (GD a1.fShapes (A.toN v6)).fBox.fY1)]], o0 := [], r := .c (.os 64000 0 (LEN y20)), o1 := [(64000, .arr .rw [] (LEN y20) 1 (row GD (encI .u8) y20))], fl := true, σ := [], τ := [(64000, 1664)] }, hf_impl_shapeBytes_mnb _ _ _ hy21, ⟨les_cons (AV.le_refl _) (les_cons (AV.le_refl _) (les_nil)), trivial, rfl, rfl, rfl, rfl, ⟨fun h => absurd (show (64000 : Nat) % 2 = 1 from h) (by decide), trivial⟩, rfl⟩, _, rfl, _, _, rfl, fun _ _ _ _ => rfl, ?_⟩
      cbv
      refine ⟨fun _ _ => rfl, ?_⟩
      replace h := of_bind h
      obtain ⟨y22, hy23, h⟩ := h
      refine ⟨{ args := [.c (.v (.int .i64 3)), .c (.v (.string (A.ofBytes (LEN y20) (fun i => GD y20 (0 + i)))))], o0 := [], r := .c (.v (.string y22)), o1 := [], fl := true, σ := [], τ := [] }, hf_impl_StreamRecord _ _ _ hy23, ⟨les_cons (AV.le_refl _) (les_cons (AV.le_refl _) (les_nil)), trivial, rfl, rfl, rfl, rfl, trivial, rfl⟩, ?_⟩
      cbv
      replace h := of_req h
      obtain ⟨c24, h⟩ := h
      refine ⟨c24, ?_⟩
      injection h with h
      refine hK13 _ h.symm _ ?_
      exact le_sparse rfl ⟨AV.le_refl _, AV.le_refl _, AV.le_refl _, AV.le_refl _, AV.le_refl _, AV.le_refl _, trivial⟩ ⟨rfl, rfl, trivial⟩ rfl
    · replace h := of_br_f b25 h
      cbv
      injection h with h
      refine hY11 _ h.symm _ _ (And.intro rfl ?_) (by intro hh; cases hh)
      exact le_sparse rfl ⟨AV.le_refl _, AV.le_refl _, AV.le_refl _, trivial⟩ ⟨rfl, rfl, trivial⟩ rfl
  · clear hr9
    have h := hN10
    clear hN10
    intro e17 s18 q16 hne
    replace h := of_let h
    obtain ⟨y8k0, hyk, h⟩ := h
    have hyk : y8k0 = y8 := hyk
    subst hyk
    obtain ⟨rfl, q16⟩ := q16
    replace h := of_let h
    obtain ⟨w26, hw26, h⟩ := h
    have hw26 : w26 = y8k0 := hw26
    subst hw26
    cbv
    refine ⟨_, q16, ?_⟩
    cbv
    replace h := of_bind h
    obtain ⟨y30, hr31, hN32⟩ := h
    refine loop_cut hr31 (fun x => (sparse 84 [(2, .c (.ptr 128 0)), (3, .c (.ptr 192 0)), (5, .c (.v (.string x.1))), (32, .c (.bs (LEN a1.fLabels) 4 (row GD (encLabel) a1.fLabels))), (33, .c (.v (.int .i64 (A.ofN (LEN a1.fLabels))))), (34, .c (.v (.int .i64 x.2)))] [(128, .var [.bs (LEN a0.fCells) 4 (row GD (encCell LEN GD) a0.fCells)]), (192, .var [.v (.string a1.fName), .bs (LEN a1.fShapes) 5 (row GD (encShape) a1.fShapes), .bs (LEN a1.fLabels) 4 (row GD (encLabel) a1.fLabels), .bs (LEN a1.fInstances) 8 (row GD (encInstance) a1.fInstances)])])) ?_ (fun y e s => (fun (w : ByteArray) => e = .exit 2 ∧ s.le (sparse 84 [(2, .c (.ptr 128 0)), (3, .c (.ptr 192 0)), (5, .c (.v (.string w)))] [(128, .var [.bs (LEN a0.fCells) 4 (row GD (encCell LEN GD) a0.fCells)]), (192, .var [.v (.string a1.fName), .bs (LEN a1.fShapes) 5 (row GD (encShape) a1.fShapes), .bs (LEN a1.fLabels) 4 (row GD (encLabel) a1.fLabels), .bs (LEN a1.fInstances) 8 (row GD (encInstance) a1.fInstances)])])) y) ?_ ?_
    · clear hr31 hN32
      show St.le _ _
      exact le_sparse rfl ⟨AV.le_refl _, AV.le_refl _, AV.le_refl _, AV.le_refl _, AV.le_refl _, AV.le_refl _, trivial⟩ ⟨rfl, rfl, trivial⟩ rfl
    · clear hr31 hN32
      intro x z36 h K34 hK35 hY33
      obtain ⟨x0_, x1_⟩ := x
      replace h := of_let h
      obtain ⟨v27, hv27, h⟩ := h
      have hv27 : v27 = x0_ := hv27
      subst hv27
      replace h := of_let h
      obtain ⟨v28, hv28, h⟩ := h
      have hv28 : v28 = x1_ := hv28
      subst hv28
      cbv
      refine fork (fun b47 => ?_) (fun b47 => ?_)
      · replace h := of_br_t b47 h
        cbv
        replace h := of_req h
        obtain ⟨c41, h⟩ := h
        refine ⟨⟨c41, trivial⟩, ?_⟩
        replace h := of_bind h
        obtain ⟨y42, hy43, h⟩ := h
        refine ⟨{ args := [.c (.v (.slice none 0 0)), .agg [.v (.int .i64 (GD a1.fLabels (A.toN v28)).fLayer), .v (.int .i64 (GD a1.fLabels (A.toN v28)).fAt.fX), .v (.int .i64 (GD a1.fLabels (A.toN v28)).fAt.fY), .v (.string (GD a1.fLabels (A.toN v28)).fName)]], o0 := [], r := .c (.os 64000 0 (LEN y42)), o1 := [(64000, .arr .rw [] (LEN y42) 1 (row GD (encI .u8) y42))], fl := true, σ := [], τ := [(64000, 2560)] }, hf_impl_labelBytes_mnb _ _ _ hy43, ⟨les_cons (AV.le_refl _) (les_cons (AV.le_refl _) (les_nil)), trivial, rfl, rfl, rfl, rfl, ⟨fun h => absurd (show (64000 : Nat) % 2 = 1 from h) (by decide), trivial⟩, rfl⟩, _, rfl, _, _, rfl, fun _ _ _ _ => rfl, ?_⟩
        cbv
        refine ⟨fun _ _ => rfl, ?_⟩
        replace h := of_bind h
        obtain ⟨y44, hy45, h⟩ := h
        refine ⟨{ args := [.c (.v (.int .i64 4)), .c (.v (.string (A.ofBytes (LEN y42) (fun i => GD y42 (0 + i)))))], o0 := [], r := .c (.v (.string y44)), o1 := [], fl := true, σ := [], τ := [] }, hf_impl_StreamRecord _ _ _ hy45, ⟨les_cons (AV.le_refl _) (les_cons (AV.le_refl _) (les_nil)), trivial, rfl, rfl, rfl, rfl, trivial, rfl⟩, ?_⟩
        cbv
        replace h := of_req h
        obtain ⟨c46, h⟩ := h
        refine ⟨c46, ?_⟩
        injection h with h
        refine hK35 _ h.symm _ ?_
        exact le_sparse rfl ⟨AV.le_refl _, AV.le_refl _, AV.le_refl _, AV.le_refl _, AV.le_refl _, AV.le_refl _, trivial⟩ ⟨rfl, rfl, trivial⟩ rfl
      · replace h := of_br_f b47 h
        cbv
        injection h with h
        refine hY33 _ h.symm _ _ (And.intro rfl ?_) (by intro hh; cases hh)
        exact le_sparse rfl ⟨AV.le_refl _, AV.le_refl _, AV.le_refl _, trivial⟩ ⟨rfl, rfl, trivial⟩ rfl
    · clear hr31
      have h := hN32
      clear hN32
      intro e39 s40 q38 hne
      replace h := of_let h
      obtain ⟨y30k0, hyk, h⟩ := h
      have hyk : y30k0 = y30 := hyk
      subst hyk
      obtain ⟨rfl, q38⟩ := q38
      replace h := of_let h
      obtain ⟨w48, hw48, h⟩ := h
      have hw48 : w48 = y30k0 := hw48
      subst hw48
      cbv
      refine ⟨_, q38, ?_⟩
      cbv
      replace h := of_bind h
      obtain ⟨y52, hr53, hN54⟩ := h
      refine loop_cut hr53 (fun x => (sparse 84 [(2, .c (.ptr 128 0)), (3, .c (.ptr 192 0)), (5, .c (.v (.string x.1))), (46, .c (.bs (LEN a1.fInstances) 8 (row GD (encInstance) a1.fInstances))), (47, .c (.v (.int .i64 (A.ofN (LEN a1.fInstances))))), (48, .c (.v (.int .i64 x.2)))] [(128, .var [.bs (LEN a0.fCells) 4 (row GD (encCell LEN GD) a0.fCells)]), (192, .var [.v (.string a1.fName), .bs (LEN a1.fShapes) 5 (row GD (encShape) a1.fShapes), .bs (LEN a1.fLabels) 4 (row GD (encLabel) a1.fLabels), .bs (LEN a1.fInstances) 8 (row GD (encInstance) a1.fInstances)])])) ?_ (fun y e s => (fun (w : ByteArray) => e = .exit 4 ∧ s.le (sparse 84 [(3, .c (.ptr 192 0)), (5, .c (.v (.string w)))] [(192, .var [.v (.string a1.fName), .bs (LEN a1.fShapes) 5 (row GD (encShape) a1.fShapes), .bs (LEN a1.fLabels) 4 (row GD (encLabel) a1.fLabels), .bs (LEN a1.fInstances) 8 (row GD (encInstance) a1.fInstances)])])) y) ?_ ?_
      · clear hr53 hN54
        show St.le _ _
        exact le_sparse rfl ⟨AV.le_refl _, AV.le_refl _, AV.le_refl _, AV.le_refl _, AV.le_refl _, AV.le_refl _, trivial⟩ ⟨rfl, rfl, trivial⟩ rfl
      · clear hr53 hN54
        intro x z58 h K56 hK57 hY55
        obtain ⟨x0_, x1_⟩ := x
        replace h := of_let h
        obtain ⟨v49, hv49, h⟩ := h
        have hv49 : v49 = x0_ := hv49
        subst hv49
        replace h := of_let h
        obtain ⟨v50, hv50, h⟩ := h
        have hv50 : v50 = x1_ := hv50
        subst hv50
        cbv
        refine fork (fun b72 => ?_) (fun b72 => ?_)
        · replace h := of_br_t b72 h
          cbv
          replace h := of_req h
          obtain ⟨c63, h⟩ := h
          refine ⟨⟨c63, trivial⟩, ?_⟩
          replace h := of_req h
          obtain ⟨c64, h⟩ := h
          refine ⟨⟨c64, trivial⟩, ?_⟩
          replace h := of_bind h
          obtain ⟨y65, hy66, h⟩ := h
          refine ⟨{ args := [.c (.v (.slice none 0 0)), .c (.v (.string (GD a0.fCells (A.toN (GD a1.fInstances (A.toN v50)).fCell)).fName))], o0 := [], r := .c (.os 64000 0 (LEN y65)), o1 := [(64000, .arr .rw [] (LEN y65) 1 (row GD (encI .u8) y65))], fl := true, σ := [], τ := [(64000, 3840)] }, hf_impl_nameBytes_mnb _ _ _ hy66, ⟨les_cons (AV.le_refl _) (les_cons (AV.le_refl _) (les_nil)), trivial, rfl, rfl, rfl, rfl, ⟨fun h => absurd (show (64000 : Nat) % 2 = 1 from h) (by decide), trivial⟩, rfl⟩, _, rfl, _, _, rfl, fun _ _ _ _ => rfl, ?_⟩
          cbv
          replace h := of_bind h
          obtain ⟨y67, hy68, h⟩ := h
          refine ⟨{ args := [.c (.os 5 0 (LEN y65)), .agg [.v (.int .i64 (GD a1.fInstances (A.toN v50)).fCell), .v (.int .i64 (GD a1.fInstances (A.toN v50)).fPlace.fOrientation), .v (.int .i64 (GD a1.fInstances (A.toN v50)).fPlace.fX), .v (.int .i64 (GD a1.fInstances (A.toN v50)).fPlace.fY), .v (.int .i64 (GD a1.fInstances (A.toN v50)).fColumns), .v (.int .i64 (GD a1.fInstances (A.toN v50)).fRows), .v (.int .i64 (GD a1.fInstances (A.toN v50)).fStepX), .v (.int .i64 (GD a1.fInstances (A.toN v50)).fStepY)]], o0 := [(5, .arr .rw [] (LEN y65) 1 (row GD (encI .u8) y65))], r := .c (.os 64000 0 (LEN y67)), o1 := [(64000, .arr .rw [] (LEN y67) 1 (row GD (encI .u8) y67))], fl := true, σ := [(5, 3840)], τ := [(64000, 3968)] }, hf_impl_placeBytes_mob _ _ _ hy68, ⟨les_cons (AV.le_refl _) (les_cons (AV.le_refl _) (les_nil)), ⟨⟨fun hw => hw, fun c hc => (by cases hc), .inl rfl, rfl, rfl, fun i hi j hj => rfl⟩, trivial⟩, rfl, rfl, rfl, rfl, ⟨fun h => absurd (show (64000 : Nat) % 2 = 1 from h) (by decide), trivial⟩, rfl⟩, _, rfl, _, _, rfl, fun _ _ _ _ => rfl, ?_⟩
          cbv
          refine ⟨fun _ _ => rfl, ?_⟩
          replace h := of_bind h
          obtain ⟨y69, hy70, h⟩ := h
          refine ⟨{ args := [.c (.v (.int .i64 5)), .c (.v (.string (A.ofBytes (LEN y67) (fun i => GD y67 (0 + i)))))], o0 := [], r := .c (.v (.string y69)), o1 := [], fl := true, σ := [], τ := [] }, hf_impl_StreamRecord _ _ _ hy70, ⟨les_cons (AV.le_refl _) (les_cons (AV.le_refl _) (les_nil)), trivial, rfl, rfl, rfl, rfl, trivial, rfl⟩, ?_⟩
          cbv
          replace h := of_req h
          obtain ⟨c71, h⟩ := h
          refine ⟨c71, ?_⟩
          injection h with h
          refine hK57 _ h.symm _ ?_
          exact le_sparse rfl ⟨AV.le_refl _, AV.le_refl _, AV.le_refl _, AV.le_refl _, AV.le_refl _, AV.le_refl _, trivial⟩ ⟨rfl, rfl, trivial⟩ rfl
        · replace h := of_br_f b72 h
          cbv
          injection h with h
          refine hY55 _ h.symm _ _ (And.intro rfl ?_) (by intro hh; cases hh)
          exact le_sparse rfl ⟨AV.le_refl _, AV.le_refl _, trivial⟩ ⟨rfl, trivial⟩ rfl
      · clear hr53
        have h := hN54
        clear hN54
        intro e61 s62 q60 hne
        replace h := of_let h
        obtain ⟨y52k0, hyk, h⟩ := h
        have hyk : y52k0 = y52 := hyk
        subst hyk
        obtain ⟨rfl, q60⟩ := q60
        replace h := of_let h
        obtain ⟨w73, hw73, h⟩ := h
        have hw73 : w73 = y52k0 := hw73
        subst hw73
        cbv
        refine ⟨_, q60, ?_⟩
        cbv
        replace h := of_let h
        obtain ⟨l74, hl74, h⟩ := h
        have e75 : 3 = LEN l74 := by subst hl74 hLEN; rfl
        refine ⟨_, congrArg (fun n => AV.c (AC.os 5120 0 n)) e75, _, row GD (encI .u8) l74, e75, ?_, ?_⟩
        · intro i hi j hj
          rw [← e75] at hi
          subst hl74
          subst hGD
          obtain rfl | rfl | rfl : i = 0 ∨ i = 1 ∨ i = 2 := by omega
          all_goals obtain rfl : j = 0 := by omega
          all_goals rfl
        cbv
        refine ⟨fun _ _ => rfl, ?_⟩
        replace h := of_bind h
        obtain ⟨y76, hy77, h⟩ := h
        refine ⟨{ args := [.c (.v (.int .i64 6)), .c (.v (.string (A.ofBytes (LEN l74) (fun i => GD l74 (0 + i)))))], o0 := [], r := .c (.v (.string y76)), o1 := [], fl := true, σ := [], τ := [] }, hf_impl_StreamRecord _ _ _ hy77, ⟨les_cons (AV.le_refl _) (les_cons (AV.le_refl _) (les_nil)), trivial, rfl, rfl, rfl, rfl, trivial, rfl⟩, ?_⟩
        cbv
        replace h := of_req h
        obtain ⟨c78, h⟩ := h
        refine ⟨c78, ?_⟩
        injection h with h
        subst h
        refine ⟨(sparse 84 [(4, .c (.v (.string (A.scat w73 y76))))] []), ?_, ?_⟩
        · exact le_sparse rfl ⟨AV.le_refl _, trivial⟩ trivial rfl
        · exact ⟨AV.le_refl _, trivial, rfl⟩

/-- impl.CellRecords -/
noncomputable def F_impl_CellRecords (a0 : TLibrary) (a1 : Int) : Option (ByteArray) :=
  (F_impl_hasCell a0 a1).bind fun y1 =>
  br (!(y1))
  (some (ByteArray.mk #[]))
  (req (std.inR a1 (len a0.fCells)) <|
  (F_impl_cellRecords a0 (gd a0.fCells (std.toN a1))).bind fun y4 =>
  some y4)
theorem run_impl_CellRecords (a0 : TLibrary) (a1 : Int) (r : ByteArray) (h : F_impl_CellRecords a0 a1 = some r) : Fun Try.prog 62 [.agg [.bs (len a0.fCells) 4 (row gd (encCell len gd) a0.fCells)], .c (.v (.int .i64 a1))] [] (.c (.v (.string r))) [] true := by
  refine Fun.of_wp (oneOf []) tok mixed Try.func62 (by kernel_rfl) rfl Try.ntmps62 rfl trivial (fun _ => ⟨trivial, trivial⟩) ?_
  unfold F_impl_CellRecords at h
  have hf_impl_cellRecords := @run_impl_cellRecords
  have hf_impl_hasCell := @run_impl_hasCell
  generalize hLEN : @len = LEN at *
  generalize hGD : @gd = GD at *
  generalize hA : std = A at *
  generalize hP : Try.prog = P at *
  cbv
  replace h := of_bind h
  obtain ⟨y1, hy2, h⟩ := h
  refine ⟨{ args := [.agg [.bs (LEN a0.fCells) 4 (row GD (encCell LEN GD) a0.fCells)], .c (.v (.int .i64 a1))], o0 := [], r := .c (.v (.bool y1)), o1 := [], fl := true, σ := [], τ := [] }, hf_impl_hasCell _ _ _ hy2, ⟨les_cons (AV.le_refl _) (les_cons (AV.le_refl _) (les_nil)), trivial, rfl, rfl, rfl, rfl, trivial, rfl⟩, ?_⟩
  cbv
  refine fork (fun b6 => ?_) (fun b6 => ?_)
  · replace h := of_br_t b6 h
    cbv
    injection h with h
    subst h
    refine ⟨(sparse 16 [(4, .c (.v (.string (ByteArray.mk #[]))))] []), ?_, ?_⟩
    · exact le_sparse rfl ⟨AV.le_refl _, trivial⟩ trivial rfl
    · exact ⟨AV.le_refl _, trivial, rfl⟩
  · replace h := of_br_f b6 h
    cbv
    replace h := of_req h
    obtain ⟨c3, h⟩ := h
    refine ⟨⟨c3, trivial⟩, ?_⟩
    replace h := of_bind h
    obtain ⟨y4, hy5, h⟩ := h
    refine ⟨{ args := [.agg [.bs (LEN a0.fCells) 4 (row GD (encCell LEN GD) a0.fCells)], .agg [.v (.string (GD a0.fCells (A.toN a1)).fName), .bs (LEN (GD a0.fCells (A.toN a1)).fShapes) 5 (row GD (encShape) (GD a0.fCells (A.toN a1)).fShapes), .bs (LEN (GD a0.fCells (A.toN a1)).fLabels) 4 (row GD (encLabel) (GD a0.fCells (A.toN a1)).fLabels), .bs (LEN (GD a0.fCells (A.toN a1)).fInstances) 8 (row GD (encInstance) (GD a0.fCells (A.toN a1)).fInstances)]], o0 := [], r := .c (.v (.string y4)), o1 := [], fl := true, σ := [], τ := [] }, hf_impl_cellRecords _ _ _ hy5, ⟨les_cons (AV.le_refl _) (les_cons (AV.le_refl _) (les_nil)), trivial, rfl, rfl, rfl, rfl, trivial, rfl⟩, ?_⟩
    cbv
    injection h with h
    subst h
    refine ⟨(sparse 16 [(4, .c (.v (.string y4)))] []), ?_, ?_⟩
    · exact le_sparse rfl ⟨AV.le_refl _, trivial⟩ trivial rfl
    · exact ⟨AV.le_refl _, trivial, rfl⟩

/-- laws.FnExactCellRecords -/
noncomputable def F_laws_FnExactCellRecords (a0 : TLibrary) (a1 : Int) : Option (Bool) :=
  (F_laws_szLibrary a0 1048576).bind fun y1 =>
  br (std.lt y1 0)
  (some true)
  ((F_laws_toLibrary a0).bind fun y3 =>
  (F_spec_CellRecords y3 a1).bind fun y5 =>
  (F_laws_toLibrary a0).bind fun y7 =>
  (F_impl_CellRecords y7 a1).bind fun y9 =>
  br (std.not (std.seq y9 y5))
  (some false)
  ((F_laws_toLibrary a0).bind fun y11 =>
  (F_laws_eqLibrary y7 y11).bind fun y13 =>
  br (!(y13))
  (some false)
  (some true)))
theorem run_laws_FnExactCellRecords (a0 : TLibrary) (a1 : Int) (r : Bool) (h : F_laws_FnExactCellRecords a0 a1 = some r) : Fun Try.prog 13 [.agg [.bs (len a0.fCells) 4 (row gd (encCell len gd) a0.fCells)], .c (.v (.int .i64 a1))] [] (.c (.v (.bool r))) [] true := by
  refine Fun.of_wp (oneOf []) tok mixed Try.func13 (by kernel_rfl) rfl Try.ntmps13 rfl trivial (fun _ => ⟨trivial, trivial⟩) ?_
  unfold F_laws_FnExactCellRecords at h
  have hf_impl_CellRecords := @run_impl_CellRecords
  have hf_laws_eqLibrary := @run_laws_eqLibrary
  have hf_laws_szLibrary := @run_laws_szLibrary
  have hf_laws_toLibrary := @run_laws_toLibrary
  have hf_spec_CellRecords := @run_spec_CellRecords
  generalize hLEN : @len = LEN at *
  generalize hGD : @gd = GD at *
  generalize hA : std = A at *
  generalize hP : Try.prog = P at *
  cbv
  replace h := of_bind h
  obtain ⟨y1, hy2, h⟩ := h
  refine ⟨{ args := [.agg [.bs (LEN a0.fCells) 4 (row GD (encCell LEN GD) a0.fCells)], .c (.v (.int .i64 1048576))], o0 := [], r := .c (.v (.int .i64 y1)), o1 := [], fl := true, σ := [], τ := [] }, hf_laws_szLibrary _ _ _ hy2, ⟨les_cons (AV.le_refl _) (les_cons (AV.le_refl _) (les_nil)), trivial, rfl, rfl, rfl, rfl, trivial, rfl⟩, ?_⟩
  cbv
  refine fork (fun b17 => ?_) (fun b17 => ?_)
  · replace h := of_br_t b17 h
    cbv
    injection h with h
    subst h
    refine ⟨(sparse 31 [(4, .c (.v (.bool true)))] []), ?_, ?_⟩
    · exact le_sparse rfl ⟨AV.le_refl _, trivial⟩ trivial rfl
    · exact ⟨AV.le_refl _, trivial, rfl⟩
  · replace h := of_br_f b17 h
    cbv
    replace h := of_bind h
    obtain ⟨y3, hy4, h⟩ := h
    refine ⟨{ args := [.agg [.bs (LEN a0.fCells) 4 (row GD (encCell LEN GD) a0.fCells)]], o0 := [], r := .agg [.os 64000 0 (LEN y3.fCells)], o1 := [(64000, .arr .rw [] (LEN y3.fCells) 4 (row GD (oncCell LEN GD) y3.fCells))], fl := true, σ := [], τ := [(64000, 960)] }, hf_laws_toLibrary _ _ hy4, ⟨les_cons (AV.le_refl _) (les_nil), trivial, rfl, rfl, rfl, rfl, ⟨fun h => absurd (show (64000 : Nat) % 2 = 1 from h) (by decide), trivial⟩, rfl⟩, _, rfl, _, _, rfl, fun _ _ _ _ => rfl, ?_⟩
    cbv
    replace h := of_bind h
    obtain ⟨y5, hy6, h⟩ := h
    refine ⟨{ args := [.agg [.bs (LEN y3.fCells) 4 (row GD (encCell LEN GD) y3.fCells)], .c (.v (.int .i64 a1))], o0 := [], r := .c (.v (.string y5)), o1 := [], fl := true, σ := [], τ := [] }, hf_spec_CellRecords _ _ _ hy6, ⟨les_cons (le_agg ⟨give_osD (rf_oncCell) (ln_oncCell) rfl rfl rfl, trivial⟩) (les_cons (AV.le_refl _) (les_nil)), trivial, rfl, rfl, rfl, rfl, trivial, rfl⟩, ?_⟩
    cbv
    replace h := of_bind h
    obtain ⟨y7, hy8, h⟩ := h
    refine ⟨{ args := [.agg [.bs (LEN a0.fCells) 4 (row GD (encCell LEN GD) a0.fCells)]], o0 := [], r := .agg [.os 64000 0 (LEN y7.fCells)], o1 := [(64000, .arr .rw [] (LEN y7.fCells) 4 (row GD (oncCell LEN GD) y7.fCells))], fl := true, σ := [], τ := [(64000, 1216)] }, hf_laws_toLibrary _ _ hy8, ⟨les_cons (AV.le_refl _) (les_nil), trivial, rfl, rfl, rfl, rfl, ⟨fun h => absurd (show (64000 : Nat) % 2 = 1 from h) (by decide), trivial⟩, rfl⟩, _, rfl, _, _, rfl, fun _ _ _ _ => rfl, ?_⟩
    cbv
    replace h := of_bind h
    obtain ⟨y9, hy10, h⟩ := h
    refine ⟨{ args := [.agg [.bs (LEN y7.fCells) 4 (row GD (encCell LEN GD) y7.fCells)], .c (.v (.int .i64 a1))], o0 := [], r := .c (.v (.string y9)), o1 := [], fl := true, σ := [], τ := [] }, hf_impl_CellRecords _ _ _ hy10, ⟨les_cons (le_agg ⟨give_osD (rf_oncCell) (ln_oncCell) rfl rfl rfl, trivial⟩) (les_cons (AV.le_refl _) (les_nil)), trivial, rfl, rfl, rfl, rfl, trivial, rfl⟩, ?_⟩
    cbv
    refine fork (fun b16 => ?_) (fun b16 => ?_)
    · replace h := of_br_t b16 h
      cbv
      injection h with h
      subst h
      refine ⟨(sparse 31 [(4, .c (.v (.bool false)))] []), ?_, ?_⟩
      · exact le_sparse rfl ⟨AV.le_refl _, trivial⟩ trivial rfl
      · exact ⟨AV.le_refl _, trivial, rfl⟩
    · replace h := of_br_f b16 h
      cbv
      replace h := of_bind h
      obtain ⟨y11, hy12, h⟩ := h
      refine ⟨{ args := [.agg [.bs (LEN a0.fCells) 4 (row GD (encCell LEN GD) a0.fCells)]], o0 := [], r := .agg [.os 64000 0 (LEN y11.fCells)], o1 := [(64000, .arr .rw [] (LEN y11.fCells) 4 (row GD (oncCell LEN GD) y11.fCells))], fl := true, σ := [], τ := [(64000, 1792)] }, hf_laws_toLibrary _ _ hy12, ⟨les_cons (AV.le_refl _) (les_nil), trivial, rfl, rfl, rfl, rfl, ⟨fun h => absurd (show (64000 : Nat) % 2 = 1 from h) (by decide), trivial⟩, rfl⟩, _, rfl, _, _, rfl, fun _ _ _ _ => rfl, ?_⟩
      cbv
      replace h := of_bind h
      obtain ⟨y13, hy14, h⟩ := h
      refine ⟨{ args := [.agg [.bs (LEN y7.fCells) 4 (row GD (encCell LEN GD) y7.fCells)], .agg [.bs (LEN y11.fCells) 4 (row GD (encCell LEN GD) y11.fCells)]], o0 := [], r := .c (.v (.bool y13)), o1 := [], fl := true, σ := [], τ := [] }, hf_laws_eqLibrary _ _ _ hy14, ⟨les_cons (le_agg ⟨give_osD (rf_oncCell) (ln_oncCell) rfl rfl rfl, trivial⟩) (les_cons (le_agg ⟨give_osD (rf_oncCell) (ln_oncCell) rfl rfl rfl, trivial⟩) (les_nil)), trivial, rfl, rfl, rfl, rfl, trivial, rfl⟩, ?_⟩
      cbv
      refine fork (fun b15 => ?_) (fun b15 => ?_)
      · replace h := of_br_t b15 h
        cbv
        injection h with h
        subst h
        refine ⟨(sparse 31 [(4, .c (.v (.bool false)))] []), ?_, ?_⟩
        · exact le_sparse rfl ⟨AV.le_refl _, trivial⟩ trivial rfl
        · exact ⟨AV.le_refl _, trivial, rfl⟩
      · replace h := of_br_f b15 h
        cbv
        injection h with h
        subst h
        refine ⟨(sparse 31 [(4, .c (.v (.bool true)))] []), ?_, ?_⟩
        · exact le_sparse rfl ⟨AV.le_refl _, trivial⟩ trivial rfl
        · exact ⟨AV.le_refl _, trivial, rfl⟩

noncomputable def L_spec_LibraryStream_x12 (a0 : TLibrary) : (ByteArray × Int) → Option ((ByteArray × Int) ⊕ ((ByteArray))) := fun x12 =>
  letO x12.1 fun v10 =>
  letO x12.2 fun v11 =>
  br (std.lt v11 (std.ofN (len a0.fCells)))
  ((F_spec_l14Cell a0 v11).bind fun y24 =>
  req (std.room (std.nadd (std.slen v10) (std.slen y24)) 1) <|
  some (.inl (std.scat v10 y24, std.add .i64 v11 1)))
  (some (.inr v10))
/-- spec.LibraryStream -/
noncomputable def F_spec_LibraryStream (a0 : TLibrary) : Option (ByteArray) :=
  (F_spec_IsValidLibrary a0).bind fun y1 =>
  br (!(y1))
  (some (ByteArray.mk #[]))
  ((F_spec_l13Byte 1).bind fun y3 =>
  (F_spec_l13Byte (std.ofN (len a0.fCells))).bind fun y5 =>
  req (std.room (std.nadd (std.slen y3) (std.slen y5)) 1) <|
  (F_spec_l14Record 1 (std.scat y3 y5)).bind fun y8 =>
  (whileP (σ := ByteArray × Int) (ρ := (ByteArray)) (L_spec_LibraryStream_x12 a0) (y8, 0)).bind fun y13 =>
  letO y13 fun y13k0 =>
  letO y13k0 fun w28 =>
  (F_spec_Checksum16 w28).bind fun y29 =>
  (F_spec_l13Two y29).bind fun y31 =>
  (F_spec_l14Record 7 y31).bind fun y33 =>
  req (std.room (std.nadd (std.slen w28) (std.slen y33)) 1) <|
  some (std.scat w28 y33))
theorem run_spec_LibraryStream (a0 : TLibrary) (r : ByteArray) (h : F_spec_LibraryStream a0 = some r) : Fun Try.prog 63 [.agg [.bs (len a0.fCells) 4 (row gd (encCell len gd) a0.fCells)]] [] (.c (.v (.string r))) [] true := by
  refine Fun.of_wp (oneOf []) tok mixed Try.func63 (by kernel_rfl) rfl Try.ntmps63 rfl trivial (fun _ => ⟨trivial, trivial⟩) ?_
  unfold F_spec_LibraryStream at h
  unfold L_spec_LibraryStream_x12 at h
  have hf_spec_Checksum16 := @run_spec_Checksum16
  have hf_spec_IsValidLibrary := @run_spec_IsValidLibrary
  have hf_spec_l13Byte := @run_spec_l13Byte
  have hf_spec_l13Two := @run_spec_l13Two
  have hf_spec_l14Cell := @run_spec_l14Cell
  have hf_spec_l14Record := @run_spec_l14Record
  generalize hLEN : @len = LEN at *
  generalize hGD : @gd = GD at *
  generalize hA : std = A at *
  generalize hP : Try.prog = P at *
  cbv
  replace h := of_bind h
  obtain ⟨y1, hy2, h⟩ := h
  refine ⟨{ args := [.agg [.bs (LEN a0.fCells) 4 (row GD (encCell LEN GD) a0.fCells)]], o0 := [], r := .c (.v (.bool y1)), o1 := [], fl := true, σ := [], τ := [] }, hf_spec_IsValidLibrary _ _ hy2, ⟨les_cons (AV.le_refl _) (les_nil), trivial, rfl, rfl, rfl, rfl, trivial, rfl⟩, ?_⟩
  cbv
  refine fork (fun b36 => ?_) (fun b36 => ?_)
  · replace h := of_br_t b36 h
    cbv
    injection h with h
    subst h
    refine ⟨(sparse 33 [(2, .c (.v (.string (ByteArray.mk #[]))))] []), ?_, ?_⟩
    · exact le_sparse rfl ⟨AV.le_refl _, trivial⟩ trivial rfl
    · exact ⟨AV.le_refl _, trivial, rfl⟩
  · replace h := of_br_f b36 h
    cbv
    replace h := of_bind h
    obtain ⟨y3, hy4, h⟩ := h
    refine ⟨{ args := [.c (.v (.int .i64 1))], o0 := [], r := .c (.v (.string y3)), o1 := [], fl := true, σ := [], τ := [] }, hf_spec_l13Byte _ _ hy4, ⟨les_cons (AV.le_refl _) (les_nil), trivial, rfl, rfl, rfl, rfl, trivial, rfl⟩, ?_⟩
    cbv
    replace h := of_bind h
    obtain ⟨y5, hy6, h⟩ := h
    refine ⟨{ args := [.c (.v (.int .i64 (A.ofN (LEN a0.fCells))))], o0 := [], r := .c (.v (.string y5)), o1 := [], fl := true, σ := [], τ := [] }, hf_spec_l13Byte _ _ hy6, ⟨les_cons (AV.le_refl _) (les_nil), trivial, rfl, rfl, rfl, rfl, trivial, rfl⟩, ?_⟩
    cbv
    replace h := of_req h
    obtain ⟨c7, h⟩ := h
    refine ⟨c7, ?_⟩
    replace h := of_bind h
    obtain ⟨y8, hy9, h⟩ := h
    refine ⟨{ args := [.c (.v (.int .i64 1)), .c (.v (.string (A.scat y3 y5)))], o0 := [], r := .c (.v (.string y8)), o1 := [], fl := true, σ := [], τ := [] }, hf_spec_l14Record _ _ _ hy9, ⟨les_cons (AV.le_refl _) (les_cons (AV.le_refl _) (les_nil)), trivial, rfl, rfl, rfl, rfl, trivial, rfl⟩, ?_⟩
    cbv
    replace h := of_bind h
    obtain ⟨y13, hr14, hN15⟩ := h
    refine loop_cut hr14 (fun x => (sparse 33 [(1, .c (.ptr 64 0)), (3, .c (.v (.string x.1))), (4, .c (.v (.int .i64 x.2)))] [(64, .var [.bs (LEN a0.fCells) 4 (row GD (encCell LEN GD) a0.fCells)])])) ?_ (fun y e s => (fun (w : ByteArray) => e = .exit 0 ∧ s.le (sparse 33 [(3, .c (.v (.string w)))] [])) y) ?_ ?_
    · clear hr14 hN15
      show St.le _ _
      exact le_sparse rfl ⟨AV.le_refl _, AV.le_refl _, AV.le_refl _, trivial⟩ ⟨rfl, trivial⟩ rfl
    · clear hr14 hN15
      intro x z19 h K17 hK18 hY16
      obtain ⟨x0_, x1_⟩ := x
      replace h := of_let h
      obtain ⟨v10, hv10, h⟩ := h
      have hv10 : v10 = x0_ := hv10
      subst hv10
      replace h := of_let h
      obtain ⟨v11, hv11, h⟩ := h
      have hv11 : v11 = x1_ := hv11
      subst hv11
      cbv
      refine fork (fun b27 => ?_) (fun b27 => ?_)
      · replace h := of_br_t b27 h
        cbv
        replace h := of_bind h
        obtain ⟨y24, hy25, h⟩ := h
        refine ⟨{ args := [.agg [.bs (LEN a0.fCells) 4 (row GD (encCell LEN GD) a0.fCells)], .c (.v (.int .i64 v11))], o0 := [], r := .c (.v (.string y24)), o1 := [], fl := true, σ := [], τ := [] }, hf_spec_l14Cell _ _ _ hy25, ⟨les_cons (AV.le_refl _) (les_cons (AV.le_refl _) (les_nil)), trivial, rfl, rfl, rfl, rfl, trivial, rfl⟩, ?_⟩
        cbv
        replace h := of_req h
        obtain ⟨c26, h⟩ := h
        refine ⟨c26, ?_⟩
        injection h with h
        refine hK18 _ h.symm _ ?_
        exact le_sparse rfl ⟨AV.le_refl _, AV.le_refl _, AV.le_refl _, trivial⟩ ⟨rfl, trivial⟩ rfl
      · replace h := of_br_f b27 h
        cbv
        injection h with h
        refine hY16 _ h.symm _ _ (And.intro rfl ?_) (by intro hh; cases hh)
        exact le_sparse rfl ⟨AV.le_refl _, trivial⟩ trivial rfl
    · clear hr14
      have h := hN15
      clear hN15
      intro e22 s23 q21 hne
      replace h := of_let h
      obtain ⟨y13k0, hyk, h⟩ := h
      have hyk : y13k0 = y13 := hyk
      subst hyk
      obtain ⟨rfl, q21⟩ := q21
      replace h := of_let h
      obtain ⟨w28, hw28, h⟩ := h
      have hw28 : w28 = y13k0 := hw28
      subst hw28
      cbv
      refine ⟨_, q21, ?_⟩
      cbv
      replace h := of_bind h
      obtain ⟨y29, hy30, h⟩ := h
      refine ⟨{ args := [.c (.v (.string w28))], o0 := [], r := .c (.v (.int .i64 y29)), o1 := [], fl := true, σ := [], τ := [] }, hf_spec_Checksum16 _ _ hy30, ⟨les_cons (AV.le_refl _) (les_nil), trivial, rfl, rfl, rfl, rfl, trivial, rfl⟩, ?_⟩
      cbv
      replace h := of_bind h
      obtain ⟨y31, hy32, h⟩ := h
      refine ⟨{ args := [.c (.v (.int .i64 y29))], o0 := [], r := .c (.v (.string y31)), o1 := [], fl := true, σ := [], τ := [] }, hf_spec_l13Two _ _ hy32, ⟨les_cons (AV.le_refl _) (les_nil), trivial, rfl, rfl, rfl, rfl, trivial, rfl⟩, ?_⟩
      cbv
      replace h := of_bind h
      obtain ⟨y33, hy34, h⟩ := h
      refine ⟨{ args := [.c (.v (.int .i64 7)), .c (.v (.string y31))], o0 := [], r := .c (.v (.string y33)), o1 := [], fl := true, σ := [], τ := [] }, hf_spec_l14Record _ _ _ hy34, ⟨les_cons (AV.le_refl _) (les_cons (AV.le_refl _) (les_nil)), trivial, rfl, rfl, rfl, rfl, trivial, rfl⟩, ?_⟩
      cbv
      replace h := of_req h
      obtain ⟨c35, h⟩ := h
      refine ⟨c35, ?_⟩
      injection h with h
      subst h
      refine ⟨(sparse 33 [(2, .c (.v (.string (A.scat w28 y33))))] []), ?_, ?_⟩
      · exact le_sparse rfl ⟨AV.le_refl _, trivial⟩ trivial rfl
      · exact ⟨AV.le_refl _, trivial, rfl⟩

noncomputable def L_impl_LibraryStream_x9 (a0 : TLibrary) : (ByteArray × Int) → Option ((ByteArray × Int) ⊕ ((ByteArray))) := fun x9 =>
  letO x9.1 fun v7 =>
  letO x9.2 fun v8 =>
  br (std.lt v8 (std.ofN (len a0.fCells)))
  (req (std.inR v8 (len a0.fCells)) <|
  (F_impl_cellRecords a0 (gd a0.fCells (std.toN v8))).bind fun y22 =>
  req (std.room (std.nadd (std.slen v7) (std.slen y22)) 1) <|
  some (.inl (std.scat v7 y22, std.add .i64 v8 1)))
  (some (.inr v7))
/-- impl.LibraryStream -/
noncomputable def F_impl_LibraryStream (a0 : TLibrary) : Option (ByteArray) :=
  (F_impl_IsValidLibrary a0).bind fun y1 =>
  br (!(y1))
  (some (ByteArray.mk #[]))
  (letO ([1, std.conv .u8 (std.ofN (len a0.fCells))] : List Int) fun l3 =>
  (F_impl_StreamRecord 1 (std.ofBytes (len l3) (fun i => gd l3 (0 + i)))).bind fun y5 =>
  (whileP (σ := ByteArray × Int) (ρ := (ByteArray)) (L_impl_LibraryStream_x9 a0) (y5, 0)).bind fun y10 =>
  letO y10 fun y10k0 =>
  letO y10k0 fun w26 =>
  (F_impl_Checksum16 w26).bind fun y27 =>
  (F_impl_two_mnb ([] : List Int) y27).bind fun y29 =>
  (F_impl_StreamRecord 7 (std.ofBytes (len y29) (fun i => gd y29 (0 + i)))).bind fun y31 =>
  req (std.room (std.nadd (std.slen w26) (std.slen y31)) 1) <|
  some (std.scat w26 y31))
theorem run_impl_LibraryStream (a0 : TLibrary) (r : ByteArray) (h : F_impl_LibraryStream a0 = some r) : Fun Try.prog 52 [.agg [.bs (len a0.fCells) 4 (row gd (encCell len gd) a0.fCells)]] [] (.c (.v (.string r))) [] true := by
  refine Fun.of_wp (oneOf []) tok mixed Try.func52 (by kernel_rfl) rfl Try.ntmps52 rfl trivial (fun _ => ⟨trivial, trivial⟩) ?_
  unfold F_impl_LibraryStream at h
  unfold L_impl_LibraryStream_x9 at h
  have hf_impl_Checksum16 := @run_impl_Checksum16
  have hf_impl_IsValidLibrary := @run_impl_IsValidLibrary
  have hf_impl_StreamRecord := @run_impl_StreamRecord
  have hf_impl_cellRecords := @run_impl_cellRecords
  have hf_impl_two_mnb := @run_impl_two_mnb
  generalize hLEN : @len = LEN at *
  generalize hGD : @gd = GD at *
  generalize hA : std = A at *
  generalize hP : Try.prog = P at *
  cbv
  replace h := of_bind h
  obtain ⟨y1, hy2, h⟩ := h
  refine ⟨{ args := [.agg [.bs (LEN a0.fCells) 4 (row GD (encCell LEN GD) a0.fCells)]], o0 := [], r := .c (.v (.bool y1)), o1 := [], fl := true, σ := [], τ := [] }, hf_impl_IsValidLibrary _ _ hy2, ⟨les_cons (AV.le_refl _) (les_nil), trivial, rfl, rfl, rfl, rfl, trivial, rfl⟩, ?_⟩
  cbv
  refine fork (fun b34 => ?_) (fun b34 => ?_)
  · replace h := of_br_t b34 h
    cbv
    injection h with h
    subst h
    refine ⟨(sparse 36 [(2, .c (.v (.string (ByteArray.mk #[]))))] []), ?_, ?_⟩
    · exact le_sparse rfl ⟨AV.le_refl _, trivial⟩ trivial rfl
    · exact ⟨AV.le_refl _, trivial, rfl⟩
  · replace h := of_br_f b34 h
    cbv
    replace h := of_let h
    obtain ⟨l3, hl3, h⟩ := h
    have e4 : 2 = LEN l3 := by subst hl3 hLEN; rfl
    refine ⟨_, congrArg (fun n => AV.c (AC.os 832 0 n)) e4, _, row GD (encI .u8) l3, e4, ?_, ?_⟩
    · intro i hi j hj
      rw [← e4] at hi
      subst hl3
      subst hGD
      obtain rfl | rfl : i = 0 ∨ i = 1 := by omega
      all_goals obtain rfl : j = 0 := by omega
      all_goals rfl
    cbv
    refine ⟨fun _ _ => rfl, ?_⟩
    replace h := of_bind h
    obtain ⟨y5, hy6, h⟩ := h
    refine ⟨{ args := [.c (.v (.int .i64 1)), .c (.v (.string (A.ofBytes (LEN l3) (fun i => GD l3 (0 + i)))))], o0 := [], r := .c (.v (.string y5)), o1 := [], fl := true, σ := [], τ := [] }, hf_impl_StreamRecord _ _ _ hy6, ⟨les_cons (AV.le_refl _) (les_cons (AV.le_refl _) (les_nil)), trivial, rfl, rfl, rfl, rfl, trivial, rfl⟩, ?_⟩
    cbv
    replace h := of_bind h
    obtain ⟨y10, hr11, hN12⟩ := h
    refine loop_cut hr11 (fun x => (sparse 36 [(1, .c (.ptr 64 0)), (3, .c (.v (.string x.1))), (17, .c (.bs (LEN a0.fCells) 4 (row GD (encCell LEN GD) a0.fCells))), (18, .c (.v (.int .i64 (A.ofN (LEN a0.fCells))))), (19, .c (.v (.int .i64 x.2)))] [(64, .var [.bs (LEN a0.fCells) 4 (row GD (encCell LEN GD) a0.fCells)])])) ?_ (fun y e s => (fun (w : ByteArray) => e = .exit 0 ∧ s.le (sparse 36 [(3, .c (.v (.string w)))] [])) y) ?_ ?_
    · clear hr11 hN12
      show St.le _ _
      exact le_sparse rfl ⟨AV.le_refl _, AV.le_refl _, AV.le_refl _, AV.le_refl _, AV.le_refl _, trivial⟩ ⟨rfl, trivial⟩ rfl
    · clear hr11 hN12
      intro x z16 h K14 hK15 hY13
      obtain ⟨x0_, x1_⟩ := x
      replace h := of_let h
      obtain ⟨v7, hv7, h⟩ := h
      have hv7 : v7 = x0_ := hv7
      subst hv7
      replace h := of_let h
      obtain ⟨v8, hv8, h⟩ := h
      have hv8 : v8 = x1_ := hv8
      subst hv8
      cbv
      refine fork (fun b25 => ?_) (fun b25 => ?_)
      · replace h := of_br_t b25 h
        cbv
        replace h := of_req h
        obtain ⟨c21, h⟩ := h
        refine ⟨⟨c21, trivial⟩, ?_⟩
        replace h := of_bind h
        obtain ⟨y22, hy23, h⟩ := h
        refine ⟨{ args := [.agg [.bs (LEN a0.fCells) 4 (row GD (encCell LEN GD) a0.fCells)], .agg [.v (.string (GD a0.fCells (A.toN v8)).fName), .bs (LEN (GD a0.fCells (A.toN v8)).fShapes) 5 (row GD (encShape) (GD a0.fCells (A.toN v8)).fShapes), .bs (LEN (GD a0.fCells (A.toN v8)).fLabels) 4 (row GD (encLabel) (GD a0.fCells (A.toN v8)).fLabels), .bs (LEN (GD a0.fCells (A.toN v8)).fInstances) 8 (row GD (encInstance) (GD a0.fCells (A.toN v8)).fInstances)]], o0 := [], r := .c (.v (.string y22)), o1 := [], fl := true, σ := [], τ := [] }, hf_impl_cellRecords _ _ _ hy23, ⟨les_cons (AV.le_refl _) (les_cons (AV.le_refl _) (les_nil)), trivial, rfl, rfl, rfl, rfl, trivial, rfl⟩, ?_⟩
        cbv
        replace h := of_req h
        obtain ⟨c24, h⟩ := h
        refine ⟨c24, ?_⟩
        injection h with h
        refine hK15 _ h.symm _ ?_
        exact le_sparse rfl ⟨AV.le_refl _, AV.le_refl _, AV.le_refl _, AV.le_refl _, AV.le_refl _, trivial⟩ ⟨rfl, trivial⟩ rfl
      · replace h := of_br_f b25 h
        cbv
        injection h with h
        refine hY13 _ h.symm _ _ (And.intro rfl ?_) (by intro hh; cases hh)
        exact le_sparse rfl ⟨AV.le_refl _, trivial⟩ trivial rfl
    · clear hr11
      have h := hN12
      clear hN12
      intro e19 s20 q18 hne
      replace h := of_let h
      obtain ⟨y10k0, hyk, h⟩ := h
      have hyk : y10k0 = y10 := hyk
      subst hyk
      obtain ⟨rfl, q18⟩ := q18
      replace h := of_let h
      obtain ⟨w26, hw26, h⟩ := h
      have hw26 : w26 = y10k0 := hw26
      subst hw26
      cbv
      refine ⟨_, q18, ?_⟩
      cbv
      replace h := of_bind h
      obtain ⟨y27, hy28, h⟩ := h
      refine ⟨{ args := [.c (.v (.string w26))], o0 := [], r := .c (.v (.int .i64 y27)), o1 := [], fl := true, σ := [], τ := [] }, hf_impl_Checksum16 _ _ hy28, ⟨les_cons (AV.le_refl _) (les_nil), trivial, rfl, rfl, rfl, rfl, trivial, rfl⟩, ?_⟩
      cbv
      replace h := of_bind h
      obtain ⟨y29, hy30, h⟩ := h
      refine ⟨{ args := [.c (.v (.slice none 0 0)), .c (.v (.int .i64 y27))], o0 := [], r := .c (.os 64000 0 (LEN y29)), o1 := [(64000, .arr .rw [] (LEN y29) 1 (row GD (encI .u8) y29))], fl := true, σ := [], τ := [(64000, 2048)] }, hf_impl_two_mnb _ _ _ hy30, ⟨les_cons (AV.le_refl _) (les_cons (AV.le_refl _) (les_nil)), trivial, rfl, rfl, rfl, rfl, ⟨fun h => absurd (show (64000 : Nat) % 2 = 1 from h) (by decide), trivial⟩, rfl⟩, _, rfl, _, _, rfl, fun _ _ _ _ => rfl, ?_⟩
      cbv
      refine ⟨fun _ _ => rfl, ?_⟩
      replace h := of_bind h
      obtain ⟨y31, hy32, h⟩ := h
      refine ⟨{ args := [.c (.v (.int .i64 7)), .c (.v (.string (A.ofBytes (LEN y29) (fun i => GD y29 (0 + i)))))], o0 := [], r := .c (.v (.string y31)), o1 := [], fl := true, σ := [], τ := [] }, hf_impl_StreamRecord _ _ _ hy32, ⟨les_cons (AV.le_refl _) (les_cons (AV.le_refl _) (les_nil)), trivial, rfl, rfl, rfl, rfl, trivial, rfl⟩, ?_⟩
      cbv
      replace h := of_req h
      obtain ⟨c33, h⟩ := h
      refine ⟨c33, ?_⟩
      injection h with h
      subst h
      refine ⟨(sparse 36 [(2, .c (.v (.string (A.scat w26 y31))))] []), ?_, ?_⟩
      · exact le_sparse rfl ⟨AV.le_refl _, trivial⟩ trivial rfl
      · exact ⟨AV.le_refl _, trivial, rfl⟩

/-- laws.FnExactLibraryStream -/
noncomputable def F_laws_FnExactLibraryStream (a0 : TLibrary) : Option (Bool) :=
  (F_laws_szLibrary a0 1048576).bind fun y1 =>
  br (std.lt y1 0)
  (some true)
  ((F_laws_toLibrary a0).bind fun y3 =>
  (F_spec_LibraryStream y3).bind fun y5 =>
  (F_laws_toLibrary a0).bind fun y7 =>
  (F_impl_LibraryStream y7).bind fun y9 =>
  br (std.not (std.seq y9 y5))
  (some false)
  ((F_laws_toLibrary a0).bind fun y11 =>
  (F_laws_eqLibrary y7 y11).bind fun y13 =>
  br (!(y13))
  (some false)
  (some true)))
theorem run_laws_FnExactLibraryStream (a0 : TLibrary) (r : Bool) (h : F_laws_FnExactLibraryStream a0 = some r) : Fun Try.prog 14 [.agg [.bs (len a0.fCells) 4 (row gd (encCell len gd) a0.fCells)]] [] (.c (.v (.bool r))) [] true := by
  refine Fun.of_wp (oneOf []) tok mixed Try.func14 (by kernel_rfl) rfl Try.ntmps14 rfl trivial (fun _ => ⟨trivial, trivial⟩) ?_
  unfold F_laws_FnExactLibraryStream at h
  have hf_impl_LibraryStream := @run_impl_LibraryStream
  have hf_laws_eqLibrary := @run_laws_eqLibrary
  have hf_laws_szLibrary := @run_laws_szLibrary
  have hf_laws_toLibrary := @run_laws_toLibrary
  have hf_spec_LibraryStream := @run_spec_LibraryStream
  generalize hLEN : @len = LEN at *
  generalize hGD : @gd = GD at *
  generalize hA : std = A at *
  generalize hP : Try.prog = P at *
  cbv
  replace h := of_bind h
  obtain ⟨y1, hy2, h⟩ := h
  refine ⟨{ args := [.agg [.bs (LEN a0.fCells) 4 (row GD (encCell LEN GD) a0.fCells)], .c (.v (.int .i64 1048576))], o0 := [], r := .c (.v (.int .i64 y1)), o1 := [], fl := true, σ := [], τ := [] }, hf_laws_szLibrary _ _ _ hy2, ⟨les_cons (AV.le_refl _) (les_cons (AV.le_refl _) (les_nil)), trivial, rfl, rfl, rfl, rfl, trivial, rfl⟩, ?_⟩
  cbv
  refine fork (fun b17 => ?_) (fun b17 => ?_)
  · replace h := of_br_t b17 h
    cbv
    injection h with h
    subst h
    refine ⟨(sparse 27 [(2, .c (.v (.bool true)))] []), ?_, ?_⟩
    · exact le_sparse rfl ⟨AV.le_refl _, trivial⟩ trivial rfl
    · exact ⟨AV.le_refl _, trivial, rfl⟩
  · replace h := of_br_f b17 h
    cbv
    replace h := of_bind h
    obtain ⟨y3, hy4, h⟩ := h
    refine ⟨{ args := [.agg [.bs (LEN a0.fCells) 4 (row GD (encCell LEN GD) a0.fCells)]], o0 := [], r := .agg [.os 64000 0 (LEN y3.fCells)], o1 := [(64000, .arr .rw [] (LEN y3.fCells) 4 (row GD (oncCell LEN GD) y3.fCells))], fl := true, σ := [], τ := [(64000, 832)] }, hf_laws_toLibrary _ _ hy4, ⟨les_cons (AV.le_refl _) (les_nil), trivial, rfl, rfl, rfl, rfl, ⟨fun h => absurd (show (64000 : Nat) % 2 = 1 from h) (by decide), trivial⟩, rfl⟩, _, rfl, _, _, rfl, fun _ _ _ _ => rfl, ?_⟩
    cbv
    replace h := of_bind h
    obtain ⟨y5, hy6, h⟩ := h
    refine ⟨{ args := [.agg [.bs (LEN y3.fCells) 4 (row GD (encCell LEN GD) y3.fCells)]], o0 := [], r := .c (.v (.string y5)), o1 := [], fl := true, σ := [], τ := [] }, hf_spec_LibraryStream _ _ hy6, ⟨les_cons (le_agg ⟨give_osD (rf_oncCell) (ln_oncCell) rfl rfl rfl, trivial⟩) (les_nil), trivial, rfl, rfl, rfl, rfl, trivial, rfl⟩, ?_⟩
    cbv
    replace h := of_bind h
    obtain ⟨y7, hy8, h⟩ := h
    refine ⟨{ args := [.agg [.bs (LEN a0.fCells) 4 (row GD (encCell LEN GD) a0.fCells)]], o0 := [], r := .agg [.os 64000 0 (LEN y7.fCells)], o1 := [(64000, .arr .rw [] (LEN y7.fCells) 4 (row GD (oncCell LEN GD) y7.fCells))], fl := true, σ := [], τ := [(64000, 1024)] }, hf_laws_toLibrary _ _ hy8, ⟨les_cons (AV.le_refl _) (les_nil), trivial, rfl, rfl, rfl, rfl, ⟨fun h => absurd (show (64000 : Nat) % 2 = 1 from h) (by decide), trivial⟩, rfl⟩, _, rfl, _, _, rfl, fun _ _ _ _ => rfl, ?_⟩
    cbv
    replace h := of_bind h
    obtain ⟨y9, hy10, h⟩ := h
    refine ⟨{ args := [.agg [.bs (LEN y7.fCells) 4 (row GD (encCell LEN GD) y7.fCells)]], o0 := [], r := .c (.v (.string y9)), o1 := [], fl := true, σ := [], τ := [] }, hf_impl_LibraryStream _ _ hy10, ⟨les_cons (le_agg ⟨give_osD (rf_oncCell) (ln_oncCell) rfl rfl rfl, trivial⟩) (les_nil), trivial, rfl, rfl, rfl, rfl, trivial, rfl⟩, ?_⟩
    cbv
    refine fork (fun b16 => ?_) (fun b16 => ?_)
    · replace h := of_br_t b16 h
      cbv
      injection h with h
      subst h
      refine ⟨(sparse 27 [(2, .c (.v (.bool false)))] []), ?_, ?_⟩
      · exact le_sparse rfl ⟨AV.le_refl _, trivial⟩ trivial rfl
      · exact ⟨AV.le_refl _, trivial, rfl⟩
    · replace h := of_br_f b16 h
      cbv
      replace h := of_bind h
      obtain ⟨y11, hy12, h⟩ := h
      refine ⟨{ args := [.agg [.bs (LEN a0.fCells) 4 (row GD (encCell LEN GD) a0.fCells)]], o0 := [], r := .agg [.os 64000 0 (LEN y11.fCells)], o1 := [(64000, .arr .rw [] (LEN y11.fCells) 4 (row GD (oncCell LEN GD) y11.fCells))], fl := true, σ := [], τ := [(64000, 1536)] }, hf_laws_toLibrary _ _ hy12, ⟨les_cons (AV.le_refl _) (les_nil), trivial, rfl, rfl, rfl, rfl, ⟨fun h => absurd (show (64000 : Nat) % 2 = 1 from h) (by decide), trivial⟩, rfl⟩, _, rfl, _, _, rfl, fun _ _ _ _ => rfl, ?_⟩
      cbv
      replace h := of_bind h
      obtain ⟨y13, hy14, h⟩ := h
      refine ⟨{ args := [.agg [.bs (LEN y7.fCells) 4 (row GD (encCell LEN GD) y7.fCells)], .agg [.bs (LEN y11.fCells) 4 (row GD (encCell LEN GD) y11.fCells)]], o0 := [], r := .c (.v (.bool y13)), o1 := [], fl := true, σ := [], τ := [] }, hf_laws_eqLibrary _ _ _ hy14, ⟨les_cons (le_agg ⟨give_osD (rf_oncCell) (ln_oncCell) rfl rfl rfl, trivial⟩) (les_cons (le_agg ⟨give_osD (rf_oncCell) (ln_oncCell) rfl rfl rfl, trivial⟩) (les_nil)), trivial, rfl, rfl, rfl, rfl, trivial, rfl⟩, ?_⟩
      cbv
      refine fork (fun b15 => ?_) (fun b15 => ?_)
      · replace h := of_br_t b15 h
        cbv
        injection h with h
        subst h
        refine ⟨(sparse 27 [(2, .c (.v (.bool false)))] []), ?_, ?_⟩
        · exact le_sparse rfl ⟨AV.le_refl _, trivial⟩ trivial rfl
        · exact ⟨AV.le_refl _, trivial, rfl⟩
      · replace h := of_br_f b15 h
        cbv
        injection h with h
        subst h
        refine ⟨(sparse 27 [(2, .c (.v (.bool true)))] []), ?_, ?_⟩
        · exact le_sparse rfl ⟨AV.le_refl _, trivial⟩ trivial rfl
        · exact ⟨AV.le_refl _, trivial, rfl⟩
end Go.Proofs.Ytnmfighfidaglaa.AM
