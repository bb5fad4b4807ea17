/-
  What the functions that the law reaches compute, and that they do. No condition.
-/
import Derived.Test.YtmdlnjeppemipaaAmVX
import Derived.Test.YtmdlnjeppemipaaAmE
namespace Go.Proofs.Ytmdlnjeppemipaa.AM
open Go Go.Proofs Go.RowKit
set_option linter.unusedVariables false
set_option linter.unusedSimpArgs false
set_option maxRecDepth 100000

noncomputable def L_slices_IndexFunc_Limpl_Instance_impl_Instance_mbFimpl_validCell_3p_x2 (a0 : List TInstance) (a1_0 : Int) : (Int) → Option ((Int) ⊕ ((Int) ⊕ (Unit))) := fun x2 =>
 letO x2 fun v1 =>
 br (std.lt v1 (std.ofN (len a0)))
 (req (std.inR v1 (len a0)) <|
 (F_impl_validCell_3_mbp (gd a0 (std.toN v1)) a1_0).bind fun y15 =>
 br y15
 (some (.inr (.inl v1)))
 (some (.inl (std.add .i64 v1 1))))
 (some (.inr (.inr ())))
/-- impl.Instance] -/
noncomputable def F_slices_IndexFunc_Limpl_Instance_impl_Instance_mbFimpl_validCell_3p (a0 : List TInstance) (a1_0 : Int) : Option (Int) :=
 (whileP (σ := Int) (ρ := (Int) ⊕ (Unit)) (L_slices_IndexFunc_Limpl_Instance_impl_Instance_mbFimpl_validCell_3p_x2 a0 a1_0) 0).bind fun y3 =>
 (match y3 with
  | .inl y3k0 => (
    letO y3k0 fun w19 =>
    some w19)
  | .inr y3m0 =>
    some (-1))
theorem run_slices_IndexFunc_Limpl_Instance_impl_Instance_mbFimpl_validCell_3p (a0 : List TInstance) (a1_0 : Int) (r : Int) (h : F_slices_IndexFunc_Limpl_Instance_impl_Instance_mbFimpl_validCell_3p a0 a1_0 = some r) : Fun Try.prog 214 [.c (.bs (len a0) 8 (row gd (encInstance) a0)), .c (.fn 196 1 fun j => ([.bp 1 (encI .i64 a1_0)] : List AC).getD j .junk)] [] (.c (.v (.int .i64 r))) [] true := by
 refine Fun.of_wp (oneOf []) tok mixed Try.func214 (by kernel_rfl) rfl Try.ntmps214 rfl trivial (fun _ => ⟨trivial, trivial⟩) ?_
 unfold F_slices_IndexFunc_Limpl_Instance_impl_Instance_mbFimpl_validCell_3p at h
 unfold L_slices_IndexFunc_Limpl_Instance_impl_Instance_mbFimpl_validCell_3p_x2 at h
 have hf_impl_validCell_3_mbp := @run_impl_validCell_3_mbp
 generalize hLEN : @len = LEN at *
 generalize hGD : @gd = GD at *
 generalize hA : std = A at *
 generalize hP : Try.prog = P at *
 cbv
 replace h := of_bind h
 obtain ⟨y3, hr4, hN5⟩ := h
 refine loop_cut hr4 (fun x => (sparse 19 [(0, .c (.bs (LEN a0) 8 (row GD (encInstance) a0))), (1, .c (.fn 196 1 fun j => ([.bp 1 (encI .i64 a1_0)] : List AC).getD j .junk)), (7, .c (.v (.int .i64 (A.ofN (LEN a0))))), (8, .c (.v (.int .i64 x)))] [])) ?_ (fun y e s => (match y with | .inl w => e = .ret ∧ s.le (sparse 19 [(4, .c (.v (.int .i64 w)))] []) | .inr w0 => (fun (w : Unit) => e = .exit 0 ∧ s.le (sparse 19 [] [])) w0)) ?_ ?_
 ·clear hr4 hN5
  show St.le _ _
  exact le_sparse rfl ⟨lR _, lR _, lR _, lR _, trivial⟩ trivial rfl
 ·clear hr4 hN5
  intro x z9 h K7 hK8 hY6
  replace h := of_let h
  obtain ⟨v1, hv1, h⟩ := h
  have hv1 : v1 = x := hv1
  subst hv1
  cbv
  refine fork (fun b18 => ?_) (fun b18 => ?_)
  ·replace h := of_br_t b18 h
   cbv
   replace h := of_req h
   obtain ⟨c14, h⟩ := h
   refine ⟨⟨c14, trivial⟩, ?_⟩
   replace h := of_bind h
   obtain ⟨y15, hy16, h⟩ := h
   refine ⟨{ args := [.agg [.v (.int .i64 (GD a0 (A.toN v1)).fCell), .v (.int .i64 (GD a0 (A.toN v1)).fPlace.fOrientation), .v (.int .i64 (GD a0 (A.toN v1)).fPlace.fX), .v (.int .i64 (GD a0 (A.toN v1)).fPlace.fY), .v (.int .i64 (GD a0 (A.toN v1)).fColumns), .v (.int .i64 (GD a0 (A.toN v1)).fRows), .v (.int .i64 (GD a0 (A.toN v1)).fStepX), .v (.int .i64 (GD a0 (A.toN v1)).fStepY)], .c (.bp 1 (encI .i64 a1_0))], o0 := [], r := .c (.v (.bool y15)), o1 := [], fl := true, σ := [], τ := [] }, hf_impl_validCell_3_mbp _ _ _ hy16, ⟨les_cons (lR _) (les_cons (le_bp (show 1 ≤ 1 from by decide) (by intro j hj; match j, hj with | 0, _ => exact rle_refl _ | (j_ + 1), h_ => exact absurd h_ (by omega))) (les_nil)), trivial, rfl, rfl, rfl, rfl, trivial, rfl⟩, ?_⟩
   cbv
   refine fork (fun b17 => ?_) (fun b17 => ?_)
   ·replace h := of_br_t b17 h
    cbv
    injection h with h
    refine hY6 _ h.symm _ _ (And.intro rfl ?_) (by intro hh; cases hh)
    exact le_sparse rfl ⟨lR _, trivial⟩ trivial rfl
   ·replace h := of_br_f b17 h
    cbv
    injection h with h
    refine hK8 _ h.symm _ ?_
    exact le_sparse rfl ⟨lR _, lR _, lR _, lR _, trivial⟩ trivial rfl
  ·replace h := of_br_f b18 h
   cbv
   injection h with h
   refine hY6 _ h.symm _ _ (And.intro rfl ?_) (by intro hh; cases hh)
   exact le_sparse rfl trivial trivial rfl
 ·clear hr4
  have h := hN5
  clear hN5
  intro e12 s13 q11 hne
  rcases y3 with y3k0 | y3m0
  ·replace h := h
   obtain ⟨rfl, q11⟩ := q11
   replace h := of_let h
   obtain ⟨w19, hw19, h⟩ := h
   have hw19 : w19 = y3k0 := hw19
   subst hw19
   cbv
   injection h with h
   subst h
   refine ⟨(sparse 19 [(4, .c (.v (.int .i64 w19)))] []), ?_, ?_⟩
   ·refine St.le_trans q11 ?_
    exact le_sparse rfl ⟨lR _, trivial⟩ trivial rfl
   ·exact ⟨lR _, trivial, rfl⟩
  ·obtain ⟨rfl, q11⟩ := q11
   cbv
   refine ⟨_, q11, ?_⟩
   cbv
   injection h with h
   subst h
   refine ⟨(sparse 19 [(4, .c (.v (.int .i64 (-1))))] []), ?_, ?_⟩
   ·exact le_sparse rfl ⟨lR _, trivial⟩ trivial rfl
   ·exact ⟨lR _, trivial, rfl⟩

/-- impl.Instance] -/
noncomputable def F_slices_ContainsFunc_Limpl_Instance_impl_Instance_mbFimpl_validCell_3p (a0 : List TInstance) (a1_0 : Int) : Option (Bool) :=
 (F_slices_IndexFunc_Limpl_Instance_impl_Instance_mbFimpl_validCell_3p a0 a1_0).bind fun y1 =>
 some (std.le 0 y1)
theorem run_slices_ContainsFunc_Limpl_Instance_impl_Instance_mbFimpl_validCell_3p (a0 : List TInstance) (a1_0 : Int) (r : Bool) (h : F_slices_ContainsFunc_Limpl_Instance_impl_Instance_mbFimpl_validCell_3p a0 a1_0 = some r) : Fun Try.prog 171 [.c (.bs (len a0) 8 (row gd (encInstance) a0)), .c (.fn 196 1 fun j => ([.bp 1 (encI .i64 a1_0)] : List AC).getD j .junk)] [] (.c (.v (.bool r))) [] true := by
 refine Fun.of_wp (oneOf []) tok mixed Try.func171 (by kernel_rfl) rfl Try.ntmps171 rfl trivial (fun _ => ⟨trivial, trivial⟩) ?_
 unfold F_slices_ContainsFunc_Limpl_Instance_impl_Instance_mbFimpl_validCell_3p at h
 have hf_slices_IndexFunc_Limpl_Instance_impl_Instance_mbFimpl_validCell_3p := @run_slices_IndexFunc_Limpl_Instance_impl_Instance_mbFimpl_validCell_3p
 generalize hLEN : @len = LEN at *
 generalize hGD : @gd = GD at *
 generalize hA : std = A at *
 generalize hP : Try.prog = P at *
 cbv
 replace h := of_bind h
 obtain ⟨y1, hy2, h⟩ := h
 refine ⟨{ args := [.c (.bs (LEN a0) 8 (row GD (encInstance) a0)), .c (.fn 196 1 fun j => ([.bp 1 (encI .i64 a1_0)] : List AC).getD j .junk)], o0 := [], r := .c (.v (.int .i64 y1)), o1 := [], fl := true, σ := [], τ := [] }, hf_slices_IndexFunc_Limpl_Instance_impl_Instance_mbFimpl_validCell_3p _ _ _ hy2, ⟨les_cons (lR _) (les_cons (le_fn (by intro j hj; match j, hj with | 0, _ => exact le_bp (show 1 ≤ 1 from by decide) (by intro j hj; match j, hj with | 0, _ => exact rle_refl _ | (j_ + 1), h_ => exact absurd h_ (by omega)) | (j_ + 1), h_ => exact absurd h_ (by omega))) (les_nil)), trivial, rfl, rfl, rfl, rfl, trivial, rfl⟩, ?_⟩
 cbv
 injection h with h
 subst h
 refine ⟨(sparse 9 [(4, .c (.v (.bool (A.le 0 y1))))] []), ?_, ?_⟩
 ·exact le_sparse rfl ⟨lR _, trivial⟩ trivial rfl
 ·exact ⟨lR _, trivial, rfl⟩

/-- impl.validCell -/
noncomputable def F_impl_validCell (a0 : TCell) (a1 : Int) : Option (Bool) :=
 ((
    (F_impl_IsName a0.fName).bind fun y8 =>
    br (!(y8))
    (some true)
    (br (std.lt 24 (std.ofN (len a0.fShapes)))
    (some true)
    (br (std.lt 8 (std.ofN (len a0.fLabels)))
    (some true)
    (some (std.lt 8 (std.ofN (len a0.fInstances))))))
  ) : Option (Bool)).bind fun y1 =>
 letO y1 fun w7 =>
 br w7
 (some false)
 (((
    (F_slices_ContainsFunc_Limpl_Shape_impl_Shape_mbFimpl_validCell_1 a0.fShapes).bind fun y20 =>
    br (!(y20))
    ((F_slices_ContainsFunc_Limpl_Label_impl_Label_mbFimpl_validCell_2 a0.fLabels).bind fun y22 =>
    br (!(y22))
    ((F_slices_ContainsFunc_Limpl_Instance_impl_Instance_mbFimpl_validCell_3p a0.fInstances a1).bind fun y24 =>
    some (!(y24)))
    (some false))
    (some false)
  ) : Option (Bool)).bind fun y13 =>
 letO y13 fun w19 =>
 some w19)
theorem run_impl_validCell (a0 : TCell) (a1 : Int) (r : Bool) (h : F_impl_validCell a0 a1 = some r) : Fun Try.prog 133 [.agg [.v (.string a0.fName), .bs (len a0.fShapes) 5 (row gd (encShape) a0.fShapes), .bs (len a0.fLabels) 4 (row gd (encLabel) a0.fLabels), .bs (len a0.fInstances) 8 (row gd (encInstance) a0.fInstances)], .c (.v (.int .i64 a1))] [] (.c (.v (.bool r))) [] true := by
 refine Fun.of_wp (oneOf [1, 3]) tok mixed Try.func133 (by kernel_rfl) rfl Try.ntmps133 rfl trivial (fun _ => ⟨trivial, trivial⟩) ?_
 unfold F_impl_validCell at h
 have hf_impl_IsName := @run_impl_IsName
 have hf_slices_ContainsFunc_Limpl_Instance_impl_Instance_mbFimpl_validCell_3p := @run_slices_ContainsFunc_Limpl_Instance_impl_Instance_mbFimpl_validCell_3p
 have hf_slices_ContainsFunc_Limpl_Label_impl_Label_mbFimpl_validCell_2 := @run_slices_ContainsFunc_Limpl_Label_impl_Label_mbFimpl_validCell_2
 have hf_slices_ContainsFunc_Limpl_Shape_impl_Shape_mbFimpl_validCell_1 := @run_slices_ContainsFunc_Limpl_Shape_impl_Shape_mbFimpl_validCell_1
 generalize hLEN : @len = LEN at *
 generalize hGD : @gd = GD at *
 generalize hA : std = A at *
 generalize hP : Try.prog = P at *
 cbv
 replace h := of_bind h
 obtain ⟨y1, hy2, h⟩ := h
 obtain ⟨S5, hS6⟩ : ∃ S, S = (sparse 44 [(2, .c (.ptr 128 0)), (3, .c (.ptr 192 0)), (26, .c (.v (.bool y1)))] [(128, .var [.v (.string a0.fName), .bs (LEN a0.fShapes) 5 (row GD (encShape) a0.fShapes), .bs (LEN a0.fLabels) 4 (row GD (encLabel) a0.fLabels), .bs (LEN a0.fInstances) 8 (row GD (encInstance) a0.fInstances)]), (192, .var [.v (.int .i64 a1)])]) := ⟨_, rfl⟩
 refine ⟨S5, ?_, ?_⟩
 ·clear h
  have h := hy2
  clear hy2
  cbv
  replace h := of_bind h
  obtain ⟨y8, hy9, h⟩ := h
  refine ⟨{ args := [.c (.v (.string a0.fName))], o0 := [], r := .c (.v (.bool y8)), o1 := [], fl := true, σ := [], τ := [] }, hf_impl_IsName _ _ hy9, ⟨les_cons (lR _) (les_nil), trivial, rfl, rfl, rfl, rfl, trivial, rfl⟩, ?_⟩
  cbv
  refine fork (fun b12 => ?_) (fun b12 => ?_)
  ·replace h := of_br_t b12 h
   cbv
   injection h with h
   subst h
   subst hS6
   show St.le _ _
   exact le_sparse rfl ⟨lR _, lR _, lR _, trivial⟩ ⟨rfl, rfl, trivial⟩ rfl
  ·replace h := of_br_f b12 h
   cbv
   refine fork (fun b11 => ?_) (fun b11 => ?_)
   ·replace h := of_br_t b11 h
    cbv
    injection h with h
    subst h
    subst hS6
    show St.le _ _
    exact le_sparse rfl ⟨lR _, lR _, lR _, trivial⟩ ⟨rfl, rfl, trivial⟩ rfl
   ·replace h := of_br_f b11 h
    cbv
    refine fork (fun b10 => ?_) (fun b10 => ?_)
    ·replace h := of_br_t b10 h
     cbv
     injection h with h
     subst h
     subst hS6
     show St.le _ _
     exact le_sparse rfl ⟨lR _, lR _, lR _, trivial⟩ ⟨rfl, rfl, trivial⟩ rfl
    ·replace h := of_br_f b10 h
     cbv
     injection h with h
     subst h
     subst hS6
     show St.le _ _
     exact le_sparse rfl ⟨lR _, lR _, lR _, trivial⟩ ⟨rfl, rfl, trivial⟩ rfl
 ·clear hy2
  subst hS6
  replace h := of_let h
  obtain ⟨w7, hw7, h⟩ := h
  have hw7 : w7 = y1 := hw7
  subst hw7
  cbv
  refine fork (fun b28 => ?_) (fun b28 => ?_)
  ·replace h := of_br_t b28 h
   cbv
   injection h with h
   subst h
   refine ⟨(sparse 44 [(4, .c (.v (.bool false)))] []), ?_, ?_⟩
   ·exact le_sparse rfl ⟨lR _, trivial⟩ trivial rfl
   ·exact ⟨lR _, trivial, rfl⟩
  ·replace h := of_br_f b28 h
   cbv
   replace h := of_bind h
   obtain ⟨y13, hy14, h⟩ := h
   obtain ⟨S17, hS18⟩ : ∃ S, S = (sparse 44 [(4, .c (.v (.bool y13)))] []) := ⟨_, rfl⟩
   refine ⟨S17, ?_, ?_⟩
   ·clear h
    have h := hy14
    clear hy14
    cbv
    replace h := of_bind h
    obtain ⟨y20, hy21, h⟩ := h
    refine ⟨{ args := [.c (.bs (LEN a0.fShapes) 5 (row GD (encShape) a0.fShapes)), .c (.fn 193 0 fun _ => .junk)], o0 := [], r := .c (.v (.bool y20)), o1 := [], fl := true, σ := [], τ := [] }, hf_slices_ContainsFunc_Limpl_Shape_impl_Shape_mbFimpl_validCell_1 _ _ hy21, ⟨les_cons (lR _) (les_cons (lR _) (les_nil)), trivial, rfl, rfl, rfl, rfl, trivial, rfl⟩, ?_⟩
    cbv
    refine fork (fun b27 => ?_) (fun b27 => ?_)
    ·replace h := of_br_t b27 h
     cbv
     replace h := of_bind h
     obtain ⟨y22, hy23, h⟩ := h
     refine ⟨{ args := [.c (.bs (LEN a0.fLabels) 4 (row GD (encLabel) a0.fLabels)), .c (.fn 195 0 fun _ => .junk)], o0 := [], r := .c (.v (.bool y22)), o1 := [], fl := true, σ := [], τ := [] }, hf_slices_ContainsFunc_Limpl_Label_impl_Label_mbFimpl_validCell_2 _ _ hy23, ⟨les_cons (lR _) (les_cons (lR _) (les_nil)), trivial, rfl, rfl, rfl, rfl, trivial, rfl⟩, ?_⟩
     cbv
     refine fork (fun b26 => ?_) (fun b26 => ?_)
     ·replace h := of_br_t b26 h
      cbv
      replace h := of_bind h
      obtain ⟨y24, hy25, h⟩ := h
      refine ⟨{ args := [.c (.bs (LEN a0.fInstances) 8 (row GD (encInstance) a0.fInstances)), .c (.fn 196 1 fun j => ([.bp 1 (encI .i64 a1)] : List AC).getD j .junk)], o0 := [], r := .c (.v (.bool y24)), o1 := [], fl := true, σ := [], τ := [] }, hf_slices_ContainsFunc_Limpl_Instance_impl_Instance_mbFimpl_validCell_3p _ _ _ hy25, ⟨les_cons (lR _) (les_cons (le_fn (by intro j hj; match j, hj with | 0, _ => exact le_bp (show 1 ≤ 1 from by decide) (by intro j hj; match j, hj with | 0, _ => exact rle_refl _ | (j_ + 1), h_ => exact absurd h_ (by omega)) | (j_ + 1), h_ => exact absurd h_ (by omega))) (les_nil)), trivial, rfl, rfl, rfl, rfl, trivial, rfl⟩, ?_⟩
      cbv
      injection h with h
      subst h
      subst hS18
      show St.le _ _
      exact le_sparse rfl ⟨lR _, trivial⟩ trivial rfl
     ·replace h := of_br_f b26 h
      cbv
      injection h with h
      subst h
      subst hS18
      show St.le _ _
      exact le_sparse rfl ⟨lR _, trivial⟩ trivial rfl
    ·replace h := of_br_f b27 h
     cbv
     injection h with h
     subst h
     subst hS18
     show St.le _ _
     exact le_sparse rfl ⟨lR _, trivial⟩ trivial rfl
   ·clear hy14
    subst hS18
    replace h := of_let h
    obtain ⟨w19, hw19, h⟩ := h
    have hw19 : w19 = y13 := hw19
    subst hw19
    cbv
    injection h with h
    subst h
    refine ⟨(sparse 44 [(4, .c (.v (.bool w19)))] []), ?_, ?_⟩
    ·exact le_sparse rfl ⟨lR _, trivial⟩ trivial rfl
    ·exact ⟨lR _, trivial, rfl⟩

/-- impl.named$1 -/
noncomputable def F_impl_named_1_mbp (a0 : TCell) (a1 : ByteArray) : Option (Bool) :=
 some (std.seq a0.fName a1)
theorem run_impl_named_1_mbp (a0 : TCell) (a1 : ByteArray) (r : Bool) (h : F_impl_named_1_mbp a0 a1 = some r) : Fun Try.prog 170 [.agg [.v (.string a0.fName), .bs (len a0.fShapes) 5 (row gd (encShape) a0.fShapes), .bs (len a0.fLabels) 4 (row gd (encLabel) a0.fLabels), .bs (len a0.fInstances) 8 (row gd (encInstance) a0.fInstances)], .c (.bp 1 (encS a1))] [] (.c (.v (.bool r))) [] true := by
 refine Fun.of_wp (oneOf []) tok mixed Try.func170 (by kernel_rfl) rfl Try.ntmps170 rfl trivial (fun _ => ⟨trivial, trivial⟩) ?_
 unfold F_impl_named_1_mbp at h
 generalize hLEN : @len = LEN at *
 generalize hGD : @gd = GD at *
 generalize hA : std = A at *
 generalize hP : Try.prog = P at *
 cbv
 injection h with h
 subst h
 refine ⟨(sparse 8 [(3, .c (.v (.bool (A.seq a0.fName a1))))] []), ?_, ?_⟩
 ·exact le_sparse rfl ⟨lR _, trivial⟩ trivial rfl
 ·exact ⟨lR _, trivial, rfl⟩

noncomputable def L_slices_IndexFunc_Limpl_Cell_impl_Cell_mbFimpl_named_1p_x2 (a0 : List TCell) (a1_0 : ByteArray) : (Int) → Option ((Int) ⊕ ((Int) ⊕ (Unit))) := fun x2 =>
 letO x2 fun v1 =>
 br (std.lt v1 (std.ofN (len a0)))
 (req (std.inR v1 (len a0)) <|
 (F_impl_named_1_mbp (gd a0 (std.toN v1)) a1_0).bind fun y15 =>
 br y15
 (some (.inr (.inl v1)))
 (some (.inl (std.add .i64 v1 1))))
 (some (.inr (.inr ())))
/-- impl.Cell] -/
noncomputable def F_slices_IndexFunc_Limpl_Cell_impl_Cell_mbFimpl_named_1p (a0 : List TCell) (a1_0 : ByteArray) : Option (Int) :=
 (whileP (σ := Int) (ρ := (Int) ⊕ (Unit)) (L_slices_IndexFunc_Limpl_Cell_impl_Cell_mbFimpl_named_1p_x2 a0 a1_0) 0).bind fun y3 =>
 (match y3 with
  | .inl y3k0 => (
    letO y3k0 fun w19 =>
    some w19)
  | .inr y3m0 =>
    some (-1))
theorem run_slices_IndexFunc_Limpl_Cell_impl_Cell_mbFimpl_named_1p (a0 : List TCell) (a1_0 : ByteArray) (r : Int) (h : F_slices_IndexFunc_Limpl_Cell_impl_Cell_mbFimpl_named_1p a0 a1_0 = some r) : Fun Try.prog 169 [.c (.bs (len a0) 4 (row gd (encCell len gd) a0)), .c (.fn 170 1 fun j => ([.bp 1 (encS a1_0)] : List AC).getD j .junk)] [] (.c (.v (.int .i64 r))) [] true := by
 refine Fun.of_wp (oneOf []) tok mixed Try.func169 (by kernel_rfl) rfl Try.ntmps169 rfl trivial (fun _ => ⟨trivial, trivial⟩) ?_
 unfold F_slices_IndexFunc_Limpl_Cell_impl_Cell_mbFimpl_named_1p at h
 unfold L_slices_IndexFunc_Limpl_Cell_impl_Cell_mbFimpl_named_1p_x2 at h
 have hf_impl_named_1_mbp := @run_impl_named_1_mbp
 generalize hLEN : @len = LEN at *
 generalize hGD : @gd = GD at *
 generalize hA : std = A at *
 generalize hP : Try.prog = P at *
 cbv
 replace h := of_bind h
 obtain ⟨y3, hr4, hN5⟩ := h
 refine loop_cut hr4 (fun x => (sparse 19 [(0, .c (.bs (LEN a0) 4 (row GD (encCell LEN GD) a0))), (1, .c (.fn 170 1 fun j => ([.bp 1 (encS a1_0)] : List AC).getD j .junk)), (7, .c (.v (.int .i64 (A.ofN (LEN a0))))), (8, .c (.v (.int .i64 x)))] [])) ?_ (fun y e s => (match y with | .inl w => e = .ret ∧ s.le (sparse 19 [(4, .c (.v (.int .i64 w)))] []) | .inr w0 => (fun (w : Unit) => e = .exit 0 ∧ s.le (sparse 19 [] [])) w0)) ?_ ?_
 ·clear hr4 hN5
  show St.le _ _
  exact le_sparse rfl ⟨lR _, lR _, lR _, lR _, trivial⟩ trivial rfl
 ·clear hr4 hN5
  intro x z9 h K7 hK8 hY6
  replace h := of_let h
  obtain ⟨v1, hv1, h⟩ := h
  have hv1 : v1 = x := hv1
  subst hv1
  cbv
  refine fork (fun b18 => ?_) (fun b18 => ?_)
  ·replace h := of_br_t b18 h
   cbv
   replace h := of_req h
   obtain ⟨c14, h⟩ := h
   refine ⟨⟨c14, trivial⟩, ?_⟩
   replace h := of_bind h
   obtain ⟨y15, hy16, h⟩ := h
   refine ⟨{ args := [.agg [.v (.string (GD a0 (A.toN v1)).fName), .bs (LEN (GD a0 (A.toN v1)).fShapes) 5 (row GD (encShape) (GD a0 (A.toN v1)).fShapes), .bs (LEN (GD a0 (A.toN v1)).fLabels) 4 (row GD (encLabel) (GD a0 (A.toN v1)).fLabels), .bs (LEN (GD a0 (A.toN v1)).fInstances) 8 (row GD (encInstance) (GD a0 (A.toN v1)).fInstances)], .c (.bp 1 (encS a1_0))], o0 := [], r := .c (.v (.bool y15)), o1 := [], fl := true, σ := [], τ := [] }, hf_impl_named_1_mbp _ _ _ hy16, ⟨les_cons (lR _) (les_cons (le_bp (show 1 ≤ 1 from by decide) (by intro j hj; match j, hj with | 0, _ => exact rle_refl _ | (j_ + 1), h_ => exact absurd h_ (by omega))) (les_nil)), trivial, rfl, rfl, rfl, rfl, trivial, rfl⟩, ?_⟩
   cbv
   refine fork (fun b17 => ?_) (fun b17 => ?_)
   ·replace h := of_br_t b17 h
    cbv
    injection h with h
    refine hY6 _ h.symm _ _ (And.intro rfl ?_) (by intro hh; cases hh)
    exact le_sparse rfl ⟨lR _, trivial⟩ trivial rfl
   ·replace h := of_br_f b17 h
    cbv
    injection h with h
    refine hK8 _ h.symm _ ?_
    exact le_sparse rfl ⟨lR _, lR _, lR _, lR _, trivial⟩ trivial rfl
  ·replace h := of_br_f b18 h
   cbv
   injection h with h
   refine hY6 _ h.symm _ _ (And.intro rfl ?_) (by intro hh; cases hh)
   exact le_sparse rfl trivial trivial rfl
 ·clear hr4
  have h := hN5
  clear hN5
  intro e12 s13 q11 hne
  rcases y3 with y3k0 | y3m0
  ·replace h := h
   obtain ⟨rfl, q11⟩ := q11
   replace h := of_let h
   obtain ⟨w19, hw19, h⟩ := h
   have hw19 : w19 = y3k0 := hw19
   subst hw19
   cbv
   injection h with h
   subst h
   refine ⟨(sparse 19 [(4, .c (.v (.int .i64 w19)))] []), ?_, ?_⟩
   ·refine St.le_trans q11 ?_
    exact le_sparse rfl ⟨lR _, trivial⟩ trivial rfl
   ·exact ⟨lR _, trivial, rfl⟩
  ·obtain ⟨rfl, q11⟩ := q11
   cbv
   refine ⟨_, q11, ?_⟩
   cbv
   injection h with h
   subst h
   refine ⟨(sparse 19 [(4, .c (.v (.int .i64 (-1))))] []), ?_, ?_⟩
   ·exact le_sparse rfl ⟨lR _, trivial⟩ trivial rfl
   ·exact ⟨lR _, trivial, rfl⟩

/-- impl.named -/
noncomputable def F_impl_named (a0 : TLibrary) (a1 : ByteArray) : Option (Int) :=
 (F_slices_IndexFunc_Limpl_Cell_impl_Cell_mbFimpl_named_1p a0.fCells a1).bind fun y1 =>
 some y1
theorem run_impl_named (a0 : TLibrary) (a1 : ByteArray) (r : Int) (h : F_impl_named a0 a1 = some r) : Fun Try.prog 118 [.agg [.bs (len a0.fCells) 4 (row gd (encCell len gd) a0.fCells)], .c (.v (.string a1))] [] (.c (.v (.int .i64 r))) [] true := by
 refine Fun.of_wp (oneOf []) tok mixed Try.func118 (by kernel_rfl) rfl Try.ntmps118 rfl trivial (fun _ => ⟨trivial, trivial⟩) ?_
 unfold F_impl_named at h
 have hf_slices_IndexFunc_Limpl_Cell_impl_Cell_mbFimpl_named_1p := @run_slices_IndexFunc_Limpl_Cell_impl_Cell_mbFimpl_named_1p
 generalize hLEN : @len = LEN at *
 generalize hGD : @gd = GD at *
 generalize hA : std = A at *
 generalize hP : Try.prog = P at *
 cbv
 replace h := of_bind h
 obtain ⟨y1, hy2, h⟩ := h
 refine ⟨{ args := [.c (.bs (LEN a0.fCells) 4 (row GD (encCell LEN GD) a0.fCells)), .c (.fn 170 1 fun j => ([.bp 1 (encS a1)] : List AC).getD j .junk)], o0 := [], r := .c (.v (.int .i64 y1)), o1 := [], fl := true, σ := [], τ := [] }, hf_slices_IndexFunc_Limpl_Cell_impl_Cell_mbFimpl_named_1p _ _ _ hy2, ⟨les_cons (lR _) (les_cons (le_fn (by intro j hj; match j, hj with | 0, _ => exact le_bp (show 1 ≤ 1 from by decide) (by intro j hj; match j, hj with | 0, _ => exact rle_refl _ | (j_ + 1), h_ => exact absurd h_ (by omega)) | (j_ + 1), h_ => exact absurd h_ (by omega))) (les_nil)), trivial, rfl, rfl, rfl, rfl, trivial, rfl⟩, ?_⟩
 cbv
 injection h with h
 subst h
 refine ⟨(sparse 9 [(4, .c (.v (.int .i64 y1)))] []), ?_, ?_⟩
 ·exact le_sparse rfl ⟨lR _, trivial⟩ trivial rfl
 ·exact ⟨lR _, trivial, rfl⟩
noncomputable def L_impl_IsValidLibrary_x10 (a0 : TLibrary) : (Int) → Option ((Int) ⊕ ((Bool) ⊕ (Unit))) := fun x10 =>
 letO x10 fun v9 =>
 br (std.lt v9 (std.ofN (len a0.fCells)))
 (req (std.inR v9 (len a0.fCells)) <|
 ((
    (F_impl_validCell (gd a0.fCells (std.toN v9)) v9).bind fun y30 =>
    br (!(y30))
    (some true)
    ((F_impl_named (TLibrary.mk a0.fCells) (gd a0.fCells (std.toN v9)).fName).bind fun y32 =>
    some (std.not (std.eq y32 v9)))
  ) : Option (Bool)).bind fun y23 =>
 letO y23 fun w29 =>
 br w29
 (some (.inr (.inl false)))
 (some (.inl (std.add .i64 v9 1))))
 (some (.inr (.inr ())))
/-- impl.IsValidLibrary -/
noncomputable def F_impl_IsValidLibrary (a0 : TLibrary) : Option (Bool) :=
 ((
    br (std.lt (std.ofN (len a0.fCells)) 1)
    (some true)
    (some (std.lt 8 (std.ofN (len a0.fCells))))
  ) : Option (Bool)).bind fun y1 =>
 letO y1 fun w7 =>
 br w7
 (some false)
 ((whileP (σ := Int) (ρ := (Bool) ⊕ (Unit)) (L_impl_IsValidLibrary_x10 a0) 0).bind fun y11 =>
 (match y11 with
  | .inl y11k0 => (
    letO y11k0 fun w37 =>
    some w37)
  | .inr y11m0 =>
    some true))
theorem run_impl_IsValidLibrary (a0 : TLibrary) (r : Bool) (h : F_impl_IsValidLibrary a0 = some r) : Fun Try.prog 85 [.agg [.bs (len a0.fCells) 4 (row gd (encCell len gd) a0.fCells)]] [] (.c (.v (.bool r))) [] true := by
 refine Fun.of_wp (oneOf [1, 6]) tok mixed Try.func85 (by kernel_rfl) rfl Try.ntmps85 rfl trivial (fun _ => ⟨trivial, trivial⟩) ?_
 unfold F_impl_IsValidLibrary at h
 unfold L_impl_IsValidLibrary_x10 at h
 have hf_impl_named := @run_impl_named
 have hf_impl_validCell := @run_impl_validCell
 generalize hLEN : @len = LEN at *
 generalize hGD : @gd = GD at *
 generalize hA : std = A at *
 generalize hP : Try.prog = P at *
 cbv
 replace h := of_bind h
 obtain ⟨y1, hy2, h⟩ := h
 obtain ⟨S5, hS6⟩ : ∃ S, S = (sparse 36 [(1, .c (.ptr 64 0)), (14, .c (.v (.bool y1)))] [(64, .var [.bs (LEN a0.fCells) 4 (row GD (encCell LEN GD) a0.fCells)])]) := ⟨_, rfl⟩
 refine ⟨S5, ?_, ?_⟩
 ·clear h
  have h := hy2
  clear hy2
  cbv
  refine fork (fun b8 => ?_) (fun b8 => ?_)
  ·replace h := of_br_t b8 h
   cbv
   injection h with h
   subst h
   subst hS6
   show St.le _ _
   exact le_sparse rfl ⟨lR _, lR _, trivial⟩ ⟨rfl, trivial⟩ rfl
  ·replace h := of_br_f b8 h
   cbv
   injection h with h
   subst h
   subst hS6
   show St.le _ _
   exact le_sparse rfl ⟨lR _, lR _, trivial⟩ ⟨rfl, trivial⟩ rfl
 ·clear hy2
  subst hS6
  replace h := of_let h
  obtain ⟨w7, hw7, h⟩ := h
  have hw7 : w7 = y1 := hw7
  subst hw7
  cbv
  refine fork (fun b38 => ?_) (fun b38 => ?_)
  ·replace h := of_br_t b38 h
   cbv
   injection h with h
   subst h
   refine ⟨(sparse 36 [(2, .c (.v (.bool false)))] []), ?_, ?_⟩
   ·exact le_sparse rfl ⟨lR _, trivial⟩ trivial rfl
   ·exact ⟨lR _, trivial, rfl⟩
  ·replace h := of_br_f b38 h
   cbv
   replace h := of_bind h
   obtain ⟨y11, hr12, hN13⟩ := h
   refine loop_cut hr12 (fun x => (sparse 36 [(1, .c (.ptr 64 0)), (16, .c (.bs (LEN a0.fCells) 4 (row GD (encCell LEN GD) a0.fCells))), (17, .c (.v (.int .i64 (A.ofN (LEN a0.fCells))))), (18, .c (.v (.int .i64 x)))] [(64, .var [.bs (LEN a0.fCells) 4 (row GD (encCell LEN GD) a0.fCells)])])) ?_ (fun y e s => (match y with | .inl w => e = .ret ∧ s.le (sparse 36 [(2, .c (.v (.bool w)))] []) | .inr w0 => (fun (w : Unit) => e = .exit 0 ∧ s.le (sparse 36 [] [])) w0)) ?_ ?_
   ·clear hr12 hN13
    show St.le _ _
    exact le_sparse rfl ⟨lR _, lR _, lR _, lR _, trivial⟩ ⟨rfl, trivial⟩ rfl
   ·clear hr12 hN13
    intro x z17 h K15 hK16 hY14
    replace h := of_let h
    obtain ⟨v9, hv9, h⟩ := h
    have hv9 : v9 = x := hv9
    subst hv9
    cbv
    refine fork (fun b36 => ?_) (fun b36 => ?_)
    ·replace h := of_br_t b36 h
     cbv
     replace h := of_req h
     obtain ⟨c22, h⟩ := h
     refine ⟨⟨c22, trivial⟩, ?_⟩
     replace h := of_bind h
     obtain ⟨y23, hy24, h⟩ := h
     obtain ⟨S27, hS28⟩ : ∃ S, S = (sparse 36 [(1, .c (.ptr 64 0)), (16, .c (.bs (LEN a0.fCells) 4 (row GD (encCell LEN GD) a0.fCells))), (17, .c (.v (.int .i64 (A.ofN (LEN a0.fCells))))), (18, .c (.v (.int .i64 v9))), (34, .c (.v (.bool y23)))] [(64, .var [.bs (LEN a0.fCells) 4 (row GD (encCell LEN GD) a0.fCells)])]) := ⟨_, rfl⟩
     refine ⟨S27, ?_, ?_⟩
     ·clear h
      have h := hy24
      clear hy24
      cbv
      replace h := of_bind h
      obtain ⟨y30, hy31, h⟩ := h
      refine ⟨{ args := [.agg [.v (.string (GD a0.fCells (A.toN v9)).fName), .bs (LEN (GD a0.fCells (A.toN v9)).fShapes) 5 (row GD (encShape) (GD a0.fCells (A.toN v9)).fShapes), .bs (LEN (GD a0.fCells (A.toN v9)).fLabels) 4 (row GD (encLabel) (GD a0.fCells (A.toN v9)).fLabels), .bs (LEN (GD a0.fCells (A.toN v9)).fInstances) 8 (row GD (encInstance) (GD a0.fCells (A.toN v9)).fInstances)], .c (.v (.int .i64 v9))], o0 := [], r := .c (.v (.bool y30)), o1 := [], fl := true, σ := [], τ := [] }, hf_impl_validCell _ _ _ hy31, ⟨les_cons (lR _) (les_cons (lR _) (les_nil)), trivial, rfl, rfl, rfl, rfl, trivial, rfl⟩, ?_⟩
      cbv
      refine fork (fun b34 => ?_) (fun b34 => ?_)
      ·replace h := of_br_t b34 h
       cbv
       injection h with h
       subst h
       subst hS28
       show St.le _ _
       exact le_sparse rfl ⟨lR _, lR _, lR _, lR _, lR _, trivial⟩ ⟨rfl, trivial⟩ rfl
      ·replace h := of_br_f b34 h
       cbv
       replace h := of_bind h
       obtain ⟨y32, hy33, h⟩ := h
       refine ⟨{ args := [.agg [.bs (LEN a0.fCells) 4 (row GD (encCell LEN GD) a0.fCells)], .c (.v (.string (GD a0.fCells (A.toN v9)).fName))], o0 := [], r := .c (.v (.int .i64 y32)), o1 := [], fl := true, σ := [], τ := [] }, hf_impl_named _ _ _ hy33, ⟨les_cons (lR _) (les_cons (lR _) (les_nil)), trivial, rfl, rfl, rfl, rfl, trivial, rfl⟩, ?_⟩
       cbv
       injection h with h
       subst h
       subst hS28
       show St.le _ _
       exact le_sparse rfl ⟨lR _, lR _, lR _, lR _, lR _, trivial⟩ ⟨rfl, trivial⟩ rfl
     ·clear hy24
      subst hS28
      replace h := of_let h
      obtain ⟨w29, hw29, h⟩ := h
      have hw29 : w29 = y23 := hw29
      subst hw29
      cbv
      refine fork (fun b35 => ?_) (fun b35 => ?_)
      ·replace h := of_br_t b35 h
       cbv
       injection h with h
       refine hY14 _ h.symm _ _ (And.intro rfl ?_) (by intro hh; cases hh)
       exact le_sparse rfl ⟨lR _, trivial⟩ trivial rfl
      ·replace h := of_br_f b35 h
       cbv
       injection h with h
       refine hK16 _ h.symm _ ?_
       exact le_sparse rfl ⟨lR _, lR _, lR _, lR _, trivial⟩ ⟨rfl, trivial⟩ rfl
    ·replace h := of_br_f b36 h
     cbv
     injection h with h
     refine hY14 _ h.symm _ _ (And.intro rfl ?_) (by intro hh; cases hh)
     exact le_sparse rfl trivial trivial rfl
   ·clear hr12
    have h := hN13
    clear hN13
    intro e20 s21 q19 hne
    rcases y11 with y11k0 | y11m0
    ·replace h := h
     obtain ⟨rfl, q19⟩ := q19
     replace h := of_let h
     obtain ⟨w37, hw37, h⟩ := h
     have hw37 : w37 = y11k0 := hw37
     subst hw37
     cbv
     injection h with h
     subst h
     refine ⟨(sparse 36 [(2, .c (.v (.bool w37)))] []), ?_, ?_⟩
     ·refine St.le_trans q19 ?_
      exact le_sparse rfl ⟨lR _, trivial⟩ trivial rfl
     ·exact ⟨lR _, trivial, rfl⟩
    ·obtain ⟨rfl, q19⟩ := q19
     cbv
     refine ⟨_, q19, ?_⟩
     cbv
     injection h with h
     subst h
     refine ⟨(sparse 36 [(2, .c (.v (.bool true)))] []), ?_, ?_⟩
     ·exact le_sparse rfl ⟨lR _, trivial⟩ trivial rfl
     ·exact ⟨lR _, trivial, rfl⟩

/-- impl.hasCell -/
noncomputable def F_impl_hasCell (a0 : TLibrary) (a1 : Int) : Option (Bool) :=
 ((
    (F_impl_IsValidLibrary (TLibrary.mk a0.fCells)).bind fun y8 =>
    br y8
    ((F_impl_within a1 0 (std.sub .i64 (std.ofN (len a0.fCells)) 1)).bind fun y10 =>
    some y10)
    (some false)
  ) : Option (Bool)).bind fun y1 =>
 letO y1 fun w7 =>
 some w7
theorem run_impl_hasCell (a0 : TLibrary) (a1 : Int) (r : Bool) (h : F_impl_hasCell a0 a1 = some r) : Fun Try.prog 49 [.agg [.bs (len a0.fCells) 4 (row gd (encCell len gd) a0.fCells)], .c (.v (.int .i64 a1))] [] (.c (.v (.bool r))) [] true := by
 refine Fun.of_wp (oneOf [1]) tok mixed Try.func49 (by kernel_rfl) rfl Try.ntmps49 rfl trivial (fun _ => ⟨trivial, trivial⟩) ?_
 unfold F_impl_hasCell at h
 have hf_impl_IsValidLibrary := @run_impl_IsValidLibrary
 have hf_impl_within := @run_impl_within
 generalize hLEN : @len = LEN at *
 generalize hGD : @gd = GD at *
 generalize hA : std = A at *
 generalize hP : Try.prog = P at *
 cbv
 replace h := of_bind h
 obtain ⟨y1, hy2, h⟩ := h
 obtain ⟨S5, hS6⟩ : ∃ S, S = (sparse 15 [(4, .c (.v (.bool y1)))] []) := ⟨_, rfl⟩
 refine ⟨S5, ?_, ?_⟩
 ·clear h
  have h := hy2
  clear hy2
  cbv
  replace h := of_bind h
  obtain ⟨y8, hy9, h⟩ := h
  refine ⟨{ args := [.agg [.bs (LEN a0.fCells) 4 (row GD (encCell LEN GD) a0.fCells)]], o0 := [], r := .c (.v (.bool y8)), o1 := [], fl := true, σ := [], τ := [] }, hf_impl_IsValidLibrary _ _ hy9, ⟨les_cons (lR _) (les_nil), trivial, rfl, rfl, rfl, rfl, trivial, rfl⟩, ?_⟩
  cbv
  refine fork (fun b12 => ?_) (fun b12 => ?_)
  ·replace h := of_br_t b12 h
   cbv
   replace h := of_bind h
   obtain ⟨y10, hy11, h⟩ := h
   refine ⟨{ args := [.c (.v (.int .i64 a1)), .c (.v (.int .i64 0)), .c (.v (.int .i64 (A.sub .i64 (A.ofN (LEN a0.fCells)) 1)))], o0 := [], r := .c (.v (.bool y10)), o1 := [], fl := true, σ := [], τ := [] }, hf_impl_within _ _ _ _ hy11, ⟨les_cons (lR _) (les_cons (lR _) (les_cons (lR _) (les_nil))), trivial, rfl, rfl, rfl, rfl, trivial, rfl⟩, ?_⟩
   cbv
   injection h with h
   subst h
   subst hS6
   show St.le _ _
   exact le_sparse rfl ⟨lR _, trivial⟩ trivial rfl
  ·replace h := of_br_f b12 h
   cbv
   injection h with h
   subst h
   subst hS6
   show St.le _ _
   exact le_sparse rfl ⟨lR _, trivial⟩ trivial rfl
 ·clear hy2
  subst hS6
  replace h := of_let h
  obtain ⟨w7, hw7, h⟩ := h
  have hw7 : w7 = y1 := hw7
  subst hw7
  cbv
  injection h with h
  subst h
  refine ⟨(sparse 15 [(4, .c (.v (.bool w7)))] []), ?_, ?_⟩
  ·exact le_sparse rfl ⟨lR _, trivial⟩ trivial rfl
  ·exact ⟨lR _, trivial, rfl⟩

noncomputable def L_impl_elementCount_x23 (l3 : List TCell) (v7 : List Int) (v6 : Int) : (Int × Int) → Option ((Int × Int) ⊕ ((Int))) := fun x23 =>
 letO x23.1 fun v21 =>
 letO x23.2 fun v22 =>
 br (std.lt v22 (std.ofN (len (gd l3 (std.toN v6)).fInstances)))
 (req (std.inR v22 (len (gd l3 (std.toN v6)).fInstances)) <|
 req (std.inR (gd (gd l3 (std.toN v6)).fInstances (std.toN v22)).fCell (len v7)) <|
 some (.inl (std.add .i64 v21 (std.mul .i64 (std.mul .i64 (gd (gd l3 (std.toN v6)).fInstances (std.toN v22)).fColumns (gd (gd l3 (std.toN v6)).fInstances (std.toN v22)).fRows) (gd v7 (std.nadd 0 (std.toN (gd (gd l3 (std.toN v6)).fInstances (std.toN v22)).fCell)))), std.add .i64 v22 1)))
 (some (.inr v21))
noncomputable def L_impl_elementCount_x8 (l3 : List TCell) : (Int × (List Int)) → Option ((Int × (List Int)) ⊕ (((List Int)))) := fun x8 =>
 letO x8.1 fun v6 =>
 letO x8.2 fun v7 =>
 br (std.lt v6 (std.ofN (len l3)))
 (req (std.inR v6 (len l3)) <|
 (whileP (σ := Int × Int) (ρ := (Int)) (L_impl_elementCount_x23 l3 v7 v6) (1, 0)).bind fun y24 =>
 letO y24 fun y24k0 =>
 letO y24k0 fun w38 =>
 letO ([w38] : List Int) fun l39 =>
 req (std.room (std.nadd (len v7) (len l39)) 8) <|
 letO (v7 ++ l39) fun l41 =>
 some (.inl (std.add .i64 v6 1, l41)))
 (some (.inr v7))
/-- impl.elementCount -/
noncomputable def F_impl_elementCount (a0 : TLibrary) (a1 : Int) : Option (Int) :=
 letO ([] : List Int) fun l1 =>
 req (std.upTo (std.add .i64 a1 1) (len a0.fCells)) <|
 req (std.upTo 0 (std.toN (std.add .i64 a1 1))) <|
 letO (subL a0.fCells (std.toN 0) (std.toN (std.add .i64 a1 1))) fun l3 =>
 (whileP (σ := Int × (List Int)) (ρ := ((List Int))) (L_impl_elementCount_x8 l3) (0, l1)).bind fun y9 =>
 letO y9 fun y9k0 =>
 letO y9k0 fun w45 =>
 req (std.inR a1 (len w45)) <|
 some (gd w45 (std.nadd 0 (std.toN a1)))
theorem run_impl_elementCount (a0 : TLibrary) (a1 : Int) (r : Int) (h : F_impl_elementCount a0 a1 = some r) : Fun Try.prog 51 [.agg [.bs (len a0.fCells) 4 (row gd (encCell len gd) a0.fCells)], .c (.v (.int .i64 a1))] [] (.c (.v (.int .i64 r))) [] true := by
 refine Fun.of_wp (oneOf []) tok mixed Try.func51 (by kernel_rfl) rfl Try.ntmps51 rfl trivial (fun _ => ⟨trivial, trivial⟩) ?_
 unfold F_impl_elementCount at h
 unfold L_impl_elementCount_x8 at h
 unfold L_impl_elementCount_x23 at h
 generalize hLEN : @len = LEN at *
 generalize hGD : @gd = GD at *
 generalize hA : std = A at *
 generalize hP : Try.prog = P at *
 cbv
 replace h := of_let h
 obtain ⟨l1, hl1, h⟩ := h
 have e2 : 0 = LEN l1 := by subst hl1 hLEN; rfl
 refine ⟨_, congrArg (fun n => AV.c (AC.os 704 0 n)) e2, _, row GD (encI .i64) l1, e2, ?_, ?_⟩
 ·intro i hi j hj
  rw [← e2] at hi
  subst hl1
  subst hGD
  omega
 cbv
 replace h := of_req h
 obtain ⟨c4, h⟩ := h
 replace h := of_req h
 obtain ⟨c5, h⟩ := h
 replace h := of_let h
 obtain ⟨l3, hl3, h⟩ := h
 refine And.intro (by first | exact ⟨c4, c5, trivial⟩ | exact ⟨c4, c5⟩) ?_
 refine ⟨.c (.bs (LEN l3) 4 (row GD (encCell LEN GD) l3)), ?_, ?_⟩
 ·subst hGD hLEN hA
  exact le_sub c4 c5 hl3
 cbv
 replace h := of_bind h
 obtain ⟨y9, hr10, hN11⟩ := h
 refine loop_cut hr10 (fun x => (sparse 52 [(1, .c (.v (.int .i64 a1))), (5, .c (.os 704 0 (LEN x.2))), (16, .c (.bs (LEN l3) 4 (row GD (encCell LEN GD) l3))), (17, .c (.v (.int .i64 (A.ofN (LEN l3))))), (18, .c (.v (.int .i64 x.1)))] [(704, .arr .rw [] (LEN x.2) 1 (row GD (encI .i64) x.2))])) ?_ (fun y e s => (fun (w : (List Int)) => e = .exit 0 ∧ s.le (sparse 52 [(1, .c (.v (.int .i64 a1))), (5, .c (.os 704 0 (LEN w)))] [(704, .arr .rw [] (LEN w) 1 (row GD (encI .i64) w))])) y) ?_ ?_
 ·clear hr10 hN11
  show St.le _ _
  exact le_sparse rfl ⟨lR _, lR _, lR _, lR _, lR _, trivial⟩ ⟨oS, trivial⟩ rfl
 ·clear hr10 hN11
  intro x z15 h K13 hK14 hY12
  obtain ⟨x0_, x1_⟩ := x
  replace h := of_let h
  obtain ⟨v6, hv6, h⟩ := h
  have hv6 : v6 = x0_ := hv6
  subst hv6
  replace h := of_let h
  obtain ⟨v7, hv7, h⟩ := h
  have hv7 : v7 = x1_ := hv7
  subst hv7
  cbv
  refine fork (fun b44 => ?_) (fun b44 => ?_)
  ·replace h := of_br_t b44 h
   cbv
   replace h := of_req h
   obtain ⟨c20, h⟩ := h
   refine ⟨⟨c20, trivial⟩, ?_⟩
   replace h := of_bind h
   obtain ⟨y24, hr25, hN26⟩ := h
   refine loop_cut hr25 (fun x => (sparse 52 [(1, .c (.v (.int .i64 a1))), (5, .c (.os 704 0 (LEN v7))), (8, .c (.v (.int .i64 x.1))), (16, .c (.bs (LEN l3) 4 (row GD (encCell LEN GD) l3))), (17, .c (.v (.int .i64 (A.ofN (LEN l3))))), (18, .c (.v (.int .i64 v6))), (23, .c (.bs (LEN (GD l3 (A.toN v6)).fInstances) 8 (row GD (encInstance) (GD l3 (A.toN v6)).fInstances))), (24, .c (.v (.int .i64 (A.ofN (LEN (GD l3 (A.toN v6)).fInstances))))), (25, .c (.v (.int .i64 x.2)))] [(704, .arr .rw [] (LEN v7) 1 (row GD (encI .i64) v7))])) ?_ (fun y e s => (fun (w : Int) => e = .exit 2 ∧ s.le (sparse 52 [(1, .c (.v (.int .i64 a1))), (5, .c (.os 704 0 (LEN v7))), (8, .c (.v (.int .i64 w))), (16, .c (.bs (LEN l3) 4 (row GD (encCell LEN GD) l3))), (17, .c (.v (.int .i64 (A.ofN (LEN l3))))), (18, .c (.v (.int .i64 v6)))] [(704, .arr .rw [] (LEN v7) 1 (row GD (encI .i64) v7))])) y) ?_ ?_
   ·clear hr25 hN26
    show St.le _ _
    exact le_sparse rfl ⟨lR _, lR _, lR _, lR _, lR _, lR _, lR _, lR _, lR _, trivial⟩ ⟨oS, trivial⟩ rfl
   ·clear hr25 hN26
    intro x z30 h K28 hK29 hY27
    obtain ⟨x0_, x1_⟩ := x
    replace h := of_let h
    obtain ⟨v21, hv21, h⟩ := h
    have hv21 : v21 = x0_ := hv21
    subst hv21
    replace h := of_let h
    obtain ⟨v22, hv22, h⟩ := h
    have hv22 : v22 = x1_ := hv22
    subst hv22
    cbv
    refine fork (fun b37 => ?_) (fun b37 => ?_)
    ·replace h := of_br_t b37 h
     cbv
     replace h := of_req h
     obtain ⟨c35, h⟩ := h
     refine ⟨⟨c35, trivial⟩, ?_⟩
     replace h := of_req h
     obtain ⟨c36, h⟩ := h
     refine ⟨⟨c36, trivial⟩, ?_⟩
     refine And.intro (by first | exact (by subst hA; exact idx_lt c36) | (refine And.intro (by subst hA; exact idx_lt c36) ?_; first | trivial | exact ⟨trivial, trivial⟩)) ?_
     injection h with h
     refine hK29 _ h.symm _ ?_
     exact le_sparse rfl ⟨lR _, lR _, lR _, lR _, lR _, lR _, lR _, lR _, lR _, trivial⟩ ⟨oS, trivial⟩ rfl
    ·replace h := of_br_f b37 h
     cbv
     injection h with h
     refine hY27 _ h.symm _ _ (And.intro rfl ?_) (by intro hh; cases hh)
     exact le_sparse rfl ⟨lR _, lR _, lR _, lR _, lR _, lR _, trivial⟩ ⟨oS, trivial⟩ rfl
   ·clear hr25
    have h := hN26
    clear hN26
    intro e33 s34 q32 hne
    replace h := of_let h
    obtain ⟨y24k0, hyk, h⟩ := h
    have hyk : y24k0 = y24 := hyk
    subst hyk
    obtain ⟨rfl, q32⟩ := q32
    replace h := of_let h
    obtain ⟨w38, hw38, h⟩ := h
    have hw38 : w38 = y24k0 := hw38
    subst hw38
    cbv
    refine ⟨_, q32, ?_⟩
    cbv
    replace h := of_let h
    obtain ⟨l39, hl39, h⟩ := h
    have e40 : 1 = LEN l39 := by subst hl39 hLEN; rfl
    refine ⟨_, congrArg (fun n => AV.c (AC.os 2880 0 n)) e40, _, row GD (encI .i64) l39, e40, ?_, ?_⟩
    ·intro i hi j hj
     rw [← e40] at hi
     subst hl39
     subst hGD
     obtain rfl : i = 0 := (by omega)
     all_goals obtain rfl : j = 0 := by omega
     all_goals rfl
    cbv
    replace h := of_req h
    obtain ⟨c43, h⟩ := h
    replace h := of_let h
    obtain ⟨l41, hl41, h⟩ := h
    have e42 : A.nadd (LEN v7) (LEN l39) = LEN l41 := by subst hl41 hLEN hA; simp [std, len]
    refine ⟨c43, _, congrArg (fun n => AV.c (AC.os 704 0 n)) e42, _, row GD (encI .i64) l41, e42, ?_, ?_⟩
    ·subst hGD hLEN hA
     exact app_os (off := 0) (fun _ _ => rfl) hl41 (Nat.le_refl _)
    cbv
    injection h with h
    refine hK14 _ h.symm _ ?_
    exact le_sparse rfl ⟨lR _, lR _, lR _, lR _, lR _, trivial⟩ ⟨oS, trivial⟩ rfl
  ·replace h := of_br_f b44 h
   cbv
   injection h with h
   refine hY12 _ h.symm _ _ (And.intro rfl ?_) (by intro hh; cases hh)
   exact le_sparse rfl ⟨lR _, lR _, trivial⟩ ⟨oS, trivial⟩ rfl
 ·clear hr10
  have h := hN11
  clear hN11
  intro e18 s19 q17 hne
  replace h := of_let h
  obtain ⟨y9k0, hyk, h⟩ := h
  have hyk : y9k0 = y9 := hyk
  subst hyk
  obtain ⟨rfl, q17⟩ := q17
  replace h := of_let h
  obtain ⟨w45, hw45, h⟩ := h
  have hw45 : w45 = y9k0 := hw45
  subst hw45
  cbv
  refine ⟨_, q17, ?_⟩
  cbv
  replace h := of_req h
  obtain ⟨c46, h⟩ := h
  refine ⟨⟨c46, trivial⟩, ?_⟩
  refine And.intro (by first | exact (by subst hA; exact idx_lt c46) | (refine And.intro (by subst hA; exact idx_lt c46) ?_; first | trivial | exact ⟨trivial, trivial⟩)) ?_
  injection h with h
  subst h
  refine ⟨(sparse 52 [(4, .c (.v (.int .i64 (GD w45 (A.nadd 0 (A.toN a1))))))] []), ?_, ?_⟩
  ·exact le_sparse rfl ⟨lR _, trivial⟩ trivial rfl
  ·exact ⟨lR _, trivial, rfl⟩

/-- impl.unitRect -/
noncomputable def F_impl_unitRect (a0 : TPoint) : Option (TRect) :=
 some (TRect.mk a0.fX a0.fY (std.add .i64 a0.fX 1) (std.add .i64 a0.fY 1))
theorem run_impl_unitRect (a0 : TPoint) (r : TRect) (h : F_impl_unitRect a0 = some r) : Fun Try.prog 98 [.agg [.v (.int .i64 a0.fX), .v (.int .i64 a0.fY)]] [] (.agg [.v (.int .i64 r.fX0), .v (.int .i64 r.fY0), .v (.int .i64 r.fX1), .v (.int .i64 r.fY1)]) [] true := by
 refine Fun.of_wp (oneOf []) tok mixed Try.func98 (by kernel_rfl) rfl Try.ntmps98 rfl trivial (fun _ => ⟨(by simp [AV.flat, AV.flat1, AC.flat]), trivial⟩) ?_
 unfold F_impl_unitRect at h
 generalize hLEN : @len = LEN at *
 generalize hGD : @gd = GD at *
 generalize hA : std = A at *
 generalize hP : Try.prog = P at *
 cbv
 injection h with h
 subst h
 refine ⟨(sparse 14 [(2, .c (.ptr 128 0))] [(128, .var [.v (.int .i64 a0.fX), .v (.int .i64 a0.fY), .v (.int .i64 (A.add .i64 a0.fX 1)), .v (.int .i64 (A.add .i64 a0.fY 1))])]), ?_, ?_⟩
 ·exact le_sparse rfl ⟨lR _, trivial⟩ ⟨rfl, trivial⟩ rfl
 ·exact ⟨lR _, trivial, rfl⟩

/-- impl.elementPlace -/
noncomputable def F_impl_elementPlace (a0 : TInstance) (a1 : Int) (a2 : Int) : Option (TTransform) :=
 some (TTransform.mk a0.fPlace.fOrientation (std.add .i64 a0.fPlace.fX (std.mul .i64 a1 a0.fStepX)) (std.add .i64 a0.fPlace.fY (std.mul .i64 a2 a0.fStepY)))
theorem run_impl_elementPlace (a0 : TInstance) (a1 : Int) (a2 : Int) (r : TTransform) (h : F_impl_elementPlace a0 a1 a2 = some r) : Fun Try.prog 105 [.agg [.v (.int .i64 a0.fCell), .v (.int .i64 a0.fPlace.fOrientation), .v (.int .i64 a0.fPlace.fX), .v (.int .i64 a0.fPlace.fY), .v (.int .i64 a0.fColumns), .v (.int .i64 a0.fRows), .v (.int .i64 a0.fStepX), .v (.int .i64 a0.fStepY)], .c (.v (.int .i64 a1)), .c (.v (.int .i64 a2))] [] (.agg [.v (.int .i64 r.fOrientation), .v (.int .i64 r.fX), .v (.int .i64 r.fY)]) [] true := by
 refine Fun.of_wp (oneOf []) tok mixed Try.func105 (by kernel_rfl) rfl Try.ntmps105 rfl trivial (fun _ => ⟨(by simp [AV.flat, AV.flat1, AC.flat]), trivial⟩) ?_
 unfold F_impl_elementPlace at h
 generalize hLEN : @len = LEN at *
 generalize hGD : @gd = GD at *
 generalize hA : std = A at *
 generalize hP : Try.prog = P at *
 cbv
 injection h with h
 subst h
 refine ⟨(sparse 27 [(6, .c (.ptr 384 0))] [(384, .var [.v (.int .i64 a0.fPlace.fOrientation), .v (.int .i64 (A.add .i64 a0.fPlace.fX (A.mul .i64 a1 a0.fStepX))), .v (.int .i64 (A.add .i64 a0.fPlace.fY (A.mul .i64 a2 a0.fStepY)))])]), ?_, ?_⟩
 ·exact le_sparse rfl ⟨lR _, trivial⟩ ⟨rfl, trivial⟩ rfl
 ·exact ⟨lR _, trivial, rfl⟩

noncomputable def L_impl_elements_x34 (a0 : TCell) (v18 : Int) (v3 : Int) : (Int × (List Telement)) → Option ((Int × (List Telement)) ⊕ (((List Telement)))) := fun x34 =>
 letO x34.1 fun v32 =>
 letO x34.2 fun v33 =>
 br (std.lt v32 (gd a0.fInstances (std.toN v3)).fColumns)
 ((F_impl_elementPlace (gd a0.fInstances (std.toN v3)) v32 v18).bind fun y46 =>
 letO ([(Telement.mk (gd a0.fInstances (std.toN v3)).fCell y46)] : List Telement) fun l48 =>
 req (std.room (std.nadd (len v33) (len l48)) 32) <|
 letO (v33 ++ l48) fun l50 =>
 some (.inl (std.add .i64 v32 1, l50)))
 (some (.inr v33))
noncomputable def L_impl_elements_x20 (a0 : TCell) (v3 : Int) : (Int × (List Telement)) → Option ((Int × (List Telement)) ⊕ (((List Telement)))) := fun x20 =>
 letO x20.1 fun v18 =>
 letO x20.2 fun v19 =>
 br (std.lt v18 (gd a0.fInstances (std.toN v3)).fRows)
 ((whileP (σ := Int × (List Telement)) (ρ := ((List Telement))) (L_impl_elements_x34 a0 v18 v3) (0, v19)).bind fun y35 =>
 letO y35 fun y35k0 =>
 letO y35k0 fun w54 =>
 some (.inl (std.add .i64 v18 1, w54)))
 (some (.inr v19))
noncomputable def L_impl_elements_x5 (a0 : TCell) : (Int × (List Telement)) → Option ((Int × (List Telement)) ⊕ (((List Telement)))) := fun x5 =>
 letO x5.1 fun v3 =>
 letO x5.2 fun v4 =>
 br (std.lt v3 (std.ofN (len a0.fInstances)))
 (req (std.inR v3 (len a0.fInstances)) <|
 (whileP (σ := Int × (List Telement)) (ρ := ((List Telement))) (L_impl_elements_x20 a0 v3) (0, v4)).bind fun y21 =>
 letO y21 fun y21k0 =>
 letO y21k0 fun w56 =>
 some (.inl (std.add .i64 v3 1, w56)))
 (some (.inr v4))
/-- impl.elements -/
noncomputable def F_impl_elements (a0 : TCell) : Option (List Telement) :=
 letO ([] : List Telement) fun l1 =>
 (whileP (σ := Int × (List Telement)) (ρ := ((List Telement))) (L_impl_elements_x5 a0) (0, l1)).bind fun y6 =>
 letO y6 fun y6k0 =>
 letO y6k0 fun w58 =>
 some w58
theorem run_impl_elements (a0 : TCell) (r : List Telement) (h : F_impl_elements a0 = some r) : Fun Try.prog 99 [.agg [.v (.string a0.fName), .bs (len a0.fShapes) 5 (row gd (encShape) a0.fShapes), .bs (len a0.fLabels) 4 (row gd (encLabel) a0.fLabels), .bs (len a0.fInstances) 8 (row gd (encInstance) a0.fInstances)]] [] (.c (.os 64000 0 (len r))) [(64000, .arr .rw [] (len r) 4 (row gd (encelement) r))] true := by
 refine Fun.of_wp (oneOf []) tok mixed Try.func99 (by kernel_rfl) rfl Try.ntmps99 rfl trivial (fun _ => ⟨trivial, ⟨fun i _ j _ => val_flat (vl_encelement _ _), trivial⟩⟩) ?_
 unfold F_impl_elements at h
 unfold L_impl_elements_x5 at h
 unfold L_impl_elements_x20 at h
 unfold L_impl_elements_x34 at h
 have hf_impl_elementPlace := @run_impl_elementPlace
 generalize hLEN : @len = LEN at *
 generalize hGD : @gd = GD at *
 generalize hA : std = A at *
 generalize hP : Try.prog = P at *
 cbv
 replace h := of_let h
 obtain ⟨l1, hl1, h⟩ := h
 have e2 : 0 = LEN l1 := by subst hl1 hLEN; rfl
 refine ⟨_, congrArg (fun n => AV.c (AC.os 512 0 n)) e2, _, row GD (encelement) l1, e2, ?_, ?_⟩
 ·intro i hi j hj
  rw [← e2] at hi
  subst hl1
  subst hGD
  omega
 cbv
 replace h := of_bind h
 obtain ⟨y6, hr7, hN8⟩ := h
 refine loop_cut hr7 (fun x => (sparse 40 [(3, .c (.os 512 0 (LEN x.2))), (10, .c (.bs (LEN a0.fInstances) 8 (row GD (encInstance) a0.fInstances))), (11, .c (.v (.int .i64 (A.ofN (LEN a0.fInstances))))), (12, .c (.v (.int .i64 x.1)))] [(512, .arr .rw [] (LEN x.2) 4 (row GD (encelement) x.2))])) ?_ (fun y e s => (fun (w : (List Telement)) => e = .exit 0 ∧ s.le (sparse 40 [(3, .c (.os 512 0 (LEN w)))] [(512, .arr .rw [] (LEN w) 4 (row GD (encelement) w))])) y) ?_ ?_
 ·clear hr7 hN8
  show St.le _ _
  exact le_sparse rfl ⟨lR _, lR _, lR _, lR _, trivial⟩ ⟨oS, trivial⟩ rfl
 ·clear hr7 hN8
  intro x z12 h K10 hK11 hY9
  obtain ⟨x0_, x1_⟩ := x
  replace h := of_let h
  obtain ⟨v3, hv3, h⟩ := h
  have hv3 : v3 = x0_ := hv3
  subst hv3
  replace h := of_let h
  obtain ⟨v4, hv4, h⟩ := h
  have hv4 : v4 = x1_ := hv4
  subst hv4
  cbv
  refine fork (fun b57 => ?_) (fun b57 => ?_)
  ·replace h := of_br_t b57 h
   cbv
   replace h := of_req h
   obtain ⟨c17, h⟩ := h
   refine ⟨⟨c17, trivial⟩, ?_⟩
   replace h := of_bind h
   obtain ⟨y21, hr22, hN23⟩ := h
   refine loop_cut hr22 (fun x => (sparse 40 [(3, .c (.os 512 0 (LEN x.2))), (5, .c (.ptr 320 0)), (10, .c (.bs (LEN a0.fInstances) 8 (row GD (encInstance) a0.fInstances))), (11, .c (.v (.int .i64 (A.ofN (LEN a0.fInstances))))), (12, .c (.v (.int .i64 v3))), (17, .c (.v (.int .i64 (GD a0.fInstances (A.toN v3)).fRows))), (18, .c (.v (.int .i64 x.1)))] [(512, .arr .rw [] (LEN x.2) 4 (row GD (encelement) x.2)), (320, .var [.v (.int .i64 (GD a0.fInstances (A.toN v3)).fCell), .v (.int .i64 (GD a0.fInstances (A.toN v3)).fPlace.fOrientation), .v (.int .i64 (GD a0.fInstances (A.toN v3)).fPlace.fX), .v (.int .i64 (GD a0.fInstances (A.toN v3)).fPlace.fY), .v (.int .i64 (GD a0.fInstances (A.toN v3)).fColumns), .v (.int .i64 (GD a0.fInstances (A.toN v3)).fRows), .v (.int .i64 (GD a0.fInstances (A.toN v3)).fStepX), .v (.int .i64 (GD a0.fInstances (A.toN v3)).fStepY)])])) ?_ (fun y e s => (fun (w : (List Telement)) => e = .exit 2 ∧ s.le (sparse 40 [(3, .c (.os 512 0 (LEN w))), (10, .c (.bs (LEN a0.fInstances) 8 (row GD (encInstance) a0.fInstances))), (11, .c (.v (.int .i64 (A.ofN (LEN a0.fInstances))))), (12, .c (.v (.int .i64 v3)))] [(512, .arr .rw [] (LEN w) 4 (row GD (encelement) w))])) y) ?_ ?_
   ·clear hr22 hN23
    show St.le _ _
    exact le_sparse rfl ⟨lR _, lR _, lR _, lR _, lR _, lR _, lR _, trivial⟩ ⟨oS, rfl, trivial⟩ rfl
   ·clear hr22 hN23
    intro x z27 h K25 hK26 hY24
    obtain ⟨x0_, x1_⟩ := x
    replace h := of_let h
    obtain ⟨v18, hv18, h⟩ := h
    have hv18 : v18 = x0_ := hv18
    subst hv18
    replace h := of_let h
    obtain ⟨v19, hv19, h⟩ := h
    have hv19 : v19 = x1_ := hv19
    subst hv19
    cbv
    refine fork (fun b55 => ?_) (fun b55 => ?_)
    ·replace h := of_br_t b55 h
     cbv
     replace h := of_bind h
     obtain ⟨y35, hr36, hN37⟩ := h
     refine loop_cut hr36 (fun x => (sparse 40 [(3, .c (.os 512 0 (LEN x.2))), (5, .c (.ptr 320 0)), (6, .c (.v (.int .i64 v18))), (10, .c (.bs (LEN a0.fInstances) 8 (row GD (encInstance) a0.fInstances))), (11, .c (.v (.int .i64 (A.ofN (LEN a0.fInstances))))), (12, .c (.v (.int .i64 v3))), (17, .c (.v (.int .i64 (GD a0.fInstances (A.toN v3)).fRows))), (18, .c (.v (.int .i64 v18))), (22, .c (.v (.int .i64 (GD a0.fInstances (A.toN v3)).fColumns))), (23, .c (.v (.int .i64 x.1)))] [(512, .arr .rw [] (LEN x.2) 4 (row GD (encelement) x.2)), (320, .var [.v (.int .i64 (GD a0.fInstances (A.toN v3)).fCell), .v (.int .i64 (GD a0.fInstances (A.toN v3)).fPlace.fOrientation), .v (.int .i64 (GD a0.fInstances (A.toN v3)).fPlace.fX), .v (.int .i64 (GD a0.fInstances (A.toN v3)).fPlace.fY), .v (.int .i64 (GD a0.fInstances (A.toN v3)).fColumns), .v (.int .i64 (GD a0.fInstances (A.toN v3)).fRows), .v (.int .i64 (GD a0.fInstances (A.toN v3)).fStepX), .v (.int .i64 (GD a0.fInstances (A.toN v3)).fStepY)])])) ?_ (fun y e s => (fun (w : (List Telement)) => e = .exit 4 ∧ s.le (sparse 40 [(3, .c (.os 512 0 (LEN w))), (5, .c (.ptr 320 0)), (10, .c (.bs (LEN a0.fInstances) 8 (row GD (encInstance) a0.fInstances))), (11, .c (.v (.int .i64 (A.ofN (LEN a0.fInstances))))), (12, .c (.v (.int .i64 v3))), (17, .c (.v (.int .i64 (GD a0.fInstances (A.toN v3)).fRows))), (18, .c (.v (.int .i64 v18)))] [(512, .arr .rw [] (LEN w) 4 (row GD (encelement) w)), (320, .var [.v (.int .i64 (GD a0.fInstances (A.toN v3)).fCell), .v (.int .i64 (GD a0.fInstances (A.toN v3)).fPlace.fOrientation), .v (.int .i64 (GD a0.fInstances (A.toN v3)).fPlace.fX), .v (.int .i64 (GD a0.fInstances (A.toN v3)).fPlace.fY), .v (.int .i64 (GD a0.fInstances (A.toN v3)).fColumns), .v (.int .i64 (GD a0.fInstances (A.toN v3)).fRows), .v (.int .i64 (GD a0.fInstances (A.toN v3)).fStepX), .v (.int .i64 (GD a0.fInstances (A.toN v3)).fStepY)])])) y) ?_ ?_
     ·clear hr36 hN37
      show St.le _ _
      exact le_sparse rfl ⟨lR _, lR _, lR _, lR _, lR _, lR _, lR _, lR _, lR _, lR _, trivial⟩ ⟨oS, rfl, trivial⟩ rfl
     ·clear hr36 hN37
      intro x z41 h K39 hK40 hY38
      obtain ⟨x0_, x1_⟩ := x
      replace h := of_let h
      obtain ⟨v32, hv32, h⟩ := h
      have hv32 : v32 = x0_ := hv32
      subst hv32
      replace h := of_let h
      obtain ⟨v33, hv33, h⟩ := h
      have hv33 : v33 = x1_ := hv33
      subst hv33
      cbv
      refine fork (fun b53 => ?_) (fun b53 => ?_)
      ·replace h := of_br_t b53 h
       cbv
       replace h := of_bind h
       obtain ⟨y46, hy47, h⟩ := h
       refine ⟨{ args := [.agg [.v (.int .i64 (GD a0.fInstances (A.toN v3)).fCell), .v (.int .i64 (GD a0.fInstances (A.toN v3)).fPlace.fOrientation), .v (.int .i64 (GD a0.fInstances (A.toN v3)).fPlace.fX), .v (.int .i64 (GD a0.fInstances (A.toN v3)).fPlace.fY), .v (.int .i64 (GD a0.fInstances (A.toN v3)).fColumns), .v (.int .i64 (GD a0.fInstances (A.toN v3)).fRows), .v (.int .i64 (GD a0.fInstances (A.toN v3)).fStepX), .v (.int .i64 (GD a0.fInstances (A.toN v3)).fStepY)], .c (.v (.int .i64 v32)), .c (.v (.int .i64 v18))], o0 := [], r := .agg [.v (.int .i64 y46.fOrientation), .v (.int .i64 y46.fX), .v (.int .i64 y46.fY)], o1 := [], fl := true, σ := [], τ := [] }, hf_impl_elementPlace _ _ _ _ hy47, ⟨les_cons (lR _) (les_cons (lR _) (les_cons (lR _) (les_nil))), trivial, rfl, rfl, rfl, rfl, trivial, rfl⟩, ?_⟩
       cbv
       replace h := of_let h
       obtain ⟨l48, hl48, h⟩ := h
       have e49 : 1 = LEN l48 := by subst hl48 hLEN; rfl
       refine ⟨_, congrArg (fun n => AV.c (AC.os 2176 0 n)) e49, _, row GD (encelement) l48, e49, ?_, ?_⟩
       ·intro i hi j hj
        rw [← e49] at hi
        subst hl48
        subst hGD
        obtain rfl : i = 0 := (by omega) <;> obtain rfl | rfl | rfl | rfl : j = 0 ∨ j = 1 ∨ j = 2 ∨ j = 3 := (by omega)
        all_goals rfl
       cbv
       replace h := of_req h
       obtain ⟨c52, h⟩ := h
       replace h := of_let h
       obtain ⟨l50, hl50, h⟩ := h
       have e51 : A.nadd (LEN v33) (LEN l48) = LEN l50 := by subst hl50 hLEN hA; simp [std, len]
       refine ⟨c52, _, congrArg (fun n => AV.c (AC.os 512 0 n)) e51, _, row GD (encelement) l50, e51, ?_, ?_⟩
       ·subst hGD hLEN hA
        exact app_os (off := 0) (pl_encelement) hl50 (Nat.le_refl _)
       cbv
       injection h with h
       refine hK40 _ h.symm _ ?_
       exact le_sparse rfl ⟨lR _, lR _, lR _, lR _, lR _, lR _, lR _, lR _, lR _, lR _, trivial⟩ ⟨oS, rfl, trivial⟩ rfl
      ·replace h := of_br_f b53 h
       cbv
       injection h with h
       refine hY38 _ h.symm _ _ (And.intro rfl ?_) (by intro hh; cases hh)
       exact le_sparse rfl ⟨lR _, lR _, lR _, lR _, lR _, lR _, lR _, trivial⟩ ⟨oS, rfl, trivial⟩ rfl
     ·clear hr36
      have h := hN37
      clear hN37
      intro e44 s45 q43 hne
      replace h := of_let h
      obtain ⟨y35k0, hyk, h⟩ := h
      have hyk : y35k0 = y35 := hyk
      subst hyk
      obtain ⟨rfl, q43⟩ := q43
      replace h := of_let h
      obtain ⟨w54, hw54, h⟩ := h
      have hw54 : w54 = y35k0 := hw54
      subst hw54
      cbv
      refine ⟨_, q43, ?_⟩
      cbv
      injection h with h
      refine hK26 _ h.symm _ ?_
      exact le_sparse rfl ⟨lR _, lR _, lR _, lR _, lR _, lR _, lR _, trivial⟩ ⟨oS, rfl, trivial⟩ rfl
    ·replace h := of_br_f b55 h
     cbv
     injection h with h
     refine hY24 _ h.symm _ _ (And.intro rfl ?_) (by intro hh; cases hh)
     exact le_sparse rfl ⟨lR _, lR _, lR _, lR _, trivial⟩ ⟨oS, trivial⟩ rfl
   ·clear hr22
    have h := hN23
    clear hN23
    intro e30 s31 q29 hne
    replace h := of_let h
    obtain ⟨y21k0, hyk, h⟩ := h
    have hyk : y21k0 = y21 := hyk
    subst hyk
    obtain ⟨rfl, q29⟩ := q29
    replace h := of_let h
    obtain ⟨w56, hw56, h⟩ := h
    have hw56 : w56 = y21k0 := hw56
    subst hw56
    cbv
    refine ⟨_, q29, ?_⟩
    cbv
    injection h with h
    refine hK11 _ h.symm _ ?_
    exact le_sparse rfl ⟨lR _, lR _, lR _, lR _, trivial⟩ ⟨oS, trivial⟩ rfl
  ·replace h := of_br_f b57 h
   cbv
   injection h with h
   refine hY9 _ h.symm _ _ (And.intro rfl ?_) (by intro hh; cases hh)
   exact le_sparse rfl ⟨lR _, trivial⟩ ⟨oS, trivial⟩ rfl
 ·clear hr7
  have h := hN8
  clear hN8
  intro e15 s16 q14 hne
  replace h := of_let h
  obtain ⟨y6k0, hyk, h⟩ := h
  have hyk : y6k0 = y6 := hyk
  subst hyk
  obtain ⟨rfl, q14⟩ := q14
  replace h := of_let h
  obtain ⟨w58, hw58, h⟩ := h
  have hw58 : w58 = y6k0 := hw58
  subst hw58
  cbv
  refine ⟨_, q14, ?_⟩
  cbv
  injection h with h
  subst h
  refine ⟨(sparse 40 [(2, .c (.os 64000 0 (LEN w58)))] [(64000, .arr .rw [] (LEN w58) 4 (row GD (encelement) w58))]), ?_, ?_⟩
  ·refine St.le_trans (le_ren 512 64000 (by decide) rfl) ?_
   exact le_sparse rfl ⟨lR _, trivial⟩ ⟨oS, trivial⟩ rfl
  ·exact ⟨lR _, ⟨oS, trivial⟩, rfl⟩
noncomputable def L_impl_turn_x13  : (Int × Int × Int) → Option ((Int × Int × Int) ⊕ ((Int × Int))) := fun x13 =>
 letO x13.1 fun v10 =>
 letO x13.2.1 fun v11 =>
 letO x13.2.2 fun v12 =>
 br (std.lt 0 v10)
 (some (.inl (std.sub .i64 v10 1, std.sub .i64 0 v12, v11)))
 (some (.inr (v11, v12)))
/-- impl.turn -/
noncomputable def F_impl_turn (a0 : Int) (a1 : TPoint) : Option (TPoint) :=
 ((
    br (std.le 4 a0)
    (some (std.sub .i64 0 a1.fY))
    (some a1.fY)
  ) : Option (Int)).bind fun y1 =>
 letO y1 fun w7 =>
 req (std.nz 4) <|
 (whileP (σ := Int × Int × Int) (ρ := (Int × Int)) L_impl_turn_x13 (std.rem a0 4, a1.fX, w7)).bind fun y14 =>
 letO y14 fun y14k0 =>
 letO y14k0.1 fun w26 =>
 letO y14k0.2 fun w27 =>
 some (TPoint.mk w26 w27)
theorem run_impl_turn (a0 : Int) (a1 : TPoint) (r : TPoint) (h : F_impl_turn a0 a1 = some r) : Fun Try.prog 207 [.c (.v (.int .i64 a0)), .agg [.v (.int .i64 a1.fX), .v (.int .i64 a1.fY)]] [] (.agg [.v (.int .i64 r.fX), .v (.int .i64 r.fY)]) [] true := by
 refine Fun.of_wp (oneOf [100007]) tok mixed Try.func207 (by kernel_rfl) rfl Try.ntmps207 rfl trivial (fun _ => ⟨(by simp [AV.flat, AV.flat1, AC.flat]), trivial⟩) ?_
 unfold F_impl_turn at h
 unfold L_impl_turn_x13 at h
 generalize hLEN : @len = LEN at *
 generalize hGD : @gd = GD at *
 generalize hA : std = A at *
 generalize hP : Try.prog = P at *
 cbv
 replace h := of_bind h
 obtain ⟨y1, hy2, h⟩ := h
 obtain ⟨S5, hS6⟩ : ∃ S, S = some (sparse 25 [(0, .c (.v (.int .i64 a0))), (3, .c (.ptr 192 0)), (4, .c (.ptr 256 0))] [(192, .var [.v (.int .i64 a1.fX), .v (.int .i64 y1)]), (256, .var [.v (.int .i64 0), .v (.int .i64 0)])]) := ⟨_, rfl⟩
 refine ⟨S5, ?_, ?_⟩
 ·clear h
  have h := hy2
  clear hy2
  cbv
  refine fork (fun b8 => ?_) (fun b8 => ?_)
  ·replace h := of_br_t b8 h
   cbv
   injection h with h
   subst h
   subst hS6
   show St.le _ _
   exact le_sparse rfl ⟨lR _, lR _, lR _, trivial⟩ ⟨rfl, rfl, trivial⟩ rfl
  ·replace h := of_br_f b8 h
   cbv
   injection h with h
   subst h
   subst hS6
   show St.le _ _
   exact le_sparse rfl ⟨lR _, lR _, lR _, trivial⟩ ⟨rfl, rfl, trivial⟩ rfl
 ·clear hy2
  subst hS6
  replace h := of_let h
  obtain ⟨w7, hw7, h⟩ := h
  have hw7 : w7 = y1 := hw7
  subst hw7
  cbv
  replace h := of_req h
  obtain ⟨c9, h⟩ := h
  refine ⟨c9, ?_⟩
  replace h := of_bind h
  obtain ⟨y14, hr15, hN16⟩ := h
  refine loop_cut hr15 (fun x => (sparse 25 [(3, .c (.ptr 192 0)), (4, .c (.ptr 256 0)), (5, .c (.v (.int .i64 x.1)))] [(192, .var [.v (.int .i64 x.2.1), .v (.int .i64 x.2.2)]), (256, .var [.v (.int .i64 0), .v (.int .i64 0)])])) ?_ (fun y e s => (fun (w : Int × Int) => e = .exit 0 ∧ s.le (sparse 25 [(3, .c (.ptr 192 0)), (4, .c (.ptr 256 0))] [(192, .var [.v (.int .i64 w.1), .v (.int .i64 w.2)]), (256, .var [.v (.int .i64 0), .v (.int .i64 0)])])) y) ?_ ?_
  ·clear hr15 hN16
   show St.le _ _
   exact le_sparse rfl ⟨lR _, lR _, lR _, trivial⟩ ⟨rfl, rfl, trivial⟩ rfl
  ·clear hr15 hN16
   intro x z20 h K18 hK19 hY17
   obtain ⟨x0_, x1_, x2_⟩ := x
   replace h := of_let h
   obtain ⟨v10, hv10, h⟩ := h
   have hv10 : v10 = x0_ := hv10
   subst hv10
   replace h := of_let h
   obtain ⟨v11, hv11, h⟩ := h
   have hv11 : v11 = x1_ := hv11
   subst hv11
   replace h := of_let h
   obtain ⟨v12, hv12, h⟩ := h
   have hv12 : v12 = x2_ := hv12
   subst hv12
   cbv
   refine fork (fun b25 => ?_) (fun b25 => ?_)
   ·replace h := of_br_t b25 h
    cbv
    injection h with h
    refine hK19 _ h.symm _ ?_
    exact le_sparse rfl ⟨lR _, lR _, lR _, trivial⟩ ⟨rfl, rfl, trivial⟩ rfl
   ·replace h := of_br_f b25 h
    cbv
    injection h with h
    refine hY17 _ h.symm _ _ (And.intro rfl ?_) (by intro hh; cases hh)
    exact le_sparse rfl ⟨lR _, lR _, trivial⟩ ⟨rfl, rfl, trivial⟩ rfl
  ·clear hr15
   have h := hN16
   clear hN16
   intro e23 s24 q22 hne
   replace h := of_let h
   obtain ⟨y14k0, hyk, h⟩ := h
   have hyk : y14k0 = y14 := hyk
   subst hyk
   obtain ⟨rfl, q22⟩ := q22
   obtain ⟨y14k0_0, y14k0_1⟩ := y14k0
   replace h := of_let h
   obtain ⟨w26, hw26, h⟩ := h
   have hw26 : w26 = y14k0_0 := hw26
   subst hw26
   replace h := of_let h
   obtain ⟨w27, hw27, h⟩ := h
   have hw27 : w27 = y14k0_1 := hw27
   subst hw27
   cbv
   refine ⟨_, q22, ?_⟩
   cbv
   injection h with h
   subst h
   refine ⟨(sparse 25 [(4, .c (.ptr 256 0))] [(256, .var [.v (.int .i64 w26), .v (.int .i64 w27)])]), ?_, ?_⟩
   ·exact le_sparse rfl ⟨lR _, trivial⟩ ⟨rfl, trivial⟩ rfl
   ·exact ⟨lR _, trivial, rfl⟩

/-- impl.move -/
noncomputable def F_impl_move (a0 : TTransform) (a1 : TPoint) : Option (TPoint) :=
 (F_impl_turn a0.fOrientation a1).bind fun y1 =>
 some (TPoint.mk (std.add .i64 y1.fX a0.fX) (std.add .i64 y1.fY a0.fY))
theorem run_impl_move (a0 : TTransform) (a1 : TPoint) (r : TPoint) (h : F_impl_move a0 a1 = some r) : Fun Try.prog 150 [.agg [.v (.int .i64 a0.fOrientation), .v (.int .i64 a0.fX), .v (.int .i64 a0.fY)], .agg [.v (.int .i64 a1.fX), .v (.int .i64 a1.fY)]] [] (.agg [.v (.int .i64 r.fX), .v (.int .i64 r.fY)]) [] true := by
 refine Fun.of_wp (oneOf []) tok mixed Try.func150 (by kernel_rfl) rfl Try.ntmps150 rfl trivial (fun _ => ⟨(by simp [AV.flat, AV.flat1, AC.flat]), trivial⟩) ?_
 unfold F_impl_move at h
 have hf_impl_turn := @run_impl_turn
 generalize hLEN : @len = LEN at *
 generalize hGD : @gd = GD at *
 generalize hA : std = A at *
 generalize hP : Try.prog = P at *
 cbv
 replace h := of_bind h
 obtain ⟨y1, hy2, h⟩ := h
 refine ⟨{ args := [.c (.v (.int .i64 a0.fOrientation)), .agg [.v (.int .i64 a1.fX), .v (.int .i64 a1.fY)]], o0 := [], r := .agg [.v (.int .i64 y1.fX), .v (.int .i64 y1.fY)], o1 := [], fl := true, σ := [], τ := [] }, hf_impl_turn _ _ _ hy2, ⟨les_cons (lR _) (les_cons (lR _) (les_nil)), trivial, rfl, rfl, rfl, rfl, trivial, rfl⟩, ?_⟩
 cbv
 injection h with h
 subst h
 refine ⟨(sparse 20 [(4, .c (.ptr 256 0))] [(256, .var [.v (.int .i64 (A.add .i64 y1.fX a0.fX)), .v (.int .i64 (A.add .i64 y1.fY a0.fY))])]), ?_, ?_⟩
 ·exact le_sparse rfl ⟨lR _, trivial⟩ ⟨rfl, trivial⟩ rfl
 ·exact ⟨lR _, trivial, rfl⟩

/-- impl.moveRect -/
noncomputable def F_impl_moveRect (a0 : TTransform) (a1 : TRect) : Option (TRect) :=
 (F_impl_move a0 (TPoint.mk a1.fX0 a1.fY0)).bind fun y1 =>
 (F_impl_move a0 (TPoint.mk a1.fX1 a1.fY1)).bind fun y3 =>
 some (TRect.mk (std.imin y1.fX y3.fX) (std.imin y1.fY y3.fY) (std.imax y1.fX y3.fX) (std.imax y1.fY y3.fY))
theorem run_impl_moveRect (a0 : TTransform) (a1 : TRect) (r : TRect) (h : F_impl_moveRect a0 a1 = some r) : Fun Try.prog 100 [.agg [.v (.int .i64 a0.fOrientation), .v (.int .i64 a0.fX), .v (.int .i64 a0.fY)], .agg [.v (.int .i64 a1.fX0), .v (.int .i64 a1.fY0), .v (.int .i64 a1.fX1), .v (.int .i64 a1.fY1)]] [] (.agg [.v (.int .i64 r.fX0), .v (.int .i64 r.fY0), .v (.int .i64 r.fX1), .v (.int .i64 r.fY1)]) [] true := by
 refine Fun.of_wp (oneOf []) tok mixed Try.func100 (by kernel_rfl) rfl Try.ntmps100 rfl trivial (fun _ => ⟨(by simp [AV.flat, AV.flat1, AC.flat]), trivial⟩) ?_
 unfold F_impl_moveRect at h
 have hf_impl_move := @run_impl_move
 generalize hLEN : @len = LEN at *
 generalize hGD : @gd = GD at *
 generalize hA : std = A at *
 generalize hP : Try.prog = P at *
 cbv
 replace h := of_bind h
 obtain ⟨y1, hy2, h⟩ := h
 refine ⟨{ args := [.agg [.v (.int .i64 a0.fOrientation), .v (.int .i64 a0.fX), .v (.int .i64 a0.fY)], .agg [.v (.int .i64 a1.fX0), .v (.int .i64 a1.fY0)]], o0 := [], r := .agg [.v (.int .i64 y1.fX), .v (.int .i64 y1.fY)], o1 := [], fl := true, σ := [], τ := [] }, hf_impl_move _ _ _ hy2, ⟨les_cons (lR _) (les_cons (lR _) (les_nil)), trivial, rfl, rfl, rfl, rfl, trivial, rfl⟩, ?_⟩
 cbv
 replace h := of_bind h
 obtain ⟨y3, hy4, h⟩ := h
 refine ⟨{ args := [.agg [.v (.int .i64 a0.fOrientation), .v (.int .i64 a0.fX), .v (.int .i64 a0.fY)], .agg [.v (.int .i64 a1.fX1), .v (.int .i64 a1.fY1)]], o0 := [], r := .agg [.v (.int .i64 y3.fX), .v (.int .i64 y3.fY)], o1 := [], fl := true, σ := [], τ := [] }, hf_impl_move _ _ _ hy4, ⟨les_cons (lR _) (les_cons (lR _) (les_nil)), trivial, rfl, rfl, rfl, rfl, trivial, rfl⟩, ?_⟩
 cbv
 injection h with h
 subst h
 refine ⟨(sparse 42 [(4, .c (.ptr 256 0))] [(256, .var [.v (.int .i64 (A.imin y1.fX y3.fX)), .v (.int .i64 (A.imin y1.fY y3.fY)), .v (.int .i64 (A.imax y1.fX y3.fX)), .v (.int .i64 (A.imax y1.fY y3.fY))])]), ?_, ?_⟩
 ·exact le_sparse rfl ⟨lR _, trivial⟩ ⟨rfl, trivial⟩ rfl
 ·exact ⟨lR _, trivial, rfl⟩

noncomputable def L_impl_boxOf_x7 (a0 : List TRect) : (Int × Int × Int × Int × Int) → Option ((Int × Int × Int × Int × Int) ⊕ ((Int × Int × Int × Int))) := fun x7 =>
 letO x7.1 fun v2 =>
 letO x7.2.1 fun v3 =>
 letO x7.2.2.1 fun v4 =>
 letO x7.2.2.2.1 fun v5 =>
 letO x7.2.2.2.2 fun v6 =>
 br (std.lt v2 (std.ofN (len a0)))
 (req (std.inR v2 (len a0)) <|
 some (.inl (std.add .i64 v2 1, (std.imin v3 (gd a0 (std.toN v2)).fX0), (std.imin v4 (gd a0 (std.toN v2)).fY0), (std.imax v5 (gd a0 (std.toN v2)).fX1), (std.imax v6 (gd a0 (std.toN v2)).fY1))))
 (some (.inr (v3, v4, v5, v6)))
/-- impl.boxOf -/
noncomputable def F_impl_boxOf (a0 : List TRect) : Option (TRect) :=
 req (std.inR 0 (len a0)) <|
 (whileP (σ := Int × Int × Int × Int × Int) (ρ := (Int × Int × Int × Int)) (L_impl_boxOf_x7 a0) (0, (gd a0 (std.toN 0)).fX0, (gd a0 (std.toN 0)).fY0, (gd a0 (std.toN 0)).fX1, (gd a0 (std.toN 0)).fY1)).bind fun y8 =>
 letO y8 fun y8k0 =>
 letO y8k0.1 fun w21 =>
 letO y8k0.2.1 fun w22 =>
 letO y8k0.2.2.1 fun w23 =>
 letO y8k0.2.2.2 fun w24 =>
 some (TRect.mk w21 w22 w23 w24)
theorem run_impl_boxOf (a0 : List TRect) (r : TRect) (h : F_impl_boxOf a0 = some r) : Fun Try.prog 101 [.c (.bs (len a0) 4 (row gd (encRect) a0))] [] (.agg [.v (.int .i64 r.fX0), .v (.int .i64 r.fY0), .v (.int .i64 r.fX1), .v (.int .i64 r.fY1)]) [] true := by
 refine Fun.of_wp (oneOf []) tok mixed Try.func101 (by kernel_rfl) rfl Try.ntmps101 rfl trivial (fun _ => ⟨(by simp [AV.flat, AV.flat1, AC.flat]), trivial⟩) ?_
 unfold F_impl_boxOf at h
 unfold L_impl_boxOf_x7 at h
 generalize hLEN : @len = LEN at *
 generalize hGD : @gd = GD at *
 generalize hA : std = A at *
 generalize hP : Try.prog = P at *
 cbv
 replace h := of_req h
 obtain ⟨c1, h⟩ := h
 refine ⟨⟨c1, trivial⟩, ?_⟩
 replace h := of_bind h
 obtain ⟨y8, hr9, hN10⟩ := h
 refine loop_cut hr9 (fun x => (sparse 38 [(2, .c (.ptr 128 0)), (3, .c (.ptr 192 0)), (9, .c (.bs (LEN a0) 4 (row GD (encRect) a0))), (10, .c (.v (.int .i64 (A.ofN (LEN a0))))), (11, .c (.v (.int .i64 x.1)))] [(128, .var [.v (.int .i64 0), .v (.int .i64 0), .v (.int .i64 0), .v (.int .i64 0)]), (192, .var [.v (.int .i64 x.2.1), .v (.int .i64 x.2.2.1), .v (.int .i64 x.2.2.2.1), .v (.int .i64 x.2.2.2.2)])])) ?_ (fun y e s => (fun (w : Int × Int × Int × Int) => e = .exit 0 ∧ s.le (sparse 38 [(2, .c (.ptr 128 0)), (3, .c (.ptr 192 0))] [(128, .var [.v (.int .i64 0), .v (.int .i64 0), .v (.int .i64 0), .v (.int .i64 0)]), (192, .var [.v (.int .i64 w.1), .v (.int .i64 w.2.1), .v (.int .i64 w.2.2.1), .v (.int .i64 w.2.2.2)])])) y) ?_ ?_
 ·clear hr9 hN10
  show St.le _ _
  exact le_sparse rfl ⟨lR _, lR _, lR _, lR _, lR _, trivial⟩ ⟨rfl, rfl, trivial⟩ rfl
 ·clear hr9 hN10
  intro x z14 h K12 hK13 hY11
  obtain ⟨x0_, x1_, x2_, x3_, x4_⟩ := x
  replace h := of_let h
  obtain ⟨v2, hv2, h⟩ := h
  have hv2 : v2 = x0_ := hv2
  subst hv2
  replace h := of_let h
  obtain ⟨v3, hv3, h⟩ := h
  have hv3 : v3 = x1_ := hv3
  subst hv3
  replace h := of_let h
  obtain ⟨v4, hv4, h⟩ := h
  have hv4 : v4 = x2_ := hv4
  subst hv4
  replace h := of_let h
  obtain ⟨v5, hv5, h⟩ := h
  have hv5 : v5 = x3_ := hv5
  subst hv5
  replace h := of_let h
  obtain ⟨v6, hv6, h⟩ := h
  have hv6 : v6 = x4_ := hv6
  subst hv6
  cbv
  refine fork (fun b20 => ?_) (fun b20 => ?_)
  ·replace h := of_br_t b20 h
   cbv
   replace h := of_req h
   obtain ⟨c19, h⟩ := h
   refine ⟨⟨c19, trivial⟩, ?_⟩
   injection h with h
   refine hK13 _ h.symm _ ?_
   exact le_sparse rfl ⟨lR _, lR _, lR _, lR _, lR _, trivial⟩ ⟨rfl, rfl, trivial⟩ rfl
  ·replace h := of_br_f b20 h
   cbv
   injection h with h
   refine hY11 _ h.symm _ _ (And.intro rfl ?_) (by intro hh; cases hh)
   exact le_sparse rfl ⟨lR _, lR _, trivial⟩ ⟨rfl, rfl, trivial⟩ rfl
 ·clear hr9
  have h := hN10
  clear hN10
  intro e17 s18 q16 hne
  replace h := of_let h
  obtain ⟨y8k0, hyk, h⟩ := h
  have hyk : y8k0 = y8 := hyk
  subst hyk
  obtain ⟨rfl, q16⟩ := q16
  obtain ⟨y8k0_0, y8k0_1, y8k0_2, y8k0_3⟩ := y8k0
  replace h := of_let h
  obtain ⟨w21, hw21, h⟩ := h
  have hw21 : w21 = y8k0_0 := hw21
  subst hw21
  replace h := of_let h
  obtain ⟨w22, hw22, h⟩ := h
  have hw22 : w22 = y8k0_1 := hw22
  subst hw22
  replace h := of_let h
  obtain ⟨w23, hw23, h⟩ := h
  have hw23 : w23 = y8k0_2 := hw23
  subst hw23
  replace h := of_let h
  obtain ⟨w24, hw24, h⟩ := h
  have hw24 : w24 = y8k0_3 := hw24
  subst hw24
  cbv
  refine ⟨_, q16, ?_⟩
  cbv
  injection h with h
  subst h
  refine ⟨(sparse 38 [(2, .c (.ptr 128 0))] [(128, .var [.v (.int .i64 w21), .v (.int .i64 w22), .v (.int .i64 w23), .v (.int .i64 w24)])]), ?_, ?_⟩
  ·exact le_sparse rfl ⟨lR _, trivial⟩ ⟨rfl, trivial⟩ rfl
  ·exact ⟨lR _, trivial, rfl⟩

noncomputable def L_impl_contentBoxes_x95 (y66 : (List Telement)) (w89 : Int) (v4 : List (List TRect)) (v68 : Int) : (Int × (List TRect)) → Option ((Int × (List TRect)) ⊕ (((List TRect)))) := fun x95 =>
 letO x95.1 fun v93 =>
 letO x95.2 fun v94 =>
 br (std.lt v93 w89)
 (((
    req (std.inR v93 (len (gd v4 (std.nadd 0 (std.toN (gd y66 (std.nadd 0 (std.toN v68))).gcell))))) <|
    some ((gd (gd v4 (std.nadd 0 (std.toN (gd y66 (std.nadd 0 (std.toN v68))).gcell))) (std.nadd 0 (std.toN v93))).fX0, (gd (gd v4 (std.nadd 0 (std.toN (gd y66 (std.nadd 0 (std.toN v68))).gcell))) (std.nadd 0 (std.toN v93))).fY0, (gd (gd v4 (std.nadd 0 (std.toN (gd y66 (std.nadd 0 (std.toN v68))).gcell))) (std.nadd 0 (std.toN v93))).fX1, (gd (gd v4 (std.nadd 0 (std.toN (gd y66 (std.nadd 0 (std.toN v68))).gcell))) (std.nadd 0 (std.toN v93))).fY1)
  ) : Option (Int × Int × Int × Int)).bind fun y107 =>
 letO y107.1 fun w113 =>
 letO y107.2.1 fun w114 =>
 letO y107.2.2.1 fun w115 =>
 letO y107.2.2.2 fun w116 =>
 ((
    (F_impl_moveRect (gd y66 (std.nadd 0 (std.toN v68))).gplace (TRect.mk w113 w114 w115 w116)).bind fun y125 =>
    letO ([y125] : List TRect) fun l127 =>
    req (std.room (std.nadd (len v94) (len l127)) 32) <|
    letO (v94 ++ l127) fun l129 =>
    some l129
  ) : Option ((List TRect))).bind fun y118 =>
 letO y118 fun w124 =>
 some (.inl (std.add .i64 v93 1, w124)))
 (some (.inr v94))
noncomputable def L_impl_contentBoxes_x70 (y66 : (List Telement)) (v4 : List (List TRect)) : (Int × (List TRect)) → Option ((Int × (List TRect)) ⊕ (((List TRect)))) := fun x70 =>
 letO x70.1 fun v68 =>
 letO x70.2 fun v69 =>
 br (std.lt v68 (std.ofN (len y66)))
 (req (std.inR v68 (len y66)) <|
 ((
    req (std.inR (gd y66 (std.nadd 0 (std.toN v68))).gcell (len v4)) <|
    some (std.ofN (len (gd v4 (std.nadd 0 (std.toN (gd y66 (std.nadd 0 (std.toN v68))).gcell)))), 0)
  ) : Option (Int × Int)).bind fun y83 =>
 letO y83.1 fun w89 =>
 letO y83.2 fun w90 =>
 req (std.inR (gd y66 (std.nadd 0 (std.toN v68))).gcell (len v4)) <|
 (whileP (σ := Int × (List TRect)) (ρ := ((List TRect))) (L_impl_contentBoxes_x95 y66 w89 v4 v68) (w90, v69)).bind fun y96 =>
 letO y96 fun y96k0 =>
 letO y96k0 fun w133 =>
 some (.inl (std.add .i64 v68 1, w133)))
 (some (.inr v69))
noncomputable def L_impl_contentBoxes_x44 (a0 : TLibrary) (v3 : Int) : (Int × (List TRect)) → Option ((Int × (List TRect)) ⊕ (((List TRect)))) := fun x44 =>
 letO x44.1 fun v42 =>
 letO x44.2 fun v43 =>
 br (std.lt v42 (std.ofN (len (gd a0.fCells (std.toN v3)).fLabels)))
 (req (std.inR v42 (len (gd a0.fCells (std.toN v3)).fLabels)) <|
 (F_impl_unitRect (gd (gd a0.fCells (std.toN v3)).fLabels (std.toN v42)).fAt).bind fun y57 =>
 letO ([y57] : List TRect) fun l59 =>
 req (std.room (std.nadd (len v43) (len l59)) 32) <|
 letO (v43 ++ l59) fun l61 =>
 some (.inl (std.add .i64 v42 1, l61)))
 (some (.inr v43))
noncomputable def L_impl_contentBoxes_x22 (a0 : TLibrary) (v3 : Int) : (Int × (List TRect)) → Option ((Int × (List TRect)) ⊕ (((List TRect)))) := fun x22 =>
 letO x22.1 fun v20 =>
 letO x22.2 fun v21 =>
 br (std.lt v20 (std.ofN (len (gd a0.fCells (std.toN v3)).fShapes)))
 (req (std.inR v20 (len (gd a0.fCells (std.toN v3)).fShapes)) <|
 letO ([(gd (gd a0.fCells (std.toN v3)).fShapes (std.toN v20)).fBox] : List TRect) fun l35 =>
 req (std.room (std.nadd (len v21) (len l35)) 32) <|
 letO (v21 ++ l35) fun l37 =>
 some (.inl (std.add .i64 v20 1, l37)))
 (some (.inr v21))
noncomputable def L_impl_contentBoxes_x5 (a0 : TLibrary) : (Int × (List (List TRect))) → Option ((Int × (List (List TRect))) ⊕ (((List (List TRect))))) := fun x5 =>
 letO x5.1 fun v3 =>
 letO x5.2 fun v4 =>
 br (std.lt v3 (std.ofN (len a0.fCells)))
 (req (std.inR v3 (len a0.fCells)) <|
 letO ([] : List TRect) fun l18 =>
 (whileP (σ := Int × (List TRect)) (ρ := ((List TRect))) (L_impl_contentBoxes_x22 a0 v3) (0, l18)).bind fun y23 =>
 letO y23 fun y23k0 =>
 letO y23k0 fun w41 =>
 (whileP (σ := Int × (List TRect)) (ρ := ((List TRect))) (L_impl_contentBoxes_x44 a0 v3) (0, w41)).bind fun y45 =>
 letO y45 fun y45k0 =>
 letO y45k0 fun w65 =>
 (F_impl_elements (gd a0.fCells (std.toN v3))).bind fun y66 =>
 (whileP (σ := Int × (List TRect)) (ρ := ((List TRect))) (L_impl_contentBoxes_x70 y66 v4) (0, w65)).bind fun y71 =>
 letO y71 fun y71k0 =>
 letO y71k0 fun w135 =>
 ((
    br (std.lt 0 (std.ofN (len w135)))
    ((F_impl_boxOf w135).bind fun y143 =>
    letO ([y143] : List TRect) fun l145 =>
    some l145)
    (some w135)
  ) : Option ((List TRect))).bind fun y136 =>
 letO y136 fun w142 =>
 ((
    letO ([w142] : List (List TRect)) fun l155 =>
    req (std.room (std.nadd (len v4) (len l155)) 24) <|
    letO (v4 ++ l155) fun l157 =>
    some l157
  ) : Option ((List (List TRect)))).bind fun y148 =>
 letO y148 fun w154 =>
 some (.inl (std.add .i64 v3 1, w154)))
 (some (.inr v4))
/-- impl.contentBoxes -/
noncomputable def F_impl_contentBoxes (a0 : TLibrary) : Option (List (List TRect)) :=
 letO ([] : List (List TRect)) fun l1 =>
 (whileP (σ := Int × (List (List TRect))) (ρ := ((List (List TRect)))) (L_impl_contentBoxes_x5 a0) (0, l1)).bind fun y6 =>
 letO y6 fun y6k0 =>
 letO y6k0 fun w161 =>
 some w161
theorem run_impl_contentBoxes (a0 : TLibrary) (r : List (List TRect)) (h : F_impl_contentBoxes a0 = some r) : Fun Try.prog 57 [.agg [.bs (len a0.fCells) 4 (row gd (encCell len gd) a0.fCells)]] [] (.c (.os 64000 0 (len r))) [(64000, .arr .rw [] (len r) 1 (row gd (oncL len gd 4 (encRect)) r))] true := by
 refine Fun.of_wp (oneOf [19, 21, 22, 27, 100079]) tok mixed Try.func57 (by kernel_rfl) rfl Try.ntmps57 rfl trivial (fun _ => ⟨trivial, ⟨fun i _ j _ => fl_oncL (vl_encRect) _ _, trivial⟩⟩) ?_
 unfold F_impl_contentBoxes at h
 unfold L_impl_contentBoxes_x5 at h
 unfold L_impl_contentBoxes_x22 at h
 unfold L_impl_contentBoxes_x44 at h
 unfold L_impl_contentBoxes_x70 at h
 unfold L_impl_contentBoxes_x95 at h
 have hf_impl_boxOf := @run_impl_boxOf
 have hf_impl_elements := @run_impl_elements
 have hf_impl_moveRect := @run_impl_moveRect
 have hf_impl_unitRect := @run_impl_unitRect
 generalize hLEN : @len = LEN at *
 generalize hGD : @gd = GD at *
 generalize hA : std = A at *
 generalize hP : Try.prog = P at *
 cbv
 replace h := of_let h
 obtain ⟨l1, hl1, h⟩ := h
 have e2 : 0 = LEN l1 := by subst hl1 hLEN; rfl
 refine ⟨_, congrArg (fun n => AV.c (AC.os 960 0 n)) e2, _, row GD (oncL LEN GD 4 (encRect)) l1, e2, ?_, ?_⟩
 ·intro i hi j hj
  rw [← e2] at hi
  subst hl1
  subst hGD
  omega
 cbv
 replace h := of_bind h
 obtain ⟨y6, hr7, hN8⟩ := h
 refine loop_cut hr7 (fun x => (sparse 89 [(3, .c (.os 960 0 (LEN x.2))), (17, .c (.bs (LEN a0.fCells) 4 (row GD (encCell LEN GD) a0.fCells))), (18, .c (.v (.int .i64 (A.ofN (LEN a0.fCells))))), (19, .c (.v (.int .i64 x.1)))] [(960, .arr .rw [] (LEN x.2) 1 (row GD (oncL LEN GD 4 (encRect)) x.2))])) ?_ (fun y e s => (fun (w : (List (List TRect))) => e = .exit 0 ∧ s.le (sparse 89 [(3, .c (.os 960 0 (LEN w)))] [(960, .arr .rw [] (LEN w) 1 (row GD (oncL LEN GD 4 (encRect)) w))])) y) ?_ ?_
 ·clear hr7 hN8
  show St.le _ _
  exact le_sparse rfl ⟨lR _, lR _, lR _, lR _, trivial⟩ ⟨oS, trivial⟩ rfl
 ·clear hr7 hN8
  intro x z12 h K10 hK11 hY9
  obtain ⟨x0_, x1_⟩ := x
  replace h := of_let h
  obtain ⟨v3, hv3, h⟩ := h
  have hv3 : v3 = x0_ := hv3
  subst hv3
  replace h := of_let h
  obtain ⟨v4, hv4, h⟩ := h
  have hv4 : v4 = x1_ := hv4
  subst hv4
  cbv
  refine fork (fun b160 => ?_) (fun b160 => ?_)
  ·replace h := of_br_t b160 h
   cbv
   replace h := of_req h
   obtain ⟨c17, h⟩ := h
   refine ⟨⟨c17, trivial⟩, ?_⟩
   replace h := of_let h
   obtain ⟨l18, hl18, h⟩ := h
   have e19 : 0 = LEN l18 := by subst hl18 hLEN; rfl
   refine ⟨_, congrArg (fun n => AV.c (AC.os 1472 0 n)) e19, _, row GD (encRect) l18, e19, ?_, ?_⟩
   ·intro i hi j hj
    rw [← e19] at hi
    subst hl18
    subst hGD
    omega
   cbv
   replace h := of_bind h
   obtain ⟨y23, hr24, hN25⟩ := h
   refine loop_cut hr24 (fun x => (sparse 89 [(3, .c (.os 960 0 (LEN v4))), (5, .c (.ptr 320 0)), (6, .c (.os 1472 0 (LEN x.2))), (17, .c (.bs (LEN a0.fCells) 4 (row GD (encCell LEN GD) a0.fCells))), (18, .c (.v (.int .i64 (A.ofN (LEN a0.fCells))))), (19, .c (.v (.int .i64 v3))), (25, .c (.bs (LEN (GD a0.fCells (A.toN v3)).fShapes) 5 (row GD (encShape) (GD a0.fCells (A.toN v3)).fShapes))), (26, .c (.v (.int .i64 (A.ofN (LEN (GD a0.fCells (A.toN v3)).fShapes))))), (27, .c (.v (.int .i64 x.1)))] [(960, .arr .rw [] (LEN v4) 1 (row GD (oncL LEN GD 4 (encRect)) v4)), (320, .var [.v (.string (GD a0.fCells (A.toN v3)).fName), .bs (LEN (GD a0.fCells (A.toN v3)).fShapes) 5 (row GD (encShape) (GD a0.fCells (A.toN v3)).fShapes), .bs (LEN (GD a0.fCells (A.toN v3)).fLabels) 4 (row GD (encLabel) (GD a0.fCells (A.toN v3)).fLabels), .bs (LEN (GD a0.fCells (A.toN v3)).fInstances) 8 (row GD (encInstance) (GD a0.fCells (A.toN v3)).fInstances)]), (1472, .arr .rw [] (LEN x.2) 4 (row GD (encRect) x.2))])) ?_ (fun y e s => (fun (w : (List TRect)) => e = .exit 2 ∧ s.le (sparse 89 [(3, .c (.os 960 0 (LEN v4))), (5, .c (.ptr 320 0)), (6, .c (.os 1472 0 (LEN w))), (17, .c (.bs (LEN a0.fCells) 4 (row GD (encCell LEN GD) a0.fCells))), (18, .c (.v (.int .i64 (A.ofN (LEN a0.fCells))))), (19, .c (.v (.int .i64 v3)))] [(960, .arr .rw [] (LEN v4) 1 (row GD (oncL LEN GD 4 (encRect)) v4)), (320, .var [.v (.string (GD a0.fCells (A.toN v3)).fName), .bs (LEN (GD a0.fCells (A.toN v3)).fShapes) 5 (row GD (encShape) (GD a0.fCells (A.toN v3)).fShapes), .bs (LEN (GD a0.fCells (A.toN v3)).fLabels) 4 (row GD (encLabel) (GD a0.fCells (A.toN v3)).fLabels), .bs (LEN (GD a0.fCells (A.toN v3)).fInstances) 8 (row GD (encInstance) (GD a0.fCells (A.toN v3)).fInstances)]), (1472, .arr .rw [] (LEN w) 4 (row GD (encRect) w))])) y) ?_ ?_
   ·clear hr24 hN25
    show St.le _ _
    exact le_sparse rfl ⟨lR _, lR _, lR _, lR _, lR _, lR _, lR _, lR _, lR _, trivial⟩ ⟨oS, rfl, oS, trivial⟩ rfl
   ·clear hr24 hN25
    intro x z29 h K27 hK28 hY26
    obtain ⟨x0_, x1_⟩ := x
    replace h := of_let h
    obtain ⟨v20, hv20, h⟩ := h
    have hv20 : v20 = x0_ := hv20
    subst hv20
    replace h := of_let h
    obtain ⟨v21, hv21, h⟩ := h
    have hv21 : v21 = x1_ := hv21
    subst hv21
    cbv
    refine fork (fun b40 => ?_) (fun b40 => ?_)
    ·replace h := of_br_t b40 h
     cbv
     replace h := of_req h
     obtain ⟨c34, h⟩ := h
     refine ⟨⟨c34, trivial⟩, ?_⟩
     replace h := of_let h
     obtain ⟨l35, hl35, h⟩ := h
     have e36 : 1 = LEN l35 := by subst hl35 hLEN; rfl
     refine ⟨_, congrArg (fun n => AV.c (AC.os 2176 0 n)) e36, _, row GD (encRect) l35, e36, ?_, ?_⟩
     ·intro i hi j hj
      rw [← e36] at hi
      subst hl35
      subst hGD
      obtain rfl : i = 0 := (by omega) <;> obtain rfl | rfl | rfl | rfl : j = 0 ∨ j = 1 ∨ j = 2 ∨ j = 3 := (by omega)
      all_goals rfl
     cbv
     replace h := of_req h
     obtain ⟨c39, h⟩ := h
     replace h := of_let h
     obtain ⟨l37, hl37, h⟩ := h
     have e38 : A.nadd (LEN v21) (LEN l35) = LEN l37 := by subst hl37 hLEN hA; simp [std, len]
     refine ⟨c39, _, congrArg (fun n => AV.c (AC.os 1472 0 n)) e38, _, row GD (encRect) l37, e38, ?_, ?_⟩
     ·subst hGD hLEN hA
      exact app_os (off := 0) (pl_encRect) hl37 (Nat.le_refl _)
     cbv
     injection h with h
     refine hK28 _ h.symm _ ?_
     exact le_sparse rfl ⟨lR _, lR _, lR _, lR _, lR _, lR _, lR _, lR _, lR _, trivial⟩ ⟨oS, rfl, oS, trivial⟩ rfl
    ·replace h := of_br_f b40 h
     cbv
     injection h with h
     refine hY26 _ h.symm _ _ (And.intro rfl ?_) (by intro hh; cases hh)
     exact le_sparse rfl ⟨lR _, lR _, lR _, lR _, lR _, lR _, trivial⟩ ⟨oS, rfl, oS, trivial⟩ rfl
   ·clear hr24
    have h := hN25
    clear hN25
    intro e32 s33 q31 hne
    replace h := of_let h
    obtain ⟨y23k0, hyk, h⟩ := h
    have hyk : y23k0 = y23 := hyk
    subst hyk
    obtain ⟨rfl, q31⟩ := q31
    replace h := of_let h
    obtain ⟨w41, hw41, h⟩ := h
    have hw41 : w41 = y23k0 := hw41
    subst hw41
    cbv
    refine ⟨_, q31, ?_⟩
    cbv
    replace h := of_bind h
    obtain ⟨y45, hr46, hN47⟩ := h
    refine loop_cut hr46 (fun x => (sparse 89 [(3, .c (.os 960 0 (LEN v4))), (5, .c (.ptr 320 0)), (6, .c (.os 1472 0 (LEN x.2))), (17, .c (.bs (LEN a0.fCells) 4 (row GD (encCell LEN GD) a0.fCells))), (18, .c (.v (.int .i64 (A.ofN (LEN a0.fCells))))), (19, .c (.v (.int .i64 v3))), (38, .c (.bs (LEN (GD a0.fCells (A.toN v3)).fLabels) 4 (row GD (encLabel) (GD a0.fCells (A.toN v3)).fLabels))), (39, .c (.v (.int .i64 (A.ofN (LEN (GD a0.fCells (A.toN v3)).fLabels))))), (40, .c (.v (.int .i64 x.1)))] [(960, .arr .rw [] (LEN v4) 1 (row GD (oncL LEN GD 4 (encRect)) v4)), (320, .var [.v (.string (GD a0.fCells (A.toN v3)).fName), .bs (LEN (GD a0.fCells (A.toN v3)).fShapes) 5 (row GD (encShape) (GD a0.fCells (A.toN v3)).fShapes), .bs (LEN (GD a0.fCells (A.toN v3)).fLabels) 4 (row GD (encLabel) (GD a0.fCells (A.toN v3)).fLabels), .bs (LEN (GD a0.fCells (A.toN v3)).fInstances) 8 (row GD (encInstance) (GD a0.fCells (A.toN v3)).fInstances)]), (1472, .arr .rw [] (LEN x.2) 4 (row GD (encRect) x.2))])) ?_ (fun y e s => (fun (w : (List TRect)) => e = .exit 4 ∧ s.le (sparse 89 [(3, .c (.os 960 0 (LEN v4))), (5, .c (.ptr 320 0)), (6, .c (.os 1472 0 (LEN w))), (17, .c (.bs (LEN a0.fCells) 4 (row GD (encCell LEN GD) a0.fCells))), (18, .c (.v (.int .i64 (A.ofN (LEN a0.fCells))))), (19, .c (.v (.int .i64 v3)))] [(960, .arr .rw [] (LEN v4) 1 (row GD (oncL LEN GD 4 (encRect)) v4)), (320, .var [.v (.string (GD a0.fCells (A.toN v3)).fName), .bs (LEN (GD a0.fCells (A.toN v3)).fShapes) 5 (row GD (encShape) (GD a0.fCells (A.toN v3)).fShapes), .bs (LEN (GD a0.fCells (A.toN v3)).fLabels) 4 (row GD (encLabel) (GD a0.fCells (A.toN v3)).fLabels), .bs (LEN (GD a0.fCells (A.toN v3)).fInstances) 8 (row GD (encInstance) (GD a0.fCells (A.toN v3)).fInstances)]), (1472, .arr .rw [] (LEN w) 4 (row GD (encRect) w))])) y) ?_ ?_
    ·clear hr46 hN47
     show St.le _ _
     exact le_sparse rfl ⟨lR _, lR _, lR _, lR _, lR _, lR _, lR _, lR _, lR _, trivial⟩ ⟨oS, rfl, oS, trivial⟩ rfl
    ·clear hr46 hN47
     intro x z51 h K49 hK50 hY48
     obtain ⟨x0_, x1_⟩ := x
     replace h := of_let h
     obtain ⟨v42, hv42, h⟩ := h
     have hv42 : v42 = x0_ := hv42
     subst hv42
     replace h := of_let h
     obtain ⟨v43, hv43, h⟩ := h
     have hv43 : v43 = x1_ := hv43
     subst hv43
     cbv
     refine fork (fun b64 => ?_) (fun b64 => ?_)
     ·replace h := of_br_t b64 h
      cbv
      replace h := of_req h
      obtain ⟨c56, h⟩ := h
      refine ⟨⟨c56, trivial⟩, ?_⟩
      replace h := of_bind h
      obtain ⟨y57, hy58, h⟩ := h
      refine ⟨{ args := [.agg [.v (.int .i64 (GD (GD a0.fCells (A.toN v3)).fLabels (A.toN v42)).fAt.fX), .v (.int .i64 (GD (GD a0.fCells (A.toN v3)).fLabels (A.toN v42)).fAt.fY)]], o0 := [], r := .agg [.v (.int .i64 y57.fX0), .v (.int .i64 y57.fY0), .v (.int .i64 y57.fX1), .v (.int .i64 y57.fY1)], o1 := [], fl := true, σ := [], τ := [] }, hf_impl_unitRect _ _ hy58, ⟨les_cons (lR _) (les_nil), trivial, rfl, rfl, rfl, rfl, trivial, rfl⟩, ?_⟩
      cbv
      replace h := of_let h
      obtain ⟨l59, hl59, h⟩ := h
      have e60 : 1 = LEN l59 := by subst hl59 hLEN; rfl
      refine ⟨_, congrArg (fun n => AV.c (AC.os 3072 0 n)) e60, _, row GD (encRect) l59, e60, ?_, ?_⟩
      ·intro i hi j hj
       rw [← e60] at hi
       subst hl59
       subst hGD
       obtain rfl : i = 0 := (by omega) <;> obtain rfl | rfl | rfl | rfl : j = 0 ∨ j = 1 ∨ j = 2 ∨ j = 3 := (by omega)
       all_goals rfl
      cbv
      replace h := of_req h
      obtain ⟨c63, h⟩ := h
      replace h := of_let h
      obtain ⟨l61, hl61, h⟩ := h
      have e62 : A.nadd (LEN v43) (LEN l59) = LEN l61 := by subst hl61 hLEN hA; simp [std, len]
      refine ⟨c63, _, congrArg (fun n => AV.c (AC.os 1472 0 n)) e62, _, row GD (encRect) l61, e62, ?_, ?_⟩
      ·subst hGD hLEN hA
       exact app_os (off := 0) (pl_encRect) hl61 (Nat.le_refl _)
      cbv
      injection h with h
      refine hK50 _ h.symm _ ?_
      exact le_sparse rfl ⟨lR _, lR _, lR _, lR _, lR _, lR _, lR _, lR _, lR _, trivial⟩ ⟨oS, rfl, oS, trivial⟩ rfl
     ·replace h := of_br_f b64 h
      cbv
      injection h with h
      refine hY48 _ h.symm _ _ (And.intro rfl ?_) (by intro hh; cases hh)
      exact le_sparse rfl ⟨lR _, lR _, lR _, lR _, lR _, lR _, trivial⟩ ⟨oS, rfl, oS, trivial⟩ rfl
    ·clear hr46
     have h := hN47
     clear hN47
     intro e54 s55 q53 hne
     replace h := of_let h
     obtain ⟨y45k0, hyk, h⟩ := h
     have hyk : y45k0 = y45 := hyk
     subst hyk
     obtain ⟨rfl, q53⟩ := q53
     replace h := of_let h
     obtain ⟨w65, hw65, h⟩ := h
     have hw65 : w65 = y45k0 := hw65
     subst hw65
     cbv
     refine ⟨_, q53, ?_⟩
     cbv
     replace h := of_bind h
     obtain ⟨y66, hy67, h⟩ := h
     refine ⟨{ args := [.agg [.v (.string (GD a0.fCells (A.toN v3)).fName), .bs (LEN (GD a0.fCells (A.toN v3)).fShapes) 5 (row GD (encShape) (GD a0.fCells (A.toN v3)).fShapes), .bs (LEN (GD a0.fCells (A.toN v3)).fLabels) 4 (row GD (encLabel) (GD a0.fCells (A.toN v3)).fLabels), .bs (LEN (GD a0.fCells (A.toN v3)).fInstances) 8 (row GD (encInstance) (GD a0.fCells (A.toN v3)).fInstances)]], o0 := [], r := .c (.os 64000 0 (LEN y66)), o1 := [(64000, .arr .rw [] (LEN y66) 4 (row GD (encelement) y66))], fl := true, σ := [], τ := [(64000, 3328)] }, hf_impl_elements _ _ hy67, ⟨les_cons (lR _) (les_nil), trivial, rfl, rfl, rfl, rfl, ⟨fun h => absurd (show (64000 : Nat) % 2 = 1 from h) (by decide), trivial⟩, rfl⟩, _, rfl, _, _, rfl, fun _ _ _ _ => rfl, ?_⟩
     cbv
     replace h := of_bind h
     obtain ⟨y71, hr72, hN73⟩ := h
     refine loop_cut hr72 (fun x => (sparse 89 [(3, .c (.os 960 0 (LEN v4))), (6, .c (.os 1472 0 (LEN x.2))), (17, .c (.bs (LEN a0.fCells) 4 (row GD (encCell LEN GD) a0.fCells))), (18, .c (.v (.int .i64 (A.ofN (LEN a0.fCells))))), (19, .c (.v (.int .i64 v3))), (52, .c (.os 3328 0 (LEN y66))), (53, .c (.v (.int .i64 (A.ofN (LEN y66))))), (54, .c (.v (.int .i64 x.1)))] [(960, .arr .rw [] (LEN v4) 1 (row GD (oncL LEN GD 4 (encRect)) v4)), (1472, .arr .rw [] (LEN x.2) 4 (row GD (encRect) x.2)), (3328, .arr .rw [] (LEN y66) 4 (row GD (encelement) y66))])) ?_ (fun y e s => (fun (w : (List TRect)) => e = .exit 6 ∧ s.le (sparse 89 [(3, .c (.os 960 0 (LEN v4))), (6, .c (.os 1472 0 (LEN w))), (17, .c (.bs (LEN a0.fCells) 4 (row GD (encCell LEN GD) a0.fCells))), (18, .c (.v (.int .i64 (A.ofN (LEN a0.fCells))))), (19, .c (.v (.int .i64 v3)))] [(960, .arr .rw [] (LEN v4) 1 (row GD (oncL LEN GD 4 (encRect)) v4)), (1472, .arr .rw [] (LEN w) 4 (row GD (encRect) w))])) y) ?_ ?_
     ·clear hr72 hN73
      show St.le _ _
      exact le_sparse rfl ⟨lR _, lR _, lR _, lR _, lR _, lR _, lR _, lR _, trivial⟩ ⟨oS, oS, oS, trivial⟩ rfl
     ·clear hr72 hN73
      intro x z77 h K75 hK76 hY74
      obtain ⟨x0_, x1_⟩ := x
      replace h := of_let h
      obtain ⟨v68, hv68, h⟩ := h
      have hv68 : v68 = x0_ := hv68
      subst hv68
      replace h := of_let h
      obtain ⟨v69, hv69, h⟩ := h
      have hv69 : v69 = x1_ := hv69
      subst hv69
      cbv
      refine fork (fun b134 => ?_) (fun b134 => ?_)
      ·replace h := of_br_t b134 h
       cbv
       replace h := of_req h
       obtain ⟨c82, h⟩ := h
       refine ⟨⟨c82, trivial⟩, ?_⟩
       refine And.intro (by first | exact (by subst hA; exact idx_lt c82) | (refine And.intro (by subst hA; exact idx_lt c82) ?_; first | trivial | exact ⟨trivial, trivial⟩)) ?_
       replace h := of_bind h
       obtain ⟨y83, hy84, h⟩ := h
       obtain ⟨S87, hS88⟩ : ∃ S, S = (sparse 89 [(3, .c (.os 960 0 (LEN v4))), (6, .c (.os 1472 0 (LEN v69))), (12, .c (.ptr 768 0)), (17, .c (.bs (LEN a0.fCells) 4 (row GD (encCell LEN GD) a0.fCells))), (18, .c (.v (.int .i64 (A.ofN (LEN a0.fCells))))), (19, .c (.v (.int .i64 v3))), (52, .c (.os 3328 0 (LEN y66))), (53, .c (.v (.int .i64 (A.ofN (LEN y66))))), (54, .c (.v (.int .i64 v68))), (62, .c (.os 3970 0 (LEN (GD v4 (A.nadd 0 (A.toN (GD y66 (A.nadd 0 (A.toN v68))).gcell)))))), (63, .c (.v (.int .i64 y83.1))), (64, .c (.v (.int .i64 y83.2)))] [(960, .arr .rw [3970] (LEN v4) 1 (patchC (row GD (oncL LEN GD 4 (encRect)) v4) (A.nadd 0 (A.toN (GD y66 (A.nadd 0 (A.toN v68))).gcell)) [.os 3970 0 (LEN (GD v4 (A.nadd 0 (A.toN (GD y66 (A.nadd 0 (A.toN v68))).gcell))))])), (1472, .arr .rw [] (LEN v69) 4 (row GD (encRect) v69)), (768, .var [.v (.int .i64 (GD y66 (A.nadd 0 (A.toN v68))).gcell), .v (.int .i64 (GD y66 (A.nadd 0 (A.toN v68))).gplace.fOrientation), .v (.int .i64 (GD y66 (A.nadd 0 (A.toN v68))).gplace.fX), .v (.int .i64 (GD y66 (A.nadd 0 (A.toN v68))).gplace.fY)]), (3328, .arr .rw [] (LEN y66) 4 (row GD (encelement) y66)), (3970, .arr .rw [] (LEN (GD v4 (A.nadd 0 (A.toN (GD y66 (A.nadd 0 (A.toN v68))).gcell)))) 4 (row GD (encRect) (GD v4 (A.nadd 0 (A.toN (GD y66 (A.nadd 0 (A.toN v68))).gcell)))))]) := ⟨_, rfl⟩
       refine ⟨S87, ?_, ?_⟩
       ·clear h
        have h := hy84
        clear hy84
        cbv
        replace h := of_req h
        obtain ⟨c91, h⟩ := h
        refine ⟨⟨c91, trivial⟩, ?_⟩
        refine And.intro (by first | exact (by subst hA; exact idx_lt c91) | (refine And.intro (by subst hA; exact idx_lt c91) ?_; first | trivial | exact ⟨trivial, trivial⟩)) ?_
        refine ⟨_, rfl, _, (patchC (row GD (oncL LEN GD 4 (encRect)) v4) (A.nadd 0 (A.toN (GD y66 (A.nadd 0 (A.toN v68))).gcell)) [.os 3970 0 (LEN (GD v4 (A.nadd 0 (A.toN (GD y66 (A.nadd 0 (A.toN v68))).gcell))))]), rfl, ?_, ?_⟩
        ·refine patch_of ?_
         intro j hj
         match j, hj with | 0, _ => (rfl) | (j_ + 1), h_ => exact absurd h_ (by omega)
        refine ⟨_, row GD (encRect) (GD v4 (A.nadd 0 (A.toN (GD y66 (A.nadd 0 (A.toN v68))).gcell))), rfl, ?_, ?_⟩
        ·exact fun i _ j _ => plain_cp (pl_encRect _ _)
        cbv
        injection h with h
        subst h
        subst hS88
        show St.le _ _
        exact le_sparse rfl ⟨lR _, lR _, lR _, lR _, lR _, lR _, lR _, lR _, lR _, lR _, lR _, lR _, trivial⟩ ⟨oS, oS, rfl, oS, oS, trivial⟩ rfl
       ·clear hy84
        subst hS88
        obtain ⟨y83_0, y83_1⟩ := y83
        replace h := of_let h
        obtain ⟨w89, hw89, h⟩ := h
        have hw89 : w89 = y83_0 := hw89
        subst hw89
        replace h := of_let h
        obtain ⟨w90, hw90, h⟩ := h
        have hw90 : w90 = y83_1 := hw90
        subst hw90
        replace h := of_req h
        obtain ⟨c92, h⟩ := h
        cbv
        replace h := of_bind h
        obtain ⟨y96, hr97, hN98⟩ := h
        refine loop_cut hr97 (fun x => (sparse 89 [(3, .c (.os 960 0 (LEN v4))), (6, .c (.os 1472 0 (LEN x.2))), (12, .c (.ptr 768 0)), (17, .c (.bs (LEN a0.fCells) 4 (row GD (encCell LEN GD) a0.fCells))), (18, .c (.v (.int .i64 (A.ofN (LEN a0.fCells))))), (19, .c (.v (.int .i64 v3))), (52, .c (.os 3328 0 (LEN y66))), (53, .c (.v (.int .i64 (A.ofN (LEN y66))))), (54, .c (.v (.int .i64 v68))), (62, .c (.os 3970 0 (LEN (GD v4 (A.nadd 0 (A.toN (GD y66 (A.nadd 0 (A.toN v68))).gcell)))))), (63, .c (.v (.int .i64 w89))), (64, .c (.v (.int .i64 x.1)))] [(960, .arr .rw [3970] (LEN v4) 1 (patchC (row GD (oncL LEN GD 4 (encRect)) v4) (A.nadd 0 (A.toN (GD y66 (A.nadd 0 (A.toN v68))).gcell)) [.os 3970 0 (LEN (GD v4 (A.nadd 0 (A.toN (GD y66 (A.nadd 0 (A.toN v68))).gcell))))])), (1472, .arr .rw [] (LEN x.2) 4 (row GD (encRect) x.2)), (768, .var [.v (.int .i64 (GD y66 (A.nadd 0 (A.toN v68))).gcell), .v (.int .i64 (GD y66 (A.nadd 0 (A.toN v68))).gplace.fOrientation), .v (.int .i64 (GD y66 (A.nadd 0 (A.toN v68))).gplace.fX), .v (.int .i64 (GD y66 (A.nadd 0 (A.toN v68))).gplace.fY)]), (3328, .arr .rw [] (LEN y66) 4 (row GD (encelement) y66)), (3970, .arr .rw [] (LEN (GD v4 (A.nadd 0 (A.toN (GD y66 (A.nadd 0 (A.toN v68))).gcell)))) 4 (row GD (encRect) (GD v4 (A.nadd 0 (A.toN (GD y66 (A.nadd 0 (A.toN v68))).gcell)))))])) ?_ (fun y e s => (fun (w : (List TRect)) => e = .exit 8 ∧ s.le (sparse 89 [(3, .c (.os 960 0 (LEN v4))), (6, .c (.os 1472 0 (LEN w))), (17, .c (.bs (LEN a0.fCells) 4 (row GD (encCell LEN GD) a0.fCells))), (18, .c (.v (.int .i64 (A.ofN (LEN a0.fCells))))), (19, .c (.v (.int .i64 v3))), (52, .c (.os 3328 0 (LEN y66))), (53, .c (.v (.int .i64 (A.ofN (LEN y66))))), (54, .c (.v (.int .i64 v68)))] [(960, .arr .rw [] (LEN v4) 1 (row GD (oncL LEN GD 4 (encRect)) v4)), (1472, .arr .rw [] (LEN w) 4 (row GD (encRect) w)), (3328, .arr .rw [] (LEN y66) 4 (row GD (encelement) y66))])) y) ?_ ?_
        ·clear hr97 hN98
         show St.le _ _
         exact le_sparse rfl ⟨lR _, lR _, lR _, lR _, lR _, lR _, lR _, lR _, lR _, lR _, lR _, lR _, trivial⟩ ⟨oS, oS, rfl, oS, oS, trivial⟩ rfl
        ·clear hr97 hN98
         intro x z102 h K100 hK101 hY99
         obtain ⟨x0_, x1_⟩ := x
         replace h := of_let h
         obtain ⟨v93, hv93, h⟩ := h
         have hv93 : v93 = x0_ := hv93
         subst hv93
         replace h := of_let h
         obtain ⟨v94, hv94, h⟩ := h
         have hv94 : v94 = x1_ := hv94
         subst hv94
         cbv
         refine fork (fun b132 => ?_) (fun b132 => ?_)
         ·replace h := of_br_t b132 h
          cbv
          replace h := of_bind h
          obtain ⟨y107, hy108, h⟩ := h
          obtain ⟨S111, hS112⟩ : ∃ S, S = (sparse 89 [(3, .c (.os 960 0 (LEN v4))), (6, .c (.os 1472 0 (LEN v94))), (12, .c (.ptr 768 0)), (14, .c (.ptr 896 0)), (17, .c (.bs (LEN a0.fCells) 4 (row GD (encCell LEN GD) a0.fCells))), (18, .c (.v (.int .i64 (A.ofN (LEN a0.fCells))))), (19, .c (.v (.int .i64 v3))), (52, .c (.os 3328 0 (LEN y66))), (53, .c (.v (.int .i64 (A.ofN (LEN y66))))), (54, .c (.v (.int .i64 v68))), (62, .c (.os 3970 0 (LEN (GD v4 (A.nadd 0 (A.toN (GD y66 (A.nadd 0 (A.toN v68))).gcell)))))), (63, .c (.v (.int .i64 w89))), (64, .c (.v (.int .i64 v93)))] [(960, .arr .rw [3970] (LEN v4) 1 (patchC (row GD (oncL LEN GD 4 (encRect)) v4) (A.nadd 0 (A.toN (GD y66 (A.nadd 0 (A.toN v68))).gcell)) [.os 3970 0 (LEN (GD v4 (A.nadd 0 (A.toN (GD y66 (A.nadd 0 (A.toN v68))).gcell))))])), (1472, .arr .rw [] (LEN v94) 4 (row GD (encRect) v94)), (768, .var [.v (.int .i64 (GD y66 (A.nadd 0 (A.toN v68))).gcell), .v (.int .i64 (GD y66 (A.nadd 0 (A.toN v68))).gplace.fOrientation), .v (.int .i64 (GD y66 (A.nadd 0 (A.toN v68))).gplace.fX), .v (.int .i64 (GD y66 (A.nadd 0 (A.toN v68))).gplace.fY)]), (896, .var [.v (.int .i64 y107.1), .v (.int .i64 y107.2.1), .v (.int .i64 y107.2.2.1), .v (.int .i64 y107.2.2.2)]), (3328, .arr .rw [] (LEN y66) 4 (row GD (encelement) y66)), (3970, .arr .rw [] (LEN (GD v4 (A.nadd 0 (A.toN (GD y66 (A.nadd 0 (A.toN v68))).gcell)))) 4 (row GD (encRect) (GD v4 (A.nadd 0 (A.toN (GD y66 (A.nadd 0 (A.toN v68))).gcell)))))]) := ⟨_, rfl⟩
          refine ⟨S111, ?_, ?_⟩
          ·clear h
           have h := hy108
           clear hy108
           cbv
           replace h := of_req h
           obtain ⟨c117, h⟩ := h
           refine ⟨⟨c117, trivial⟩, ?_⟩
           refine And.intro (by first | exact (by subst hA; exact idx_lt c117) | (refine And.intro (by subst hA; exact idx_lt c117) ?_; first | trivial | exact ⟨trivial, trivial⟩)) ?_
           injection h with h
           subst h
           subst hS112
           show St.le _ _
           exact le_sparse rfl ⟨lR _, lR _, lR _, lR _, lR _, lR _, lR _, lR _, lR _, lR _, lR _, lR _, lR _, trivial⟩ ⟨oS, oS, rfl, rfl, oS, oS, trivial⟩ rfl
          ·clear hy108
           subst hS112
           obtain ⟨y107_0, y107_1, y107_2, y107_3⟩ := y107
           replace h := of_let h
           obtain ⟨w113, hw113, h⟩ := h
           have hw113 : w113 = y107_0 := hw113
           subst hw113
           replace h := of_let h
           obtain ⟨w114, hw114, h⟩ := h
           have hw114 : w114 = y107_1 := hw114
           subst hw114
           replace h := of_let h
           obtain ⟨w115, hw115, h⟩ := h
           have hw115 : w115 = y107_2 := hw115
           subst hw115
           replace h := of_let h
           obtain ⟨w116, hw116, h⟩ := h
           have hw116 : w116 = y107_3 := hw116
           subst hw116
           cbv
           replace h := of_bind h
           obtain ⟨y118, hy119, h⟩ := h
           obtain ⟨S122, hS123⟩ : ∃ S, S = (sparse 89 [(3, .c (.os 960 0 (LEN v4))), (6, .c (.os 1472 0 (LEN y118))), (12, .c (.ptr 768 0)), (17, .c (.bs (LEN a0.fCells) 4 (row GD (encCell LEN GD) a0.fCells))), (18, .c (.v (.int .i64 (A.ofN (LEN a0.fCells))))), (19, .c (.v (.int .i64 v3))), (52, .c (.os 3328 0 (LEN y66))), (53, .c (.v (.int .i64 (A.ofN (LEN y66))))), (54, .c (.v (.int .i64 v68))), (62, .c (.os 3970 0 (LEN (GD v4 (A.nadd 0 (A.toN (GD y66 (A.nadd 0 (A.toN v68))).gcell)))))), (63, .c (.v (.int .i64 w89))), (64, .c (.v (.int .i64 v93)))] [(960, .arr .rw [3970] (LEN v4) 1 (patchC (row GD (oncL LEN GD 4 (encRect)) v4) (A.nadd 0 (A.toN (GD y66 (A.nadd 0 (A.toN v68))).gcell)) [.os 3970 0 (LEN (GD v4 (A.nadd 0 (A.toN (GD y66 (A.nadd 0 (A.toN v68))).gcell))))])), (1472, .arr .rw [] (LEN y118) 4 (row GD (encRect) y118)), (768, .var [.v (.int .i64 (GD y66 (A.nadd 0 (A.toN v68))).gcell), .v (.int .i64 (GD y66 (A.nadd 0 (A.toN v68))).gplace.fOrientation), .v (.int .i64 (GD y66 (A.nadd 0 (A.toN v68))).gplace.fX), .v (.int .i64 (GD y66 (A.nadd 0 (A.toN v68))).gplace.fY)]), (3328, .arr .rw [] (LEN y66) 4 (row GD (encelement) y66)), (3970, .arr .rw [] (LEN (GD v4 (A.nadd 0 (A.toN (GD y66 (A.nadd 0 (A.toN v68))).gcell)))) 4 (row GD (encRect) (GD v4 (A.nadd 0 (A.toN (GD y66 (A.nadd 0 (A.toN v68))).gcell)))))]) := ⟨_, rfl⟩
           refine ⟨S122, ?_, ?_⟩
           ·clear h
            have h := hy119
            clear hy119
            cbv
            replace h := of_bind h
            obtain ⟨y125, hy126, h⟩ := h
            refine ⟨{ args := [.agg [.v (.int .i64 (GD y66 (A.nadd 0 (A.toN v68))).gplace.fOrientation), .v (.int .i64 (GD y66 (A.nadd 0 (A.toN v68))).gplace.fX), .v (.int .i64 (GD y66 (A.nadd 0 (A.toN v68))).gplace.fY)], .agg [.v (.int .i64 w113), .v (.int .i64 w114), .v (.int .i64 w115), .v (.int .i64 w116)]], o0 := [], r := .agg [.v (.int .i64 y125.fX0), .v (.int .i64 y125.fY0), .v (.int .i64 y125.fX1), .v (.int .i64 y125.fY1)], o1 := [], fl := true, σ := [], τ := [] }, hf_impl_moveRect _ _ _ hy126, ⟨les_cons (lR _) (les_cons (lR _) (les_nil)), trivial, rfl, rfl, rfl, rfl, trivial, rfl⟩, ?_⟩
            cbv
            replace h := of_let h
            obtain ⟨l127, hl127, h⟩ := h
            have e128 : 1 = LEN l127 := by subst hl127 hLEN; rfl
            refine ⟨_, congrArg (fun n => AV.c (AC.os 4672 0 n)) e128, _, row GD (encRect) l127, e128, ?_, ?_⟩
            ·intro i hi j hj
             rw [← e128] at hi
             subst hl127
             subst hGD
             obtain rfl : i = 0 := (by omega) <;> obtain rfl | rfl | rfl | rfl : j = 0 ∨ j = 1 ∨ j = 2 ∨ j = 3 := (by omega)
             all_goals rfl
            cbv
            replace h := of_req h
            obtain ⟨c131, h⟩ := h
            replace h := of_let h
            obtain ⟨l129, hl129, h⟩ := h
            have e130 : A.nadd (LEN v94) (LEN l127) = LEN l129 := by subst hl129 hLEN hA; simp [std, len]
            refine ⟨c131, _, congrArg (fun n => AV.c (AC.os 1472 0 n)) e130, _, row GD (encRect) l129, e130, ?_, ?_⟩
            ·subst hGD hLEN hA
             exact app_os (off := 0) (pl_encRect) hl129 (Nat.le_refl _)
            cbv
            injection h with h
            subst h
            subst hS123
            show St.le _ _
            exact le_sparse rfl ⟨lR _, lR _, lR _, lR _, lR _, lR _, lR _, lR _, lR _, lR _, lR _, lR _, trivial⟩ ⟨oS, oS, rfl, oS, oS, trivial⟩ rfl
           ·clear hy119
            subst hS123
            replace h := of_let h
            obtain ⟨w124, hw124, h⟩ := h
            have hw124 : w124 = y118 := hw124
            subst hw124
            cbv
            injection h with h
            refine hK101 _ h.symm _ ?_
            exact le_sparse rfl ⟨lR _, lR _, lR _, lR _, lR _, lR _, lR _, lR _, lR _, lR _, lR _, lR _, trivial⟩ ⟨oS, oS, rfl, oS, oS, trivial⟩ rfl
         ·replace h := of_br_f b132 h
          cbv
          injection h with h
          refine hY99 _ h.symm _ _ (And.intro rfl ?_) (by intro hh; cases hh)
          refine St.le_trans (le_foldP 960 0 3970 rfl rfl rfl (by decide) (by subst hA; exact idx_lt c92) (by decide) rfl (fun _ _ => rfl)) ?_
          exact le_sparse rfl ⟨lR _, lR _, lR _, lR _, lR _, lR _, lR _, lR _, trivial⟩ ⟨⟨fun hw => hw, fun c hc => (by cases hc), .inr (fun i _ j _ z hz => (noref (rfl) hz).elim), rfl, rfl, (by subst hGD hLEN hA; exact patch_same (by intro j hj; match j, hj with | 0, _ => rfl | (j_ + 1), h_ => exact absurd h_ (by omega)))⟩, oS, oS, trivial⟩ rfl
        ·clear hr97
         have h := hN98
         clear hN98
         intro e105 s106 q104 hne
         replace h := of_let h
         obtain ⟨y96k0, hyk, h⟩ := h
         have hyk : y96k0 = y96 := hyk
         subst hyk
         obtain ⟨rfl, q104⟩ := q104
         replace h := of_let h
         obtain ⟨w133, hw133, h⟩ := h
         have hw133 : w133 = y96k0 := hw133
         subst hw133
         cbv
         refine ⟨_, q104, ?_⟩
         cbv
         injection h with h
         refine hK76 _ h.symm _ ?_
         exact le_sparse rfl ⟨lR _, lR _, lR _, lR _, lR _, lR _, lR _, lR _, trivial⟩ ⟨oS, oS, oS, trivial⟩ rfl
      ·replace h := of_br_f b134 h
       cbv
       injection h with h
       refine hY74 _ h.symm _ _ (And.intro rfl ?_) (by intro hh; cases hh)
       exact le_sparse rfl ⟨lR _, lR _, lR _, lR _, lR _, trivial⟩ ⟨oS, oS, trivial⟩ rfl
     ·clear hr72
      have h := hN73
      clear hN73
      intro e80 s81 q79 hne
      replace h := of_let h
      obtain ⟨y71k0, hyk, h⟩ := h
      have hyk : y71k0 = y71 := hyk
      subst hyk
      obtain ⟨rfl, q79⟩ := q79
      replace h := of_let h
      obtain ⟨w135, hw135, h⟩ := h
      have hw135 : w135 = y71k0 := hw135
      subst hw135
      cbv
      refine ⟨_, q79, ?_⟩
      cbv
      replace h := of_bind h
      obtain ⟨y136, hy137, h⟩ := h
      obtain ⟨S140, hS141⟩ : ∃ S, S = some (sparse 89 [(3, .c (.os 960 0 (LEN v4))), (6, .c (.os 5248 0 (LEN y136))), (17, .c (.bs (LEN a0.fCells) 4 (row GD (encCell LEN GD) a0.fCells))), (18, .c (.v (.int .i64 (A.ofN (LEN a0.fCells))))), (19, .c (.v (.int .i64 v3)))] [(960, .arr .rw [] (LEN v4) 1 (row GD (oncL LEN GD 4 (encRect)) v4)), (5248, .arr .rw [] (LEN y136) 4 (row GD (encRect) y136))]) := ⟨_, rfl⟩
      refine ⟨S140, ?_, ?_⟩
      ·clear h
       have h := hy137
       clear hy137
       cbv
       refine fork (fun b147 => ?_) (fun b147 => ?_)
       ·replace h := of_br_t b147 h
        cbv
        replace h := of_bind h
        obtain ⟨y143, hy144, h⟩ := h
        refine ⟨{ args := [.c (.bs (LEN w135) 4 (row GD (encRect) w135))], o0 := [], r := .agg [.v (.int .i64 y143.fX0), .v (.int .i64 y143.fY0), .v (.int .i64 y143.fX1), .v (.int .i64 y143.fY1)], o1 := [], fl := true, σ := [], τ := [] }, hf_impl_boxOf _ _ hy144, ⟨les_cons (give_os (pl_encRect) rfl rfl rfl) (les_nil), trivial, rfl, rfl, rfl, rfl, trivial, rfl⟩, ?_⟩
        cbv
        replace h := of_let h
        obtain ⟨l145, hl145, h⟩ := h
        have e146 : 1 = LEN l145 := by subst hl145 hLEN; rfl
        refine ⟨_, congrArg (fun n => AV.c (AC.os 5248 0 n)) e146, _, row GD (encRect) l145, e146, ?_, ?_⟩
        ·intro i hi j hj
         rw [← e146] at hi
         subst hl145
         subst hGD
         obtain rfl : i = 0 := (by omega) <;> obtain rfl | rfl | rfl | rfl : j = 0 ∨ j = 1 ∨ j = 2 ∨ j = 3 := (by omega)
         all_goals rfl
        cbv
        injection h with h
        subst h
        subst hS141
        show St.le _ _
        exact le_sparse rfl ⟨lR _, lR _, lR _, lR _, lR _, trivial⟩ ⟨oS, oS, trivial⟩ rfl
       ·replace h := of_br_f b147 h
        cbv
        injection h with h
        subst h
        subst hS141
        show St.le _ _
        refine St.le_trans (le_ren 1472 5248 (by decide) rfl) ?_
        exact le_sparse rfl ⟨lR _, lR _, lR _, lR _, lR _, trivial⟩ ⟨oS, oS, trivial⟩ rfl
      ·clear hy137
       subst hS141
       replace h := of_let h
       obtain ⟨w142, hw142, h⟩ := h
       have hw142 : w142 = y136 := hw142
       subst hw142
       cbv
       replace h := of_bind h
       obtain ⟨y148, hy149, h⟩ := h
       obtain ⟨S152, hS153⟩ : ∃ S, S = (sparse 89 [(3, .c (.os 960 0 (LEN y148))), (17, .c (.bs (LEN a0.fCells) 4 (row GD (encCell LEN GD) a0.fCells))), (18, .c (.v (.int .i64 (A.ofN (LEN a0.fCells))))), (19, .c (.v (.int .i64 v3)))] [(960, .arr .rw [] (LEN y148) 1 (row GD (oncL LEN GD 4 (encRect)) y148))]) := ⟨_, rfl⟩
       refine ⟨S152, ?_, ?_⟩
       ·clear h
        have h := hy149
        clear hy149
        cbv
        replace h := of_let h
        obtain ⟨l155, hl155, h⟩ := h
        have e156 : 1 = LEN l155 := by subst hl155 hLEN; rfl
        refine ⟨_, congrArg (fun n => AV.c (AC.os 5440 0 n)) e156, _, (patchC (row GD (oncL LEN GD 4 (encRect)) ([] : List (List TRect))) 0 [.os 5248 0 (LEN w142)]), e156, ?_, ?_⟩
        ·refine patch_one (by subst hl155 hLEN; rfl) ?_
         intro j hj
         match j, hj with | 0, _ => (rfl) | (j_ + 1), h_ => exact absurd h_ (by omega)
        cbv
        replace h := of_req h
        obtain ⟨c159, h⟩ := h
        replace h := of_let h
        obtain ⟨l157, hl157, h⟩ := h
        have e158 : A.nadd (LEN v4) (LEN l155) = LEN l157 := by subst hl157 hLEN hA; simp [std, len]
        refine ⟨c159, _, congrArg (fun n => AV.c (AC.os 960 0 n)) e158, _, (patchC (row GD (oncL LEN GD 4 (encRect)) v4) (LEN v4) [.os 5248 0 (LEN w142)]), e158, ?_, ?_⟩
        ·subst hLEN hA
         refine patch_joinG (by first | (rw [hl157]; simp [len]; done) | (rw [hl157]; simp [len]; omega) | (subst_vars; simp [len])) ?_
         intro j hj
         match j, hj with | 0, _ => (rfl) | (j_ + 1), h_ => exact absurd h_ (by omega)
        cbv
        rw [hl155] at hl157
        injection h with h
        subst h
        subst hS153
        show St.le _ _
        refine St.le_trans (le_foldP 960 0 5248 rfl rfl rfl (by decide) (by subst hLEN; exact app_lt hl157) (by decide) rfl (fun _ _ => rfl)) ?_
        exact le_sparse rfl ⟨lR _, lR _, lR _, lR _, trivial⟩ ⟨⟨fun hw => hw, fun c hc => (by cases hc), .inr (fun i _ j _ z hz => (noref (rfl) hz).elim), rfl, rfl, (by subst hGD hLEN hA; exact patch_app hl157 (Nat.le_refl _) (by intro j hj; match j, hj with | 0, _ => rfl | (j_ + 1), h_ => exact absurd h_ (by omega)))⟩, trivial⟩ rfl
       ·clear hy149
        subst hS153
        replace h := of_let h
        obtain ⟨w154, hw154, h⟩ := h
        have hw154 : w154 = y148 := hw154
        subst hw154
        cbv
        injection h with h
        refine hK11 _ h.symm _ ?_
        exact le_sparse rfl ⟨lR _, lR _, lR _, lR _, trivial⟩ ⟨oS, trivial⟩ rfl
  ·replace h := of_br_f b160 h
   cbv
   injection h with h
   refine hY9 _ h.symm _ _ (And.intro rfl ?_) (by intro hh; cases hh)
   exact le_sparse rfl ⟨lR _, trivial⟩ ⟨oS, trivial⟩ rfl
 ·clear hr7
  have h := hN8
  clear hN8
  intro e15 s16 q14 hne
  replace h := of_let h
  obtain ⟨y6k0, hyk, h⟩ := h
  have hyk : y6k0 = y6 := hyk
  subst hyk
  obtain ⟨rfl, q14⟩ := q14
  replace h := of_let h
  obtain ⟨w161, hw161, h⟩ := h
  have hw161 : w161 = y6k0 := hw161
  subst hw161
  cbv
  refine ⟨_, q14, ?_⟩
  cbv
  injection h with h
  subst h
  refine ⟨(sparse 89 [(2, .c (.os 64000 0 (LEN w161)))] [(64000, .arr .rw [] (LEN w161) 1 (row GD (oncL LEN GD 4 (encRect)) w161))]), ?_, ?_⟩
  ·refine St.le_trans (le_ren 960 64000 (by decide) rfl) ?_
   exact le_sparse rfl ⟨lR _, trivial⟩ ⟨oS, trivial⟩ rfl
  ·exact ⟨lR _, ⟨oS, trivial⟩, rfl⟩

/-- impl.composed -/
noncomputable def F_impl_composed (a0 : Int) (a1 : Int) : Option (Int) :=
 req (std.nz 4) <|
 req (std.nz 4) <|
 ((
    br (std.le 4 a1)
    (req (std.nz 4) <|
    req (std.nz 4) <|
    some (std.sub .i64 (std.add .i64 (std.rem a1 4) 4) (std.rem a0 4)))
    (some (std.add .i64 (std.rem a1 4) (std.rem a0 4)))
  ) : Option (Int)).bind fun y3 =>
 letO y3 fun w9 =>
 req (std.nz 4) <|
 ((
    br (std.not (std.beq (std.le 4 a0) (std.le 4 a1)))
    (some (std.add .i64 (std.rem w9 4) 4))
    (some (std.rem w9 4))
  ) : Option (Int)).bind fun y14 =>
 letO y14 fun w20 =>
 some w20
theorem run_impl_composed (a0 : Int) (a1 : Int) (r : Int) (h : F_impl_composed a0 a1 = some r) : Fun Try.prog 206 [.c (.v (.int .i64 a0)), .c (.v (.int .i64 a1))] [] (.c (.v (.int .i64 r))) [] true := by
 refine Fun.of_wp (oneOf [100013, 100026]) tok mixed Try.func206 (by kernel_rfl) rfl Try.ntmps206 rfl trivial (fun _ => ⟨trivial, trivial⟩) ?_
 unfold F_impl_composed at h
 generalize hLEN : @len = LEN at *
 generalize hGD : @gd = GD at *
 generalize hA : std = A at *
 generalize hP : Try.prog = P at *
 cbv
 replace h := of_req h
 obtain ⟨c1, h⟩ := h
 refine ⟨c1, ?_⟩
 replace h := of_req h
 obtain ⟨c2, h⟩ := h
 refine ⟨c2, ?_⟩
 replace h := of_bind h
 obtain ⟨y3, hy4, h⟩ := h
 obtain ⟨S7, hS8⟩ : ∃ S, S = some (sparse 30 [(0, .c (.v (.int .i64 a0))), (1, .c (.v (.int .i64 a1))), (5, .c (.v (.int .i64 y3)))] []) := ⟨_, rfl⟩
 refine ⟨S7, ?_, ?_⟩
 ·clear h
  have h := hy4
  clear hy4
  cbv
  refine fork (fun b12 => ?_) (fun b12 => ?_)
  ·replace h := of_br_t b12 h
   cbv
   replace h := of_req h
   obtain ⟨c10, h⟩ := h
   refine ⟨c10, ?_⟩
   replace h := of_req h
   obtain ⟨c11, h⟩ := h
   refine ⟨c11, ?_⟩
   injection h with h
   subst h
   subst hS8
   show St.le _ _
   exact le_sparse rfl ⟨lR _, lR _, lR _, trivial⟩ trivial rfl
  ·replace h := of_br_f b12 h
   cbv
   injection h with h
   subst h
   subst hS8
   show St.le _ _
   exact le_sparse rfl ⟨lR _, lR _, lR _, trivial⟩ trivial rfl
 ·clear hy4
  subst hS8
  replace h := of_let h
  obtain ⟨w9, hw9, h⟩ := h
  have hw9 : w9 = y3 := hw9
  subst hw9
  cbv
  replace h := of_req h
  obtain ⟨c13, h⟩ := h
  refine ⟨c13, ?_⟩
  replace h := of_bind h
  obtain ⟨y14, hy15, h⟩ := h
  obtain ⟨S18, hS19⟩ : ∃ S, S = some (sparse 30 [(6, .c (.v (.int .i64 y14)))] []) := ⟨_, rfl⟩
  refine ⟨S18, ?_, ?_⟩
  ·clear h
   have h := hy15
   clear hy15
   cbv
   refine fork (fun b21 => ?_) (fun b21 => ?_)
   ·replace h := of_br_t b21 h
    cbv
    injection h with h
    subst h
    subst hS19
    show St.le _ _
    exact le_sparse rfl ⟨lR _, trivial⟩ trivial rfl
   ·replace h := of_br_f b21 h
    cbv
    injection h with h
    subst h
    subst hS19
    show St.le _ _
    exact le_sparse rfl ⟨lR _, trivial⟩ trivial rfl
  ·clear hy15
   subst hS19
   replace h := of_let h
   obtain ⟨w20, hw20, h⟩ := h
   have hw20 : w20 = y14 := hw20
   subst hw20
   cbv
   injection h with h
   subst h
   refine ⟨(sparse 30 [(4, .c (.v (.int .i64 w20)))] []), ?_, ?_⟩
   ·exact le_sparse rfl ⟨lR _, trivial⟩ trivial rfl
   ·exact ⟨lR _, trivial, rfl⟩
/-- impl.compose -/
noncomputable def F_impl_compose (a0 : TTransform) (a1 : TTransform) : Option (TTransform) :=
 (F_impl_move a1 (TPoint.mk a0.fX a0.fY)).bind fun y1 =>
 (F_impl_composed a0.fOrientation a1.fOrientation).bind fun y3 =>
 some (TTransform.mk y3 y1.fX y1.fY)
theorem run_impl_compose (a0 : TTransform) (a1 : TTransform) (r : TTransform) (h : F_impl_compose a0 a1 = some r) : Fun Try.prog 142 [.agg [.v (.int .i64 a0.fOrientation), .v (.int .i64 a0.fX), .v (.int .i64 a0.fY)], .agg [.v (.int .i64 a1.fOrientation), .v (.int .i64 a1.fX), .v (.int .i64 a1.fY)]] [] (.agg [.v (.int .i64 r.fOrientation), .v (.int .i64 r.fX), .v (.int .i64 r.fY)]) [] true := by
 refine Fun.of_wp (oneOf []) tok mixed Try.func142 (by kernel_rfl) rfl Try.ntmps142 rfl trivial (fun _ => ⟨(by simp [AV.flat, AV.flat1, AC.flat]), trivial⟩) ?_
 unfold F_impl_compose at h
 have hf_impl_composed := @run_impl_composed
 have hf_impl_move := @run_impl_move
 generalize hLEN : @len = LEN at *
 generalize hGD : @gd = GD at *
 generalize hA : std = A at *
 generalize hP : Try.prog = P at *
 cbv
 replace h := of_bind h
 obtain ⟨y1, hy2, h⟩ := h
 refine ⟨{ args := [.agg [.v (.int .i64 a1.fOrientation), .v (.int .i64 a1.fX), .v (.int .i64 a1.fY)], .agg [.v (.int .i64 a0.fX), .v (.int .i64 a0.fY)]], o0 := [], r := .agg [.v (.int .i64 y1.fX), .v (.int .i64 y1.fY)], o1 := [], fl := true, σ := [], τ := [] }, hf_impl_move _ _ _ hy2, ⟨les_cons (lR _) (les_cons (lR _) (les_nil)), trivial, rfl, rfl, rfl, rfl, trivial, rfl⟩, ?_⟩
 cbv
 replace h := of_bind h
 obtain ⟨y3, hy4, h⟩ := h
 refine ⟨{ args := [.c (.v (.int .i64 a0.fOrientation)), .c (.v (.int .i64 a1.fOrientation))], o0 := [], r := .c (.v (.int .i64 y3)), o1 := [], fl := true, σ := [], τ := [] }, hf_impl_composed _ _ _ hy4, ⟨les_cons (lR _) (les_cons (lR _) (les_nil)), trivial, rfl, rfl, rfl, rfl, trivial, rfl⟩, ?_⟩
 cbv
 injection h with h
 subst h
 refine ⟨(sparse 23 [(4, .c (.ptr 256 0))] [(256, .var [.v (.int .i64 y3), .v (.int .i64 y1.fX), .v (.int .i64 y1.fY)])]), ?_, ?_⟩
 ·exact le_sparse rfl ⟨lR _, trivial⟩ ⟨rfl, trivial⟩ rfl
 ·exact ⟨lR _, trivial, rfl⟩

/-- impl.common -/
noncomputable def F_impl_common (a0 : TRect) (a1 : TRect) : Option (TRect) :=
 some (TRect.mk (std.imax a0.fX0 a1.fX0) (std.imax a0.fY0 a1.fY0) (std.imin a0.fX1 a1.fX1) (std.imin a0.fY1 a1.fY1))
theorem run_impl_common (a0 : TRect) (a1 : TRect) (r : TRect) (h : F_impl_common a0 a1 = some r) : Fun Try.prog 107 [.agg [.v (.int .i64 a0.fX0), .v (.int .i64 a0.fY0), .v (.int .i64 a0.fX1), .v (.int .i64 a0.fY1)], .agg [.v (.int .i64 a1.fX0), .v (.int .i64 a1.fY0), .v (.int .i64 a1.fX1), .v (.int .i64 a1.fY1)]] [] (.agg [.v (.int .i64 r.fX0), .v (.int .i64 r.fY0), .v (.int .i64 r.fX1), .v (.int .i64 r.fY1)]) [] true := by
 refine Fun.of_wp (oneOf []) tok mixed Try.func107 (by kernel_rfl) rfl Try.ntmps107 rfl trivial (fun _ => ⟨(by simp [AV.flat, AV.flat1, AC.flat]), trivial⟩) ?_
 unfold F_impl_common at h
 generalize hLEN : @len = LEN at *
 generalize hGD : @gd = GD at *
 generalize hA : std = A at *
 generalize hP : Try.prog = P at *
 cbv
 injection h with h
 subst h
 refine ⟨(sparse 26 [(4, .c (.ptr 256 0))] [(256, .var [.v (.int .i64 (A.imax a0.fX0 a1.fX0)), .v (.int .i64 (A.imax a0.fY0 a1.fY0)), .v (.int .i64 (A.imin a0.fX1 a1.fX1)), .v (.int .i64 (A.imin a0.fY1 a1.fY1))])]), ?_, ?_⟩
 ·exact le_sparse rfl ⟨lR _, trivial⟩ ⟨rfl, trivial⟩ rfl
 ·exact ⟨lR _, trivial, rfl⟩

/-- impl.anywhere -/
noncomputable def F_impl_anywhere (a0 : TRect) (a1 : TRect) : Option (Bool) :=
 (F_impl_common a0 a1).bind fun y1 =>
 ((
    br (std.lt y1.fX0 y1.fX1)
    (some (std.lt y1.fY0 y1.fY1))
    (some false)
  ) : Option (Bool)).bind fun y3 =>
 letO y3 fun w9 =>
 some w9
theorem run_impl_anywhere (a0 : TRect) (a1 : TRect) (r : Bool) (h : F_impl_anywhere a0 a1 = some r) : Fun Try.prog 67 [.agg [.v (.int .i64 a0.fX0), .v (.int .i64 a0.fY0), .v (.int .i64 a0.fX1), .v (.int .i64 a0.fY1)], .agg [.v (.int .i64 a1.fX0), .v (.int .i64 a1.fY0), .v (.int .i64 a1.fX1), .v (.int .i64 a1.fY1)]] [] (.c (.v (.bool r))) [] true := by
 refine Fun.of_wp (oneOf [2]) tok mixed Try.func67 (by kernel_rfl) rfl Try.ntmps67 rfl trivial (fun _ => ⟨trivial, trivial⟩) ?_
 unfold F_impl_anywhere at h
 have hf_impl_common := @run_impl_common
 generalize hLEN : @len = LEN at *
 generalize hGD : @gd = GD at *
 generalize hA : std = A at *
 generalize hP : Try.prog = P at *
 cbv
 replace h := of_bind h
 obtain ⟨y1, hy2, h⟩ := h
 refine ⟨{ args := [.agg [.v (.int .i64 a0.fX0), .v (.int .i64 a0.fY0), .v (.int .i64 a0.fX1), .v (.int .i64 a0.fY1)], .agg [.v (.int .i64 a1.fX0), .v (.int .i64 a1.fY0), .v (.int .i64 a1.fX1), .v (.int .i64 a1.fY1)]], o0 := [], r := .agg [.v (.int .i64 y1.fX0), .v (.int .i64 y1.fY0), .v (.int .i64 y1.fX1), .v (.int .i64 y1.fY1)], o1 := [], fl := true, σ := [], τ := [] }, hf_impl_common _ _ _ hy2, ⟨les_cons (lR _) (les_cons (lR _) (les_nil)), trivial, rfl, rfl, rfl, rfl, trivial, rfl⟩, ?_⟩
 cbv
 replace h := of_bind h
 obtain ⟨y3, hy4, h⟩ := h
 obtain ⟨S7, hS8⟩ : ∃ S, S = (sparse 21 [(4, .c (.v (.bool y3)))] []) := ⟨_, rfl⟩
 refine ⟨S7, ?_, ?_⟩
 ·clear h
  have h := hy4
  clear hy4
  cbv
  refine fork (fun b10 => ?_) (fun b10 => ?_)
  ·replace h := of_br_t b10 h
   cbv
   injection h with h
   subst h
   subst hS8
   show St.le _ _
   exact le_sparse rfl ⟨lR _, trivial⟩ trivial rfl
  ·replace h := of_br_f b10 h
   cbv
   injection h with h
   subst h
   subst hS8
   show St.le _ _
   exact le_sparse rfl ⟨lR _, trivial⟩ trivial rfl
 ·clear hy4
  subst hS8
  replace h := of_let h
  obtain ⟨w9, hw9, h⟩ := h
  have hw9 : w9 = y3 := hw9
  subst hw9
  cbv
  injection h with h
  subst h
  refine ⟨(sparse 21 [(4, .c (.v (.bool w9)))] []), ?_, ?_⟩
  ·exact le_sparse rfl ⟨lR _, trivial⟩ trivial rfl
  ·exact ⟨lR _, trivial, rfl⟩

/-- slices.Clone[[]int64,int64] -/
noncomputable def F_slices_Clone_Lint64_int64 (a0 : List Int) : Option (List Int) :=
 nilB (len a0)
 (some ([] : List Int))
 (letO ([] : List Int) fun l1 =>
 req (std.room (std.nadd (len l1) (len a0)) 8) <|
 letO (l1 ++ a0) fun l3 =>
 some l3)
theorem run_slices_Clone_Lint64_int64 (a0 : List Int) (r : List Int) (h : F_slices_Clone_Lint64_int64 a0 = some r) : Fun Try.prog 143 [.c (.bs (len a0) 1 (row gd (encI .i64) a0))] [] (.c (.os 64000 0 (len r))) [(64000, .arr .rw [] (len r) 1 (row gd (encI .i64) r))] true := by
 refine Fun.of_wp (oneOf []) tok mixed Try.func143 (by kernel_rfl) rfl Try.ntmps143 rfl trivial (fun _ => ⟨trivial, ⟨fun i _ j _ => val_flat (rfl), trivial⟩⟩) ?_
 unfold F_slices_Clone_Lint64_int64 at h
 generalize hLEN : @len = LEN at *
 generalize hGD : @gd = GD at *
 generalize hA : std = A at *
 generalize hP : Try.prog = P at *
 cbv
 replace h := of_nilB h
 obtain ⟨h, hz7⟩ := h
 refine And.intro (fun hn6 => ?_) ?_
 ·have h := hz7 hn6
  clear hz7
  cbv
  injection h with h
  subst h
  refine ⟨(sparse 8 [(2, .c (.os 64000 0 (LEN ([] : List Int))))] [(64000, .arr .rw [] (LEN ([] : List Int)) 1 (row GD (encI .i64) ([] : List Int)))]), ?_, ?_⟩
  ·refine St.le_trans (le_nilT 2 64000 1 (row GD (encI .i64) ([] : List Int)) (by decide) rfl) ?_
   subst hLEN
   exact le_sparse rfl ⟨lR _, trivial⟩ ⟨oS, trivial⟩ rfl
  ·subst hLEN
   exact ⟨lR _, ⟨oS, trivial⟩, rfl⟩
 ·clear hz7
  cbv
  replace h := of_let h
  obtain ⟨l1, hl1, h⟩ := h
  have e2 : 0 = LEN l1 := by subst hl1 hLEN; rfl
  refine ⟨_, congrArg (fun n => AV.c (AC.os 320 0 n)) e2, _, row GD (encI .i64) l1, e2, ?_, ?_⟩
  ·intro i hi j hj
   rw [← e2] at hi
   subst hl1
   subst hGD
   omega
  cbv
  replace h := of_req h
  obtain ⟨c5, h⟩ := h
  replace h := of_let h
  obtain ⟨l3, hl3, h⟩ := h
  have e4 : A.nadd (LEN l1) (LEN a0) = LEN l3 := by subst hl3 hLEN hA; simp [std, len]
  refine ⟨c5, _, congrArg (fun n => AV.c (AC.os 320 0 n)) e4, _, row GD (encI .i64) l3, e4, ?_, ?_⟩
  ·subst hGD hLEN hA
   exact app_bs (fun _ _ => rfl) hl3 (Nat.le_refl _)
  cbv
  injection h with h
  subst h
  refine ⟨(sparse 8 [(2, .c (.os 64000 0 (LEN l3)))] [(64000, .arr .rw [] (LEN l3) 1 (row GD (encI .i64) l3))]), ?_, ?_⟩
  ·refine St.le_trans (le_ren 320 64000 (by decide) rfl) ?_
   exact le_sparse rfl ⟨lR _, trivial⟩ ⟨oS, trivial⟩ rfl
  ·exact ⟨lR _, ⟨oS, trivial⟩, rfl⟩

noncomputable def L_impl_visits_x8 (a0 : TLibrary) (a1 : List (List TRect)) (a2 : TRect) (a3 : TOccurrence) (F_REC_impl_visits : TLibrary → (List (List TRect)) → TRect → TOccurrence → Option (List TOccurrence)) (y4 : (List Telement)) : (Int × (List TOccurrence)) → Option ((Int × (List TOccurrence)) ⊕ (((List TOccurrence)))) := fun x8 =>
 letO x8.1 fun v6 =>
 letO x8.2 fun v7 =>
 br (std.lt v6 (std.ofN (len y4)))
 (req (std.inR v6 (len y4)) <|
 (F_impl_compose (gd y4 (std.nadd 0 (std.toN v6))).gplace a3.fPlace).bind fun y21 =>
 req (std.inR (gd y4 (std.nadd 0 (std.toN v6))).gcell (len a1)) <|
 ((
    br (std.lt 0 (std.ofN (len (gd a1 (std.toN (gd y4 (std.nadd 0 (std.toN v6))).gcell)))))
    (req (std.inR 0 (len (gd a1 (std.toN (gd y4 (std.nadd 0 (std.toN v6))).gcell)))) <|
    (F_impl_moveRect y21 (gd (gd a1 (std.toN (gd y4 (std.nadd 0 (std.toN v6))).gcell)) (std.toN 0))).bind fun y32 =>
    (F_impl_anywhere y32 a2).bind fun y34 =>
    some y34)
    (some false)
  ) : Option (Bool)).bind fun y24 =>
 letO y24 fun w30 =>
 ((
    br w30
    ((F_slices_Clone_Lint64_int64 a3.fPath).bind fun y44 =>
    letO ([v6] : List Int) fun l46 =>
    req (std.room (std.nadd (len y44) (len l46)) 8) <|
    letO (y44 ++ l46) fun l48 =>
    (F_REC_impl_visits (TLibrary.mk a0.fCells) a1 a2 (TOccurrence.mk (gd y4 (std.nadd 0 (std.toN v6))).gcell y21 l48)).bind fun y51 =>
    req (std.room (std.nadd (len v7) (len y51)) 56) <|
    letO (v7 ++ y51) fun l53 =>
    some l53)
    (some v7)
  ) : Option ((List TOccurrence))).bind fun y37 =>
 letO y37 fun w43 =>
 some (.inl (std.add .i64 v6 1, w43)))
 (some (.inr v7))
/-- impl.visits -/
noncomputable def FS_impl_visits (F_REC_impl_visits : TLibrary → (List (List TRect)) → TRect → TOccurrence → Option (List TOccurrence)) (a0 : TLibrary) (a1 : List (List TRect)) (a2 : TRect) (a3 : TOccurrence) : Option (List TOccurrence) :=
 letO ([a3] : List TOccurrence) fun l1 =>
 req (std.inR a3.fCell (len a0.fCells)) <|
 (F_impl_elements (gd a0.fCells (std.toN a3.fCell))).bind fun y4 =>
 (whileP (σ := Int × (List TOccurrence)) (ρ := ((List TOccurrence))) (L_impl_visits_x8 a0 a1 a2 a3 F_REC_impl_visits y4) (0, l1)).bind fun y9 =>
 letO y9 fun y9k0 =>
 letO y9k0 fun w58 =>
 some w58
theorem runS_impl_visits (F_REC_impl_visits : TLibrary → (List (List TRect)) → TRect → TOccurrence → Option (List TOccurrence)) (hf_REC_impl_visits : ∀ (a0 : TLibrary) (a1 : List (List TRect)) (a2 : TRect) (a3 : TOccurrence) (r : List TOccurrence), F_REC_impl_visits a0 a1 a2 a3 = some r → Fun Try.prog 93 [.agg [.bs (len a0.fCells) 4 (row gd (encCell len gd) a0.fCells)], .c (.bs (len a1) 1 (row gd (encL len gd 4 (encRect)) a1)), .agg [.v (.int .i64 a2.fX0), .v (.int .i64 a2.fY0), .v (.int .i64 a2.fX1), .v (.int .i64 a2.fY1)], .agg [.v (.int .i64 a3.fCell), .v (.int .i64 a3.fPlace.fOrientation), .v (.int .i64 a3.fPlace.fX), .v (.int .i64 a3.fPlace.fY), .bs (len a3.fPath) 1 (row gd (encI .i64) a3.fPath)]] [] (.c (.os 64000 0 (len r))) [(64000, .arr .rw [] (len r) 5 (row gd (encOccurrence len gd) r))] false) (a0 : TLibrary) (a1 : List (List TRect)) (a2 : TRect) (a3 : TOccurrence) (r : List TOccurrence) (h : FS_impl_visits F_REC_impl_visits a0 a1 a2 a3 = some r) : Fun Try.prog 93 [.agg [.bs (len a0.fCells) 4 (row gd (encCell len gd) a0.fCells)], .c (.bs (len a1) 1 (row gd (encL len gd 4 (encRect)) a1)), .agg [.v (.int .i64 a2.fX0), .v (.int .i64 a2.fY0), .v (.int .i64 a2.fX1), .v (.int .i64 a2.fY1)], .agg [.v (.int .i64 a3.fCell), .v (.int .i64 a3.fPlace.fOrientation), .v (.int .i64 a3.fPlace.fX), .v (.int .i64 a3.fPlace.fY), .bs (len a3.fPath) 1 (row gd (encI .i64) a3.fPath)]] [] (.c (.os 64000 0 (len r))) [(64000, .arr .rw [] (len r) 5 (row gd (encOccurrence len gd) r))] false := by
 refine Fun.of_wp (oneOf [7, 100051]) tok mixed Try.func93 (by kernel_rfl) rfl Try.ntmps93 rfl trivial (fun h => by cases h) ?_
 unfold FS_impl_visits at h
 unfold L_impl_visits_x8 at h
 have hf_impl_anywhere := @run_impl_anywhere
 have hf_impl_compose := @run_impl_compose
 have hf_impl_elements := @run_impl_elements
 have hf_impl_moveRect := @run_impl_moveRect
 have hf_slices_Clone_Lint64_int64 := @run_slices_Clone_Lint64_int64
 generalize hLEN : @len = LEN at *
 generalize hGD : @gd = GD at *
 generalize hA : std = A at *
 generalize hP : Try.prog = P at *
 cbv
 replace h := of_let h
 obtain ⟨l1, hl1, h⟩ := h
 have e2 : 1 = LEN l1 := by subst hl1 hLEN; rfl
 refine ⟨_, congrArg (fun n => AV.c (AC.os 1024 0 n)) e2, _, row GD (encOccurrence LEN GD) l1, e2, ?_, ?_⟩
 ·intro i hi j hj
  rw [← e2] at hi
  subst hl1
  subst hGD
  obtain rfl : i = 0 := (by omega) <;> obtain rfl | rfl | rfl | rfl | rfl : j = 0 ∨ j = 1 ∨ j = 2 ∨ j = 3 ∨ j = 4 := (by omega)
  all_goals rfl
 cbv
 replace h := of_req h
 obtain ⟨c3, h⟩ := h
 refine ⟨⟨c3, trivial⟩, ?_⟩
 replace h := of_bind h
 obtain ⟨y4, hy5, h⟩ := h
 refine ⟨{ args := [.agg [.v (.string (GD a0.fCells (A.toN a3.fCell)).fName), .bs (LEN (GD a0.fCells (A.toN a3.fCell)).fShapes) 5 (row GD (encShape) (GD a0.fCells (A.toN a3.fCell)).fShapes), .bs (LEN (GD a0.fCells (A.toN a3.fCell)).fLabels) 4 (row GD (encLabel) (GD a0.fCells (A.toN a3.fCell)).fLabels), .bs (LEN (GD a0.fCells (A.toN a3.fCell)).fInstances) 8 (row GD (encInstance) (GD a0.fCells (A.toN a3.fCell)).fInstances)]], o0 := [], r := .c (.os 64000 0 (LEN y4)), o1 := [(64000, .arr .rw [] (LEN y4) 4 (row GD (encelement) y4))], fl := true, σ := [], τ := [(64000, 1472)] }, hf_impl_elements _ _ hy5, ⟨les_cons (lR _) (les_nil), trivial, rfl, rfl, rfl, rfl, ⟨fun h => absurd (show (64000 : Nat) % 2 = 1 from h) (by decide), trivial⟩, rfl⟩, _, rfl, _, _, rfl, fun _ _ _ _ => rfl, ?_⟩
 cbv
 replace h := of_bind h
 obtain ⟨y9, hr10, hN11⟩ := h
 refine loop_cut hr10 (fun x => (sparse 71 [(1, .c (.bs (LEN a1) 1 (row GD (encL LEN GD 4 (encRect)) a1))), (4, .c (.ptr 256 0)), (6, .c (.ptr 384 0)), (7, .c (.ptr 448 0)), (9, .c (.os 1024 0 (LEN x.2))), (23, .c (.os 1472 0 (LEN y4))), (24, .c (.v (.int .i64 (A.ofN (LEN y4))))), (25, .c (.v (.int .i64 x.1)))] [(256, .var [.bs (LEN a0.fCells) 4 (row GD (encCell LEN GD) a0.fCells)]), (384, .var [.v (.int .i64 a2.fX0), .v (.int .i64 a2.fY0), .v (.int .i64 a2.fX1), .v (.int .i64 a2.fY1)]), (448, .var [.v (.int .i64 a3.fCell), .v (.int .i64 a3.fPlace.fOrientation), .v (.int .i64 a3.fPlace.fX), .v (.int .i64 a3.fPlace.fY), .bs (LEN a3.fPath) 1 (row GD (encI .i64) a3.fPath)]), (1024, .arr .rw [] (LEN x.2) 5 (row GD (encOccurrence LEN GD) x.2)), (1472, .arr .rw [] (LEN y4) 4 (row GD (encelement) y4))])) ?_ (fun y e s => (fun (w : (List TOccurrence)) => e = .exit 0 ∧ s.le (sparse 71 [(9, .c (.os 1024 0 (LEN w)))] [(1024, .arr .rw [] (LEN w) 5 (row GD (encOccurrence LEN GD) w))])) y) ?_ ?_
 ·clear hr10 hN11
  show St.le _ _
  exact le_sparse rfl ⟨lR _, lR _, lR _, lR _, lR _, lR _, lR _, lR _, trivial⟩ ⟨rfl, rfl, rfl, oS, oS, trivial⟩ rfl
 ·clear hr10 hN11
  intro x z15 h K13 hK14 hY12
  obtain ⟨x0_, x1_⟩ := x
  replace h := of_let h
  obtain ⟨v6, hv6, h⟩ := h
  have hv6 : v6 = x0_ := hv6
  subst hv6
  replace h := of_let h
  obtain ⟨v7, hv7, h⟩ := h
  have hv7 : v7 = x1_ := hv7
  subst hv7
  cbv
  refine fork (fun b57 => ?_) (fun b57 => ?_)
  ·replace h := of_br_t b57 h
   cbv
   replace h := of_req h
   obtain ⟨c20, h⟩ := h
   refine ⟨⟨c20, trivial⟩, ?_⟩
   refine And.intro (by first | exact (by subst hA; exact idx_lt c20) | (refine And.intro (by subst hA; exact idx_lt c20) ?_; first | trivial | exact ⟨trivial, trivial⟩)) ?_
   replace h := of_bind h
   obtain ⟨y21, hy22, h⟩ := h
   refine ⟨{ args := [.agg [.v (.int .i64 (GD y4 (A.nadd 0 (A.toN v6))).gplace.fOrientation), .v (.int .i64 (GD y4 (A.nadd 0 (A.toN v6))).gplace.fX), .v (.int .i64 (GD y4 (A.nadd 0 (A.toN v6))).gplace.fY)], .agg [.v (.int .i64 a3.fPlace.fOrientation), .v (.int .i64 a3.fPlace.fX), .v (.int .i64 a3.fPlace.fY)]], o0 := [], r := .agg [.v (.int .i64 y21.fOrientation), .v (.int .i64 y21.fX), .v (.int .i64 y21.fY)], o1 := [], fl := true, σ := [], τ := [] }, hf_impl_compose _ _ _ hy22, ⟨les_cons (lR _) (les_cons (lR _) (les_nil)), trivial, rfl, rfl, rfl, rfl, trivial, rfl⟩, ?_⟩
   cbv
   replace h := of_req h
   obtain ⟨c23, h⟩ := h
   refine ⟨⟨c23, trivial⟩, ?_⟩
   replace h := of_bind h
   obtain ⟨y24, hy25, h⟩ := h
   obtain ⟨S28, hS29⟩ : ∃ S, S = (sparse 71 [(1, .c (.bs (LEN a1) 1 (row GD (encL LEN GD 4 (encRect)) a1))), (4, .c (.ptr 256 0)), (6, .c (.ptr 384 0)), (7, .c (.ptr 448 0)), (9, .c (.os 1024 0 (LEN v7))), (10, .c (.v (.int .i64 v6))), (11, .c (.ptr 704 0)), (12, .c (.ptr 768 0)), (23, .c (.os 1472 0 (LEN y4))), (24, .c (.v (.int .i64 (A.ofN (LEN y4))))), (25, .c (.v (.int .i64 v6))), (51, .c (.v (.bool y24)))] [(256, .var [.bs (LEN a0.fCells) 4 (row GD (encCell LEN GD) a0.fCells)]), (384, .var [.v (.int .i64 a2.fX0), .v (.int .i64 a2.fY0), .v (.int .i64 a2.fX1), .v (.int .i64 a2.fY1)]), (448, .var [.v (.int .i64 a3.fCell), .v (.int .i64 a3.fPlace.fOrientation), .v (.int .i64 a3.fPlace.fX), .v (.int .i64 a3.fPlace.fY), .bs (LEN a3.fPath) 1 (row GD (encI .i64) a3.fPath)]), (1024, .arr .rw [] (LEN v7) 5 (row GD (encOccurrence LEN GD) v7)), (704, .var [.v (.int .i64 (GD y4 (A.nadd 0 (A.toN v6))).gcell), .v (.int .i64 (GD y4 (A.nadd 0 (A.toN v6))).gplace.fOrientation), .v (.int .i64 (GD y4 (A.nadd 0 (A.toN v6))).gplace.fX), .v (.int .i64 (GD y4 (A.nadd 0 (A.toN v6))).gplace.fY)]), (768, .var [.v (.int .i64 y21.fOrientation), .v (.int .i64 y21.fX), .v (.int .i64 y21.fY)]), (1472, .arr .rw [] (LEN y4) 4 (row GD (encelement) y4))]) := ⟨_, rfl⟩
   refine ⟨S28, ?_, ?_⟩
   ·clear h
    have h := hy25
    clear hy25
    cbv
    refine fork (fun b36 => ?_) (fun b36 => ?_)
    ·replace h := of_br_t b36 h
     cbv
     replace h := of_req h
     obtain ⟨c31, h⟩ := h
     refine ⟨⟨c31, trivial⟩, ?_⟩
     replace h := of_bind h
     obtain ⟨y32, hy33, h⟩ := h
     refine ⟨{ args := [.agg [.v (.int .i64 y21.fOrientation), .v (.int .i64 y21.fX), .v (.int .i64 y21.fY)], .agg [.v (.int .i64 (GD (GD a1 (A.toN (GD y4 (A.nadd 0 (A.toN v6))).gcell)) (A.toN 0)).fX0), .v (.int .i64 (GD (GD a1 (A.toN (GD y4 (A.nadd 0 (A.toN v6))).gcell)) (A.toN 0)).fY0), .v (.int .i64 (GD (GD a1 (A.toN (GD y4 (A.nadd 0 (A.toN v6))).gcell)) (A.toN 0)).fX1), .v (.int .i64 (GD (GD a1 (A.toN (GD y4 (A.nadd 0 (A.toN v6))).gcell)) (A.toN 0)).fY1)]], o0 := [], r := .agg [.v (.int .i64 y32.fX0), .v (.int .i64 y32.fY0), .v (.int .i64 y32.fX1), .v (.int .i64 y32.fY1)], o1 := [], fl := true, σ := [], τ := [] }, hf_impl_moveRect _ _ _ hy33, ⟨les_cons (lR _) (les_cons (lR _) (les_nil)), trivial, rfl, rfl, rfl, rfl, trivial, rfl⟩, ?_⟩
     cbv
     replace h := of_bind h
     obtain ⟨y34, hy35, h⟩ := h
     refine ⟨{ args := [.agg [.v (.int .i64 y32.fX0), .v (.int .i64 y32.fY0), .v (.int .i64 y32.fX1), .v (.int .i64 y32.fY1)], .agg [.v (.int .i64 a2.fX0), .v (.int .i64 a2.fY0), .v (.int .i64 a2.fX1), .v (.int .i64 a2.fY1)]], o0 := [], r := .c (.v (.bool y34)), o1 := [], fl := true, σ := [], τ := [] }, hf_impl_anywhere _ _ _ hy35, ⟨les_cons (lR _) (les_cons (lR _) (les_nil)), trivial, rfl, rfl, rfl, rfl, trivial, rfl⟩, ?_⟩
     cbv
     injection h with h
     subst h
     subst hS29
     show St.le _ _
     exact le_sparse rfl ⟨lR _, lR _, lR _, lR _, lR _, lR _, lR _, lR _, lR _, lR _, lR _, lR _, trivial⟩ ⟨rfl, rfl, rfl, oS, rfl, rfl, oS, trivial⟩ rfl
    ·replace h := of_br_f b36 h
     cbv
     injection h with h
     subst h
     subst hS29
     show St.le _ _
     exact le_sparse rfl ⟨lR _, lR _, lR _, lR _, lR _, lR _, lR _, lR _, lR _, lR _, lR _, lR _, trivial⟩ ⟨rfl, rfl, rfl, oS, rfl, rfl, oS, trivial⟩ rfl
   ·clear hy25
    subst hS29
    replace h := of_let h
    obtain ⟨w30, hw30, h⟩ := h
    have hw30 : w30 = y24 := hw30
    subst hw30
    cbv
    replace h := of_bind h
    obtain ⟨y37, hy38, h⟩ := h
    obtain ⟨S41, hS42⟩ : ∃ S, S = some (sparse 71 [(1, .c (.bs (LEN a1) 1 (row GD (encL LEN GD 4 (encRect)) a1))), (4, .c (.ptr 256 0)), (6, .c (.ptr 384 0)), (7, .c (.ptr 448 0)), (9, .c (.os 1024 0 (LEN y37))), (23, .c (.os 1472 0 (LEN y4))), (24, .c (.v (.int .i64 (A.ofN (LEN y4))))), (25, .c (.v (.int .i64 v6)))] [(256, .var [.bs (LEN a0.fCells) 4 (row GD (encCell LEN GD) a0.fCells)]), (384, .var [.v (.int .i64 a2.fX0), .v (.int .i64 a2.fY0), .v (.int .i64 a2.fX1), .v (.int .i64 a2.fY1)]), (448, .var [.v (.int .i64 a3.fCell), .v (.int .i64 a3.fPlace.fOrientation), .v (.int .i64 a3.fPlace.fX), .v (.int .i64 a3.fPlace.fY), .bs (LEN a3.fPath) 1 (row GD (encI .i64) a3.fPath)]), (1024, .arr .rw [] (LEN y37) 5 (row GD (encOccurrence LEN GD) y37)), (1472, .arr .rw [] (LEN y4) 4 (row GD (encelement) y4))]) := ⟨_, rfl⟩
    refine ⟨S41, ?_, ?_⟩
    ·clear h
     have h := hy38
     clear hy38
     cbv
     refine fork (fun b56 => ?_) (fun b56 => ?_)
     ·replace h := of_br_t b56 h
      cbv
      replace h := of_bind h
      obtain ⟨y44, hy45, h⟩ := h
      refine ⟨{ args := [.c (.bs (LEN a3.fPath) 1 (row GD (encI .i64) a3.fPath))], o0 := [], r := .c (.os 64000 0 (LEN y44)), o1 := [(64000, .arr .rw [] (LEN y44) 1 (row GD (encI .i64) y44))], fl := true, σ := [], τ := [(64000, 3456)] }, hf_slices_Clone_Lint64_int64 _ _ hy45, ⟨les_cons (lR _) (les_nil), trivial, rfl, rfl, rfl, rfl, ⟨fun h => absurd (show (64000 : Nat) % 2 = 1 from h) (by decide), trivial⟩, rfl⟩, _, rfl, _, _, rfl, fun _ _ _ _ => rfl, ?_⟩
      cbv
      replace h := of_let h
      obtain ⟨l46, hl46, h⟩ := h
      have e47 : 1 = LEN l46 := by subst hl46 hLEN; rfl
      refine ⟨_, congrArg (fun n => AV.c (AC.os 3584 0 n)) e47, _, row GD (encI .i64) l46, e47, ?_, ?_⟩
      ·intro i hi j hj
       rw [← e47] at hi
       subst hl46
       subst hGD
       obtain rfl : i = 0 := (by omega)
       all_goals obtain rfl : j = 0 := by omega
       all_goals rfl
      cbv
      replace h := of_req h
      obtain ⟨c50, h⟩ := h
      replace h := of_let h
      obtain ⟨l48, hl48, h⟩ := h
      have e49 : A.nadd (LEN y44) (LEN l46) = LEN l48 := by subst hl48 hLEN hA; simp [std, len]
      refine ⟨c50, _, congrArg (fun n => AV.c (AC.os 3456 0 n)) e49, _, row GD (encI .i64) l48, e49, ?_, ?_⟩
      ·subst hGD hLEN hA
       exact app_os (off := 0) (fun _ _ => rfl) hl48 (Nat.le_refl _)
      cbv
      replace h := of_bind h
      obtain ⟨y51, hy52, h⟩ := h
      refine ⟨{ args := [.agg [.bs (LEN a0.fCells) 4 (row GD (encCell LEN GD) a0.fCells)], .c (.bs (LEN a1) 1 (row GD (encL LEN GD 4 (encRect)) a1)), .agg [.v (.int .i64 a2.fX0), .v (.int .i64 a2.fY0), .v (.int .i64 a2.fX1), .v (.int .i64 a2.fY1)], .agg [.v (.int .i64 (GD y4 (A.nadd 0 (A.toN v6))).gcell), .v (.int .i64 y21.fOrientation), .v (.int .i64 y21.fX), .v (.int .i64 y21.fY), .bs (LEN l48) 1 (row GD (encI .i64) l48)]], o0 := [], r := .c (.os 64000 0 (LEN y51)), o1 := [(64000, .arr .rw [] (LEN y51) 5 (row GD (encOccurrence LEN GD) y51))], fl := false, σ := [], τ := [(64000, 4288)] }, hf_REC_impl_visits _ _ _ _ _ hy52, ⟨les_cons (lR _) (les_cons (lR _) (les_cons (lR _) (les_cons (le_agg ⟨lR _, lR _, lR _, lR _, give_os (fun _ _ => rfl) rfl rfl rfl, trivial⟩) (les_nil)))), trivial, rfl, rfl, rfl, rfl, ⟨fun h => absurd (show (64000 : Nat) % 2 = 1 from h) (by decide), trivial⟩, rfl⟩, _, rfl, _, _, rfl, fun _ _ _ _ => rfl, _, _, rfl, fun _ _ _ _ => rfl, ?_⟩
      cbv
      replace h := of_req h
      obtain ⟨c55, h⟩ := h
      replace h := of_let h
      obtain ⟨l53, hl53, h⟩ := h
      have e54 : A.nadd (LEN v7) (LEN y51) = LEN l53 := by subst hl53 hLEN hA; simp [std, len]
      refine ⟨c55, _, congrArg (fun n => AV.c (AC.os 1024 0 n)) e54, _, row GD (encOccurrence LEN GD) l53, e54, ?_, ?_⟩
      ·subst hGD hLEN hA
       exact app_os (off := 0) (pl_encOccurrence) hl53 (Nat.le_refl _)
      cbv
      injection h with h
      subst h
      subst hS42
      show St.le _ _
      exact le_sparse rfl ⟨lR _, lR _, lR _, lR _, lR _, lR _, lR _, lR _, trivial⟩ ⟨rfl, rfl, rfl, oS, oS, trivial⟩ rfl
     ·replace h := of_br_f b56 h
      cbv
      injection h with h
      subst h
      subst hS42
      show St.le _ _
      exact le_sparse rfl ⟨lR _, lR _, lR _, lR _, lR _, lR _, lR _, lR _, trivial⟩ ⟨rfl, rfl, rfl, oS, oS, trivial⟩ rfl
    ·clear hy38
     subst hS42
     replace h := of_let h
     obtain ⟨w43, hw43, h⟩ := h
     have hw43 : w43 = y37 := hw43
     subst hw43
     cbv
     injection h with h
     refine hK14 _ h.symm _ ?_
     exact le_sparse rfl ⟨lR _, lR _, lR _, lR _, lR _, lR _, lR _, lR _, trivial⟩ ⟨rfl, rfl, rfl, oS, oS, trivial⟩ rfl
  ·replace h := of_br_f b57 h
   cbv
   injection h with h
   refine hY12 _ h.symm _ _ (And.intro rfl ?_) (by intro hh; cases hh)
   exact le_sparse rfl ⟨lR _, trivial⟩ ⟨oS, trivial⟩ rfl
 ·clear hr10
  have h := hN11
  clear hN11
  intro e18 s19 q17 hne
  replace h := of_let h
  obtain ⟨y9k0, hyk, h⟩ := h
  have hyk : y9k0 = y9 := hyk
  subst hyk
  obtain ⟨rfl, q17⟩ := q17
  replace h := of_let h
  obtain ⟨w58, hw58, h⟩ := h
  have hw58 : w58 = y9k0 := hw58
  subst hw58
  cbv
  refine ⟨_, q17, ?_⟩
  cbv
  injection h with h
  subst h
  refine ⟨(sparse 71 [(8, .c (.os 64000 0 (LEN w58)))] [(64000, .arr .rw [] (LEN w58) 5 (row GD (encOccurrence LEN GD) w58))]), ?_, ?_⟩
  ·refine St.le_trans (le_ren 1024 64000 (by decide) rfl) ?_
   exact le_sparse rfl ⟨lR _, trivial⟩ ⟨oS, trivial⟩ rfl
  ·exact ⟨lR _, ⟨oS, trivial⟩, rfl⟩
/-- as deep as this -/
noncomputable def FR_impl_visits : Nat → TLibrary → (List (List TRect)) → TRect → TOccurrence → Option (List TOccurrence)
 | 0 => fun _ _ _ _ => none
 | k + 1 => FS_impl_visits (FR_impl_visits k)
theorem runR_impl_visits : ∀ (k : Nat) (a0 : TLibrary) (a1 : List (List TRect)) (a2 : TRect) (a3 : TOccurrence) (r : List TOccurrence), FR_impl_visits k a0 a1 a2 a3 = some r → Fun Try.prog 93 [.agg [.bs (len a0.fCells) 4 (row gd (encCell len gd) a0.fCells)], .c (.bs (len a1) 1 (row gd (encL len gd 4 (encRect)) a1)), .agg [.v (.int .i64 a2.fX0), .v (.int .i64 a2.fY0), .v (.int .i64 a2.fX1), .v (.int .i64 a2.fY1)], .agg [.v (.int .i64 a3.fCell), .v (.int .i64 a3.fPlace.fOrientation), .v (.int .i64 a3.fPlace.fX), .v (.int .i64 a3.fPlace.fY), .bs (len a3.fPath) 1 (row gd (encI .i64) a3.fPath)]] [] (.c (.os 64000 0 (len r))) [(64000, .arr .rw [] (len r) 5 (row gd (encOccurrence len gd) r))] false := by
 intro k
 induction k with
 | zero => intro a0 a1 a2 a3 r h; cases h
 | succ k ih => exact fun a0 a1 a2 a3 r h => runS_impl_visits (FR_impl_visits k) ih a0 a1 a2 a3 r h
/-- impl.visits -/
noncomputable def F_impl_visits (a0 : TLibrary) (a1 : List (List TRect)) (a2 : TRect) (a3 : TOccurrence) : Option (List TOccurrence) := FR_impl_visits 64 a0 a1 a2 a3
theorem run_impl_visits (a0 : TLibrary) (a1 : List (List TRect)) (a2 : TRect) (a3 : TOccurrence) (r : List TOccurrence) (h : F_impl_visits a0 a1 a2 a3 = some r) : Fun Try.prog 93 [.agg [.bs (len a0.fCells) 4 (row gd (encCell len gd) a0.fCells)], .c (.bs (len a1) 1 (row gd (encL len gd 4 (encRect)) a1)), .agg [.v (.int .i64 a2.fX0), .v (.int .i64 a2.fY0), .v (.int .i64 a2.fX1), .v (.int .i64 a2.fY1)], .agg [.v (.int .i64 a3.fCell), .v (.int .i64 a3.fPlace.fOrientation), .v (.int .i64 a3.fPlace.fX), .v (.int .i64 a3.fPlace.fY), .bs (len a3.fPath) 1 (row gd (encI .i64) a3.fPath)]] [] (.c (.os 64000 0 (len r))) [(64000, .arr .rw [] (len r) 5 (row gd (encOccurrence len gd) r))] false := runR_impl_visits 64 a0 a1 a2 a3 r h

/-- impl.visited -/
noncomputable def F_impl_visited (a0 : TLibrary) (a1 : Int) (a2 : TRect) : Option (List TOccurrence) :=
 (F_impl_contentBoxes (TLibrary.mk a0.fCells)).bind fun y1 =>
 (F_impl_visits (TLibrary.mk a0.fCells) y1 a2 (TOccurrence.mk a1 (TTransform.mk 0 0 0) ([] : List Int))).bind fun y3 =>
 some y3
theorem run_impl_visited (a0 : TLibrary) (a1 : Int) (a2 : TRect) (r : List TOccurrence) (h : F_impl_visited a0 a1 a2 = some r) : Fun Try.prog 52 [.agg [.bs (len a0.fCells) 4 (row gd (encCell len gd) a0.fCells)], .c (.v (.int .i64 a1)), .agg [.v (.int .i64 a2.fX0), .v (.int .i64 a2.fY0), .v (.int .i64 a2.fX1), .v (.int .i64 a2.fY1)]] [] (.c (.os 64000 0 (len r))) [(64000, .arr .rw [] (len r) 5 (row gd (encOccurrence len gd) r))] false := by
 refine Fun.of_wp (oneOf []) tok mixed Try.func52 (by kernel_rfl) rfl Try.ntmps52 rfl trivial (fun h => by cases h) ?_
 unfold F_impl_visited at h
 have hf_impl_contentBoxes := @run_impl_contentBoxes
 have hf_impl_visits := @run_impl_visits
 generalize hLEN : @len = LEN at *
 generalize hGD : @gd = GD at *
 generalize hA : std = A at *
 generalize hP : Try.prog = P at *
 cbv
 replace h := of_bind h
 obtain ⟨y1, hy2, h⟩ := h
 refine ⟨{ args := [.agg [.bs (LEN a0.fCells) 4 (row GD (encCell LEN GD) a0.fCells)]], o0 := [], r := .c (.os 64000 0 (LEN y1)), o1 := [(64000, .arr .rw [] (LEN y1) 1 (row GD (oncL LEN GD 4 (encRect)) y1))], fl := true, σ := [], τ := [(64000, 576)] }, hf_impl_contentBoxes _ _ hy2, ⟨les_cons (lR _) (les_nil), trivial, rfl, rfl, rfl, rfl, ⟨fun h => absurd (show (64000 : Nat) % 2 = 1 from h) (by decide), trivial⟩, rfl⟩, _, rfl, _, _, rfl, fun _ _ _ _ => rfl, ?_⟩
 cbv
 replace h := of_bind h
 obtain ⟨y3, hy4, h⟩ := h
 refine ⟨{ args := [.agg [.bs (LEN a0.fCells) 4 (row GD (encCell LEN GD) a0.fCells)], .c (.bs (LEN y1) 1 (row GD (encL LEN GD 4 (encRect)) y1)), .agg [.v (.int .i64 a2.fX0), .v (.int .i64 a2.fY0), .v (.int .i64 a2.fX1), .v (.int .i64 a2.fY1)], .agg [.v (.int .i64 a1), .v (.int .i64 0), .v (.int .i64 0), .v (.int .i64 0), .bs (LEN ([] : List Int)) 1 (row GD (encI .i64) ([] : List Int))]], o0 := [], r := .c (.os 64000 0 (LEN y3)), o1 := [(64000, .arr .rw [] (LEN y3) 5 (row GD (encOccurrence LEN GD) y3))], fl := false, σ := [], τ := [(64000, 832)] }, hf_impl_visits _ _ _ _ _ hy4, ⟨les_cons (lR _) (les_cons (give_osD (fun _ _ => rfl) (fun _ _ => rfl) rfl rfl rfl) (les_cons (lR _) (les_cons (le_agg ⟨lR _, lR _, lR _, lR _, (by subst hLEN; exact le_nil_bs), trivial⟩) (les_nil)))), trivial, rfl, rfl, rfl, rfl, ⟨fun h => absurd (show (64000 : Nat) % 2 = 1 from h) (by decide), trivial⟩, rfl⟩, _, rfl, _, _, rfl, fun _ _ _ _ => rfl, _, _, rfl, fun _ _ _ _ => rfl, ?_⟩
 cbv
 injection h with h
 subst h
 refine ⟨(sparse 14 [(6, .c (.os 64000 0 (LEN y3)))] [(64000, .arr .rw [] (LEN y3) 5 (row GD (encOccurrence LEN GD) y3))]), ?_, ?_⟩
 ·refine St.le_trans (le_ren 832 64000 (by decide) rfl) ?_
  exact le_sparse rfl ⟨lR _, trivial⟩ ⟨oS, trivial⟩ rfl
 ·exact ⟨lR _, ⟨oS, trivial⟩, rfl⟩
/-- impl.VisitedCount -/
noncomputable def F_impl_VisitedCount (a0 : TLibrary) (a1 : Int) (a2 : TRect) : Option (Int) :=
 ((
    (F_impl_hasCell (TLibrary.mk a0.fCells) a1).bind fun y8 =>
    br (!(y8))
    (some true)
    ((F_impl_IsValidRect a2).bind fun y10 =>
    br (!(y10))
    (some true)
    ((F_impl_elementCount (TLibrary.mk a0.fCells) a1).bind fun y12 =>
    some (std.lt 200 y12)))
  ) : Option (Bool)).bind fun y1 =>
 letO y1 fun w7 =>
 br w7
 (some (-1))
 ((F_impl_visited (TLibrary.mk a0.fCells) a1 a2).bind fun y16 =>
 some (std.ofN (len y16)))
theorem run_impl_VisitedCount (a0 : TLibrary) (a1 : Int) (a2 : TRect) (r : Int) (h : F_impl_VisitedCount a0 a1 a2 = some r) : Fun Try.prog 14 [.agg [.bs (len a0.fCells) 4 (row gd (encCell len gd) a0.fCells)], .c (.v (.int .i64 a1)), .agg [.v (.int .i64 a2.fX0), .v (.int .i64 a2.fY0), .v (.int .i64 a2.fX1), .v (.int .i64 a2.fY1)]] [] (.c (.v (.int .i64 r))) [] true := by
 refine Fun.of_wp (oneOf [1]) tok mixed Try.func14 (by kernel_rfl) rfl Try.ntmps14 rfl trivial (fun _ => ⟨trivial, trivial⟩) ?_
 unfold F_impl_VisitedCount at h
 have hf_impl_IsValidRect := @run_impl_IsValidRect
 have hf_impl_elementCount := @run_impl_elementCount
 have hf_impl_hasCell := @run_impl_hasCell
 have hf_impl_visited := @run_impl_visited
 generalize hLEN : @len = LEN at *
 generalize hGD : @gd = GD at *
 generalize hA : std = A at *
 generalize hP : Try.prog = P at *
 cbv
 replace h := of_bind h
 obtain ⟨y1, hy2, h⟩ := h
 obtain ⟨S5, hS6⟩ : ∃ S, S = (sparse 27 [(1, .c (.v (.int .i64 a1))), (3, .c (.ptr 192 0)), (5, .c (.ptr 320 0)), (21, .c (.v (.bool y1)))] [(192, .var [.bs (LEN a0.fCells) 4 (row GD (encCell LEN GD) a0.fCells)]), (320, .var [.v (.int .i64 a2.fX0), .v (.int .i64 a2.fY0), .v (.int .i64 a2.fX1), .v (.int .i64 a2.fY1)])]) := ⟨_, rfl⟩
 refine ⟨S5, ?_, ?_⟩
 ·clear h
  have h := hy2
  clear hy2
  cbv
  replace h := of_bind h
  obtain ⟨y8, hy9, h⟩ := h
  refine ⟨{ args := [.agg [.bs (LEN a0.fCells) 4 (row GD (encCell LEN GD) a0.fCells)], .c (.v (.int .i64 a1))], o0 := [], r := .c (.v (.bool y8)), o1 := [], fl := true, σ := [], τ := [] }, hf_impl_hasCell _ _ _ hy9, ⟨les_cons (lR _) (les_cons (lR _) (les_nil)), trivial, rfl, rfl, rfl, rfl, trivial, rfl⟩, ?_⟩
  cbv
  refine fork (fun b15 => ?_) (fun b15 => ?_)
  ·replace h := of_br_t b15 h
   cbv
   injection h with h
   subst h
   subst hS6
   show St.le _ _
   exact le_sparse rfl ⟨lR _, lR _, lR _, lR _, trivial⟩ ⟨rfl, rfl, trivial⟩ rfl
  ·replace h := of_br_f b15 h
   cbv
   replace h := of_bind h
   obtain ⟨y10, hy11, h⟩ := h
   refine ⟨{ args := [.agg [.v (.int .i64 a2.fX0), .v (.int .i64 a2.fY0), .v (.int .i64 a2.fX1), .v (.int .i64 a2.fY1)]], o0 := [], r := .c (.v (.bool y10)), o1 := [], fl := true, σ := [], τ := [] }, hf_impl_IsValidRect _ _ hy11, ⟨les_cons (lR _) (les_nil), trivial, rfl, rfl, rfl, rfl, trivial, rfl⟩, ?_⟩
   cbv
   refine fork (fun b14 => ?_) (fun b14 => ?_)
   ·replace h := of_br_t b14 h
    cbv
    injection h with h
    subst h
    subst hS6
    show St.le _ _
    exact le_sparse rfl ⟨lR _, lR _, lR _, lR _, trivial⟩ ⟨rfl, rfl, trivial⟩ rfl
   ·replace h := of_br_f b14 h
    cbv
    replace h := of_bind h
    obtain ⟨y12, hy13, h⟩ := h
    refine ⟨{ args := [.agg [.bs (LEN a0.fCells) 4 (row GD (encCell LEN GD) a0.fCells)], .c (.v (.int .i64 a1))], o0 := [], r := .c (.v (.int .i64 y12)), o1 := [], fl := true, σ := [], τ := [] }, hf_impl_elementCount _ _ _ hy13, ⟨les_cons (lR _) (les_cons (lR _) (les_nil)), trivial, rfl, rfl, rfl, rfl, trivial, rfl⟩, ?_⟩
    cbv
    injection h with h
    subst h
    subst hS6
    show St.le _ _
    exact le_sparse rfl ⟨lR _, lR _, lR _, lR _, trivial⟩ ⟨rfl, rfl, trivial⟩ rfl
 ·clear hy2
  subst hS6
  replace h := of_let h
  obtain ⟨w7, hw7, h⟩ := h
  have hw7 : w7 = y1 := hw7
  subst hw7
  cbv
  refine fork (fun b18 => ?_) (fun b18 => ?_)
  ·replace h := of_br_t b18 h
   cbv
   injection h with h
   subst h
   refine ⟨(sparse 27 [(6, .c (.v (.int .i64 (-1))))] []), ?_, ?_⟩
   ·exact le_sparse rfl ⟨lR _, trivial⟩ trivial rfl
   ·exact ⟨lR _, trivial, rfl⟩
  ·replace h := of_br_f b18 h
   cbv
   replace h := of_bind h
   obtain ⟨y16, hy17, h⟩ := h
   refine ⟨{ args := [.agg [.bs (LEN a0.fCells) 4 (row GD (encCell LEN GD) a0.fCells)], .c (.v (.int .i64 a1)), .agg [.v (.int .i64 a2.fX0), .v (.int .i64 a2.fY0), .v (.int .i64 a2.fX1), .v (.int .i64 a2.fY1)]], o0 := [], r := .c (.os 64000 0 (LEN y16)), o1 := [(64000, .arr .rw [] (LEN y16) 5 (row GD (encOccurrence LEN GD) y16))], fl := false, σ := [], τ := [(64000, 1600)] }, hf_impl_visited _ _ _ _ hy17, ⟨les_cons (lR _) (les_cons (lR _) (les_cons (lR _) (les_nil))), trivial, rfl, rfl, rfl, rfl, ⟨fun h => absurd (show (64000 : Nat) % 2 = 1 from h) (by decide), trivial⟩, rfl⟩, _, rfl, _, _, rfl, fun _ _ _ _ => rfl, ?_⟩
   cbv
   injection h with h
   subst h
   refine ⟨(sparse 27 [(6, .c (.v (.int .i64 (A.ofN (LEN y16)))))] []), ?_, ?_⟩
   ·exact le_sparse rfl ⟨lR _, trivial⟩ trivial rfl
   ·exact ⟨lR _, trivial, rfl⟩

/-- impl.ElementCount -/
noncomputable def F_impl_ElementCount (a0 : TLibrary) (a1 : Int) : Option (Int) :=
 (F_impl_hasCell a0 a1).bind fun y1 =>
 br (!(y1))
 (some (-1))
 ((F_impl_elementCount a0 a1).bind fun y3 =>
 some y3)
theorem run_impl_ElementCount (a0 : TLibrary) (a1 : Int) (r : Int) (h : F_impl_ElementCount a0 a1 = some r) : Fun Try.prog 15 [.agg [.bs (len a0.fCells) 4 (row gd (encCell len gd) a0.fCells)], .c (.v (.int .i64 a1))] [] (.c (.v (.int .i64 r))) [] true := by
 refine Fun.of_wp (oneOf []) tok mixed Try.func15 (by kernel_rfl) rfl Try.ntmps15 rfl trivial (fun _ => ⟨trivial, trivial⟩) ?_
 unfold F_impl_ElementCount at h
 have hf_impl_elementCount := @run_impl_elementCount
 have hf_impl_hasCell := @run_impl_hasCell
 generalize hLEN : @len = LEN at *
 generalize hGD : @gd = GD at *
 generalize hA : std = A at *
 generalize hP : Try.prog = P at *
 cbv
 replace h := of_bind h
 obtain ⟨y1, hy2, h⟩ := h
 refine ⟨{ args := [.agg [.bs (LEN a0.fCells) 4 (row GD (encCell LEN GD) a0.fCells)], .c (.v (.int .i64 a1))], o0 := [], r := .c (.v (.bool y1)), o1 := [], fl := true, σ := [], τ := [] }, hf_impl_hasCell _ _ _ hy2, ⟨les_cons (lR _) (les_cons (lR _) (les_nil)), trivial, rfl, rfl, rfl, rfl, trivial, rfl⟩, ?_⟩
 cbv
 refine fork (fun b5 => ?_) (fun b5 => ?_)
 ·replace h := of_br_t b5 h
  cbv
  injection h with h
  subst h
  refine ⟨(sparse 12 [(4, .c (.v (.int .i64 (-1))))] []), ?_, ?_⟩
  ·exact le_sparse rfl ⟨lR _, trivial⟩ trivial rfl
  ·exact ⟨lR _, trivial, rfl⟩
 ·replace h := of_br_f b5 h
  cbv
  replace h := of_bind h
  obtain ⟨y3, hy4, h⟩ := h
  refine ⟨{ args := [.agg [.bs (LEN a0.fCells) 4 (row GD (encCell LEN GD) a0.fCells)], .c (.v (.int .i64 a1))], o0 := [], r := .c (.v (.int .i64 y3)), o1 := [], fl := true, σ := [], τ := [] }, hf_impl_elementCount _ _ _ hy4, ⟨les_cons (lR _) (les_cons (lR _) (les_nil)), trivial, rfl, rfl, rfl, rfl, trivial, rfl⟩, ?_⟩
  cbv
  injection h with h
  subst h
  refine ⟨(sparse 12 [(4, .c (.v (.int .i64 y3)))] []), ?_, ?_⟩
  ·exact le_sparse rfl ⟨lR _, trivial⟩ trivial rfl
  ·exact ⟨lR _, trivial, rfl⟩

/-- spec.IsValidRect -/
noncomputable def F_spec_IsValidRect (a0 : TRect) : Option (Bool) :=
 ((
    br (std.le (-40) a0.fX0)
    (br (std.lt a0.fX0 a0.fX1)
    (br (std.le a0.fX1 40)
    (br (std.le (-40) a0.fY0)
    (br (std.lt a0.fY0 a0.fY1)
    (some (std.le a0.fY1 40))
    (some false))
    (some false))
    (some false))
    (some false))
    (some false)
  ) : Option (Bool)).bind fun y1 =>
 letO y1 fun w7 =>
 some w7
theorem run_spec_IsValidRect (a0 : TRect) (r : Bool) (h : F_spec_IsValidRect a0 = some r) : Fun Try.prog 16 [.agg [.v (.int .i64 a0.fX0), .v (.int .i64 a0.fY0), .v (.int .i64 a0.fX1), .v (.int .i64 a0.fY1)]] [] (.c (.v (.bool r))) [] true := by
 refine Fun.of_wp (oneOf [1]) tok mixed Try.func16 (by kernel_rfl) rfl Try.ntmps16 rfl trivial (fun _ => ⟨trivial, trivial⟩) ?_
 unfold F_spec_IsValidRect at h
 generalize hLEN : @len = LEN at *
 generalize hGD : @gd = GD at *
 generalize hA : std = A at *
 generalize hP : Try.prog = P at *
 cbv
 replace h := of_bind h
 obtain ⟨y1, hy2, h⟩ := h
 obtain ⟨S5, hS6⟩ : ∃ S, S = (sparse 35 [(2, .c (.v (.bool y1)))] []) := ⟨_, rfl⟩
 refine ⟨S5, ?_, ?_⟩
 ·clear h
  have h := hy2
  clear hy2
  cbv
  refine fork (fun b12 => ?_) (fun b12 => ?_)
  ·replace h := of_br_t b12 h
   cbv
   refine fork (fun b11 => ?_) (fun b11 => ?_)
   ·replace h := of_br_t b11 h
    cbv
    refine fork (fun b10 => ?_) (fun b10 => ?_)
    ·replace h := of_br_t b10 h
     cbv
     refine fork (fun b9 => ?_) (fun b9 => ?_)
     ·replace h := of_br_t b9 h
      cbv
      refine fork (fun b8 => ?_) (fun b8 => ?_)
      ·replace h := of_br_t b8 h
       cbv
       injection h with h
       subst h
       subst hS6
       show St.le _ _
       exact le_sparse rfl ⟨lR _, trivial⟩ trivial rfl
      ·replace h := of_br_f b8 h
       cbv
       injection h with h
       subst h
       subst hS6
       show St.le _ _
       exact le_sparse rfl ⟨lR _, trivial⟩ trivial rfl
     ·replace h := of_br_f b9 h
      cbv
      injection h with h
      subst h
      subst hS6
      show St.le _ _
      exact le_sparse rfl ⟨lR _, trivial⟩ trivial rfl
    ·replace h := of_br_f b10 h
     cbv
     injection h with h
     subst h
     subst hS6
     show St.le _ _
     exact le_sparse rfl ⟨lR _, trivial⟩ trivial rfl
   ·replace h := of_br_f b11 h
    cbv
    injection h with h
    subst h
    subst hS6
    show St.le _ _
    exact le_sparse rfl ⟨lR _, trivial⟩ trivial rfl
  ·replace h := of_br_f b12 h
   cbv
   injection h with h
   subst h
   subst hS6
   show St.le _ _
   exact le_sparse rfl ⟨lR _, trivial⟩ trivial rfl
 ·clear hy2
  subst hS6
  replace h := of_let h
  obtain ⟨w7, hw7, h⟩ := h
  have hw7 : w7 = y1 := hw7
  subst hw7
  cbv
  injection h with h
  subst h
  refine ⟨(sparse 35 [(2, .c (.v (.bool w7)))] []), ?_, ?_⟩
  ·exact le_sparse rfl ⟨lR _, trivial⟩ trivial rfl
  ·exact ⟨lR _, trivial, rfl⟩

/-- laws.FnVisited -/
noncomputable def F_laws_FnVisited (a0 : List Int) : Option (Bool) :=
 (F_laws_big a0).bind fun y1 =>
 br y1
 (some true)
 ((F_spec_DrawVisitedCount a0).bind fun y3 =>
 (F_impl_VisitedCount y3.1 y3.2.1 y3.2.2).bind fun y5 =>
 br (std.lt y5 0)
 ((F_impl_ElementCount y3.1 y3.2.1).bind fun y7 =>
 ((
    (F_spec_IsValidRect y3.2.2).bind fun y16 =>
    br (!(y16))
    (some true)
    (br (std.eq y7 (-1))
    (some true)
    (some (std.lt 200 y7)))
  ) : Option (Bool)).bind fun y9 =>
 letO y9 fun w15 =>
 some w15)
 ((F_impl_VisitedCount y3.1 y3.2.1 (TRect.mk (-40) (-40) 40 40)).bind fun y20 =>
 ((
    br (std.le 1 y5)
    (br (std.le y5 y20)
    ((F_impl_ElementCount y3.1 y3.2.1).bind fun y29 =>
    some (std.le y20 y29))
    (some false))
    (some false)
  ) : Option (Bool)).bind fun y22 =>
 letO y22 fun w28 =>
 some w28))
theorem run_laws_FnVisited (a0 : List Int) (r : Bool) (h : F_laws_FnVisited a0 = some r) : Fun Try.prog 3 [.c (.bs (len a0) 1 (row gd (encI .u8) a0))] [] (.c (.v (.bool r))) [] true := by
 refine Fun.of_wp (oneOf [7, 9]) tok mixed Try.func3 (by kernel_rfl) rfl Try.ntmps3 rfl trivial (fun _ => ⟨trivial, trivial⟩) ?_
 unfold F_laws_FnVisited at h
 have hf_impl_ElementCount := @run_impl_ElementCount
 have hf_impl_VisitedCount := @run_impl_VisitedCount
 have hf_laws_big := @run_laws_big
 have hf_spec_DrawVisitedCount := @run_spec_DrawVisitedCount
 have hf_spec_IsValidRect := @run_spec_IsValidRect
 generalize hLEN : @len = LEN at *
 generalize hGD : @gd = GD at *
 generalize hA : std = A at *
 generalize hP : Try.prog = P at *
 cbv
 replace h := of_bind h
 obtain ⟨y1, hy2, h⟩ := h
 refine ⟨{ args := [.c (.bs (LEN a0) 1 (row GD (encI .u8) a0))], o0 := [], r := .c (.v (.bool y1)), o1 := [], fl := true, σ := [], τ := [] }, hf_laws_big _ _ hy2, ⟨les_cons (lR _) (les_nil), trivial, rfl, rfl, rfl, rfl, trivial, rfl⟩, ?_⟩
 cbv
 refine fork (fun b34 => ?_) (fun b34 => ?_)
 ·replace h := of_br_t b34 h
  cbv
  injection h with h
  subst h
  refine ⟨(sparse 55 [(2, .c (.v (.bool true)))] []), ?_, ?_⟩
  ·exact le_sparse rfl ⟨lR _, trivial⟩ trivial rfl
  ·exact ⟨lR _, trivial, rfl⟩
 ·replace h := of_br_f b34 h
  cbv
  replace h := of_bind h
  obtain ⟨y3, hy4, h⟩ := h
  refine ⟨{ args := [.c (.bs (LEN a0) 1 (row GD (encI .u8) a0))], o0 := [], r := .tup [.agg [.os 64000 0 (LEN y3.1.fCells)], .c (.v (.int .i64 y3.2.1)), .agg [.v (.int .i64 y3.2.2.fX0), .v (.int .i64 y3.2.2.fY0), .v (.int .i64 y3.2.2.fX1), .v (.int .i64 y3.2.2.fY1)]], o1 := [(64000, .arr .rw [] (LEN y3.1.fCells) 4 (row GD (oncCell LEN GD) y3.1.fCells))], fl := true, σ := [], τ := [(64000, 832)] }, hf_spec_DrawVisitedCount _ _ hy4, ⟨les_cons (lR _) (les_nil), trivial, rfl, rfl, rfl, rfl, ⟨fun h => absurd (show (64000 : Nat) % 2 = 1 from h) (by decide), trivial⟩, rfl⟩, _, rfl, _, _, rfl, fun _ _ _ _ => rfl, ?_⟩
  cbv
  replace h := of_bind h
  obtain ⟨y5, hy6, h⟩ := h
  refine ⟨{ args := [.agg [.bs (LEN y3.1.fCells) 4 (row GD (encCell LEN GD) y3.1.fCells)], .c (.v (.int .i64 y3.2.1)), .agg [.v (.int .i64 y3.2.2.fX0), .v (.int .i64 y3.2.2.fY0), .v (.int .i64 y3.2.2.fX1), .v (.int .i64 y3.2.2.fY1)]], o0 := [], r := .c (.v (.int .i64 y5)), o1 := [], fl := true, σ := [], τ := [] }, hf_impl_VisitedCount _ _ _ _ hy6, ⟨les_cons (le_agg ⟨give_osD (rf_oncCell) (ln_oncCell) rfl rfl rfl, trivial⟩) (les_cons (lR _) (les_cons (lR _) (les_nil))), trivial, rfl, rfl, rfl, rfl, trivial, rfl⟩, ?_⟩
  cbv
  refine fork (fun b33 => ?_) (fun b33 => ?_)
  ·replace h := of_br_t b33 h
   cbv
   replace h := of_bind h
   obtain ⟨y7, hy8, h⟩ := h
   refine ⟨{ args := [.agg [.bs (LEN y3.1.fCells) 4 (row GD (encCell LEN GD) y3.1.fCells)], .c (.v (.int .i64 y3.2.1))], o0 := [], r := .c (.v (.int .i64 y7)), o1 := [], fl := true, σ := [], τ := [] }, hf_impl_ElementCount _ _ _ hy8, ⟨les_cons (le_agg ⟨give_osD (rf_oncCell) (ln_oncCell) rfl rfl rfl, trivial⟩) (les_cons (lR _) (les_nil)), trivial, rfl, rfl, rfl, rfl, trivial, rfl⟩, ?_⟩
   cbv
   replace h := of_bind h
   obtain ⟨y9, hy10, h⟩ := h
   obtain ⟨S13, hS14⟩ : ∃ S, S = (sparse 55 [(2, .c (.v (.bool y9)))] []) := ⟨_, rfl⟩
   refine ⟨S13, ?_, ?_⟩
   ·clear h
    have h := hy10
    clear hy10
    cbv
    replace h := of_bind h
    obtain ⟨y16, hy17, h⟩ := h
    refine ⟨{ args := [.agg [.v (.int .i64 y3.2.2.fX0), .v (.int .i64 y3.2.2.fY0), .v (.int .i64 y3.2.2.fX1), .v (.int .i64 y3.2.2.fY1)]], o0 := [], r := .c (.v (.bool y16)), o1 := [], fl := true, σ := [], τ := [] }, hf_spec_IsValidRect _ _ hy17, ⟨les_cons (lR _) (les_nil), trivial, rfl, rfl, rfl, rfl, trivial, rfl⟩, ?_⟩
    cbv
    refine fork (fun b19 => ?_) (fun b19 => ?_)
    ·replace h := of_br_t b19 h
     cbv
     injection h with h
     subst h
     subst hS14
     show St.le _ _
     exact le_sparse rfl ⟨lR _, trivial⟩ trivial rfl
    ·replace h := of_br_f b19 h
     cbv
     refine fork (fun b18 => ?_) (fun b18 => ?_)
     ·replace h := of_br_t b18 h
      cbv
      injection h with h
      subst h
      subst hS14
      show St.le _ _
      exact le_sparse rfl ⟨lR _, trivial⟩ trivial rfl
     ·replace h := of_br_f b18 h
      cbv
      injection h with h
      subst h
      subst hS14
      show St.le _ _
      exact le_sparse rfl ⟨lR _, trivial⟩ trivial rfl
   ·clear hy10
    subst hS14
    replace h := of_let h
    obtain ⟨w15, hw15, h⟩ := h
    have hw15 : w15 = y9 := hw15
    subst hw15
    cbv
    injection h with h
    subst h
    refine ⟨(sparse 55 [(2, .c (.v (.bool w15)))] []), ?_, ?_⟩
    ·exact le_sparse rfl ⟨lR _, trivial⟩ trivial rfl
    ·exact ⟨lR _, trivial, rfl⟩
  ·replace h := of_br_f b33 h
   cbv
   replace h := of_bind h
   obtain ⟨y20, hy21, h⟩ := h
   refine ⟨{ args := [.agg [.bs (LEN y3.1.fCells) 4 (row GD (encCell LEN GD) y3.1.fCells)], .c (.v (.int .i64 y3.2.1)), .agg [.v (.int .i64 (-40)), .v (.int .i64 (-40)), .v (.int .i64 40), .v (.int .i64 40)]], o0 := [], r := .c (.v (.int .i64 y20)), o1 := [], fl := true, σ := [], τ := [] }, hf_impl_VisitedCount _ _ _ _ hy21, ⟨les_cons (le_agg ⟨give_osD (rf_oncCell) (ln_oncCell) rfl rfl rfl, trivial⟩) (les_cons (lR _) (les_cons (lR _) (les_nil))), trivial, rfl, rfl, rfl, rfl, trivial, rfl⟩, ?_⟩
   cbv
   replace h := of_bind h
   obtain ⟨y22, hy23, h⟩ := h
   obtain ⟨S26, hS27⟩ : ∃ S, S = (sparse 55 [(2, .c (.v (.bool y22)))] []) := ⟨_, rfl⟩
   refine ⟨S26, ?_, ?_⟩
   ·clear h
    have h := hy23
    clear hy23
    cbv
    refine fork (fun b32 => ?_) (fun b32 => ?_)
    ·replace h := of_br_t b32 h
     cbv
     refine fork (fun b31 => ?_) (fun b31 => ?_)
     ·replace h := of_br_t b31 h
      cbv
      replace h := of_bind h
      obtain ⟨y29, hy30, h⟩ := h
      refine ⟨{ args := [.agg [.bs (LEN y3.1.fCells) 4 (row GD (encCell LEN GD) y3.1.fCells)], .c (.v (.int .i64 y3.2.1))], o0 := [], r := .c (.v (.int .i64 y29)), o1 := [], fl := true, σ := [], τ := [] }, hf_impl_ElementCount _ _ _ hy30, ⟨les_cons (le_agg ⟨give_osD (rf_oncCell) (ln_oncCell) rfl rfl rfl, trivial⟩) (les_cons (lR _) (les_nil)), trivial, rfl, rfl, rfl, rfl, trivial, rfl⟩, ?_⟩
      cbv
      injection h with h
      subst h
      subst hS27
      show St.le _ _
      exact le_sparse rfl ⟨lR _, trivial⟩ trivial rfl
     ·replace h := of_br_f b31 h
      cbv
      injection h with h
      subst h
      subst hS27
      show St.le _ _
      exact le_sparse rfl ⟨lR _, trivial⟩ trivial rfl
    ·replace h := of_br_f b32 h
     cbv
     injection h with h
     subst h
     subst hS27
     show St.le _ _
     exact le_sparse rfl ⟨lR _, trivial⟩ trivial rfl
   ·clear hy23
    subst hS27
    replace h := of_let h
    obtain ⟨w28, hw28, h⟩ := h
    have hw28 : w28 = y22 := hw28
    subst hw28
    cbv
    injection h with h
    subst h
    refine ⟨(sparse 55 [(2, .c (.v (.bool w28)))] []), ?_, ?_⟩
    ·exact le_sparse rfl ⟨lR _, trivial⟩ trivial rfl
    ·exact ⟨lR _, trivial, rfl⟩
theorem op_5 (d : Nat) : Opens T (d + 1) 5 (clI .u8) (wfI .u8) := op_int .u8 (show T 5 = some d5 from rfl) rfl
theorem op_22 (d : Nat) : Opens T (d + 2) 22 (clL 1 (encI .u8)) (wfL (wfI .u8)) := op_slice (e := 5) (sz := 1) (show T 22 = some d22 from rfl) rfl (show T 5 = some d5 from rfl) rfl (fun x j hj => by match j, hj with | 0, _ => rfl | (j_ + 1), h_ => exact absurd h_ (by omega)) (op_5 d)
theorem open_22 {H : Type} {enc : TypeId × Value → H} {W : World} {spare : Nat → Bool} {held : Bool} {r : Reach} {base : Nat} {v : Value} {x : DataW H} {ps : List MemPlace}
    (hv : Value.okWide Try.prog W r base 22 v) (h : DataW.Trod enc Try.prog W 0 spare held 22 v x ps) : ∃ e : List Int, (wfL (wfI .u8)) e ∧ RelV (RelI (fun b => b < W.heap.size) W) (.c (.bs (len e) 1 (row gd (encI .u8) e))) v := by
  refine opened_one tok (op_22 0) (fun _ => rfl) (by kernel_rfl) ?_ h
  have ht : Try.prog.underlying 22 = some (.slice 5) := (tok 22 d22 rfl).1
  unfold Value.okWide at hv
  rw [ht] at hv
  cases v <;> first | rfl | exact False.elim hv
end Go.Proofs.Ytmdlnjeppemipaa.AM
