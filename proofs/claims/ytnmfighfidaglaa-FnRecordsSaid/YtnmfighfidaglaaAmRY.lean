/-
  What the functions that the law reaches compute, and that they do. No condition.
-/
import Derived.Test.YtnmfighfidaglaaAmRX
import Derived.Test.YtnmfighfidaglaaAmE
namespace Go.Proofs.Ytnmfighfidaglaa.AM
open Go Go.Proofs Go.RowKit
set_option linter.unusedVariables false
set_option linter.unusedSimpArgs false
set_option maxRecDepth 100000

/-- impl.validCell$3 -/
noncomputable def F_impl_validCell_3_mbp (a0 : TInstance) (a1 : Int) : Option (Bool) :=
 (F_impl_validInstance (TInstance.mk a0.fCell a0.fPlace a0.fColumns a0.fRows a0.fStepX a0.fStepY) a1).bind fun y1 =>
 some (!(y1))
theorem run_impl_validCell_3_mbp (a0 : TInstance) (a1 : Int) (r : Bool) (h : F_impl_validCell_3_mbp a0 a1 = some r) : Fun Try.prog 220 [.agg [.v (.int .i64 a0.fCell), .v (.int .i64 a0.fPlace.fOrientation), .v (.int .i64 a0.fPlace.fX), .v (.int .i64 a0.fPlace.fY), .v (.int .i64 a0.fColumns), .v (.int .i64 a0.fRows), .v (.int .i64 a0.fStepX), .v (.int .i64 a0.fStepY)], .c (.bp 1 (encI .i64 a1))] [] (.c (.v (.bool r))) [] true := by
 refine Fun.of_wp (oneOf []) tok mixed Try.func220 (by kernel_rfl) rfl Try.ntmps220 rfl trivial (fun _ => ⟨trivial, trivial⟩) ?_
 unfold F_impl_validCell_3_mbp at h
 have hf_impl_validInstance := @run_impl_validInstance
 generalize hLEN : @len = LEN at *
 generalize hGD : @gd = GD at *
 generalize hA : std = A at *
 generalize hP : Try.prog = P at *
 cbv
 replace h := of_bind h
 obtain ⟨y1, hy2, h⟩ := h
 refine ⟨{ args := [.agg [.v (.int .i64 a0.fCell), .v (.int .i64 a0.fPlace.fOrientation), .v (.int .i64 a0.fPlace.fX), .v (.int .i64 a0.fPlace.fY), .v (.int .i64 a0.fColumns), .v (.int .i64 a0.fRows), .v (.int .i64 a0.fStepX), .v (.int .i64 a0.fStepY)], .c (.v (.int .i64 a1))], o0 := [], r := .c (.v (.bool y1)), o1 := [], fl := true, σ := [], τ := [] }, hf_impl_validInstance _ _ _ hy2, ⟨les_cons (lR _) (les_cons (lR _) (les_nil)), trivial, rfl, rfl, rfl, rfl, trivial, rfl⟩, ?_⟩
 cbv
 injection h with h
 subst h
 refine ⟨(sparse 8 [(3, .c (.v (.bool (!(y1)))))] []), ?_, ?_⟩
 ·exact le_sparse rfl ⟨lR _, trivial⟩ trivial rfl
 ·exact ⟨lR _, trivial, rfl⟩

noncomputable def L_slices_IndexFunc_Limpl_Instance_impl_Instance_mbFimpl_validCell_3p_x2 (a0 : List TInstance) (a1_0 : Int) : (Int) → Option ((Int) ⊕ ((Int) ⊕ (Unit))) := fun x2 =>
 letO x2 fun v1 =>
 br (std.lt v1 (std.ofN (len a0)))
 (req (std.inR v1 (len a0)) <|
 (F_impl_validCell_3_mbp (gd a0 (std.toN v1)) a1_0).bind fun y15 =>
 br y15
 (some (.inr (.inl v1)))
 (some (.inl (std.add .i64 v1 1))))
 (some (.inr (.inr ())))
/-- impl.Instance] -/
noncomputable def F_slices_IndexFunc_Limpl_Instance_impl_Instance_mbFimpl_validCell_3p (a0 : List TInstance) (a1_0 : Int) : Option (Int) :=
 (whileP (σ := Int) (ρ := (Int) ⊕ (Unit)) (L_slices_IndexFunc_Limpl_Instance_impl_Instance_mbFimpl_validCell_3p_x2 a0 a1_0) 0).bind fun y3 =>
 (match y3 with
  | .inl y3k0 => (
    letO y3k0 fun w19 =>
    some w19)
  | .inr y3m0 =>
    some (-1))
theorem run_slices_IndexFunc_Limpl_Instance_impl_Instance_mbFimpl_validCell_3p (a0 : List TInstance) (a1_0 : Int) (r : Int) (h : F_slices_IndexFunc_Limpl_Instance_impl_Instance_mbFimpl_validCell_3p a0 a1_0 = some r) : Fun Try.prog 245 [.c (.bs (len a0) 8 (row gd (encInstance) a0)), .c (.fn 220 1 fun j => ([.bp 1 (encI .i64 a1_0)] : List AC).getD j .junk)] [] (.c (.v (.int .i64 r))) [] true := by
 refine Fun.of_wp (oneOf []) tok mixed Try.func245 (by kernel_rfl) rfl Try.ntmps245 rfl trivial (fun _ => ⟨trivial, trivial⟩) ?_
 unfold F_slices_IndexFunc_Limpl_Instance_impl_Instance_mbFimpl_validCell_3p at h
 unfold L_slices_IndexFunc_Limpl_Instance_impl_Instance_mbFimpl_validCell_3p_x2 at h
 have hf_impl_validCell_3_mbp := @run_impl_validCell_3_mbp
 generalize hLEN : @len = LEN at *
 generalize hGD : @gd = GD at *
 generalize hA : std = A at *
 generalize hP : Try.prog = P at *
 cbv
 replace h := of_bind h
 obtain ⟨y3, hr4, hN5⟩ := h
 refine loop_cut hr4 (fun x => (sparse 19 [(0, .c (.bs (LEN a0) 8 (row GD (encInstance) a0))), (1, .c (.fn 220 1 fun j => ([.bp 1 (encI .i64 a1_0)] : List AC).getD j .junk)), (7, .c (.v (.int .i64 (A.ofN (LEN a0))))), (8, .c (.v (.int .i64 x)))] [])) ?_ (fun y e s => (match y with | .inl w => e = .ret ∧ s.le (sparse 19 [(4, .c (.v (.int .i64 w)))] []) | .inr w0 => (fun (w : Unit) => e = .exit 0 ∧ s.le (sparse 19 [] [])) w0)) ?_ ?_
 ·clear hr4 hN5
  show St.le _ _
  exact le_sparse rfl ⟨lR _, lR _, lR _, lR _, trivial⟩ trivial rfl
 ·clear hr4 hN5
  intro x z9 h K7 hK8 hY6
  replace h := of_let h
  obtain ⟨v1, hv1, h⟩ := h
  have hv1 : v1 = x := hv1
  subst hv1
  cbv
  refine fork (fun b18 => ?_) (fun b18 => ?_)
  ·replace h := of_br_t b18 h
   cbv
   replace h := of_req h
   obtain ⟨c14, h⟩ := h
   refine ⟨⟨c14, trivial⟩, ?_⟩
   replace h := of_bind h
   obtain ⟨y15, hy16, h⟩ := h
   refine ⟨{ args := [.agg [.v (.int .i64 (GD a0 (A.toN v1)).fCell), .v (.int .i64 (GD a0 (A.toN v1)).fPlace.fOrientation), .v (.int .i64 (GD a0 (A.toN v1)).fPlace.fX), .v (.int .i64 (GD a0 (A.toN v1)).fPlace.fY), .v (.int .i64 (GD a0 (A.toN v1)).fColumns), .v (.int .i64 (GD a0 (A.toN v1)).fRows), .v (.int .i64 (GD a0 (A.toN v1)).fStepX), .v (.int .i64 (GD a0 (A.toN v1)).fStepY)], .c (.bp 1 (encI .i64 a1_0))], o0 := [], r := .c (.v (.bool y15)), o1 := [], fl := true, σ := [], τ := [] }, hf_impl_validCell_3_mbp _ _ _ hy16, ⟨les_cons (lR _) (les_cons (le_bp (show 1 ≤ 1 from by decide) (by intro j hj; match j, hj with | 0, _ => exact rle_refl _ | (j_ + 1), h_ => exact absurd h_ (by omega))) (les_nil)), trivial, rfl, rfl, rfl, rfl, trivial, rfl⟩, ?_⟩
   cbv
   refine fork (fun b17 => ?_) (fun b17 => ?_)
   ·replace h := of_br_t b17 h
    cbv
    injection h with h
    refine hY6 _ h.symm _ _ (And.intro rfl ?_) (by intro hh; cases hh)
    exact le_sparse rfl ⟨lR _, trivial⟩ trivial rfl
   ·replace h := of_br_f b17 h
    cbv
    injection h with h
    refine hK8 _ h.symm _ ?_
    exact le_sparse rfl ⟨lR _, lR _, lR _, lR _, trivial⟩ trivial rfl
  ·replace h := of_br_f b18 h
   cbv
   injection h with h
   refine hY6 _ h.symm _ _ (And.intro rfl ?_) (by intro hh; cases hh)
   exact le_sparse rfl trivial trivial rfl
 ·clear hr4
  have h := hN5
  clear hN5
  intro e12 s13 q11 hne
  rcases y3 with y3k0 | y3m0
  ·replace h := h
   obtain ⟨rfl, q11⟩ := q11
   replace h := of_let h
   obtain ⟨w19, hw19, h⟩ := h
   have hw19 : w19 = y3k0 := hw19
   subst hw19
   cbv
   injection h with h
   subst h
   refine ⟨(sparse 19 [(4, .c (.v (.int .i64 w19)))] []), ?_, ?_⟩
   ·refine St.le_trans q11 ?_
    exact le_sparse rfl ⟨lR _, trivial⟩ trivial rfl
   ·exact ⟨lR _, trivial, rfl⟩
  ·obtain ⟨rfl, q11⟩ := q11
   cbv
   refine ⟨_, q11, ?_⟩
   cbv
   injection h with h
   subst h
   refine ⟨(sparse 19 [(4, .c (.v (.int .i64 (-1))))] []), ?_, ?_⟩
   ·exact le_sparse rfl ⟨lR _, trivial⟩ trivial rfl
   ·exact ⟨lR _, trivial, rfl⟩

/-- impl.Instance] -/
noncomputable def F_slices_ContainsFunc_Limpl_Instance_impl_Instance_mbFimpl_validCell_3p (a0 : List TInstance) (a1_0 : Int) : Option (Bool) :=
 (F_slices_IndexFunc_Limpl_Instance_impl_Instance_mbFimpl_validCell_3p a0 a1_0).bind fun y1 =>
 some (std.le 0 y1)
theorem run_slices_ContainsFunc_Limpl_Instance_impl_Instance_mbFimpl_validCell_3p (a0 : List TInstance) (a1_0 : Int) (r : Bool) (h : F_slices_ContainsFunc_Limpl_Instance_impl_Instance_mbFimpl_validCell_3p a0 a1_0 = some r) : Fun Try.prog 219 [.c (.bs (len a0) 8 (row gd (encInstance) a0)), .c (.fn 220 1 fun j => ([.bp 1 (encI .i64 a1_0)] : List AC).getD j .junk)] [] (.c (.v (.bool r))) [] true := by
 refine Fun.of_wp (oneOf []) tok mixed Try.func219 (by kernel_rfl) rfl Try.ntmps219 rfl trivial (fun _ => ⟨trivial, trivial⟩) ?_
 unfold F_slices_ContainsFunc_Limpl_Instance_impl_Instance_mbFimpl_validCell_3p at h
 have hf_slices_IndexFunc_Limpl_Instance_impl_Instance_mbFimpl_validCell_3p := @run_slices_IndexFunc_Limpl_Instance_impl_Instance_mbFimpl_validCell_3p
 generalize hLEN : @len = LEN at *
 generalize hGD : @gd = GD at *
 generalize hA : std = A at *
 generalize hP : Try.prog = P at *
 cbv
 replace h := of_bind h
 obtain ⟨y1, hy2, h⟩ := h
 refine ⟨{ args := [.c (.bs (LEN a0) 8 (row GD (encInstance) a0)), .c (.fn 220 1 fun j => ([.bp 1 (encI .i64 a1_0)] : List AC).getD j .junk)], o0 := [], r := .c (.v (.int .i64 y1)), o1 := [], fl := true, σ := [], τ := [] }, hf_slices_IndexFunc_Limpl_Instance_impl_Instance_mbFimpl_validCell_3p _ _ _ hy2, ⟨les_cons (lR _) (les_cons (le_fn (by intro j hj; match j, hj with | 0, _ => exact le_bp (show 1 ≤ 1 from by decide) (by intro j hj; match j, hj with | 0, _ => exact rle_refl _ | (j_ + 1), h_ => exact absurd h_ (by omega)) | (j_ + 1), h_ => exact absurd h_ (by omega))) (les_nil)), trivial, rfl, rfl, rfl, rfl, trivial, rfl⟩, ?_⟩
 cbv
 injection h with h
 subst h
 refine ⟨(sparse 9 [(4, .c (.v (.bool (A.le 0 y1))))] []), ?_, ?_⟩
 ·exact le_sparse rfl ⟨lR _, trivial⟩ trivial rfl
 ·exact ⟨lR _, trivial, rfl⟩

/-- impl.validCell -/
noncomputable def F_impl_validCell (a0 : TCell) (a1 : Int) : Option (Bool) :=
 ((
    (F_impl_IsName a0.fName).bind fun y8 =>
    br (!(y8))
    (some true)
    (br (std.lt 24 (std.ofN (len a0.fShapes)))
    (some true)
    (br (std.lt 8 (std.ofN (len a0.fLabels)))
    (some true)
    (some (std.lt 8 (std.ofN (len a0.fInstances))))))
  ) : Option (Bool)).bind fun y1 =>
 letO y1 fun w7 =>
 br w7
 (some false)
 (((
    (F_slices_ContainsFunc_Limpl_Shape_impl_Shape_mbFimpl_validCell_1 a0.fShapes).bind fun y20 =>
    br (!(y20))
    ((F_slices_ContainsFunc_Limpl_Label_impl_Label_mbFimpl_validCell_2 a0.fLabels).bind fun y22 =>
    br (!(y22))
    ((F_slices_ContainsFunc_Limpl_Instance_impl_Instance_mbFimpl_validCell_3p a0.fInstances a1).bind fun y24 =>
    some (!(y24)))
    (some false))
    (some false)
  ) : Option (Bool)).bind fun y13 =>
 letO y13 fun w19 =>
 some w19)
theorem run_impl_validCell (a0 : TCell) (a1 : Int) (r : Bool) (h : F_impl_validCell a0 a1 = some r) : Fun Try.prog 184 [.agg [.v (.string a0.fName), .bs (len a0.fShapes) 5 (row gd (encShape) a0.fShapes), .bs (len a0.fLabels) 4 (row gd (encLabel) a0.fLabels), .bs (len a0.fInstances) 8 (row gd (encInstance) a0.fInstances)], .c (.v (.int .i64 a1))] [] (.c (.v (.bool r))) [] true := by
 refine Fun.of_wp (oneOf [1, 3]) tok mixed Try.func184 (by kernel_rfl) rfl Try.ntmps184 rfl trivial (fun _ => ⟨trivial, trivial⟩) ?_
 unfold F_impl_validCell at h
 have hf_impl_IsName := @run_impl_IsName
 have hf_slices_ContainsFunc_Limpl_Instance_impl_Instance_mbFimpl_validCell_3p := @run_slices_ContainsFunc_Limpl_Instance_impl_Instance_mbFimpl_validCell_3p
 have hf_slices_ContainsFunc_Limpl_Label_impl_Label_mbFimpl_validCell_2 := @run_slices_ContainsFunc_Limpl_Label_impl_Label_mbFimpl_validCell_2
 have hf_slices_ContainsFunc_Limpl_Shape_impl_Shape_mbFimpl_validCell_1 := @run_slices_ContainsFunc_Limpl_Shape_impl_Shape_mbFimpl_validCell_1
 generalize hLEN : @len = LEN at *
 generalize hGD : @gd = GD at *
 generalize hA : std = A at *
 generalize hP : Try.prog = P at *
 cbv
 replace h := of_bind h
 obtain ⟨y1, hy2, h⟩ := h
 obtain ⟨S5, hS6⟩ : ∃ S, S = (sparse 44 [(2, .c (.ptr 128 0)), (3, .c (.ptr 192 0)), (26, .c (.v (.bool y1)))] [(128, .var [.v (.string a0.fName), .bs (LEN a0.fShapes) 5 (row GD (encShape) a0.fShapes), .bs (LEN a0.fLabels) 4 (row GD (encLabel) a0.fLabels), .bs (LEN a0.fInstances) 8 (row GD (encInstance) a0.fInstances)]), (192, .var [.v (.int .i64 a1)])]) := ⟨_, rfl⟩
 refine ⟨S5, ?_, ?_⟩
 ·clear h
  have h := hy2
  clear hy2
  cbv
  replace h := of_bind h
  obtain ⟨y8, hy9, h⟩ := h
  refine ⟨{ args := [.c (.v (.string a0.fName))], o0 := [], r := .c (.v (.bool y8)), o1 := [], fl := true, σ := [], τ := [] }, hf_impl_IsName _ _ hy9, ⟨les_cons (lR _) (les_nil), trivial, rfl, rfl, rfl, rfl, trivial, rfl⟩, ?_⟩
  cbv
  refine fork (fun b12 => ?_) (fun b12 => ?_)
  ·replace h := of_br_t b12 h
   cbv
   injection h with h
   subst h
   subst hS6
   show St.le _ _
   exact le_sparse rfl ⟨lR _, lR _, lR _, trivial⟩ ⟨rfl, rfl, trivial⟩ rfl
  ·replace h := of_br_f b12 h
   cbv
   refine fork (fun b11 => ?_) (fun b11 => ?_)
   ·replace h := of_br_t b11 h
    cbv
    injection h with h
    subst h
    subst hS6
    show St.le _ _
    exact le_sparse rfl ⟨lR _, lR _, lR _, trivial⟩ ⟨rfl, rfl, trivial⟩ rfl
   ·replace h := of_br_f b11 h
    cbv
    refine fork (fun b10 => ?_) (fun b10 => ?_)
    ·replace h := of_br_t b10 h
     cbv
     injection h with h
     subst h
     subst hS6
     show St.le _ _
     exact le_sparse rfl ⟨lR _, lR _, lR _, trivial⟩ ⟨rfl, rfl, trivial⟩ rfl
    ·replace h := of_br_f b10 h
     cbv
     injection h with h
     subst h
     subst hS6
     show St.le _ _
     exact le_sparse rfl ⟨lR _, lR _, lR _, trivial⟩ ⟨rfl, rfl, trivial⟩ rfl
 ·clear hy2
  subst hS6
  replace h := of_let h
  obtain ⟨w7, hw7, h⟩ := h
  have hw7 : w7 = y1 := hw7
  subst hw7
  cbv
  refine fork (fun b28 => ?_) (fun b28 => ?_)
  ·replace h := of_br_t b28 h
   cbv
   injection h with h
   subst h
   refine ⟨(sparse 44 [(4, .c (.v (.bool false)))] []), ?_, ?_⟩
   ·exact le_sparse rfl ⟨lR _, trivial⟩ trivial rfl
   ·exact ⟨lR _, trivial, rfl⟩
  ·replace h := of_br_f b28 h
   cbv
   replace h := of_bind h
   obtain ⟨y13, hy14, h⟩ := h
   obtain ⟨S17, hS18⟩ : ∃ S, S = (sparse 44 [(4, .c (.v (.bool y13)))] []) := ⟨_, rfl⟩
   refine ⟨S17, ?_, ?_⟩
   ·clear h
    have h := hy14
    clear hy14
    cbv
    replace h := of_bind h
    obtain ⟨y20, hy21, h⟩ := h
    refine ⟨{ args := [.c (.bs (LEN a0.fShapes) 5 (row GD (encShape) a0.fShapes)), .c (.fn 216 0 fun _ => .junk)], o0 := [], r := .c (.v (.bool y20)), o1 := [], fl := true, σ := [], τ := [] }, hf_slices_ContainsFunc_Limpl_Shape_impl_Shape_mbFimpl_validCell_1 _ _ hy21, ⟨les_cons (lR _) (les_cons (lR _) (les_nil)), trivial, rfl, rfl, rfl, rfl, trivial, rfl⟩, ?_⟩
    cbv
    refine fork (fun b27 => ?_) (fun b27 => ?_)
    ·replace h := of_br_t b27 h
     cbv
     replace h := of_bind h
     obtain ⟨y22, hy23, h⟩ := h
     refine ⟨{ args := [.c (.bs (LEN a0.fLabels) 4 (row GD (encLabel) a0.fLabels)), .c (.fn 218 0 fun _ => .junk)], o0 := [], r := .c (.v (.bool y22)), o1 := [], fl := true, σ := [], τ := [] }, hf_slices_ContainsFunc_Limpl_Label_impl_Label_mbFimpl_validCell_2 _ _ hy23, ⟨les_cons (lR _) (les_cons (lR _) (les_nil)), trivial, rfl, rfl, rfl, rfl, trivial, rfl⟩, ?_⟩
     cbv
     refine fork (fun b26 => ?_) (fun b26 => ?_)
     ·replace h := of_br_t b26 h
      cbv
      replace h := of_bind h
      obtain ⟨y24, hy25, h⟩ := h
      refine ⟨{ args := [.c (.bs (LEN a0.fInstances) 8 (row GD (encInstance) a0.fInstances)), .c (.fn 220 1 fun j => ([.bp 1 (encI .i64 a1)] : List AC).getD j .junk)], o0 := [], r := .c (.v (.bool y24)), o1 := [], fl := true, σ := [], τ := [] }, hf_slices_ContainsFunc_Limpl_Instance_impl_Instance_mbFimpl_validCell_3p _ _ _ hy25, ⟨les_cons (lR _) (les_cons (le_fn (by intro j hj; match j, hj with | 0, _ => exact le_bp (show 1 ≤ 1 from by decide) (by intro j hj; match j, hj with | 0, _ => exact rle_refl _ | (j_ + 1), h_ => exact absurd h_ (by omega)) | (j_ + 1), h_ => exact absurd h_ (by omega))) (les_nil)), trivial, rfl, rfl, rfl, rfl, trivial, rfl⟩, ?_⟩
      cbv
      injection h with h
      subst h
      subst hS18
      show St.le _ _
      exact le_sparse rfl ⟨lR _, trivial⟩ trivial rfl
     ·replace h := of_br_f b26 h
      cbv
      injection h with h
      subst h
      subst hS18
      show St.le _ _
      exact le_sparse rfl ⟨lR _, trivial⟩ trivial rfl
    ·replace h := of_br_f b27 h
     cbv
     injection h with h
     subst h
     subst hS18
     show St.le _ _
     exact le_sparse rfl ⟨lR _, trivial⟩ trivial rfl
   ·clear hy14
    subst hS18
    replace h := of_let h
    obtain ⟨w19, hw19, h⟩ := h
    have hw19 : w19 = y13 := hw19
    subst hw19
    cbv
    injection h with h
    subst h
    refine ⟨(sparse 44 [(4, .c (.v (.bool w19)))] []), ?_, ?_⟩
    ·exact le_sparse rfl ⟨lR _, trivial⟩ trivial rfl
    ·exact ⟨lR _, trivial, rfl⟩

/-- impl.named$1 -/
noncomputable def F_impl_named_1_mbp (a0 : TCell) (a1 : ByteArray) : Option (Bool) :=
 some (std.seq a0.fName a1)
theorem run_impl_named_1_mbp (a0 : TCell) (a1 : ByteArray) (r : Bool) (h : F_impl_named_1_mbp a0 a1 = some r) : Fun Try.prog 222 [.agg [.v (.string a0.fName), .bs (len a0.fShapes) 5 (row gd (encShape) a0.fShapes), .bs (len a0.fLabels) 4 (row gd (encLabel) a0.fLabels), .bs (len a0.fInstances) 8 (row gd (encInstance) a0.fInstances)], .c (.bp 1 (encS a1))] [] (.c (.v (.bool r))) [] true := by
 refine Fun.of_wp (oneOf []) tok mixed Try.func222 (by kernel_rfl) rfl Try.ntmps222 rfl trivial (fun _ => ⟨trivial, trivial⟩) ?_
 unfold F_impl_named_1_mbp at h
 generalize hLEN : @len = LEN at *
 generalize hGD : @gd = GD at *
 generalize hA : std = A at *
 generalize hP : Try.prog = P at *
 cbv
 injection h with h
 subst h
 refine ⟨(sparse 8 [(3, .c (.v (.bool (A.seq a0.fName a1))))] []), ?_, ?_⟩
 ·exact le_sparse rfl ⟨lR _, trivial⟩ trivial rfl
 ·exact ⟨lR _, trivial, rfl⟩

noncomputable def L_slices_IndexFunc_Limpl_Cell_impl_Cell_mbFimpl_named_1p_x2 (a0 : List TCell) (a1_0 : ByteArray) : (Int) → Option ((Int) ⊕ ((Int) ⊕ (Unit))) := fun x2 =>
 letO x2 fun v1 =>
 br (std.lt v1 (std.ofN (len a0)))
 (req (std.inR v1 (len a0)) <|
 (F_impl_named_1_mbp (gd a0 (std.toN v1)) a1_0).bind fun y15 =>
 br y15
 (some (.inr (.inl v1)))
 (some (.inl (std.add .i64 v1 1))))
 (some (.inr (.inr ())))
/-- impl.Cell] -/
noncomputable def F_slices_IndexFunc_Limpl_Cell_impl_Cell_mbFimpl_named_1p (a0 : List TCell) (a1_0 : ByteArray) : Option (Int) :=
 (whileP (σ := Int) (ρ := (Int) ⊕ (Unit)) (L_slices_IndexFunc_Limpl_Cell_impl_Cell_mbFimpl_named_1p_x2 a0 a1_0) 0).bind fun y3 =>
 (match y3 with
  | .inl y3k0 => (
    letO y3k0 fun w19 =>
    some w19)
  | .inr y3m0 =>
    some (-1))
theorem run_slices_IndexFunc_Limpl_Cell_impl_Cell_mbFimpl_named_1p (a0 : List TCell) (a1_0 : ByteArray) (r : Int) (h : F_slices_IndexFunc_Limpl_Cell_impl_Cell_mbFimpl_named_1p a0 a1_0 = some r) : Fun Try.prog 221 [.c (.bs (len a0) 4 (row gd (encCell len gd) a0)), .c (.fn 222 1 fun j => ([.bp 1 (encS a1_0)] : List AC).getD j .junk)] [] (.c (.v (.int .i64 r))) [] true := by
 refine Fun.of_wp (oneOf []) tok mixed Try.func221 (by kernel_rfl) rfl Try.ntmps221 rfl trivial (fun _ => ⟨trivial, trivial⟩) ?_
 unfold F_slices_IndexFunc_Limpl_Cell_impl_Cell_mbFimpl_named_1p at h
 unfold L_slices_IndexFunc_Limpl_Cell_impl_Cell_mbFimpl_named_1p_x2 at h
 have hf_impl_named_1_mbp := @run_impl_named_1_mbp
 generalize hLEN : @len = LEN at *
 generalize hGD : @gd = GD at *
 generalize hA : std = A at *
 generalize hP : Try.prog = P at *
 cbv
 replace h := of_bind h
 obtain ⟨y3, hr4, hN5⟩ := h
 refine loop_cut hr4 (fun x => (sparse 19 [(0, .c (.bs (LEN a0) 4 (row GD (encCell LEN GD) a0))), (1, .c (.fn 222 1 fun j => ([.bp 1 (encS a1_0)] : List AC).getD j .junk)), (7, .c (.v (.int .i64 (A.ofN (LEN a0))))), (8, .c (.v (.int .i64 x)))] [])) ?_ (fun y e s => (match y with | .inl w => e = .ret ∧ s.le (sparse 19 [(4, .c (.v (.int .i64 w)))] []) | .inr w0 => (fun (w : Unit) => e = .exit 0 ∧ s.le (sparse 19 [] [])) w0)) ?_ ?_
 ·clear hr4 hN5
  show St.le _ _
  exact le_sparse rfl ⟨lR _, lR _, lR _, lR _, trivial⟩ trivial rfl
 ·clear hr4 hN5
  intro x z9 h K7 hK8 hY6
  replace h := of_let h
  obtain ⟨v1, hv1, h⟩ := h
  have hv1 : v1 = x := hv1
  subst hv1
  cbv
  refine fork (fun b18 => ?_) (fun b18 => ?_)
  ·replace h := of_br_t b18 h
   cbv
   replace h := of_req h
   obtain ⟨c14, h⟩ := h
   refine ⟨⟨c14, trivial⟩, ?_⟩
   replace h := of_bind h
   obtain ⟨y15, hy16, h⟩ := h
   refine ⟨{ args := [.agg [.v (.string (GD a0 (A.toN v1)).fName), .bs (LEN (GD a0 (A.toN v1)).fShapes) 5 (row GD (encShape) (GD a0 (A.toN v1)).fShapes), .bs (LEN (GD a0 (A.toN v1)).fLabels) 4 (row GD (encLabel) (GD a0 (A.toN v1)).fLabels), .bs (LEN (GD a0 (A.toN v1)).fInstances) 8 (row GD (encInstance) (GD a0 (A.toN v1)).fInstances)], .c (.bp 1 (encS a1_0))], o0 := [], r := .c (.v (.bool y15)), o1 := [], fl := true, σ := [], τ := [] }, hf_impl_named_1_mbp _ _ _ hy16, ⟨les_cons (lR _) (les_cons (le_bp (show 1 ≤ 1 from by decide) (by intro j hj; match j, hj with | 0, _ => exact rle_refl _ | (j_ + 1), h_ => exact absurd h_ (by omega))) (les_nil)), trivial, rfl, rfl, rfl, rfl, trivial, rfl⟩, ?_⟩
   cbv
   refine fork (fun b17 => ?_) (fun b17 => ?_)
   ·replace h := of_br_t b17 h
    cbv
    injection h with h
    refine hY6 _ h.symm _ _ (And.intro rfl ?_) (by intro hh; cases hh)
    exact le_sparse rfl ⟨lR _, trivial⟩ trivial rfl
   ·replace h := of_br_f b17 h
    cbv
    injection h with h
    refine hK8 _ h.symm _ ?_
    exact le_sparse rfl ⟨lR _, lR _, lR _, lR _, trivial⟩ trivial rfl
  ·replace h := of_br_f b18 h
   cbv
   injection h with h
   refine hY6 _ h.symm _ _ (And.intro rfl ?_) (by intro hh; cases hh)
   exact le_sparse rfl trivial trivial rfl
 ·clear hr4
  have h := hN5
  clear hN5
  intro e12 s13 q11 hne
  rcases y3 with y3k0 | y3m0
  ·replace h := h
   obtain ⟨rfl, q11⟩ := q11
   replace h := of_let h
   obtain ⟨w19, hw19, h⟩ := h
   have hw19 : w19 = y3k0 := hw19
   subst hw19
   cbv
   injection h with h
   subst h
   refine ⟨(sparse 19 [(4, .c (.v (.int .i64 w19)))] []), ?_, ?_⟩
   ·refine St.le_trans q11 ?_
    exact le_sparse rfl ⟨lR _, trivial⟩ trivial rfl
   ·exact ⟨lR _, trivial, rfl⟩
  ·obtain ⟨rfl, q11⟩ := q11
   cbv
   refine ⟨_, q11, ?_⟩
   cbv
   injection h with h
   subst h
   refine ⟨(sparse 19 [(4, .c (.v (.int .i64 (-1))))] []), ?_, ?_⟩
   ·exact le_sparse rfl ⟨lR _, trivial⟩ trivial rfl
   ·exact ⟨lR _, trivial, rfl⟩
/-- impl.named -/
noncomputable def F_impl_named (a0 : TLibrary) (a1 : ByteArray) : Option (Int) :=
 (F_slices_IndexFunc_Limpl_Cell_impl_Cell_mbFimpl_named_1p a0.fCells a1).bind fun y1 =>
 some y1
theorem run_impl_named (a0 : TLibrary) (a1 : ByteArray) (r : Int) (h : F_impl_named a0 a1 = some r) : Fun Try.prog 185 [.agg [.bs (len a0.fCells) 4 (row gd (encCell len gd) a0.fCells)], .c (.v (.string a1))] [] (.c (.v (.int .i64 r))) [] true := by
 refine Fun.of_wp (oneOf []) tok mixed Try.func185 (by kernel_rfl) rfl Try.ntmps185 rfl trivial (fun _ => ⟨trivial, trivial⟩) ?_
 unfold F_impl_named at h
 have hf_slices_IndexFunc_Limpl_Cell_impl_Cell_mbFimpl_named_1p := @run_slices_IndexFunc_Limpl_Cell_impl_Cell_mbFimpl_named_1p
 generalize hLEN : @len = LEN at *
 generalize hGD : @gd = GD at *
 generalize hA : std = A at *
 generalize hP : Try.prog = P at *
 cbv
 replace h := of_bind h
 obtain ⟨y1, hy2, h⟩ := h
 refine ⟨{ args := [.c (.bs (LEN a0.fCells) 4 (row GD (encCell LEN GD) a0.fCells)), .c (.fn 222 1 fun j => ([.bp 1 (encS a1)] : List AC).getD j .junk)], o0 := [], r := .c (.v (.int .i64 y1)), o1 := [], fl := true, σ := [], τ := [] }, hf_slices_IndexFunc_Limpl_Cell_impl_Cell_mbFimpl_named_1p _ _ _ hy2, ⟨les_cons (lR _) (les_cons (le_fn (by intro j hj; match j, hj with | 0, _ => exact le_bp (show 1 ≤ 1 from by decide) (by intro j hj; match j, hj with | 0, _ => exact rle_refl _ | (j_ + 1), h_ => exact absurd h_ (by omega)) | (j_ + 1), h_ => exact absurd h_ (by omega))) (les_nil)), trivial, rfl, rfl, rfl, rfl, trivial, rfl⟩, ?_⟩
 cbv
 injection h with h
 subst h
 refine ⟨(sparse 9 [(4, .c (.v (.int .i64 y1)))] []), ?_, ?_⟩
 ·exact le_sparse rfl ⟨lR _, trivial⟩ trivial rfl
 ·exact ⟨lR _, trivial, rfl⟩

noncomputable def L_impl_IsValidLibrary_x10 (a0 : TLibrary) : (Int) → Option ((Int) ⊕ ((Bool) ⊕ (Unit))) := fun x10 =>
 letO x10 fun v9 =>
 br (std.lt v9 (std.ofN (len a0.fCells)))
 (req (std.inR v9 (len a0.fCells)) <|
 ((
    (F_impl_validCell (gd a0.fCells (std.toN v9)) v9).bind fun y30 =>
    br (!(y30))
    (some true)
    ((F_impl_named (TLibrary.mk a0.fCells) (gd a0.fCells (std.toN v9)).fName).bind fun y32 =>
    some (std.not (std.eq y32 v9)))
  ) : Option (Bool)).bind fun y23 =>
 letO y23 fun w29 =>
 br w29
 (some (.inr (.inl false)))
 (some (.inl (std.add .i64 v9 1))))
 (some (.inr (.inr ())))
/-- impl.IsValidLibrary -/
noncomputable def F_impl_IsValidLibrary (a0 : TLibrary) : Option (Bool) :=
 ((
    br (std.lt (std.ofN (len a0.fCells)) 1)
    (some true)
    (some (std.lt 8 (std.ofN (len a0.fCells))))
  ) : Option (Bool)).bind fun y1 =>
 letO y1 fun w7 =>
 br w7
 (some false)
 ((whileP (σ := Int) (ρ := (Bool) ⊕ (Unit)) (L_impl_IsValidLibrary_x10 a0) 0).bind fun y11 =>
 (match y11 with
  | .inl y11k0 => (
    letO y11k0 fun w37 =>
    some w37)
  | .inr y11m0 =>
    some true))
theorem run_impl_IsValidLibrary (a0 : TLibrary) (r : Bool) (h : F_impl_IsValidLibrary a0 = some r) : Fun Try.prog 124 [.agg [.bs (len a0.fCells) 4 (row gd (encCell len gd) a0.fCells)]] [] (.c (.v (.bool r))) [] true := by
 refine Fun.of_wp (oneOf [1, 6]) tok mixed Try.func124 (by kernel_rfl) rfl Try.ntmps124 rfl trivial (fun _ => ⟨trivial, trivial⟩) ?_
 unfold F_impl_IsValidLibrary at h
 unfold L_impl_IsValidLibrary_x10 at h
 have hf_impl_named := @run_impl_named
 have hf_impl_validCell := @run_impl_validCell
 generalize hLEN : @len = LEN at *
 generalize hGD : @gd = GD at *
 generalize hA : std = A at *
 generalize hP : Try.prog = P at *
 cbv
 replace h := of_bind h
 obtain ⟨y1, hy2, h⟩ := h
 obtain ⟨S5, hS6⟩ : ∃ S, S = (sparse 36 [(1, .c (.ptr 64 0)), (14, .c (.v (.bool y1)))] [(64, .var [.bs (LEN a0.fCells) 4 (row GD (encCell LEN GD) a0.fCells)])]) := ⟨_, rfl⟩
 refine ⟨S5, ?_, ?_⟩
 ·clear h
  have h := hy2
  clear hy2
  cbv
  refine fork (fun b8 => ?_) (fun b8 => ?_)
  ·replace h := of_br_t b8 h
   cbv
   injection h with h
   subst h
   subst hS6
   show St.le _ _
   exact le_sparse rfl ⟨lR _, lR _, trivial⟩ ⟨rfl, trivial⟩ rfl
  ·replace h := of_br_f b8 h
   cbv
   injection h with h
   subst h
   subst hS6
   show St.le _ _
   exact le_sparse rfl ⟨lR _, lR _, trivial⟩ ⟨rfl, trivial⟩ rfl
 ·clear hy2
  subst hS6
  replace h := of_let h
  obtain ⟨w7, hw7, h⟩ := h
  have hw7 : w7 = y1 := hw7
  subst hw7
  cbv
  refine fork (fun b38 => ?_) (fun b38 => ?_)
  ·replace h := of_br_t b38 h
   cbv
   injection h with h
   subst h
   refine ⟨(sparse 36 [(2, .c (.v (.bool false)))] []), ?_, ?_⟩
   ·exact le_sparse rfl ⟨lR _, trivial⟩ trivial rfl
   ·exact ⟨lR _, trivial, rfl⟩
  ·replace h := of_br_f b38 h
   cbv
   replace h := of_bind h
   obtain ⟨y11, hr12, hN13⟩ := h
   refine loop_cut hr12 (fun x => (sparse 36 [(1, .c (.ptr 64 0)), (16, .c (.bs (LEN a0.fCells) 4 (row GD (encCell LEN GD) a0.fCells))), (17, .c (.v (.int .i64 (A.ofN (LEN a0.fCells))))), (18, .c (.v (.int .i64 x)))] [(64, .var [.bs (LEN a0.fCells) 4 (row GD (encCell LEN GD) a0.fCells)])])) ?_ (fun y e s => (match y with | .inl w => e = .ret ∧ s.le (sparse 36 [(2, .c (.v (.bool w)))] []) | .inr w0 => (fun (w : Unit) => e = .exit 0 ∧ s.le (sparse 36 [] [])) w0)) ?_ ?_
   ·clear hr12 hN13
    show St.le _ _
    exact le_sparse rfl ⟨lR _, lR _, lR _, lR _, trivial⟩ ⟨rfl, trivial⟩ rfl
   ·clear hr12 hN13
    intro x z17 h K15 hK16 hY14
    replace h := of_let h
    obtain ⟨v9, hv9, h⟩ := h
    have hv9 : v9 = x := hv9
    subst hv9
    cbv
    refine fork (fun b36 => ?_) (fun b36 => ?_)
    ·replace h := of_br_t b36 h
     cbv
     replace h := of_req h
     obtain ⟨c22, h⟩ := h
     refine ⟨⟨c22, trivial⟩, ?_⟩
     replace h := of_bind h
     obtain ⟨y23, hy24, h⟩ := h
     obtain ⟨S27, hS28⟩ : ∃ S, S = (sparse 36 [(1, .c (.ptr 64 0)), (16, .c (.bs (LEN a0.fCells) 4 (row GD (encCell LEN GD) a0.fCells))), (17, .c (.v (.int .i64 (A.ofN (LEN a0.fCells))))), (18, .c (.v (.int .i64 v9))), (34, .c (.v (.bool y23)))] [(64, .var [.bs (LEN a0.fCells) 4 (row GD (encCell LEN GD) a0.fCells)])]) := ⟨_, rfl⟩
     refine ⟨S27, ?_, ?_⟩
     ·clear h
      have h := hy24
      clear hy24
      cbv
      replace h := of_bind h
      obtain ⟨y30, hy31, h⟩ := h
      refine ⟨{ args := [.agg [.v (.string (GD a0.fCells (A.toN v9)).fName), .bs (LEN (GD a0.fCells (A.toN v9)).fShapes) 5 (row GD (encShape) (GD a0.fCells (A.toN v9)).fShapes), .bs (LEN (GD a0.fCells (A.toN v9)).fLabels) 4 (row GD (encLabel) (GD a0.fCells (A.toN v9)).fLabels), .bs (LEN (GD a0.fCells (A.toN v9)).fInstances) 8 (row GD (encInstance) (GD a0.fCells (A.toN v9)).fInstances)], .c (.v (.int .i64 v9))], o0 := [], r := .c (.v (.bool y30)), o1 := [], fl := true, σ := [], τ := [] }, hf_impl_validCell _ _ _ hy31, ⟨les_cons (lR _) (les_cons (lR _) (les_nil)), trivial, rfl, rfl, rfl, rfl, trivial, rfl⟩, ?_⟩
      cbv
      refine fork (fun b34 => ?_) (fun b34 => ?_)
      ·replace h := of_br_t b34 h
       cbv
       injection h with h
       subst h
       subst hS28
       show St.le _ _
       exact le_sparse rfl ⟨lR _, lR _, lR _, lR _, lR _, trivial⟩ ⟨rfl, trivial⟩ rfl
      ·replace h := of_br_f b34 h
       cbv
       replace h := of_bind h
       obtain ⟨y32, hy33, h⟩ := h
       refine ⟨{ args := [.agg [.bs (LEN a0.fCells) 4 (row GD (encCell LEN GD) a0.fCells)], .c (.v (.string (GD a0.fCells (A.toN v9)).fName))], o0 := [], r := .c (.v (.int .i64 y32)), o1 := [], fl := true, σ := [], τ := [] }, hf_impl_named _ _ _ hy33, ⟨les_cons (lR _) (les_cons (lR _) (les_nil)), trivial, rfl, rfl, rfl, rfl, trivial, rfl⟩, ?_⟩
       cbv
       injection h with h
       subst h
       subst hS28
       show St.le _ _
       exact le_sparse rfl ⟨lR _, lR _, lR _, lR _, lR _, trivial⟩ ⟨rfl, trivial⟩ rfl
     ·clear hy24
      subst hS28
      replace h := of_let h
      obtain ⟨w29, hw29, h⟩ := h
      have hw29 : w29 = y23 := hw29
      subst hw29
      cbv
      refine fork (fun b35 => ?_) (fun b35 => ?_)
      ·replace h := of_br_t b35 h
       cbv
       injection h with h
       refine hY14 _ h.symm _ _ (And.intro rfl ?_) (by intro hh; cases hh)
       exact le_sparse rfl ⟨lR _, trivial⟩ trivial rfl
      ·replace h := of_br_f b35 h
       cbv
       injection h with h
       refine hK16 _ h.symm _ ?_
       exact le_sparse rfl ⟨lR _, lR _, lR _, lR _, trivial⟩ ⟨rfl, trivial⟩ rfl
    ·replace h := of_br_f b36 h
     cbv
     injection h with h
     refine hY14 _ h.symm _ _ (And.intro rfl ?_) (by intro hh; cases hh)
     exact le_sparse rfl trivial trivial rfl
   ·clear hr12
    have h := hN13
    clear hN13
    intro e20 s21 q19 hne
    rcases y11 with y11k0 | y11m0
    ·replace h := h
     obtain ⟨rfl, q19⟩ := q19
     replace h := of_let h
     obtain ⟨w37, hw37, h⟩ := h
     have hw37 : w37 = y11k0 := hw37
     subst hw37
     cbv
     injection h with h
     subst h
     refine ⟨(sparse 36 [(2, .c (.v (.bool w37)))] []), ?_, ?_⟩
     ·refine St.le_trans q19 ?_
      exact le_sparse rfl ⟨lR _, trivial⟩ trivial rfl
     ·exact ⟨lR _, trivial, rfl⟩
    ·obtain ⟨rfl, q19⟩ := q19
     cbv
     refine ⟨_, q19, ?_⟩
     cbv
     injection h with h
     subst h
     refine ⟨(sparse 36 [(2, .c (.v (.bool true)))] []), ?_, ?_⟩
     ·exact le_sparse rfl ⟨lR _, trivial⟩ trivial rfl
     ·exact ⟨lR _, trivial, rfl⟩

/-- impl.two -/
noncomputable def F_impl_two_mnb (a0 : List Int) (a1 : Int) : Option (List Int) :=
 req (std.nneg 8) <|
 letO ([std.conv .u8 (std.shr .i64 a1 8), std.conv .u8 a1] : List Int) fun l2 =>
 req (std.room (std.nadd 0 (len l2)) 1) <|
 letO (([] : List Int) ++ l2) fun l4 =>
 some l4
theorem run_impl_two_mnb (a0 : List Int) (a1 : Int) (r : List Int) (h : F_impl_two_mnb a0 a1 = some r) : Fun Try.prog 86 [.c (.v (.slice none 0 0)), .c (.v (.int .i64 a1))] [] (.c (.os 64000 0 (len r))) [(64000, .arr .rw [] (len r) 1 (row gd (encI .u8) r))] true := by
 refine Fun.of_wp (oneOf []) tok mixed Try.func86 (by kernel_rfl) rfl Try.ntmps86 rfl trivial (fun _ => ⟨trivial, ⟨fun i _ j _ => val_flat (rfl), trivial⟩⟩) ?_
 unfold F_impl_two_mnb at h
 generalize hLEN : @len = LEN at *
 generalize hGD : @gd = GD at *
 generalize hA : std = A at *
 generalize hP : Try.prog = P at *
 cbv
 replace h := of_req h
 obtain ⟨c1, h⟩ := h
 refine ⟨c1, ?_⟩
 replace h := of_let h
 obtain ⟨l2, hl2, h⟩ := h
 have e3 : 2 = LEN l2 := by subst hl2 hLEN; rfl
 refine ⟨_, congrArg (fun n => AV.c (AC.os 704 0 n)) e3, _, row GD (encI .u8) l2, e3, ?_, ?_⟩
 ·intro i hi j hj
  rw [← e3] at hi
  subst hl2
  subst hGD
  obtain rfl | rfl : i = 0 ∨ i = 1 := (by omega)
  all_goals obtain rfl : j = 0 := by omega
  all_goals rfl
 cbv
 replace h := of_req h
 obtain ⟨c6, h⟩ := h
 replace h := of_let h
 obtain ⟨l4, hl4, h⟩ := h
 have e5 : A.nadd 0 (LEN l2) = LEN l4 := by subst hl4 hLEN hA; simp [std, len]
 refine ⟨c6, _, congrArg (fun n => AV.c (AC.os 768 0 n)) e5, _, row GD (encI .u8) l4, e5, ?_, ?_⟩
 ·subst hGD hLEN hA
  exact app_nil_os (off := 0) (fun _ _ => rfl) hl4 (Nat.le_refl _)
 cbv
 injection h with h
 subst h
 refine ⟨(sparse 13 [(4, .c (.os 64000 0 (LEN l4)))] [(64000, .arr .rw [] (LEN l4) 1 (row GD (encI .u8) l4))]), ?_, ?_⟩
 ·refine St.le_trans (le_ren 768 64000 (by decide) rfl) ?_
  exact le_sparse rfl ⟨lR _, trivial⟩ ⟨oS, trivial⟩ rfl
 ·exact ⟨lR _, ⟨oS, trivial⟩, rfl⟩

noncomputable def L_impl_Checksum16_x3 (a0 : ByteArray) : (Int × Int) → Option ((Int × Int) ⊕ ((Int))) := fun x3 =>
 letO x3.1 fun v1 =>
 letO x3.2 fun v2 =>
 br (std.lt v2 (std.ofN (std.slen a0)))
 (req (std.inR v2 (std.slen a0)) <|
 req (std.nz 65521) <|
 some (.inl (std.rem (std.add .i64 (std.add .i64 (std.mul .i64 31 v1) (std.conv .i64 (std.sat a0 (std.toN v2)))) 1) 65521, std.add .i64 v2 1)))
 (some (.inr v1))
/-- impl.Checksum16 -/
noncomputable def F_impl_Checksum16 (a0 : ByteArray) : Option (Int) :=
 (whileP (σ := Int × Int) (ρ := (Int)) (L_impl_Checksum16_x3 a0) (1, 0)).bind fun y4 =>
 letO y4 fun y4k0 =>
 letO y4k0 fun w18 =>
 some w18
theorem run_impl_Checksum16 (a0 : ByteArray) (r : Int) (h : F_impl_Checksum16 a0 = some r) : Fun Try.prog 87 [.c (.v (.string a0))] [] (.c (.v (.int .i64 r))) [] true := by
 refine Fun.of_wp (oneOf []) tok mixed Try.func87 (by kernel_rfl) rfl Try.ntmps87 rfl trivial (fun _ => ⟨trivial, trivial⟩) ?_
 unfold F_impl_Checksum16 at h
 unfold L_impl_Checksum16_x3 at h
 generalize hLEN : @len = LEN at *
 generalize hGD : @gd = GD at *
 generalize hA : std = A at *
 generalize hP : Try.prog = P at *
 cbv
 replace h := of_bind h
 obtain ⟨y4, hr5, hN6⟩ := h
 refine loop_cut hr5 (fun x => (sparse 21 [(0, .c (.v (.string a0))), (3, .c (.v (.int .i64 x.1))), (4, .c (.v (.int .i64 x.2)))] [])) ?_ (fun y e s => (fun (w : Int) => e = .exit 0 ∧ s.le (sparse 21 [(3, .c (.v (.int .i64 w)))] [])) y) ?_ ?_
 ·clear hr5 hN6
  show St.le _ _
  exact le_sparse rfl ⟨lR _, lR _, lR _, trivial⟩ trivial rfl
 ·clear hr5 hN6
  intro x z10 h K8 hK9 hY7
  obtain ⟨x0_, x1_⟩ := x
  replace h := of_let h
  obtain ⟨v1, hv1, h⟩ := h
  have hv1 : v1 = x0_ := hv1
  subst hv1
  replace h := of_let h
  obtain ⟨v2, hv2, h⟩ := h
  have hv2 : v2 = x1_ := hv2
  subst hv2
  cbv
  refine fork (fun b17 => ?_) (fun b17 => ?_)
  ·replace h := of_br_t b17 h
   cbv
   replace h := of_req h
   obtain ⟨c15, h⟩ := h
   refine ⟨c15, ?_⟩
   replace h := of_req h
   obtain ⟨c16, h⟩ := h
   refine ⟨c16, ?_⟩
   injection h with h
   refine hK9 _ h.symm _ ?_
   exact le_sparse rfl ⟨lR _, lR _, lR _, trivial⟩ trivial rfl
  ·replace h := of_br_f b17 h
   cbv
   injection h with h
   refine hY7 _ h.symm _ _ (And.intro rfl ?_) (by intro hh; cases hh)
   exact le_sparse rfl ⟨lR _, trivial⟩ trivial rfl
 ·clear hr5
  have h := hN6
  clear hN6
  intro e13 s14 q12 hne
  replace h := of_let h
  obtain ⟨y4k0, hyk, h⟩ := h
  have hyk : y4k0 = y4 := hyk
  subst hyk
  obtain ⟨rfl, q12⟩ := q12
  replace h := of_let h
  obtain ⟨w18, hw18, h⟩ := h
  have hw18 : w18 = y4k0 := hw18
  subst hw18
  cbv
  refine ⟨_, q12, ?_⟩
  cbv
  injection h with h
  subst h
  refine ⟨(sparse 21 [(2, .c (.v (.int .i64 w18)))] []), ?_, ?_⟩
  ·exact le_sparse rfl ⟨lR _, trivial⟩ trivial rfl
  ·exact ⟨lR _, trivial, rfl⟩

/-- impl.two -/
noncomputable def F_impl_two_mob (a0 : List Int) (a1 : Int) : Option (List Int) :=
 req (std.nneg 8) <|
 letO ([std.conv .u8 (std.shr .i64 a1 8), std.conv .u8 a1] : List Int) fun l2 =>
 req (std.room (std.nadd (len a0) (len l2)) 1) <|
 letO (a0 ++ l2) fun l4 =>
 some l4
theorem run_impl_two_mob (a0 : List Int) (a1 : Int) (r : List Int) (h : F_impl_two_mob a0 a1 = some r) : Fun Try.prog 86 [.c (.os 5 0 (len a0)), .c (.v (.int .i64 a1))] [(5, .arr .rw [] (len a0) 1 (row gd (encI .u8) a0))] (.c (.os 64000 0 (len r))) [(64000, .arr .rw [] (len r) 1 (row gd (encI .u8) r))] true := by
 refine Fun.of_wp (oneOf []) tok mixed Try.func86 (by kernel_rfl) rfl Try.ntmps86 rfl ⟨fun i _ j _ k hk => (noref (plain_nil (rfl)) hk).elim, trivial⟩ (fun _ => ⟨trivial, ⟨fun i _ j _ => val_flat (rfl), trivial⟩⟩) ?_
 unfold F_impl_two_mob at h
 generalize hLEN : @len = LEN at *
 generalize hGD : @gd = GD at *
 generalize hA : std = A at *
 generalize hP : Try.prog = P at *
 cbv
 replace h := of_req h
 obtain ⟨c1, h⟩ := h
 refine ⟨c1, ?_⟩
 replace h := of_let h
 obtain ⟨l2, hl2, h⟩ := h
 have e3 : 2 = LEN l2 := by subst hl2 hLEN; rfl
 refine ⟨_, congrArg (fun n => AV.c (AC.os 704 0 n)) e3, _, row GD (encI .u8) l2, e3, ?_, ?_⟩
 ·intro i hi j hj
  rw [← e3] at hi
  subst hl2
  subst hGD
  obtain rfl | rfl : i = 0 ∨ i = 1 := (by omega)
  all_goals obtain rfl : j = 0 := by omega
  all_goals rfl
 cbv
 replace h := of_req h
 obtain ⟨c6, h⟩ := h
 replace h := of_let h
 obtain ⟨l4, hl4, h⟩ := h
 have e5 : A.nadd (LEN a0) (LEN l2) = LEN l4 := by subst hl4 hLEN hA; simp [std, len]
 refine ⟨c6, _, congrArg (fun n => AV.c (AC.os 768 0 n)) e5, _, row GD (encI .u8) l4, e5, ?_, ?_⟩
 ·subst hGD hLEN hA
  exact app_os (off := 0) (fun _ _ => rfl) hl4 (Nat.le_refl _)
 cbv
 injection h with h
 subst h
 refine ⟨(sparse 13 [(4, .c (.os 64000 0 (LEN l4)))] [(64000, .arr .rw [] (LEN l4) 1 (row GD (encI .u8) l4))]), ?_, ?_⟩
 ·refine St.le_trans (le_ren 768 64000 (by decide) rfl) ?_
  exact le_sparse rfl ⟨lR _, trivial⟩ ⟨oS, trivial⟩ rfl
 ·exact ⟨lR _, ⟨oS, trivial⟩, rfl⟩

/-- impl.StreamRecord -/
noncomputable def F_impl_StreamRecord (a0 : Int) (a1 : ByteArray) : Option (ByteArray) :=
 ((
    (F_impl_within a0 1 7).bind fun y8 =>
    br (!(y8))
    (some true)
    (some (std.lt 200 (std.ofN (std.slen a1))))
  ) : Option (Bool)).bind fun y1 =>
 letO y1 fun w7 =>
 br w7
 (some (ByteArray.mk #[]))
 ((F_impl_two_mnb ([] : List Int) (std.add .i64 (std.ofN (std.slen a1)) 5)).bind fun y11 =>
 letO ([std.conv .u8 a0] : List Int) fun l13 =>
 req (std.room (std.nadd (len y11) (len l13)) 1) <|
 letO (y11 ++ l13) fun l15 =>
 req (std.room (std.nadd (len l15) (std.slen a1)) 1) <|
 letO (l15 ++ strL a1) fun l18 =>
 (F_impl_Checksum16 (std.ofBytes (len l18) (fun i => gd l18 (0 + i)))).bind fun y21 =>
 (F_impl_two_mob l18 y21).bind fun y23 =>
 some (std.ofBytes (len y23) (fun i => gd y23 (0 + i))))
theorem run_impl_StreamRecord (a0 : Int) (a1 : ByteArray) (r : ByteArray) (h : F_impl_StreamRecord a0 a1 = some r) : Fun Try.prog 53 [.c (.v (.int .i64 a0)), .c (.v (.string a1))] [] (.c (.v (.string r))) [] true := by
 refine Fun.of_wp (oneOf [1]) tok mixed Try.func53 (by kernel_rfl) rfl Try.ntmps53 rfl trivial (fun _ => ⟨trivial, trivial⟩) ?_
 unfold F_impl_StreamRecord at h
 have hf_impl_Checksum16 := @run_impl_Checksum16
 have hf_impl_two_mnb := @run_impl_two_mnb
 have hf_impl_two_mob := @run_impl_two_mob
 have hf_impl_within := @run_impl_within
 generalize hLEN : @len = LEN at *
 generalize hGD : @gd = GD at *
 generalize hA : std = A at *
 generalize hP : Try.prog = P at *
 cbv
 replace h := of_bind h
 obtain ⟨y1, hy2, h⟩ := h
 obtain ⟨S5, hS6⟩ : ∃ S, S = (sparse 31 [(0, .c (.v (.int .i64 a0))), (1, .c (.v (.string a1))), (13, .c (.v (.bool y1)))] []) := ⟨_, rfl⟩
 refine ⟨S5, ?_, ?_⟩
 ·clear h
  have h := hy2
  clear hy2
  cbv
  replace h := of_bind h
  obtain ⟨y8, hy9, h⟩ := h
  refine ⟨{ args := [.c (.v (.int .i64 a0)), .c (.v (.int .i64 1)), .c (.v (.int .i64 7))], o0 := [], r := .c (.v (.bool y8)), o1 := [], fl := true, σ := [], τ := [] }, hf_impl_within _ _ _ _ hy9, ⟨les_cons (lR _) (les_cons (lR _) (les_cons (lR _) (les_nil))), trivial, rfl, rfl, rfl, rfl, trivial, rfl⟩, ?_⟩
  cbv
  refine fork (fun b10 => ?_) (fun b10 => ?_)
  ·replace h := of_br_t b10 h
   cbv
   injection h with h
   subst h
   subst hS6
   show St.le _ _
   exact le_sparse rfl ⟨lR _, lR _, lR _, trivial⟩ trivial rfl
  ·replace h := of_br_f b10 h
   cbv
   injection h with h
   subst h
   subst hS6
   show St.le _ _
   exact le_sparse rfl ⟨lR _, lR _, lR _, trivial⟩ trivial rfl
 ·clear hy2
  subst hS6
  replace h := of_let h
  obtain ⟨w7, hw7, h⟩ := h
  have hw7 : w7 = y1 := hw7
  subst hw7
  cbv
  refine fork (fun b25 => ?_) (fun b25 => ?_)
  ·replace h := of_br_t b25 h
   cbv
   injection h with h
   subst h
   refine ⟨(sparse 31 [(4, .c (.v (.string (ByteArray.mk #[]))))] []), ?_, ?_⟩
   ·exact le_sparse rfl ⟨lR _, trivial⟩ trivial rfl
   ·exact ⟨lR _, trivial, rfl⟩
  ·replace h := of_br_f b25 h
   cbv
   replace h := of_bind h
   obtain ⟨y11, hy12, h⟩ := h
   refine ⟨{ args := [.c (.v (.slice none 0 0)), .c (.v (.int .i64 (A.add .i64 (A.ofN (A.slen a1)) 5)))], o0 := [], r := .c (.os 64000 0 (LEN y11)), o1 := [(64000, .arr .rw [] (LEN y11) 1 (row GD (encI .u8) y11))], fl := true, σ := [], τ := [(64000, 1088)] }, hf_impl_two_mnb _ _ _ hy12, ⟨les_cons (lR _) (les_cons (lR _) (les_nil)), trivial, rfl, rfl, rfl, rfl, ⟨fun h => absurd (show (64000 : Nat) % 2 = 1 from h) (by decide), trivial⟩, rfl⟩, _, rfl, _, _, rfl, fun _ _ _ _ => rfl, ?_⟩
   cbv
   replace h := of_let h
   obtain ⟨l13, hl13, h⟩ := h
   have e14 : 1 = LEN l13 := by subst hl13 hLEN; rfl
   refine ⟨_, congrArg (fun n => AV.c (AC.os 1344 0 n)) e14, _, row GD (encI .u8) l13, e14, ?_, ?_⟩
   ·intro i hi j hj
    rw [← e14] at hi
    subst hl13
    subst hGD
    obtain rfl : i = 0 := (by omega)
    all_goals obtain rfl : j = 0 := by omega
    all_goals rfl
   cbv
   replace h := of_req h
   obtain ⟨c17, h⟩ := h
   replace h := of_let h
   obtain ⟨l15, hl15, h⟩ := h
   have e16 : A.nadd (LEN y11) (LEN l13) = LEN l15 := by subst hl15 hLEN hA; simp [std, len]
   refine ⟨c17, _, congrArg (fun n => AV.c (AC.os 1088 0 n)) e16, _, row GD (encI .u8) l15, e16, ?_, ?_⟩
   ·subst hGD hLEN hA
    exact app_os (off := 0) (fun _ _ => rfl) hl15 (Nat.le_refl _)
   cbv
   replace h := of_req h
   obtain ⟨c20, h⟩ := h
   replace h := of_let h
   obtain ⟨l18, hl18, h⟩ := h
   have e19 : A.nadd (LEN l15) (A.slen a1) = LEN l18 := by subst hl18 hLEN hA; exact (strapp_len _ _).symm
   refine ⟨c20, _, congrArg (fun n => AV.c (AC.os 1088 0 n)) e19, _, row GD (encI .u8) l18, e19, ?_, ?_⟩
   ·subst hGD hLEN hA
    exact app_str hl18 (Nat.le_refl _)
   cbv
   refine ⟨fun _ _ => rfl, ?_⟩
   replace h := of_bind h
   obtain ⟨y21, hy22, h⟩ := h
   refine ⟨{ args := [.c (.v (.string (A.ofBytes (LEN l18) (fun i => GD l18 (0 + i)))))], o0 := [], r := .c (.v (.int .i64 y21)), o1 := [], fl := true, σ := [], τ := [] }, hf_impl_Checksum16 _ _ hy22, ⟨les_cons (lR _) (les_nil), trivial, rfl, rfl, rfl, rfl, trivial, rfl⟩, ?_⟩
   cbv
   replace h := of_bind h
   obtain ⟨y23, hy24, h⟩ := h
   refine ⟨{ args := [.c (.os 5 0 (LEN l18)), .c (.v (.int .i64 y21))], o0 := [(5, .arr .rw [] (LEN l18) 1 (row GD (encI .u8) l18))], r := .c (.os 64000 0 (LEN y23)), o1 := [(64000, .arr .rw [] (LEN y23) 1 (row GD (encI .u8) y23))], fl := true, σ := [(5, 1088)], τ := [(64000, 1856)] }, hf_impl_two_mob _ _ _ hy24, ⟨les_cons (lR _) (les_cons (lR _) (les_nil)), ⟨oS, trivial⟩, rfl, rfl, rfl, rfl, ⟨fun h => absurd (show (64000 : Nat) % 2 = 1 from h) (by decide), trivial⟩, rfl⟩, _, rfl, _, _, rfl, fun _ _ _ _ => rfl, ?_⟩
   cbv
   refine ⟨fun _ _ => rfl, ?_⟩
   injection h with h
   subst h
   refine ⟨(sparse 31 [(4, .c (.v (.string (A.ofBytes (LEN y23) (fun i => GD y23 (0 + i))))))] []), ?_, ?_⟩
   ·exact le_sparse rfl ⟨lR _, trivial⟩ trivial rfl
   ·exact ⟨lR _, trivial, rfl⟩
/-- impl.nameBytes -/
noncomputable def F_impl_nameBytes_mnb (a0 : List Int) (a1 : ByteArray) : Option (List Int) :=
 letO ([std.conv .u8 (std.ofN (std.slen a1))] : List Int) fun l1 =>
 req (std.room (std.nadd 0 (len l1)) 1) <|
 letO (([] : List Int) ++ l1) fun l3 =>
 req (std.room (std.nadd (len l3) (std.slen a1)) 1) <|
 letO (l3 ++ strL a1) fun l6 =>
 some l6
theorem run_impl_nameBytes_mnb (a0 : List Int) (a1 : ByteArray) (r : List Int) (h : F_impl_nameBytes_mnb a0 a1 = some r) : Fun Try.prog 81 [.c (.v (.slice none 0 0)), .c (.v (.string a1))] [] (.c (.os 64000 0 (len r))) [(64000, .arr .rw [] (len r) 1 (row gd (encI .u8) r))] true := by
 refine Fun.of_wp (oneOf []) tok mixed Try.func81 (by kernel_rfl) rfl Try.ntmps81 rfl trivial (fun _ => ⟨trivial, ⟨fun i _ j _ => val_flat (rfl), trivial⟩⟩) ?_
 unfold F_impl_nameBytes_mnb at h
 generalize hLEN : @len = LEN at *
 generalize hGD : @gd = GD at *
 generalize hA : std = A at *
 generalize hP : Try.prog = P at *
 cbv
 replace h := of_let h
 obtain ⟨l1, hl1, h⟩ := h
 have e2 : 1 = LEN l1 := by subst hl1 hLEN; rfl
 refine ⟨_, congrArg (fun n => AV.c (AC.os 576 0 n)) e2, _, row GD (encI .u8) l1, e2, ?_, ?_⟩
 ·intro i hi j hj
  rw [← e2] at hi
  subst hl1
  subst hGD
  obtain rfl : i = 0 := (by omega)
  all_goals obtain rfl : j = 0 := by omega
  all_goals rfl
 cbv
 replace h := of_req h
 obtain ⟨c5, h⟩ := h
 replace h := of_let h
 obtain ⟨l3, hl3, h⟩ := h
 have e4 : A.nadd 0 (LEN l1) = LEN l3 := by subst hl3 hLEN hA; simp [std, len]
 refine ⟨c5, _, congrArg (fun n => AV.c (AC.os 640 0 n)) e4, _, row GD (encI .u8) l3, e4, ?_, ?_⟩
 ·subst hGD hLEN hA
  exact app_nil_os (off := 0) (fun _ _ => rfl) hl3 (Nat.le_refl _)
 cbv
 replace h := of_req h
 obtain ⟨c8, h⟩ := h
 replace h := of_let h
 obtain ⟨l6, hl6, h⟩ := h
 have e7 : A.nadd (LEN l3) (A.slen a1) = LEN l6 := by subst hl6 hLEN hA; exact (strapp_len _ _).symm
 refine ⟨c8, _, congrArg (fun n => AV.c (AC.os 640 0 n)) e7, _, row GD (encI .u8) l6, e7, ?_, ?_⟩
 ·subst hGD hLEN hA
  exact app_str hl6 (Nat.le_refl _)
 cbv
 injection h with h
 subst h
 refine ⟨(sparse 13 [(4, .c (.os 64000 0 (LEN l6)))] [(64000, .arr .rw [] (LEN l6) 1 (row GD (encI .u8) l6))]), ?_, ?_⟩
 ·refine St.le_trans (le_ren 640 64000 (by decide) rfl) ?_
  exact le_sparse rfl ⟨lR _, trivial⟩ ⟨oS, trivial⟩ rfl
 ·exact ⟨lR _, ⟨oS, trivial⟩, rfl⟩

noncomputable def L_impl_coordinates_mob_x3 (a1 : List Int) : (Int × (List Int)) → Option ((Int × (List Int)) ⊕ (((List Int)))) := fun x3 =>
 letO x3.1 fun v1 =>
 letO x3.2 fun v2 =>
 br (std.lt v1 (std.ofN (len a1)))
 (req (std.inR v1 (len a1)) <|
 (F_impl_two_mob v2 (std.add .i64 (gd a1 (std.toN v1)) 32768)).bind fun y16 =>
 some (.inl (std.add .i64 v1 1, y16)))
 (some (.inr v2))
/-- impl.coordinates -/
noncomputable def F_impl_coordinates_mob (a0 : List Int) (a1 : List Int) : Option (List Int) :=
 (whileP (σ := Int × (List Int)) (ρ := ((List Int))) (L_impl_coordinates_mob_x3 a1) (0, a0)).bind fun y4 =>
 letO y4 fun y4k0 =>
 letO y4k0 fun w19 =>
 some w19
theorem run_impl_coordinates_mob (a0 : List Int) (a1 : List Int) (r : List Int) (h : F_impl_coordinates_mob a0 a1 = some r) : Fun Try.prog 153 [.c (.os 5 0 (len a0)), .c (.bs (len a1) 1 (row gd (encI .i64) a1))] [(5, .arr .rw [] (len a0) 1 (row gd (encI .u8) a0))] (.c (.os 64000 0 (len r))) [(64000, .arr .rw [] (len r) 1 (row gd (encI .u8) r))] true := by
 refine Fun.of_wp (oneOf []) tok mixed Try.func153 (by kernel_rfl) rfl Try.ntmps153 rfl ⟨fun i _ j _ k hk => (noref (plain_nil (rfl)) hk).elim, trivial⟩ (fun _ => ⟨trivial, ⟨fun i _ j _ => val_flat (rfl), trivial⟩⟩) ?_
 unfold F_impl_coordinates_mob at h
 unfold L_impl_coordinates_mob_x3 at h
 have hf_impl_two_mob := @run_impl_two_mob
 generalize hLEN : @len = LEN at *
 generalize hGD : @gd = GD at *
 generalize hA : std = A at *
 generalize hP : Try.prog = P at *
 cbv
 replace h := of_bind h
 obtain ⟨y4, hr5, hN6⟩ := h
 refine loop_cut hr5 (fun x => (sparse 19 [(0, .c (.os 1024 0 (LEN x.2))), (7, .c (.bs (LEN a1) 1 (row GD (encI .i64) a1))), (8, .c (.v (.int .i64 (A.ofN (LEN a1))))), (9, .c (.v (.int .i64 x.1)))] [(1024, .arr .rw [] (LEN x.2) 1 (row GD (encI .u8) x.2))])) ?_ (fun y e s => (fun (w : (List Int)) => e = .exit 0 ∧ s.le (sparse 19 [(0, .c (.os 1024 0 (LEN w)))] [(1024, .arr .rw [] (LEN w) 1 (row GD (encI .u8) w))])) y) ?_ ?_
 ·clear hr5 hN6
  show St.le _ _
  refine St.le_trans (le_ren 5 1024 (by decide) rfl) ?_
  exact le_sparse rfl ⟨lR _, lR _, lR _, lR _, trivial⟩ ⟨oS, trivial⟩ rfl
 ·clear hr5 hN6
  intro x z10 h K8 hK9 hY7
  obtain ⟨x0_, x1_⟩ := x
  replace h := of_let h
  obtain ⟨v1, hv1, h⟩ := h
  have hv1 : v1 = x0_ := hv1
  subst hv1
  replace h := of_let h
  obtain ⟨v2, hv2, h⟩ := h
  have hv2 : v2 = x1_ := hv2
  subst hv2
  cbv
  refine fork (fun b18 => ?_) (fun b18 => ?_)
  ·replace h := of_br_t b18 h
   cbv
   replace h := of_req h
   obtain ⟨c15, h⟩ := h
   refine ⟨⟨c15, trivial⟩, ?_⟩
   replace h := of_bind h
   obtain ⟨y16, hy17, h⟩ := h
   refine ⟨{ args := [.c (.os 5 0 (LEN v2)), .c (.v (.int .i64 (A.add .i64 (GD a1 (A.toN v1)) 32768)))], o0 := [(5, .arr .rw [] (LEN v2) 1 (row GD (encI .u8) v2))], r := .c (.os 64000 0 (LEN y16)), o1 := [(64000, .arr .rw [] (LEN y16) 1 (row GD (encI .u8) y16))], fl := true, σ := [(5, 1024)], τ := [(64000, 1024)] }, hf_impl_two_mob _ _ _ hy17, ⟨les_cons (lR _) (les_cons (lR _) (les_nil)), ⟨oS, trivial⟩, rfl, rfl, rfl, rfl, ⟨fun h => absurd (show (64000 : Nat) % 2 = 1 from h) (by decide), trivial⟩, rfl⟩, _, rfl, _, _, rfl, fun _ _ _ _ => rfl, ?_⟩
   cbv
   injection h with h
   refine hK9 _ h.symm _ ?_
   exact le_sparse rfl ⟨lR _, lR _, lR _, lR _, trivial⟩ ⟨oS, trivial⟩ rfl
  ·replace h := of_br_f b18 h
   cbv
   injection h with h
   refine hY7 _ h.symm _ _ (And.intro rfl ?_) (by intro hh; cases hh)
   exact le_sparse rfl ⟨lR _, trivial⟩ ⟨oS, trivial⟩ rfl
 ·clear hr5
  have h := hN6
  clear hN6
  intro e13 s14 q12 hne
  replace h := of_let h
  obtain ⟨y4k0, hyk, h⟩ := h
  have hyk : y4k0 = y4 := hyk
  subst hyk
  obtain ⟨rfl, q12⟩ := q12
  replace h := of_let h
  obtain ⟨w19, hw19, h⟩ := h
  have hw19 : w19 = y4k0 := hw19
  subst hw19
  cbv
  refine ⟨_, q12, ?_⟩
  cbv
  injection h with h
  subst h
  refine ⟨(sparse 19 [(4, .c (.os 64000 0 (LEN w19)))] [(64000, .arr .rw [] (LEN w19) 1 (row GD (encI .u8) w19))]), ?_, ?_⟩
  ·refine St.le_trans (le_ren 1024 64000 (by decide) rfl) ?_
   exact le_sparse rfl ⟨lR _, trivial⟩ ⟨oS, trivial⟩ rfl
  ·exact ⟨lR _, ⟨oS, trivial⟩, rfl⟩

/-- impl.shapeBytes -/
noncomputable def F_impl_shapeBytes_mnb (a0 : List Int) (a1 : TShape) : Option (List Int) :=
 letO ([std.conv .u8 a1.fLayer] : List Int) fun l1 =>
 req (std.room (std.nadd 0 (len l1)) 1) <|
 letO (([] : List Int) ++ l1) fun l3 =>
 letO ([a1.fBox.fX0, a1.fBox.fY0, a1.fBox.fX1, a1.fBox.fY1] : List Int) fun l6 =>
 (F_impl_coordinates_mob l3 l6).bind fun y8 =>
 some y8
theorem run_impl_shapeBytes_mnb (a0 : List Int) (a1 : TShape) (r : List Int) (h : F_impl_shapeBytes_mnb a0 a1 = some r) : Fun Try.prog 78 [.c (.v (.slice none 0 0)), .agg [.v (.int .i64 a1.fLayer), .v (.int .i64 a1.fBox.fX0), .v (.int .i64 a1.fBox.fY0), .v (.int .i64 a1.fBox.fX1), .v (.int .i64 a1.fBox.fY1)]] [] (.c (.os 64000 0 (len r))) [(64000, .arr .rw [] (len r) 1 (row gd (encI .u8) r))] true := by
 refine Fun.of_wp (oneOf []) tok mixed Try.func78 (by kernel_rfl) rfl Try.ntmps78 rfl trivial (fun _ => ⟨trivial, ⟨fun i _ j _ => val_flat (rfl), trivial⟩⟩) ?_
 unfold F_impl_shapeBytes_mnb at h
 have hf_impl_coordinates_mob := @run_impl_coordinates_mob
 generalize hLEN : @len = LEN at *
 generalize hGD : @gd = GD at *
 generalize hA : std = A at *
 generalize hP : Try.prog = P at *
 cbv
 replace h := of_let h
 obtain ⟨l1, hl1, h⟩ := h
 have e2 : 1 = LEN l1 := by subst hl1 hLEN; rfl
 refine ⟨_, congrArg (fun n => AV.c (AC.os 576 0 n)) e2, _, row GD (encI .u8) l1, e2, ?_, ?_⟩
 ·intro i hi j hj
  rw [← e2] at hi
  subst hl1
  subst hGD
  obtain rfl : i = 0 := (by omega)
  all_goals obtain rfl : j = 0 := by omega
  all_goals rfl
 cbv
 replace h := of_req h
 obtain ⟨c5, h⟩ := h
 replace h := of_let h
 obtain ⟨l3, hl3, h⟩ := h
 have e4 : A.nadd 0 (LEN l1) = LEN l3 := by subst hl3 hLEN hA; simp [std, len]
 refine ⟨c5, _, congrArg (fun n => AV.c (AC.os 640 0 n)) e4, _, row GD (encI .u8) l3, e4, ?_, ?_⟩
 ·subst hGD hLEN hA
  exact app_nil_os (off := 0) (fun _ _ => rfl) hl3 (Nat.le_refl _)
 cbv
 replace h := of_let h
 obtain ⟨l6, hl6, h⟩ := h
 have e7 : 4 = LEN l6 := by subst hl6 hLEN; rfl
 refine ⟨_, congrArg (fun n => AV.c (AC.os 1472 0 n)) e7, _, row GD (encI .i64) l6, e7, ?_, ?_⟩
 ·intro i hi j hj
  rw [← e7] at hi
  subst hl6
  subst hGD
  obtain rfl | rfl | rfl | rfl : i = 0 ∨ i = 1 ∨ i = 2 ∨ i = 3 := (by omega)
  all_goals obtain rfl : j = 0 := by omega
  all_goals rfl
 cbv
 replace h := of_bind h
 obtain ⟨y8, hy9, h⟩ := h
 refine ⟨{ args := [.c (.os 5 0 (LEN l3)), .c (.bs (LEN l6) 1 (row GD (encI .i64) l6))], o0 := [(5, .arr .rw [] (LEN l3) 1 (row GD (encI .u8) l3))], r := .c (.os 64000 0 (LEN y8)), o1 := [(64000, .arr .rw [] (LEN y8) 1 (row GD (encI .u8) y8))], fl := true, σ := [(5, 640)], τ := [(64000, 1536)] }, hf_impl_coordinates_mob _ _ _ hy9, ⟨les_cons (lR _) (les_cons (give_os (fun _ _ => rfl) rfl rfl rfl) (les_nil)), ⟨oS, trivial⟩, rfl, rfl, rfl, rfl, ⟨fun h => absurd (show (64000 : Nat) % 2 = 1 from h) (by decide), trivial⟩, rfl⟩, _, rfl, _, _, rfl, fun _ _ _ _ => rfl, ?_⟩
 cbv
 injection h with h
 subst h
 refine ⟨(sparse 25 [(4, .c (.os 64000 0 (LEN y8)))] [(64000, .arr .rw [] (LEN y8) 1 (row GD (encI .u8) y8))]), ?_, ?_⟩
 ·refine St.le_trans (le_ren 1536 64000 (by decide) rfl) ?_
  exact le_sparse rfl ⟨lR _, trivial⟩ ⟨oS, trivial⟩ rfl
 ·exact ⟨lR _, ⟨oS, trivial⟩, rfl⟩

/-- impl.nameBytes -/
noncomputable def F_impl_nameBytes_mob (a0 : List Int) (a1 : ByteArray) : Option (List Int) :=
 letO ([std.conv .u8 (std.ofN (std.slen a1))] : List Int) fun l1 =>
 req (std.room (std.nadd (len a0) (len l1)) 1) <|
 letO (a0 ++ l1) fun l3 =>
 req (std.room (std.nadd (len l3) (std.slen a1)) 1) <|
 letO (l3 ++ strL a1) fun l6 =>
 some l6
theorem run_impl_nameBytes_mob (a0 : List Int) (a1 : ByteArray) (r : List Int) (h : F_impl_nameBytes_mob a0 a1 = some r) : Fun Try.prog 81 [.c (.os 5 0 (len a0)), .c (.v (.string a1))] [(5, .arr .rw [] (len a0) 1 (row gd (encI .u8) a0))] (.c (.os 64000 0 (len r))) [(64000, .arr .rw [] (len r) 1 (row gd (encI .u8) r))] true := by
 refine Fun.of_wp (oneOf []) tok mixed Try.func81 (by kernel_rfl) rfl Try.ntmps81 rfl ⟨fun i _ j _ k hk => (noref (plain_nil (rfl)) hk).elim, trivial⟩ (fun _ => ⟨trivial, ⟨fun i _ j _ => val_flat (rfl), trivial⟩⟩) ?_
 unfold F_impl_nameBytes_mob at h
 generalize hLEN : @len = LEN at *
 generalize hGD : @gd = GD at *
 generalize hA : std = A at *
 generalize hP : Try.prog = P at *
 cbv
 replace h := of_let h
 obtain ⟨l1, hl1, h⟩ := h
 have e2 : 1 = LEN l1 := by subst hl1 hLEN; rfl
 refine ⟨_, congrArg (fun n => AV.c (AC.os 576 0 n)) e2, _, row GD (encI .u8) l1, e2, ?_, ?_⟩
 ·intro i hi j hj
  rw [← e2] at hi
  subst hl1
  subst hGD
  obtain rfl : i = 0 := (by omega)
  all_goals obtain rfl : j = 0 := by omega
  all_goals rfl
 cbv
 replace h := of_req h
 obtain ⟨c5, h⟩ := h
 replace h := of_let h
 obtain ⟨l3, hl3, h⟩ := h
 have e4 : A.nadd (LEN a0) (LEN l1) = LEN l3 := by subst hl3 hLEN hA; simp [std, len]
 refine ⟨c5, _, congrArg (fun n => AV.c (AC.os 640 0 n)) e4, _, row GD (encI .u8) l3, e4, ?_, ?_⟩
 ·subst hGD hLEN hA
  exact app_os (off := 0) (fun _ _ => rfl) hl3 (Nat.le_refl _)
 cbv
 replace h := of_req h
 obtain ⟨c8, h⟩ := h
 replace h := of_let h
 obtain ⟨l6, hl6, h⟩ := h
 have e7 : A.nadd (LEN l3) (A.slen a1) = LEN l6 := by subst hl6 hLEN hA; exact (strapp_len _ _).symm
 refine ⟨c8, _, congrArg (fun n => AV.c (AC.os 640 0 n)) e7, _, row GD (encI .u8) l6, e7, ?_, ?_⟩
 ·subst hGD hLEN hA
  exact app_str hl6 (Nat.le_refl _)
 cbv
 injection h with h
 subst h
 refine ⟨(sparse 13 [(4, .c (.os 64000 0 (LEN l6)))] [(64000, .arr .rw [] (LEN l6) 1 (row GD (encI .u8) l6))]), ?_, ?_⟩
 ·refine St.le_trans (le_ren 640 64000 (by decide) rfl) ?_
  exact le_sparse rfl ⟨lR _, trivial⟩ ⟨oS, trivial⟩ rfl
 ·exact ⟨lR _, ⟨oS, trivial⟩, rfl⟩

/-- impl.labelBytes -/
noncomputable def F_impl_labelBytes_mnb (a0 : List Int) (a1 : TLabel) : Option (List Int) :=
 letO ([std.conv .u8 a1.fLayer] : List Int) fun l1 =>
 req (std.room (std.nadd 0 (len l1)) 1) <|
 letO (([] : List Int) ++ l1) fun l3 =>
 letO ([a1.fAt.fX, a1.fAt.fY] : List Int) fun l6 =>
 (F_impl_coordinates_mob l3 l6).bind fun y8 =>
 (F_impl_nameBytes_mob y8 a1.fName).bind fun y10 =>
 some y10
theorem run_impl_labelBytes_mnb (a0 : List Int) (a1 : TLabel) (r : List Int) (h : F_impl_labelBytes_mnb a0 a1 = some r) : Fun Try.prog 79 [.c (.v (.slice none 0 0)), .agg [.v (.int .i64 a1.fLayer), .v (.int .i64 a1.fAt.fX), .v (.int .i64 a1.fAt.fY), .v (.string a1.fName)]] [] (.c (.os 64000 0 (len r))) [(64000, .arr .rw [] (len r) 1 (row gd (encI .u8) r))] true := by
 refine Fun.of_wp (oneOf []) tok mixed Try.func79 (by kernel_rfl) rfl Try.ntmps79 rfl trivial (fun _ => ⟨trivial, ⟨fun i _ j _ => val_flat (rfl), trivial⟩⟩) ?_
 unfold F_impl_labelBytes_mnb at h
 have hf_impl_coordinates_mob := @run_impl_coordinates_mob
 have hf_impl_nameBytes_mob := @run_impl_nameBytes_mob
 generalize hLEN : @len = LEN at *
 generalize hGD : @gd = GD at *
 generalize hA : std = A at *
 generalize hP : Try.prog = P at *
 cbv
 replace h := of_let h
 obtain ⟨l1, hl1, h⟩ := h
 have e2 : 1 = LEN l1 := by subst hl1 hLEN; rfl
 refine ⟨_, congrArg (fun n => AV.c (AC.os 576 0 n)) e2, _, row GD (encI .u8) l1, e2, ?_, ?_⟩
 ·intro i hi j hj
  rw [← e2] at hi
  subst hl1
  subst hGD
  obtain rfl : i = 0 := (by omega)
  all_goals obtain rfl : j = 0 := by omega
  all_goals rfl
 cbv
 replace h := of_req h
 obtain ⟨c5, h⟩ := h
 replace h := of_let h
 obtain ⟨l3, hl3, h⟩ := h
 have e4 : A.nadd 0 (LEN l1) = LEN l3 := by subst hl3 hLEN hA; simp [std, len]
 refine ⟨c5, _, congrArg (fun n => AV.c (AC.os 640 0 n)) e4, _, row GD (encI .u8) l3, e4, ?_, ?_⟩
 ·subst hGD hLEN hA
  exact app_nil_os (off := 0) (fun _ _ => rfl) hl3 (Nat.le_refl _)
 cbv
 replace h := of_let h
 obtain ⟨l6, hl6, h⟩ := h
 have e7 : 2 = LEN l6 := by subst hl6 hLEN; rfl
 refine ⟨_, congrArg (fun n => AV.c (AC.os 1088 0 n)) e7, _, row GD (encI .i64) l6, e7, ?_, ?_⟩
 ·intro i hi j hj
  rw [← e7] at hi
  subst hl6
  subst hGD
  obtain rfl | rfl : i = 0 ∨ i = 1 := (by omega)
  all_goals obtain rfl : j = 0 := by omega
  all_goals rfl
 cbv
 replace h := of_bind h
 obtain ⟨y8, hy9, h⟩ := h
 refine ⟨{ args := [.c (.os 5 0 (LEN l3)), .c (.bs (LEN l6) 1 (row GD (encI .i64) l6))], o0 := [(5, .arr .rw [] (LEN l3) 1 (row GD (encI .u8) l3))], r := .c (.os 64000 0 (LEN y8)), o1 := [(64000, .arr .rw [] (LEN y8) 1 (row GD (encI .u8) y8))], fl := true, σ := [(5, 640)], τ := [(64000, 1152)] }, hf_impl_coordinates_mob _ _ _ hy9, ⟨les_cons (lR _) (les_cons (give_os (fun _ _ => rfl) rfl rfl rfl) (les_nil)), ⟨oS, trivial⟩, rfl, rfl, rfl, rfl, ⟨fun h => absurd (show (64000 : Nat) % 2 = 1 from h) (by decide), trivial⟩, rfl⟩, _, rfl, _, _, rfl, fun _ _ _ _ => rfl, ?_⟩
 cbv
 replace h := of_bind h
 obtain ⟨y10, hy11, h⟩ := h
 refine ⟨{ args := [.c (.os 5 0 (LEN y8)), .c (.v (.string a1.fName))], o0 := [(5, .arr .rw [] (LEN y8) 1 (row GD (encI .u8) y8))], r := .c (.os 64000 0 (LEN y10)), o1 := [(64000, .arr .rw [] (LEN y10) 1 (row GD (encI .u8) y10))], fl := true, σ := [(5, 1152)], τ := [(64000, 1344)] }, hf_impl_nameBytes_mob _ _ _ hy11, ⟨les_cons (lR _) (les_cons (lR _) (les_nil)), ⟨oS, trivial⟩, rfl, rfl, rfl, rfl, ⟨fun h => absurd (show (64000 : Nat) % 2 = 1 from h) (by decide), trivial⟩, rfl⟩, _, rfl, _, _, rfl, fun _ _ _ _ => rfl, ?_⟩
 cbv
 injection h with h
 subst h
 refine ⟨(sparse 22 [(4, .c (.os 64000 0 (LEN y10)))] [(64000, .arr .rw [] (LEN y10) 1 (row GD (encI .u8) y10))]), ?_, ?_⟩
 ·refine St.le_trans (le_ren 1344 64000 (by decide) rfl) ?_
  exact le_sparse rfl ⟨lR _, trivial⟩ ⟨oS, trivial⟩ rfl
 ·exact ⟨lR _, ⟨oS, trivial⟩, rfl⟩

/-- impl.placeBytes -/
noncomputable def F_impl_placeBytes_mob (a0 : List Int) (a1 : TInstance) : Option (List Int) :=
 letO ([std.conv .u8 a1.fPlace.fOrientation] : List Int) fun l1 =>
 req (std.room (std.nadd (len a0) (len l1)) 1) <|
 letO (a0 ++ l1) fun l3 =>
 letO ([a1.fPlace.fX, a1.fPlace.fY] : List Int) fun l6 =>
 (F_impl_coordinates_mob l3 l6).bind fun y8 =>
 letO ([std.conv .u8 a1.fColumns, std.conv .u8 a1.fRows] : List Int) fun l10 =>
 req (std.room (std.nadd (len y8) (len l10)) 1) <|
 letO (y8 ++ l10) fun l12 =>
 letO ([a1.fStepX, a1.fStepY] : List Int) fun l15 =>
 (F_impl_coordinates_mob l12 l15).bind fun y17 =>
 some y17
theorem run_impl_placeBytes_mob (a0 : List Int) (a1 : TInstance) (r : List Int) (h : F_impl_placeBytes_mob a0 a1 = some r) : Fun Try.prog 80 [.c (.os 5 0 (len a0)), .agg [.v (.int .i64 a1.fCell), .v (.int .i64 a1.fPlace.fOrientation), .v (.int .i64 a1.fPlace.fX), .v (.int .i64 a1.fPlace.fY), .v (.int .i64 a1.fColumns), .v (.int .i64 a1.fRows), .v (.int .i64 a1.fStepX), .v (.int .i64 a1.fStepY)]] [(5, .arr .rw [] (len a0) 1 (row gd (encI .u8) a0))] (.c (.os 64000 0 (len r))) [(64000, .arr .rw [] (len r) 1 (row gd (encI .u8) r))] true := by
 refine Fun.of_wp (oneOf []) tok mixed Try.func80 (by kernel_rfl) rfl Try.ntmps80 rfl ⟨fun i _ j _ k hk => (noref (plain_nil (rfl)) hk).elim, trivial⟩ (fun _ => ⟨trivial, ⟨fun i _ j _ => val_flat (rfl), trivial⟩⟩) ?_
 unfold F_impl_placeBytes_mob at h
 have hf_impl_coordinates_mob := @run_impl_coordinates_mob
 generalize hLEN : @len = LEN at *
 generalize hGD : @gd = GD at *
 generalize hA : std = A at *
 generalize hP : Try.prog = P at *
 cbv
 replace h := of_let h
 obtain ⟨l1, hl1, h⟩ := h
 have e2 : 1 = LEN l1 := by subst hl1 hLEN; rfl
 refine ⟨_, congrArg (fun n => AV.c (AC.os 640 0 n)) e2, _, row GD (encI .u8) l1, e2, ?_, ?_⟩
 ·intro i hi j hj
  rw [← e2] at hi
  subst hl1
  subst hGD
  obtain rfl : i = 0 := (by omega)
  all_goals obtain rfl : j = 0 := by omega
  all_goals rfl
 cbv
 replace h := of_req h
 obtain ⟨c5, h⟩ := h
 replace h := of_let h
 obtain ⟨l3, hl3, h⟩ := h
 have e4 : A.nadd (LEN a0) (LEN l1) = LEN l3 := by subst hl3 hLEN hA; simp [std, len]
 refine ⟨c5, _, congrArg (fun n => AV.c (AC.os 704 0 n)) e4, _, row GD (encI .u8) l3, e4, ?_, ?_⟩
 ·subst hGD hLEN hA
  exact app_os (off := 0) (fun _ _ => rfl) hl3 (Nat.le_refl _)
 cbv
 replace h := of_let h
 obtain ⟨l6, hl6, h⟩ := h
 have e7 : 2 = LEN l6 := by subst hl6 hLEN; rfl
 refine ⟨_, congrArg (fun n => AV.c (AC.os 1152 0 n)) e7, _, row GD (encI .i64) l6, e7, ?_, ?_⟩
 ·intro i hi j hj
  rw [← e7] at hi
  subst hl6
  subst hGD
  obtain rfl | rfl : i = 0 ∨ i = 1 := (by omega)
  all_goals obtain rfl : j = 0 := by omega
  all_goals rfl
 cbv
 replace h := of_bind h
 obtain ⟨y8, hy9, h⟩ := h
 refine ⟨{ args := [.c (.os 5 0 (LEN l3)), .c (.bs (LEN l6) 1 (row GD (encI .i64) l6))], o0 := [(5, .arr .rw [] (LEN l3) 1 (row GD (encI .u8) l3))], r := .c (.os 64000 0 (LEN y8)), o1 := [(64000, .arr .rw [] (LEN y8) 1 (row GD (encI .u8) y8))], fl := true, σ := [(5, 704)], τ := [(64000, 1216)] }, hf_impl_coordinates_mob _ _ _ hy9, ⟨les_cons (lR _) (les_cons (give_os (fun _ _ => rfl) rfl rfl rfl) (les_nil)), ⟨oS, trivial⟩, rfl, rfl, rfl, rfl, ⟨fun h => absurd (show (64000 : Nat) % 2 = 1 from h) (by decide), trivial⟩, rfl⟩, _, rfl, _, _, rfl, fun _ _ _ _ => rfl, ?_⟩
 cbv
 replace h := of_let h
 obtain ⟨l10, hl10, h⟩ := h
 have e11 : 2 = LEN l10 := by subst hl10 hLEN; rfl
 refine ⟨_, congrArg (fun n => AV.c (AC.os 1728 0 n)) e11, _, row GD (encI .u8) l10, e11, ?_, ?_⟩
 ·intro i hi j hj
  rw [← e11] at hi
  subst hl10
  subst hGD
  obtain rfl | rfl : i = 0 ∨ i = 1 := (by omega)
  all_goals obtain rfl : j = 0 := by omega
  all_goals rfl
 cbv
 replace h := of_req h
 obtain ⟨c14, h⟩ := h
 replace h := of_let h
 obtain ⟨l12, hl12, h⟩ := h
 have e13 : A.nadd (LEN y8) (LEN l10) = LEN l12 := by subst hl12 hLEN hA; simp [std, len]
 refine ⟨c14, _, congrArg (fun n => AV.c (AC.os 1216 0 n)) e13, _, row GD (encI .u8) l12, e13, ?_, ?_⟩
 ·subst hGD hLEN hA
  exact app_os (off := 0) (fun _ _ => rfl) hl12 (Nat.le_refl _)
 cbv
 replace h := of_let h
 obtain ⟨l15, hl15, h⟩ := h
 have e16 : 2 = LEN l15 := by subst hl15 hLEN; rfl
 refine ⟨_, congrArg (fun n => AV.c (AC.os 2112 0 n)) e16, _, row GD (encI .i64) l15, e16, ?_, ?_⟩
 ·intro i hi j hj
  rw [← e16] at hi
  subst hl15
  subst hGD
  obtain rfl | rfl : i = 0 ∨ i = 1 := (by omega)
  all_goals obtain rfl : j = 0 := by omega
  all_goals rfl
 cbv
 replace h := of_bind h
 obtain ⟨y17, hy18, h⟩ := h
 refine ⟨{ args := [.c (.os 5 0 (LEN l12)), .c (.bs (LEN l15) 1 (row GD (encI .i64) l15))], o0 := [(5, .arr .rw [] (LEN l12) 1 (row GD (encI .u8) l12))], r := .c (.os 64000 0 (LEN y17)), o1 := [(64000, .arr .rw [] (LEN y17) 1 (row GD (encI .u8) y17))], fl := true, σ := [(5, 1216)], τ := [(64000, 2176)] }, hf_impl_coordinates_mob _ _ _ hy18, ⟨les_cons (lR _) (les_cons (give_os (fun _ _ => rfl) rfl rfl rfl) (les_nil)), ⟨oS, trivial⟩, rfl, rfl, rfl, rfl, ⟨fun h => absurd (show (64000 : Nat) % 2 = 1 from h) (by decide), trivial⟩, rfl⟩, _, rfl, _, _, rfl, fun _ _ _ _ => rfl, ?_⟩
 cbv
 injection h with h
 subst h
 refine ⟨(sparse 35 [(4, .c (.os 64000 0 (LEN y17)))] [(64000, .arr .rw [] (LEN y17) 1 (row GD (encI .u8) y17))]), ?_, ?_⟩
 ·refine St.le_trans (le_ren 2176 64000 (by decide) rfl) ?_
  exact le_sparse rfl ⟨lR _, trivial⟩ ⟨oS, trivial⟩ rfl
 ·exact ⟨lR _, ⟨oS, trivial⟩, rfl⟩
noncomputable def L_impl_cellRecords_x51 (a0 : TLibrary) (a1 : TCell) : (ByteArray × Int) → Option ((ByteArray × Int) ⊕ ((ByteArray))) := fun x51 =>
 letO x51.1 fun v49 =>
 letO x51.2 fun v50 =>
 br (std.lt v50 (std.ofN (len a1.fInstances)))
 (req (std.inR v50 (len a1.fInstances)) <|
 req (std.inR (gd a1.fInstances (std.toN v50)).fCell (len a0.fCells)) <|
 (F_impl_nameBytes_mnb ([] : List Int) (gd a0.fCells (std.toN (gd a1.fInstances (std.toN v50)).fCell)).fName).bind fun y65 =>
 (F_impl_placeBytes_mob y65 (gd a1.fInstances (std.toN v50))).bind fun y67 =>
 (F_impl_StreamRecord 5 (std.ofBytes (len y67) (fun i => gd y67 (0 + i)))).bind fun y69 =>
 req (std.room (std.nadd (std.slen v49) (std.slen y69)) 1) <|
 some (.inl (std.scat v49 y69, std.add .i64 v50 1)))
 (some (.inr v49))
noncomputable def L_impl_cellRecords_x29 (a1 : TCell) : (ByteArray × Int) → Option ((ByteArray × Int) ⊕ ((ByteArray))) := fun x29 =>
 letO x29.1 fun v27 =>
 letO x29.2 fun v28 =>
 br (std.lt v28 (std.ofN (len a1.fLabels)))
 (req (std.inR v28 (len a1.fLabels)) <|
 (F_impl_labelBytes_mnb ([] : List Int) (gd a1.fLabels (std.toN v28))).bind fun y42 =>
 (F_impl_StreamRecord 4 (std.ofBytes (len y42) (fun i => gd y42 (0 + i)))).bind fun y44 =>
 req (std.room (std.nadd (std.slen v27) (std.slen y44)) 1) <|
 some (.inl (std.scat v27 y44, std.add .i64 v28 1)))
 (some (.inr v27))
noncomputable def L_impl_cellRecords_x7 (a1 : TCell) : (ByteArray × Int) → Option ((ByteArray × Int) ⊕ ((ByteArray))) := fun x7 =>
 letO x7.1 fun v5 =>
 letO x7.2 fun v6 =>
 br (std.lt v6 (std.ofN (len a1.fShapes)))
 (req (std.inR v6 (len a1.fShapes)) <|
 (F_impl_shapeBytes_mnb ([] : List Int) (gd a1.fShapes (std.toN v6))).bind fun y20 =>
 (F_impl_StreamRecord 3 (std.ofBytes (len y20) (fun i => gd y20 (0 + i)))).bind fun y22 =>
 req (std.room (std.nadd (std.slen v5) (std.slen y22)) 1) <|
 some (.inl (std.scat v5 y22, std.add .i64 v6 1)))
 (some (.inr v5))
/-- impl.cellRecords -/
noncomputable def F_impl_cellRecords (a0 : TLibrary) (a1 : TCell) : Option (ByteArray) :=
 (F_impl_nameBytes_mnb ([] : List Int) a1.fName).bind fun y1 =>
 (F_impl_StreamRecord 2 (std.ofBytes (len y1) (fun i => gd y1 (0 + i)))).bind fun y3 =>
 (whileP (σ := ByteArray × Int) (ρ := (ByteArray)) (L_impl_cellRecords_x7 a1) (y3, 0)).bind fun y8 =>
 letO y8 fun y8k0 =>
 letO y8k0 fun w26 =>
 (whileP (σ := ByteArray × Int) (ρ := (ByteArray)) (L_impl_cellRecords_x29 a1) (w26, 0)).bind fun y30 =>
 letO y30 fun y30k0 =>
 letO y30k0 fun w48 =>
 (whileP (σ := ByteArray × Int) (ρ := (ByteArray)) (L_impl_cellRecords_x51 a0 a1) (w48, 0)).bind fun y52 =>
 letO y52 fun y52k0 =>
 letO y52k0 fun w73 =>
 letO ([std.conv .u8 (std.ofN (len a1.fShapes)), std.conv .u8 (std.ofN (len a1.fLabels)), std.conv .u8 (std.ofN (len a1.fInstances))] : List Int) fun l74 =>
 (F_impl_StreamRecord 6 (std.ofBytes (len l74) (fun i => gd l74 (0 + i)))).bind fun y76 =>
 req (std.room (std.nadd (std.slen w73) (std.slen y76)) 1) <|
 some (std.scat w73 y76)
theorem run_impl_cellRecords (a0 : TLibrary) (a1 : TCell) (r : ByteArray) (h : F_impl_cellRecords a0 a1 = some r) : Fun Try.prog 125 [.agg [.bs (len a0.fCells) 4 (row gd (encCell len gd) a0.fCells)], .agg [.v (.string a1.fName), .bs (len a1.fShapes) 5 (row gd (encShape) a1.fShapes), .bs (len a1.fLabels) 4 (row gd (encLabel) a1.fLabels), .bs (len a1.fInstances) 8 (row gd (encInstance) a1.fInstances)]] [] (.c (.v (.string r))) [] true := by
 refine Fun.of_wp (oneOf []) tok mixed Try.func125 (by kernel_rfl) rfl Try.ntmps125 rfl trivial (fun _ => ⟨trivial, trivial⟩) ?_
 unfold F_impl_cellRecords at h
 unfold L_impl_cellRecords_x7 at h
 unfold L_impl_cellRecords_x29 at h
 unfold L_impl_cellRecords_x51 at h
 have hf_impl_StreamRecord := @run_impl_StreamRecord
 have hf_impl_labelBytes_mnb := @run_impl_labelBytes_mnb
 have hf_impl_nameBytes_mnb := @run_impl_nameBytes_mnb
 have hf_impl_placeBytes_mob := @run_impl_placeBytes_mob
 have hf_impl_shapeBytes_mnb := @run_impl_shapeBytes_mnb
 generalize hLEN : @len = LEN at *
 generalize hGD : @gd = GD at *
 generalize hA : std = A at *
 generalize hP : Try.prog = P at *
 cbv
 replace h := of_bind h
 obtain ⟨y1, hy2, h⟩ := h
 refine ⟨{ args := [.c (.v (.slice none 0 0)), .c (.v (.string a1.fName))], o0 := [], r := .c (.os 64000 0 (LEN y1)), o1 := [(64000, .arr .rw [] (LEN y1) 1 (row GD (encI .u8) y1))], fl := true, σ := [], τ := [(64000, 896)] }, hf_impl_nameBytes_mnb _ _ _ hy2, ⟨les_cons (lR _) (les_cons (lR _) (les_nil)), trivial, rfl, rfl, rfl, rfl, ⟨fun h => absurd (show (64000 : Nat) % 2 = 1 from h) (by decide), trivial⟩, rfl⟩, _, rfl, _, _, rfl, fun _ _ _ _ => rfl, ?_⟩
 cbv
 refine ⟨fun _ _ => rfl, ?_⟩
 replace h := of_bind h
 obtain ⟨y3, hy4, h⟩ := h
 refine ⟨{ args := [.c (.v (.int .i64 2)), .c (.v (.string (A.ofBytes (LEN y1) (fun i => GD y1 (0 + i)))))], o0 := [], r := .c (.v (.string y3)), o1 := [], fl := true, σ := [], τ := [] }, hf_impl_StreamRecord _ _ _ hy4, ⟨les_cons (lR _) (les_cons (lR _) (les_nil)), trivial, rfl, rfl, rfl, rfl, trivial, rfl⟩, ?_⟩
 cbv
 replace h := of_bind h
 obtain ⟨y8, hr9, hN10⟩ := h
 refine loop_cut hr9 (fun x => (sparse 84 [(2, .c (.ptr 128 0)), (3, .c (.ptr 192 0)), (5, .c (.v (.string x.1))), (18, .c (.bs (LEN a1.fShapes) 5 (row GD (encShape) a1.fShapes))), (19, .c (.v (.int .i64 (A.ofN (LEN a1.fShapes))))), (20, .c (.v (.int .i64 x.2)))] [(128, .var [.bs (LEN a0.fCells) 4 (row GD (encCell LEN GD) a0.fCells)]), (192, .var [.v (.string a1.fName), .bs (LEN a1.fShapes) 5 (row GD (encShape) a1.fShapes), .bs (LEN a1.fLabels) 4 (row GD (encLabel) a1.fLabels), .bs (LEN a1.fInstances) 8 (row GD (encInstance) a1.fInstances)])])) ?_ (fun y e s => (fun (w : ByteArray) => e = .exit 0 ∧ s.le (sparse 84 [(2, .c (.ptr 128 0)), (3, .c (.ptr 192 0)), (5, .c (.v (.string w)))] [(128, .var [.bs (LEN a0.fCells) 4 (row GD (encCell LEN GD) a0.fCells)]), (192, .var [.v (.string a1.fName), .bs (LEN a1.fShapes) 5 (row GD (encShape) a1.fShapes), .bs (LEN a1.fLabels) 4 (row GD (encLabel) a1.fLabels), .bs (LEN a1.fInstances) 8 (row GD (encInstance) a1.fInstances)])])) y) ?_ ?_
 ·clear hr9 hN10
  show St.le _ _
  exact le_sparse rfl ⟨lR _, lR _, lR _, lR _, lR _, lR _, trivial⟩ ⟨rfl, rfl, trivial⟩ rfl
 ·clear hr9 hN10
  intro x z14 h K12 hK13 hY11
  obtain ⟨x0_, x1_⟩ := x
  replace h := of_let h
  obtain ⟨v5, hv5, h⟩ := h
  have hv5 : v5 = x0_ := hv5
  subst hv5
  replace h := of_let h
  obtain ⟨v6, hv6, h⟩ := h
  have hv6 : v6 = x1_ := hv6
  subst hv6
  cbv
  refine fork (fun b25 => ?_) (fun b25 => ?_)
  ·replace h := of_br_t b25 h
   cbv
   replace h := of_req h
   obtain ⟨c19, h⟩ := h
   refine ⟨⟨c19, trivial⟩, ?_⟩
   replace h := of_bind h
   obtain ⟨y20, hy21, h⟩ := h
   refine ⟨{ args := [.c (.v (.slice none 0 0)), .agg [.v (.int .i64 (GD a1.fShapes (A.toN v6)).fLayer), .v (.int .i64 (GD a1.fShapes (A.toN v6)).fBox.fX0), .v (.int .i64 (GD a1.fShapes (A.toN v6)).fBox.fY0), .v (.int .i64 (GD a1.fShapes (A.toN v6)).fBox.fX1), .v (.int .i64 (GD a1.fShapes (A.toN v6)).fBox.fY1)]], o0 := [], r := .c (.os 64000 0 (LEN y20)), o1 := [(64000, .arr .rw [] (LEN y20) 1 (row GD (encI .u8) y20))], fl := true, σ := [], τ := [(64000, 1664)] }, hf_impl_shapeBytes_mnb _ _ _ hy21, ⟨les_cons (lR _) (les_cons (lR _) (les_nil)), trivial, rfl, rfl, rfl, rfl, ⟨fun h => absurd (show (64000 : Nat) % 2 = 1 from h) (by decide), trivial⟩, rfl⟩, _, rfl, _, _, rfl, fun _ _ _ _ => rfl, ?_⟩
   cbv
   refine ⟨fun _ _ => rfl, ?_⟩
   replace h := of_bind h
   obtain ⟨y22, hy23, h⟩ := h
   refine ⟨{ args := [.c (.v (.int .i64 3)), .c (.v (.string (A.ofBytes (LEN y20) (fun i => GD y20 (0 + i)))))], o0 := [], r := .c (.v (.string y22)), o1 := [], fl := true, σ := [], τ := [] }, hf_impl_StreamRecord _ _ _ hy23, ⟨les_cons (lR _) (les_cons (lR _) (les_nil)), trivial, rfl, rfl, rfl, rfl, trivial, rfl⟩, ?_⟩
   cbv
   replace h := of_req h
   obtain ⟨c24, h⟩ := h
   refine ⟨c24, ?_⟩
   injection h with h
   refine hK13 _ h.symm _ ?_
   exact le_sparse rfl ⟨lR _, lR _, lR _, lR _, lR _, lR _, trivial⟩ ⟨rfl, rfl, trivial⟩ rfl
  ·replace h := of_br_f b25 h
   cbv
   injection h with h
   refine hY11 _ h.symm _ _ (And.intro rfl ?_) (by intro hh; cases hh)
   exact le_sparse rfl ⟨lR _, lR _, lR _, trivial⟩ ⟨rfl, rfl, trivial⟩ rfl
 ·clear hr9
  have h := hN10
  clear hN10
  intro e17 s18 q16 hne
  replace h := of_let h
  obtain ⟨y8k0, hyk, h⟩ := h
  have hyk : y8k0 = y8 := hyk
  subst hyk
  obtain ⟨rfl, q16⟩ := q16
  replace h := of_let h
  obtain ⟨w26, hw26, h⟩ := h
  have hw26 : w26 = y8k0 := hw26
  subst hw26
  cbv
  refine ⟨_, q16, ?_⟩
  cbv
  replace h := of_bind h
  obtain ⟨y30, hr31, hN32⟩ := h
  refine loop_cut hr31 (fun x => (sparse 84 [(2, .c (.ptr 128 0)), (3, .c (.ptr 192 0)), (5, .c (.v (.string x.1))), (32, .c (.bs (LEN a1.fLabels) 4 (row GD (encLabel) a1.fLabels))), (33, .c (.v (.int .i64 (A.ofN (LEN a1.fLabels))))), (34, .c (.v (.int .i64 x.2)))] [(128, .var [.bs (LEN a0.fCells) 4 (row GD (encCell LEN GD) a0.fCells)]), (192, .var [.v (.string a1.fName), .bs (LEN a1.fShapes) 5 (row GD (encShape) a1.fShapes), .bs (LEN a1.fLabels) 4 (row GD (encLabel) a1.fLabels), .bs (LEN a1.fInstances) 8 (row GD (encInstance) a1.fInstances)])])) ?_ (fun y e s => (fun (w : ByteArray) => e = .exit 2 ∧ s.le (sparse 84 [(2, .c (.ptr 128 0)), (3, .c (.ptr 192 0)), (5, .c (.v (.string w)))] [(128, .var [.bs (LEN a0.fCells) 4 (row GD (encCell LEN GD) a0.fCells)]), (192, .var [.v (.string a1.fName), .bs (LEN a1.fShapes) 5 (row GD (encShape) a1.fShapes), .bs (LEN a1.fLabels) 4 (row GD (encLabel) a1.fLabels), .bs (LEN a1.fInstances) 8 (row GD (encInstance) a1.fInstances)])])) y) ?_ ?_
  ·clear hr31 hN32
   show St.le _ _
   exact le_sparse rfl ⟨lR _, lR _, lR _, lR _, lR _, lR _, trivial⟩ ⟨rfl, rfl, trivial⟩ rfl
  ·clear hr31 hN32
   intro x z36 h K34 hK35 hY33
   obtain ⟨x0_, x1_⟩ := x
   replace h := of_let h
   obtain ⟨v27, hv27, h⟩ := h
   have hv27 : v27 = x0_ := hv27
   subst hv27
   replace h := of_let h
   obtain ⟨v28, hv28, h⟩ := h
   have hv28 : v28 = x1_ := hv28
   subst hv28
   cbv
   refine fork (fun b47 => ?_) (fun b47 => ?_)
   ·replace h := of_br_t b47 h
    cbv
    replace h := of_req h
    obtain ⟨c41, h⟩ := h
    refine ⟨⟨c41, trivial⟩, ?_⟩
    replace h := of_bind h
    obtain ⟨y42, hy43, h⟩ := h
    refine ⟨{ args := [.c (.v (.slice none 0 0)), .agg [.v (.int .i64 (GD a1.fLabels (A.toN v28)).fLayer), .v (.int .i64 (GD a1.fLabels (A.toN v28)).fAt.fX), .v (.int .i64 (GD a1.fLabels (A.toN v28)).fAt.fY), .v (.string (GD a1.fLabels (A.toN v28)).fName)]], o0 := [], r := .c (.os 64000 0 (LEN y42)), o1 := [(64000, .arr .rw [] (LEN y42) 1 (row GD (encI .u8) y42))], fl := true, σ := [], τ := [(64000, 2560)] }, hf_impl_labelBytes_mnb _ _ _ hy43, ⟨les_cons (lR _) (les_cons (lR _) (les_nil)), trivial, rfl, rfl, rfl, rfl, ⟨fun h => absurd (show (64000 : Nat) % 2 = 1 from h) (by decide), trivial⟩, rfl⟩, _, rfl, _, _, rfl, fun _ _ _ _ => rfl, ?_⟩
    cbv
    refine ⟨fun _ _ => rfl, ?_⟩
    replace h := of_bind h
    obtain ⟨y44, hy45, h⟩ := h
    refine ⟨{ args := [.c (.v (.int .i64 4)), .c (.v (.string (A.ofBytes (LEN y42) (fun i => GD y42 (0 + i)))))], o0 := [], r := .c (.v (.string y44)), o1 := [], fl := true, σ := [], τ := [] }, hf_impl_StreamRecord _ _ _ hy45, ⟨les_cons (lR _) (les_cons (lR _) (les_nil)), trivial, rfl, rfl, rfl, rfl, trivial, rfl⟩, ?_⟩
    cbv
    replace h := of_req h
    obtain ⟨c46, h⟩ := h
    refine ⟨c46, ?_⟩
    injection h with h
    refine hK35 _ h.symm _ ?_
    exact le_sparse rfl ⟨lR _, lR _, lR _, lR _, lR _, lR _, trivial⟩ ⟨rfl, rfl, trivial⟩ rfl
   ·replace h := of_br_f b47 h
    cbv
    injection h with h
    refine hY33 _ h.symm _ _ (And.intro rfl ?_) (by intro hh; cases hh)
    exact le_sparse rfl ⟨lR _, lR _, lR _, trivial⟩ ⟨rfl, rfl, trivial⟩ rfl
  ·clear hr31
   have h := hN32
   clear hN32
   intro e39 s40 q38 hne
   replace h := of_let h
   obtain ⟨y30k0, hyk, h⟩ := h
   have hyk : y30k0 = y30 := hyk
   subst hyk
   obtain ⟨rfl, q38⟩ := q38
   replace h := of_let h
   obtain ⟨w48, hw48, h⟩ := h
   have hw48 : w48 = y30k0 := hw48
   subst hw48
   cbv
   refine ⟨_, q38, ?_⟩
   cbv
   replace h := of_bind h
   obtain ⟨y52, hr53, hN54⟩ := h
   refine loop_cut hr53 (fun x => (sparse 84 [(2, .c (.ptr 128 0)), (3, .c (.ptr 192 0)), (5, .c (.v (.string x.1))), (46, .c (.bs (LEN a1.fInstances) 8 (row GD (encInstance) a1.fInstances))), (47, .c (.v (.int .i64 (A.ofN (LEN a1.fInstances))))), (48, .c (.v (.int .i64 x.2)))] [(128, .var [.bs (LEN a0.fCells) 4 (row GD (encCell LEN GD) a0.fCells)]), (192, .var [.v (.string a1.fName), .bs (LEN a1.fShapes) 5 (row GD (encShape) a1.fShapes), .bs (LEN a1.fLabels) 4 (row GD (encLabel) a1.fLabels), .bs (LEN a1.fInstances) 8 (row GD (encInstance) a1.fInstances)])])) ?_ (fun y e s => (fun (w : ByteArray) => e = .exit 4 ∧ s.le (sparse 84 [(3, .c (.ptr 192 0)), (5, .c (.v (.string w)))] [(192, .var [.v (.string a1.fName), .bs (LEN a1.fShapes) 5 (row GD (encShape) a1.fShapes), .bs (LEN a1.fLabels) 4 (row GD (encLabel) a1.fLabels), .bs (LEN a1.fInstances) 8 (row GD (encInstance) a1.fInstances)])])) y) ?_ ?_
   ·clear hr53 hN54
    show St.le _ _
    exact le_sparse rfl ⟨lR _, lR _, lR _, lR _, lR _, lR _, trivial⟩ ⟨rfl, rfl, trivial⟩ rfl
   ·clear hr53 hN54
    intro x z58 h K56 hK57 hY55
    obtain ⟨x0_, x1_⟩ := x
    replace h := of_let h
    obtain ⟨v49, hv49, h⟩ := h
    have hv49 : v49 = x0_ := hv49
    subst hv49
    replace h := of_let h
    obtain ⟨v50, hv50, h⟩ := h
    have hv50 : v50 = x1_ := hv50
    subst hv50
    cbv
    refine fork (fun b72 => ?_) (fun b72 => ?_)
    ·replace h := of_br_t b72 h
     cbv
     replace h := of_req h
     obtain ⟨c63, h⟩ := h
     refine ⟨⟨c63, trivial⟩, ?_⟩
     replace h := of_req h
     obtain ⟨c64, h⟩ := h
     refine ⟨⟨c64, trivial⟩, ?_⟩
     replace h := of_bind h
     obtain ⟨y65, hy66, h⟩ := h
     refine ⟨{ args := [.c (.v (.slice none 0 0)), .c (.v (.string (GD a0.fCells (A.toN (GD a1.fInstances (A.toN v50)).fCell)).fName))], o0 := [], r := .c (.os 64000 0 (LEN y65)), o1 := [(64000, .arr .rw [] (LEN y65) 1 (row GD (encI .u8) y65))], fl := true, σ := [], τ := [(64000, 3840)] }, hf_impl_nameBytes_mnb _ _ _ hy66, ⟨les_cons (lR _) (les_cons (lR _) (les_nil)), trivial, rfl, rfl, rfl, rfl, ⟨fun h => absurd (show (64000 : Nat) % 2 = 1 from h) (by decide), trivial⟩, rfl⟩, _, rfl, _, _, rfl, fun _ _ _ _ => rfl, ?_⟩
     cbv
     replace h := of_bind h
     obtain ⟨y67, hy68, h⟩ := h
     refine ⟨{ args := [.c (.os 5 0 (LEN y65)), .agg [.v (.int .i64 (GD a1.fInstances (A.toN v50)).fCell), .v (.int .i64 (GD a1.fInstances (A.toN v50)).fPlace.fOrientation), .v (.int .i64 (GD a1.fInstances (A.toN v50)).fPlace.fX), .v (.int .i64 (GD a1.fInstances (A.toN v50)).fPlace.fY), .v (.int .i64 (GD a1.fInstances (A.toN v50)).fColumns), .v (.int .i64 (GD a1.fInstances (A.toN v50)).fRows), .v (.int .i64 (GD a1.fInstances (A.toN v50)).fStepX), .v (.int .i64 (GD a1.fInstances (A.toN v50)).fStepY)]], o0 := [(5, .arr .rw [] (LEN y65) 1 (row GD (encI .u8) y65))], r := .c (.os 64000 0 (LEN y67)), o1 := [(64000, .arr .rw [] (LEN y67) 1 (row GD (encI .u8) y67))], fl := true, σ := [(5, 3840)], τ := [(64000, 3968)] }, hf_impl_placeBytes_mob _ _ _ hy68, ⟨les_cons (lR _) (les_cons (lR _) (les_nil)), ⟨oS, trivial⟩, rfl, rfl, rfl, rfl, ⟨fun h => absurd (show (64000 : Nat) % 2 = 1 from h) (by decide), trivial⟩, rfl⟩, _, rfl, _, _, rfl, fun _ _ _ _ => rfl, ?_⟩
     cbv
     refine ⟨fun _ _ => rfl, ?_⟩
     replace h := of_bind h
     obtain ⟨y69, hy70, h⟩ := h
     refine ⟨{ args := [.c (.v (.int .i64 5)), .c (.v (.string (A.ofBytes (LEN y67) (fun i => GD y67 (0 + i)))))], o0 := [], r := .c (.v (.string y69)), o1 := [], fl := true, σ := [], τ := [] }, hf_impl_StreamRecord _ _ _ hy70, ⟨les_cons (lR _) (les_cons (lR _) (les_nil)), trivial, rfl, rfl, rfl, rfl, trivial, rfl⟩, ?_⟩
     cbv
     replace h := of_req h
     obtain ⟨c71, h⟩ := h
     refine ⟨c71, ?_⟩
     injection h with h
     refine hK57 _ h.symm _ ?_
     exact le_sparse rfl ⟨lR _, lR _, lR _, lR _, lR _, lR _, trivial⟩ ⟨rfl, rfl, trivial⟩ rfl
    ·replace h := of_br_f b72 h
     cbv
     injection h with h
     refine hY55 _ h.symm _ _ (And.intro rfl ?_) (by intro hh; cases hh)
     exact le_sparse rfl ⟨lR _, lR _, trivial⟩ ⟨rfl, trivial⟩ rfl
   ·clear hr53
    have h := hN54
    clear hN54
    intro e61 s62 q60 hne
    replace h := of_let h
    obtain ⟨y52k0, hyk, h⟩ := h
    have hyk : y52k0 = y52 := hyk
    subst hyk
    obtain ⟨rfl, q60⟩ := q60
    replace h := of_let h
    obtain ⟨w73, hw73, h⟩ := h
    have hw73 : w73 = y52k0 := hw73
    subst hw73
    cbv
    refine ⟨_, q60, ?_⟩
    cbv
    replace h := of_let h
    obtain ⟨l74, hl74, h⟩ := h
    have e75 : 3 = LEN l74 := by subst hl74 hLEN; rfl
    refine ⟨_, congrArg (fun n => AV.c (AC.os 5120 0 n)) e75, _, row GD (encI .u8) l74, e75, ?_, ?_⟩
    ·intro i hi j hj
     rw [← e75] at hi
     subst hl74
     subst hGD
     obtain rfl | rfl | rfl : i = 0 ∨ i = 1 ∨ i = 2 := (by omega)
     all_goals obtain rfl : j = 0 := by omega
     all_goals rfl
    cbv
    refine ⟨fun _ _ => rfl, ?_⟩
    replace h := of_bind h
    obtain ⟨y76, hy77, h⟩ := h
    refine ⟨{ args := [.c (.v (.int .i64 6)), .c (.v (.string (A.ofBytes (LEN l74) (fun i => GD l74 (0 + i)))))], o0 := [], r := .c (.v (.string y76)), o1 := [], fl := true, σ := [], τ := [] }, hf_impl_StreamRecord _ _ _ hy77, ⟨les_cons (lR _) (les_cons (lR _) (les_nil)), trivial, rfl, rfl, rfl, rfl, trivial, rfl⟩, ?_⟩
    cbv
    replace h := of_req h
    obtain ⟨c78, h⟩ := h
    refine ⟨c78, ?_⟩
    injection h with h
    subst h
    refine ⟨(sparse 84 [(4, .c (.v (.string (A.scat w73 y76))))] []), ?_, ?_⟩
    ·exact le_sparse rfl ⟨lR _, trivial⟩ trivial rfl
    ·exact ⟨lR _, trivial, rfl⟩

noncomputable def L_impl_LibraryStream_x9 (a0 : TLibrary) : (ByteArray × Int) → Option ((ByteArray × Int) ⊕ ((ByteArray))) := fun x9 =>
 letO x9.1 fun v7 =>
 letO x9.2 fun v8 =>
 br (std.lt v8 (std.ofN (len a0.fCells)))
 (req (std.inR v8 (len a0.fCells)) <|
 (F_impl_cellRecords a0 (gd a0.fCells (std.toN v8))).bind fun y22 =>
 req (std.room (std.nadd (std.slen v7) (std.slen y22)) 1) <|
 some (.inl (std.scat v7 y22, std.add .i64 v8 1)))
 (some (.inr v7))
/-- impl.LibraryStream -/
noncomputable def F_impl_LibraryStream (a0 : TLibrary) : Option (ByteArray) :=
 (F_impl_IsValidLibrary a0).bind fun y1 =>
 br (!(y1))
 (some (ByteArray.mk #[]))
 (letO ([1, std.conv .u8 (std.ofN (len a0.fCells))] : List Int) fun l3 =>
 (F_impl_StreamRecord 1 (std.ofBytes (len l3) (fun i => gd l3 (0 + i)))).bind fun y5 =>
 (whileP (σ := ByteArray × Int) (ρ := (ByteArray)) (L_impl_LibraryStream_x9 a0) (y5, 0)).bind fun y10 =>
 letO y10 fun y10k0 =>
 letO y10k0 fun w26 =>
 (F_impl_Checksum16 w26).bind fun y27 =>
 (F_impl_two_mnb ([] : List Int) y27).bind fun y29 =>
 (F_impl_StreamRecord 7 (std.ofBytes (len y29) (fun i => gd y29 (0 + i)))).bind fun y31 =>
 req (std.room (std.nadd (std.slen w26) (std.slen y31)) 1) <|
 some (std.scat w26 y31))
theorem run_impl_LibraryStream (a0 : TLibrary) (r : ByteArray) (h : F_impl_LibraryStream a0 = some r) : Fun Try.prog 52 [.agg [.bs (len a0.fCells) 4 (row gd (encCell len gd) a0.fCells)]] [] (.c (.v (.string r))) [] true := by
 refine Fun.of_wp (oneOf []) tok mixed Try.func52 (by kernel_rfl) rfl Try.ntmps52 rfl trivial (fun _ => ⟨trivial, trivial⟩) ?_
 unfold F_impl_LibraryStream at h
 unfold L_impl_LibraryStream_x9 at h
 have hf_impl_Checksum16 := @run_impl_Checksum16
 have hf_impl_IsValidLibrary := @run_impl_IsValidLibrary
 have hf_impl_StreamRecord := @run_impl_StreamRecord
 have hf_impl_cellRecords := @run_impl_cellRecords
 have hf_impl_two_mnb := @run_impl_two_mnb
 generalize hLEN : @len = LEN at *
 generalize hGD : @gd = GD at *
 generalize hA : std = A at *
 generalize hP : Try.prog = P at *
 cbv
 replace h := of_bind h
 obtain ⟨y1, hy2, h⟩ := h
 refine ⟨{ args := [.agg [.bs (LEN a0.fCells) 4 (row GD (encCell LEN GD) a0.fCells)]], o0 := [], r := .c (.v (.bool y1)), o1 := [], fl := true, σ := [], τ := [] }, hf_impl_IsValidLibrary _ _ hy2, ⟨les_cons (lR _) (les_nil), trivial, rfl, rfl, rfl, rfl, trivial, rfl⟩, ?_⟩
 cbv
 refine fork (fun b34 => ?_) (fun b34 => ?_)
 ·replace h := of_br_t b34 h
  cbv
  injection h with h
  subst h
  refine ⟨(sparse 36 [(2, .c (.v (.string (ByteArray.mk #[]))))] []), ?_, ?_⟩
  ·exact le_sparse rfl ⟨lR _, trivial⟩ trivial rfl
  ·exact ⟨lR _, trivial, rfl⟩
 ·replace h := of_br_f b34 h
  cbv
  replace h := of_let h
  obtain ⟨l3, hl3, h⟩ := h
  have e4 : 2 = LEN l3 := by subst hl3 hLEN; rfl
  refine ⟨_, congrArg (fun n => AV.c (AC.os 832 0 n)) e4, _, row GD (encI .u8) l3, e4, ?_, ?_⟩
  ·intro i hi j hj
   rw [← e4] at hi
   subst hl3
   subst hGD
   obtain rfl | rfl : i = 0 ∨ i = 1 := (by omega)
   all_goals obtain rfl : j = 0 := by omega
   all_goals rfl
  cbv
  refine ⟨fun _ _ => rfl, ?_⟩
  replace h := of_bind h
  obtain ⟨y5, hy6, h⟩ := h
  refine ⟨{ args := [.c (.v (.int .i64 1)), .c (.v (.string (A.ofBytes (LEN l3) (fun i => GD l3 (0 + i)))))], o0 := [], r := .c (.v (.string y5)), o1 := [], fl := true, σ := [], τ := [] }, hf_impl_StreamRecord _ _ _ hy6, ⟨les_cons (lR _) (les_cons (lR _) (les_nil)), trivial, rfl, rfl, rfl, rfl, trivial, rfl⟩, ?_⟩
  cbv
  replace h := of_bind h
  obtain ⟨y10, hr11, hN12⟩ := h
  refine loop_cut hr11 (fun x => (sparse 36 [(1, .c (.ptr 64 0)), (3, .c (.v (.string x.1))), (17, .c (.bs (LEN a0.fCells) 4 (row GD (encCell LEN GD) a0.fCells))), (18, .c (.v (.int .i64 (A.ofN (LEN a0.fCells))))), (19, .c (.v (.int .i64 x.2)))] [(64, .var [.bs (LEN a0.fCells) 4 (row GD (encCell LEN GD) a0.fCells)])])) ?_ (fun y e s => (fun (w : ByteArray) => e = .exit 0 ∧ s.le (sparse 36 [(3, .c (.v (.string w)))] [])) y) ?_ ?_
  ·clear hr11 hN12
   show St.le _ _
   exact le_sparse rfl ⟨lR _, lR _, lR _, lR _, lR _, trivial⟩ ⟨rfl, trivial⟩ rfl
  ·clear hr11 hN12
   intro x z16 h K14 hK15 hY13
   obtain ⟨x0_, x1_⟩ := x
   replace h := of_let h
   obtain ⟨v7, hv7, h⟩ := h
   have hv7 : v7 = x0_ := hv7
   subst hv7
   replace h := of_let h
   obtain ⟨v8, hv8, h⟩ := h
   have hv8 : v8 = x1_ := hv8
   subst hv8
   cbv
   refine fork (fun b25 => ?_) (fun b25 => ?_)
   ·replace h := of_br_t b25 h
    cbv
    replace h := of_req h
    obtain ⟨c21, h⟩ := h
    refine ⟨⟨c21, trivial⟩, ?_⟩
    replace h := of_bind h
    obtain ⟨y22, hy23, h⟩ := h
    refine ⟨{ args := [.agg [.bs (LEN a0.fCells) 4 (row GD (encCell LEN GD) a0.fCells)], .agg [.v (.string (GD a0.fCells (A.toN v8)).fName), .bs (LEN (GD a0.fCells (A.toN v8)).fShapes) 5 (row GD (encShape) (GD a0.fCells (A.toN v8)).fShapes), .bs (LEN (GD a0.fCells (A.toN v8)).fLabels) 4 (row GD (encLabel) (GD a0.fCells (A.toN v8)).fLabels), .bs (LEN (GD a0.fCells (A.toN v8)).fInstances) 8 (row GD (encInstance) (GD a0.fCells (A.toN v8)).fInstances)]], o0 := [], r := .c (.v (.string y22)), o1 := [], fl := true, σ := [], τ := [] }, hf_impl_cellRecords _ _ _ hy23, ⟨les_cons (lR _) (les_cons (lR _) (les_nil)), trivial, rfl, rfl, rfl, rfl, trivial, rfl⟩, ?_⟩
    cbv
    replace h := of_req h
    obtain ⟨c24, h⟩ := h
    refine ⟨c24, ?_⟩
    injection h with h
    refine hK15 _ h.symm _ ?_
    exact le_sparse rfl ⟨lR _, lR _, lR _, lR _, lR _, trivial⟩ ⟨rfl, trivial⟩ rfl
   ·replace h := of_br_f b25 h
    cbv
    injection h with h
    refine hY13 _ h.symm _ _ (And.intro rfl ?_) (by intro hh; cases hh)
    exact le_sparse rfl ⟨lR _, trivial⟩ trivial rfl
  ·clear hr11
   have h := hN12
   clear hN12
   intro e19 s20 q18 hne
   replace h := of_let h
   obtain ⟨y10k0, hyk, h⟩ := h
   have hyk : y10k0 = y10 := hyk
   subst hyk
   obtain ⟨rfl, q18⟩ := q18
   replace h := of_let h
   obtain ⟨w26, hw26, h⟩ := h
   have hw26 : w26 = y10k0 := hw26
   subst hw26
   cbv
   refine ⟨_, q18, ?_⟩
   cbv
   replace h := of_bind h
   obtain ⟨y27, hy28, h⟩ := h
   refine ⟨{ args := [.c (.v (.string w26))], o0 := [], r := .c (.v (.int .i64 y27)), o1 := [], fl := true, σ := [], τ := [] }, hf_impl_Checksum16 _ _ hy28, ⟨les_cons (lR _) (les_nil), trivial, rfl, rfl, rfl, rfl, trivial, rfl⟩, ?_⟩
   cbv
   replace h := of_bind h
   obtain ⟨y29, hy30, h⟩ := h
   refine ⟨{ args := [.c (.v (.slice none 0 0)), .c (.v (.int .i64 y27))], o0 := [], r := .c (.os 64000 0 (LEN y29)), o1 := [(64000, .arr .rw [] (LEN y29) 1 (row GD (encI .u8) y29))], fl := true, σ := [], τ := [(64000, 2048)] }, hf_impl_two_mnb _ _ _ hy30, ⟨les_cons (lR _) (les_cons (lR _) (les_nil)), trivial, rfl, rfl, rfl, rfl, ⟨fun h => absurd (show (64000 : Nat) % 2 = 1 from h) (by decide), trivial⟩, rfl⟩, _, rfl, _, _, rfl, fun _ _ _ _ => rfl, ?_⟩
   cbv
   refine ⟨fun _ _ => rfl, ?_⟩
   replace h := of_bind h
   obtain ⟨y31, hy32, h⟩ := h
   refine ⟨{ args := [.c (.v (.int .i64 7)), .c (.v (.string (A.ofBytes (LEN y29) (fun i => GD y29 (0 + i)))))], o0 := [], r := .c (.v (.string y31)), o1 := [], fl := true, σ := [], τ := [] }, hf_impl_StreamRecord _ _ _ hy32, ⟨les_cons (lR _) (les_cons (lR _) (les_nil)), trivial, rfl, rfl, rfl, rfl, trivial, rfl⟩, ?_⟩
   cbv
   replace h := of_req h
   obtain ⟨c33, h⟩ := h
   refine ⟨c33, ?_⟩
   injection h with h
   subst h
   refine ⟨(sparse 36 [(2, .c (.v (.string (A.scat w26 y31))))] []), ?_, ?_⟩
   ·exact le_sparse rfl ⟨lR _, trivial⟩ trivial rfl
   ·exact ⟨lR _, trivial, rfl⟩

/-- impl.SplitRecord -/
noncomputable def F_impl_SplitRecord (a0 : ByteArray) (a1 : Int) : Option (Int × ByteArray × Int × Int) :=
 (F_impl_within a1 0 (std.ofN (std.slen a0))).bind fun y1 =>
 br (!(y1))
 (some ((0 : Int), (ByteArray.mk #[]), (0 : Int), (2 : Int)))
 (req (std.upTo a1 (std.slen a0)) <|
 br (std.lt (std.ofN (std.slen (std.ssub a0 (std.toN a1) (std.slen a0)))) 2)
 (some ((0 : Int), (ByteArray.mk #[]), (0 : Int), (7 : Int)))
 (req (std.inR 0 (std.slen (std.ssub a0 (std.toN a1) (std.slen a0)))) <|
 req (std.nneg 8) <|
 req (std.inR 1 (std.slen (std.ssub a0 (std.toN a1) (std.slen a0)))) <|
 br (std.lt (std.add .i64 (std.shl .i64 (std.conv .i64 (std.sat (std.ssub a0 (std.toN a1) (std.slen a0)) (std.toN 0))) 8) (std.conv .i64 (std.sat (std.ssub a0 (std.toN a1) (std.slen a0)) (std.toN 1)))) 5)
 (some ((0 : Int), (ByteArray.mk #[]), (0 : Int), (4 : Int)))
 (br (std.lt (std.ofN (std.slen (std.ssub a0 (std.toN a1) (std.slen a0)))) (std.add .i64 (std.shl .i64 (std.conv .i64 (std.sat (std.ssub a0 (std.toN a1) (std.slen a0)) (std.toN 0))) 8) (std.conv .i64 (std.sat (std.ssub a0 (std.toN a1) (std.slen a0)) (std.toN 1)))))
 (some ((0 : Int), (ByteArray.mk #[]), (0 : Int), (7 : Int)))
 (req (std.inR (std.sub .i64 (std.add .i64 (std.shl .i64 (std.conv .i64 (std.sat (std.ssub a0 (std.toN a1) (std.slen a0)) (std.toN 0))) 8) (std.conv .i64 (std.sat (std.ssub a0 (std.toN a1) (std.slen a0)) (std.toN 1)))) 2) (std.slen (std.ssub a0 (std.toN a1) (std.slen a0)))) <|
 req (std.nneg 8) <|
 req (std.inR (std.sub .i64 (std.add .i64 (std.shl .i64 (std.conv .i64 (std.sat (std.ssub a0 (std.toN a1) (std.slen a0)) (std.toN 0))) 8) (std.conv .i64 (std.sat (std.ssub a0 (std.toN a1) (std.slen a0)) (std.toN 1)))) 1) (std.slen (std.ssub a0 (std.toN a1) (std.slen a0)))) <|
 req (std.inR 2 (std.slen (std.ssub a0 (std.toN a1) (std.slen a0)))) <|
 req (std.upTo (std.sub .i64 (std.add .i64 (std.shl .i64 (std.conv .i64 (std.sat (std.ssub a0 (std.toN a1) (std.slen a0)) (std.toN 0))) 8) (std.conv .i64 (std.sat (std.ssub a0 (std.toN a1) (std.slen a0)) (std.toN 1)))) 2) (std.slen (std.ssub a0 (std.toN a1) (std.slen a0)))) <|
 req (std.upTo 3 (std.toN (std.sub .i64 (std.add .i64 (std.shl .i64 (std.conv .i64 (std.sat (std.ssub a0 (std.toN a1) (std.slen a0)) (std.toN 0))) 8) (std.conv .i64 (std.sat (std.ssub a0 (std.toN a1) (std.slen a0)) (std.toN 1)))) 2))) <|
 req (std.upTo (std.sub .i64 (std.add .i64 (std.shl .i64 (std.conv .i64 (std.sat (std.ssub a0 (std.toN a1) (std.slen a0)) (std.toN 0))) 8) (std.conv .i64 (std.sat (std.ssub a0 (std.toN a1) (std.slen a0)) (std.toN 1)))) 2) (std.slen (std.ssub a0 (std.toN a1) (std.slen a0)))) <|
 (F_impl_Checksum16 (std.ssub (std.ssub a0 (std.toN a1) (std.slen a0)) 0 (std.toN (std.sub .i64 (std.add .i64 (std.shl .i64 (std.conv .i64 (std.sat (std.ssub a0 (std.toN a1) (std.slen a0)) (std.toN 0))) 8) (std.conv .i64 (std.sat (std.ssub a0 (std.toN a1) (std.slen a0)) (std.toN 1)))) 2)))).bind fun y14 =>
 br (std.not (std.eq (std.add .i64 (std.shl .i64 (std.conv .i64 (std.sat (std.ssub a0 (std.toN a1) (std.slen a0)) (std.toN (std.sub .i64 (std.add .i64 (std.shl .i64 (std.conv .i64 (std.sat (std.ssub a0 (std.toN a1) (std.slen a0)) (std.toN 0))) 8) (std.conv .i64 (std.sat (std.ssub a0 (std.toN a1) (std.slen a0)) (std.toN 1)))) 2)))) 8) (std.conv .i64 (std.sat (std.ssub a0 (std.toN a1) (std.slen a0)) (std.toN (std.sub .i64 (std.add .i64 (std.shl .i64 (std.conv .i64 (std.sat (std.ssub a0 (std.toN a1) (std.slen a0)) (std.toN 0))) 8) (std.conv .i64 (std.sat (std.ssub a0 (std.toN a1) (std.slen a0)) (std.toN 1)))) 1))))) y14))
 (some ((0 : Int), (ByteArray.mk #[]), (0 : Int), (8 : Int)))
 (((
    (F_impl_within (std.conv .i64 (std.sat (std.ssub a0 (std.toN a1) (std.slen a0)) (std.toN 2))) 1 7).bind fun y23 =>
    br (!(y23))
    (some true)
    (some (std.lt 200 (std.ofN (std.slen (std.ssub (std.ssub a0 (std.toN a1) (std.slen a0)) (std.toN 3) (std.toN (std.sub .i64 (std.add .i64 (std.shl .i64 (std.conv .i64 (std.sat (std.ssub a0 (std.toN a1) (std.slen a0)) (std.toN 0))) 8) (std.conv .i64 (std.sat (std.ssub a0 (std.toN a1) (std.slen a0)) (std.toN 1)))) 2)))))))
  ) : Option (Bool)).bind fun y16 =>
 letO y16 fun w22 =>
 br w22
 (some ((0 : Int), (ByteArray.mk #[]), (0 : Int), (4 : Int)))
 (some (std.conv .i64 (std.sat (std.ssub a0 (std.toN a1) (std.slen a0)) (std.toN 2)), std.ssub (std.ssub a0 (std.toN a1) (std.slen a0)) (std.toN 3) (std.toN (std.sub .i64 (std.add .i64 (std.shl .i64 (std.conv .i64 (std.sat (std.ssub a0 (std.toN a1) (std.slen a0)) (std.toN 0))) 8) (std.conv .i64 (std.sat (std.ssub a0 (std.toN a1) (std.slen a0)) (std.toN 1)))) 2)), std.add .i64 a1 (std.add .i64 (std.shl .i64 (std.conv .i64 (std.sat (std.ssub a0 (std.toN a1) (std.slen a0)) (std.toN 0))) 8) (std.conv .i64 (std.sat (std.ssub a0 (std.toN a1) (std.slen a0)) (std.toN 1)))), (0 : Int))))))))
theorem run_impl_SplitRecord (a0 : ByteArray) (a1 : Int) (r : Int × ByteArray × Int × Int) (h : F_impl_SplitRecord a0 a1 = some r) : Fun Try.prog 126 [.c (.v (.string a0)), .c (.v (.int .i64 a1))] [] (.tup [.c (.v (.int .i64 r.1)), .c (.v (.string r.2.1)), .c (.v (.int .i64 r.2.2.1)), .c (.v (.int .i64 r.2.2.2))]) [] true := by
 refine Fun.of_wp (oneOf [15]) tok mixed Try.func126 (by kernel_rfl) rfl Try.ntmps126 rfl trivial (fun _ => ⟨(by simp [AV.flat, AV.flat1, AC.flat]), trivial⟩) ?_
 unfold F_impl_SplitRecord at h
 have hf_impl_Checksum16 := @run_impl_Checksum16
 have hf_impl_within := @run_impl_within
 generalize hLEN : @len = LEN at *
 generalize hGD : @gd = GD at *
 generalize hA : std = A at *
 generalize hP : Try.prog = P at *
 cbv
 replace h := of_bind h
 obtain ⟨y1, hy2, h⟩ := h
 refine ⟨{ args := [.c (.v (.int .i64 a1)), .c (.v (.int .i64 0)), .c (.v (.int .i64 (A.ofN (A.slen a0))))], o0 := [], r := .c (.v (.bool y1)), o1 := [], fl := true, σ := [], τ := [] }, hf_impl_within _ _ _ _ hy2, ⟨les_cons (lR _) (les_cons (lR _) (les_cons (lR _) (les_nil))), trivial, rfl, rfl, rfl, rfl, trivial, rfl⟩, ?_⟩
 cbv
 refine fork (fun b31 => ?_) (fun b31 => ?_)
 ·replace h := of_br_t b31 h
  cbv
  injection h with h
  subst h
  refine ⟨(sparse 81 [(4, .c (.v (.int .i64 0))), (5, .c (.v (.string (ByteArray.mk #[])))), (6, .c (.v (.int .i64 0))), (7, .c (.v (.int .i64 2)))] []), ?_, ?_⟩
  ·exact le_sparse rfl ⟨lR _, lR _, lR _, lR _, trivial⟩ trivial rfl
  ·exact ⟨lR _, trivial, rfl⟩
 ·replace h := of_br_f b31 h
  cbv
  replace h := of_req h
  obtain ⟨c3, h⟩ := h
  refine ⟨c3, ?_⟩
  refine fork (fun b30 => ?_) (fun b30 => ?_)
  ·replace h := of_br_t b30 h
   cbv
   injection h with h
   subst h
   refine ⟨(sparse 81 [(4, .c (.v (.int .i64 0))), (5, .c (.v (.string (ByteArray.mk #[])))), (6, .c (.v (.int .i64 0))), (7, .c (.v (.int .i64 7)))] []), ?_, ?_⟩
   ·exact le_sparse rfl ⟨lR _, lR _, lR _, lR _, trivial⟩ trivial rfl
   ·exact ⟨lR _, trivial, rfl⟩
  ·replace h := of_br_f b30 h
   cbv
   replace h := of_req h
   obtain ⟨c4, h⟩ := h
   refine ⟨c4, ?_⟩
   replace h := of_req h
   obtain ⟨c5, h⟩ := h
   refine ⟨c5, ?_⟩
   replace h := of_req h
   obtain ⟨c6, h⟩ := h
   refine ⟨c6, ?_⟩
   refine fork (fun b29 => ?_) (fun b29 => ?_)
   ·replace h := of_br_t b29 h
    cbv
    injection h with h
    subst h
    refine ⟨(sparse 81 [(4, .c (.v (.int .i64 0))), (5, .c (.v (.string (ByteArray.mk #[])))), (6, .c (.v (.int .i64 0))), (7, .c (.v (.int .i64 4)))] []), ?_, ?_⟩
    ·exact le_sparse rfl ⟨lR _, lR _, lR _, lR _, trivial⟩ trivial rfl
    ·exact ⟨lR _, trivial, rfl⟩
   ·replace h := of_br_f b29 h
    cbv
    refine fork (fun b28 => ?_) (fun b28 => ?_)
    ·replace h := of_br_t b28 h
     cbv
     injection h with h
     subst h
     refine ⟨(sparse 81 [(4, .c (.v (.int .i64 0))), (5, .c (.v (.string (ByteArray.mk #[])))), (6, .c (.v (.int .i64 0))), (7, .c (.v (.int .i64 7)))] []), ?_, ?_⟩
     ·exact le_sparse rfl ⟨lR _, lR _, lR _, lR _, trivial⟩ trivial rfl
     ·exact ⟨lR _, trivial, rfl⟩
    ·replace h := of_br_f b28 h
     cbv
     replace h := of_req h
     obtain ⟨c7, h⟩ := h
     refine ⟨c7, ?_⟩
     replace h := of_req h
     obtain ⟨c8, h⟩ := h
     refine ⟨c8, ?_⟩
     replace h := of_req h
     obtain ⟨c9, h⟩ := h
     refine ⟨c9, ?_⟩
     replace h := of_req h
     obtain ⟨c10, h⟩ := h
     refine ⟨c10, ?_⟩
     replace h := of_req h
     obtain ⟨c11, h⟩ := h
     replace h := of_req h
     obtain ⟨c12, h⟩ := h
     refine ⟨⟨c11, c12⟩, ?_⟩
     replace h := of_req h
     obtain ⟨c13, h⟩ := h
     refine ⟨c13, ?_⟩
     replace h := of_bind h
     obtain ⟨y14, hy15, h⟩ := h
     refine ⟨{ args := [.c (.v (.string (A.ssub (A.ssub a0 (A.toN a1) (A.slen a0)) 0 (A.toN (A.sub .i64 (A.add .i64 (A.shl .i64 (A.conv .i64 (A.sat (A.ssub a0 (A.toN a1) (A.slen a0)) (A.toN 0))) 8) (A.conv .i64 (A.sat (A.ssub a0 (A.toN a1) (A.slen a0)) (A.toN 1)))) 2)))))], o0 := [], r := .c (.v (.int .i64 y14)), o1 := [], fl := true, σ := [], τ := [] }, hf_impl_Checksum16 _ _ hy15, ⟨les_cons (lR _) (les_nil), trivial, rfl, rfl, rfl, rfl, trivial, rfl⟩, ?_⟩
     cbv
     refine fork (fun b27 => ?_) (fun b27 => ?_)
     ·replace h := of_br_t b27 h
      cbv
      injection h with h
      subst h
      refine ⟨(sparse 81 [(4, .c (.v (.int .i64 0))), (5, .c (.v (.string (ByteArray.mk #[])))), (6, .c (.v (.int .i64 0))), (7, .c (.v (.int .i64 8)))] []), ?_, ?_⟩
      ·exact le_sparse rfl ⟨lR _, lR _, lR _, lR _, trivial⟩ trivial rfl
      ·exact ⟨lR _, trivial, rfl⟩
     ·replace h := of_br_f b27 h
      cbv
      replace h := of_bind h
      obtain ⟨y16, hy17, h⟩ := h
      obtain ⟨S20, hS21⟩ : ∃ S, S = (sparse 81 [(1, .c (.v (.int .i64 a1))), (9, .c (.v (.int .i64 (A.add .i64 (A.shl .i64 (A.conv .i64 (A.sat (A.ssub a0 (A.toN a1) (A.slen a0)) (A.toN 0))) 8) (A.conv .i64 (A.sat (A.ssub a0 (A.toN a1) (A.slen a0)) (A.toN 1))))))), (11, .c (.v (.int .i64 (A.conv .i64 (A.sat (A.ssub a0 (A.toN a1) (A.slen a0)) (A.toN 2)))))), (12, .c (.v (.string (A.ssub (A.ssub a0 (A.toN a1) (A.slen a0)) (A.toN 3) (A.toN (A.sub .i64 (A.add .i64 (A.shl .i64 (A.conv .i64 (A.sat (A.ssub a0 (A.toN a1) (A.slen a0)) (A.toN 0))) 8) (A.conv .i64 (A.sat (A.ssub a0 (A.toN a1) (A.slen a0)) (A.toN 1)))) 2)))))), (67, .c (.v (.bool y16)))] []) := ⟨_, rfl⟩
      refine ⟨S20, ?_, ?_⟩
      ·clear h
       have h := hy17
       clear hy17
       cbv
       replace h := of_bind h
       obtain ⟨y23, hy24, h⟩ := h
       refine ⟨{ args := [.c (.v (.int .i64 (A.conv .i64 (A.sat (A.ssub a0 (A.toN a1) (A.slen a0)) (A.toN 2))))), .c (.v (.int .i64 1)), .c (.v (.int .i64 7))], o0 := [], r := .c (.v (.bool y23)), o1 := [], fl := true, σ := [], τ := [] }, hf_impl_within _ _ _ _ hy24, ⟨les_cons (lR _) (les_cons (lR _) (les_cons (lR _) (les_nil))), trivial, rfl, rfl, rfl, rfl, trivial, rfl⟩, ?_⟩
       cbv
       refine fork (fun b25 => ?_) (fun b25 => ?_)
       ·replace h := of_br_t b25 h
        cbv
        injection h with h
        subst h
        subst hS21
        show St.le _ _
        exact le_sparse rfl ⟨lR _, lR _, lR _, lR _, lR _, trivial⟩ trivial rfl
       ·replace h := of_br_f b25 h
        cbv
        injection h with h
        subst h
        subst hS21
        show St.le _ _
        exact le_sparse rfl ⟨lR _, lR _, lR _, lR _, lR _, trivial⟩ trivial rfl
      ·clear hy17
       subst hS21
       replace h := of_let h
       obtain ⟨w22, hw22, h⟩ := h
       have hw22 : w22 = y16 := hw22
       subst hw22
       cbv
       refine fork (fun b26 => ?_) (fun b26 => ?_)
       ·replace h := of_br_t b26 h
        cbv
        injection h with h
        subst h
        refine ⟨(sparse 81 [(4, .c (.v (.int .i64 0))), (5, .c (.v (.string (ByteArray.mk #[])))), (6, .c (.v (.int .i64 0))), (7, .c (.v (.int .i64 4)))] []), ?_, ?_⟩
        ·exact le_sparse rfl ⟨lR _, lR _, lR _, lR _, trivial⟩ trivial rfl
        ·exact ⟨lR _, trivial, rfl⟩
       ·replace h := of_br_f b26 h
        cbv
        injection h with h
        subst h
        refine ⟨(sparse 81 [(4, .c (.v (.int .i64 (A.conv .i64 (A.sat (A.ssub a0 (A.toN a1) (A.slen a0)) (A.toN 2)))))), (5, .c (.v (.string (A.ssub (A.ssub a0 (A.toN a1) (A.slen a0)) (A.toN 3) (A.toN (A.sub .i64 (A.add .i64 (A.shl .i64 (A.conv .i64 (A.sat (A.ssub a0 (A.toN a1) (A.slen a0)) (A.toN 0))) 8) (A.conv .i64 (A.sat (A.ssub a0 (A.toN a1) (A.slen a0)) (A.toN 1)))) 2)))))), (6, .c (.v (.int .i64 (A.add .i64 a1 (A.add .i64 (A.shl .i64 (A.conv .i64 (A.sat (A.ssub a0 (A.toN a1) (A.slen a0)) (A.toN 0))) 8) (A.conv .i64 (A.sat (A.ssub a0 (A.toN a1) (A.slen a0)) (A.toN 1)))))))), (7, .c (.v (.int .i64 0)))] []), ?_, ?_⟩
        ·exact le_sparse rfl ⟨lR _, lR _, lR _, lR _, trivial⟩ trivial rfl
        ·exact ⟨lR _, trivial, rfl⟩

noncomputable def L_impl_CountRecords_x7 (a0 : ByteArray) (l1 : List Int) : (Int × (List Int)) → Option ((Int × (List Int)) ⊕ ((Int) ⊕ ((List Int)))) := fun x7 =>
 letO x7.1 fun v5 =>
 letO x7.2 fun v6 =>
 br (std.lt v5 (std.ofN (std.slen a0)))
 ((F_impl_SplitRecord a0 v5).bind fun y19 =>
 br (std.not (std.eq y19.2.2.2 0))
 (some (.inr (.inl y19.2.2.2)))
 (req (std.inR (std.sub .i64 y19.1 1) (len l1)) <|
 req (std.inR (std.sub .i64 y19.1 1) (len l1)) <|
 req (len l1 = len v6) <|
 letO (List.set v6 (std.nadd 0 (std.toN (std.sub .i64 y19.1 1))) (std.add .i64 (gd v6 (std.nadd 0 (std.toN (std.sub .i64 y19.1 1)))) 1)) fun l23 =>
 some (.inl (y19.2.2.1, l23))))
 (some (.inr (.inr v6)))
/-- impl.CountRecords -/
noncomputable def F_impl_CountRecords (a0 : ByteArray) : Option ((List Int) × Int) :=
 req (std.nneg 7) <|
 req (std.room (std.toN 7) 8) <|
 letO (List.replicate (std.toN 7) 0) fun l1 =>
 (whileP (σ := Int × (List Int)) (ρ := (Int) ⊕ ((List Int))) (L_impl_CountRecords_x7 a0 l1) (0, l1)).bind fun y8 =>
 (match y8 with
  | .inl y8k0 => (
    letO y8k0 fun w27 =>
    some (([] : List Int), w27))
  | .inr y8m0 =>
    letO y8m0 fun y8k1 =>
    letO y8k1 fun w28 =>
    req (len l1 = len w28) <|
    some (w28, (0 : Int)))
theorem run_impl_CountRecords (a0 : ByteArray) (r : (List Int) × Int) (h : F_impl_CountRecords a0 = some r) : Fun Try.prog 54 [.c (.v (.string a0))] [] (.tup [.c (.os 64000 0 (len r.1)), .c (.v (.int .i64 r.2))]) [(64000, .arr .rw [] (len r.1) 1 (row gd (encI .i64) r.1))] true := by
 refine Fun.of_wp (oneOf []) tok mixed Try.func54 (by kernel_rfl) rfl Try.ntmps54 rfl trivial (fun _ => ⟨(by simp [AV.flat, AV.flat1, AC.flat]), ⟨fun i _ j _ => val_flat (rfl), trivial⟩⟩) ?_
 unfold F_impl_CountRecords at h
 unfold L_impl_CountRecords_x7 at h
 have hf_impl_SplitRecord := @run_impl_SplitRecord
 generalize hLEN : @len = LEN at *
 generalize hGD : @gd = GD at *
 generalize hA : std = A at *
 generalize hP : Try.prog = P at *
 cbv
 replace h := of_req h
 obtain ⟨c3, h⟩ := h
 replace h := of_req h
 obtain ⟨c4, h⟩ := h
 replace h := of_let h
 obtain ⟨l1, hl1, h⟩ := h
 have e2 : A.toN 7 = LEN l1 := by subst hl1 hLEN hA; exact rep_len rfl
 refine And.intro (by first | exact ⟨c3, c4⟩ | exact ⟨rfl, c3, trivial, trivial, trivial, c4⟩ | (refine ⟨?_, ?_, ?_, ?_, ?_, ?_⟩ <;> first | exact c3 | exact c4 | trivial)) ?_
 refine ⟨_, congrArg (fun n => AV.c (AC.os 640 0 n)) e2, _, row GD (encI .i64) l1, e2, ?_, ?_⟩
 ·subst hGD hLEN
  exact upd_repL hl1 (by intro j hj; match j, hj with | 0, _ => rfl | (j_ + 1), h_ => exact absurd h_ (by omega))
 cbv
 replace h := of_bind h
 obtain ⟨y8, hr9, hN10⟩ := h
 refine loop_cut hr9 (fun x => (sparse 35 [(0, .c (.v (.string a0))), (4, .c (.os 640 0 (LEN l1))), (5, .c (.v (.int .i64 x.1)))] [(640, .arr .rw [] (LEN l1) 1 (row GD (encI .i64) x.2))])) ?_ (fun y e s => (match y with | .inl w => e = .ret ∧ s.le (sparse 35 [(2, .c (.v (.slice none 0 0))), (3, .c (.v (.int .i64 w)))] []) | .inr w0 => (fun (w : (List Int)) => e = .exit 0 ∧ s.le (sparse 35 [(4, .c (.os 640 0 (LEN l1)))] [(640, .arr .rw [] (LEN l1) 1 (row GD (encI .i64) w))])) w0)) ?_ ?_
 ·clear hr9 hN10
  show St.le _ _
  exact le_sparse rfl ⟨lR _, lR _, lR _, trivial⟩ ⟨oS, trivial⟩ rfl
 ·clear hr9 hN10
  intro x z14 h K12 hK13 hY11
  obtain ⟨x0_, x1_⟩ := x
  replace h := of_let h
  obtain ⟨v5, hv5, h⟩ := h
  have hv5 : v5 = x0_ := hv5
  subst hv5
  replace h := of_let h
  obtain ⟨v6, hv6, h⟩ := h
  have hv6 : v6 = x1_ := hv6
  subst hv6
  cbv
  refine fork (fun b26 => ?_) (fun b26 => ?_)
  ·replace h := of_br_t b26 h
   cbv
   replace h := of_bind h
   obtain ⟨y19, hy20, h⟩ := h
   refine ⟨{ args := [.c (.v (.string a0)), .c (.v (.int .i64 v5))], o0 := [], r := .tup [.c (.v (.int .i64 y19.1)), .c (.v (.string y19.2.1)), .c (.v (.int .i64 y19.2.2.1)), .c (.v (.int .i64 y19.2.2.2))], o1 := [], fl := true, σ := [], τ := [] }, hf_impl_SplitRecord _ _ _ hy20, ⟨les_cons (lR _) (les_cons (lR _) (les_nil)), trivial, rfl, rfl, rfl, rfl, trivial, rfl⟩, ?_⟩
   cbv
   refine fork (fun b25 => ?_) (fun b25 => ?_)
   ·replace h := of_br_t b25 h
    cbv
    injection h with h
    refine hY11 _ h.symm _ _ (And.intro rfl ?_) (by intro hh; cases hh)
    exact le_sparse rfl ⟨lR _, lR _, trivial⟩ trivial rfl
   ·replace h := of_br_f b25 h
    cbv
    replace h := of_req h
    obtain ⟨c21, h⟩ := h
    refine ⟨⟨c21, trivial⟩, ?_⟩
    refine And.intro (by first | exact (by subst hA; exact idx_lt c21) | (refine And.intro (by subst hA; exact idx_lt c21) ?_; first | trivial | exact ⟨trivial, trivial⟩)) ?_
    replace h := of_req h
    obtain ⟨c22, h⟩ := h
    refine ⟨⟨c22, trivial⟩, ?_⟩
    replace h := of_req h
    obtain ⟨c24, h⟩ := h
    replace h := of_let h
    obtain ⟨l23, hl23, h⟩ := h
    refine And.intro (by first | exact (by subst hA; exact idx_lt c22) | (refine And.intro (by subst hA; exact idx_lt c22) ?_; first | trivial | exact ⟨trivial, trivial⟩)) ?_
    refine ⟨_, rfl, _, row GD (encI .i64) l23, rfl, ?_, ?_⟩
    ·subst hGD hLEN hA
     rw [c24] at c22
     refine upd_set hl23 (idx_lt c22) ?_ ?_
     ·intro b hb hh
      match b, hb, hh with | 0, _, hh => exact rfl | (b_ + 1), h_, _ => exact absurd h_ (by omega)
     ·intro b hb hh
      match b, hb, hh with | 0, _, hh => exact (absurd (show 0 ≤ 0 ∧ 0 < 0 + 1 from by decide) hh) | (b_ + 1), h_, _ => exact absurd h_ (by omega)
    cbv
    injection h with h
    refine hK13 _ h.symm _ ?_
    exact le_sparse rfl ⟨lR _, lR _, lR _, trivial⟩ ⟨oS, trivial⟩ rfl
  ·replace h := of_br_f b26 h
   cbv
   injection h with h
   refine hY11 _ h.symm _ _ (And.intro rfl ?_) (by intro hh; cases hh)
   exact le_sparse rfl ⟨lR _, trivial⟩ ⟨oS, trivial⟩ rfl
 ·clear hr9
  have h := hN10
  clear hN10
  intro e17 s18 q16 hne
  rcases y8 with y8k0 | y8m0
  ·replace h := h
   obtain ⟨rfl, q16⟩ := q16
   replace h := of_let h
   obtain ⟨w27, hw27, h⟩ := h
   have hw27 : w27 = y8k0 := hw27
   subst hw27
   cbv
   injection h with h
   subst h
   refine ⟨(sparse 35 [(2, .c (.os 64000 0 (LEN ([] : List Int)))), (3, .c (.v (.int .i64 w27)))] [(64000, .arr .rw [] (LEN ([] : List Int)) 1 (row GD (encI .i64) ([] : List Int)))]), ?_, ?_⟩
   ·refine St.le_trans q16 ?_
    refine St.le_trans (le_nilT 2 64000 1 (row GD (encI .i64) ([] : List Int)) (by decide) rfl) ?_
    subst hLEN
    exact le_sparse rfl ⟨lR _, lR _, trivial⟩ ⟨oS, trivial⟩ rfl
   ·subst hLEN
    exact ⟨lR _, ⟨oS, trivial⟩, rfl⟩
  ·replace h := of_let h
   obtain ⟨y8k1, hyk, h⟩ := h
   have hyk : y8k1 = y8m0 := hyk
   subst hyk
   obtain ⟨rfl, q16⟩ := q16
   replace h := of_let h
   obtain ⟨w28, hw28, h⟩ := h
   have hw28 : w28 = y8k1 := hw28
   subst hw28
   cbv
   refine ⟨_, q16, ?_⟩
   cbv
   replace h := of_req h
   obtain ⟨c29, h⟩ := h
   injection h with h
   subst h
   refine ⟨(sparse 35 [(2, .c (.os 64000 0 (LEN w28))), (3, .c (.v (.int .i64 0)))] [(64000, .arr .rw [] (LEN w28) 1 (row GD (encI .i64) w28))]), ?_, ?_⟩
   ·refine St.le_trans (le_ren 640 64000 (by decide) rfl) ?_
    rw [c29]
    exact le_sparse rfl ⟨lR _, lR _, trivial⟩ ⟨oS, trivial⟩ rfl
   ·exact ⟨lR _, ⟨oS, trivial⟩, rfl⟩

noncomputable def L_laws_sameInts_x2 (a0 : List Int) (a1 : List Int) : (Int) → Option ((Int) ⊕ ((Unit) ⊕ (Unit))) := fun x2 =>
 letO x2 fun v1 =>
 br (std.lt v1 (std.ofN (len a0)))
 (req (std.inR v1 (len a0)) <|
 req (std.inR v1 (len a1)) <|
 br (std.not (std.eq (gd a0 (std.toN v1)) (gd a1 (std.toN v1))))
 (some (.inr (.inl ())))
 (some (.inl (std.add .i64 v1 1))))
 (some (.inr (.inr ())))
/-- laws.sameInts -/
noncomputable def F_laws_sameInts (a0 : List Int) (a1 : List Int) : Option (Bool) :=
 br (std.not (std.eq (std.ofN (len a0)) (std.ofN (len a1))))
 (some false)
 ((whileP (σ := Int) (ρ := (Unit) ⊕ (Unit)) (L_laws_sameInts_x2 a0 a1) 0).bind fun y3 =>
 (match y3 with
  | .inl y3k0 => (
    some false)
  | .inr y3m0 =>
    some true))
theorem run_laws_sameInts (a0 : List Int) (a1 : List Int) (r : Bool) (h : F_laws_sameInts a0 a1 = some r) : Fun Try.prog 55 [.c (.bs (len a0) 1 (row gd (encI .i64) a0)), .c (.bs (len a1) 1 (row gd (encI .i64) a1))] [] (.c (.v (.bool r))) [] true := by
 refine Fun.of_wp (oneOf []) tok mixed Try.func55 (by kernel_rfl) rfl Try.ntmps55 rfl trivial (fun _ => ⟨trivial, trivial⟩) ?_
 unfold F_laws_sameInts at h
 unfold L_laws_sameInts_x2 at h
 generalize hLEN : @len = LEN at *
 generalize hGD : @gd = GD at *
 generalize hA : std = A at *
 generalize hP : Try.prog = P at *
 cbv
 refine fork (fun b18 => ?_) (fun b18 => ?_)
 ·replace h := of_br_t b18 h
  cbv
  injection h with h
  subst h
  refine ⟨(sparse 26 [(4, .c (.v (.bool false)))] []), ?_, ?_⟩
  ·exact le_sparse rfl ⟨lR _, trivial⟩ trivial rfl
  ·exact ⟨lR _, trivial, rfl⟩
 ·replace h := of_br_f b18 h
  cbv
  replace h := of_bind h
  obtain ⟨y3, hr4, hN5⟩ := h
  refine loop_cut hr4 (fun x => (sparse 26 [(0, .c (.bs (LEN a0) 1 (row GD (encI .i64) a0))), (1, .c (.bs (LEN a1) 1 (row GD (encI .i64) a1))), (5, .c (.v (.int .i64 x)))] [])) ?_ (fun y e s => (match y with | .inl w => e = .ret ∧ s.le (sparse 26 [(4, .c (.v (.bool false)))] []) | .inr w0 => (fun (w : Unit) => e = .exit 0 ∧ s.le (sparse 26 [] [])) w0)) ?_ ?_
  ·clear hr4 hN5
   show St.le _ _
   exact le_sparse rfl ⟨lR _, lR _, lR _, trivial⟩ trivial rfl
  ·clear hr4 hN5
   intro x z9 h K7 hK8 hY6
   replace h := of_let h
   obtain ⟨v1, hv1, h⟩ := h
   have hv1 : v1 = x := hv1
   subst hv1
   cbv
   refine fork (fun b17 => ?_) (fun b17 => ?_)
   ·replace h := of_br_t b17 h
    cbv
    replace h := of_req h
    obtain ⟨c14, h⟩ := h
    refine ⟨⟨c14, trivial⟩, ?_⟩
    replace h := of_req h
    obtain ⟨c15, h⟩ := h
    refine ⟨⟨c15, trivial⟩, ?_⟩
    refine fork (fun b16 => ?_) (fun b16 => ?_)
    ·replace h := of_br_t b16 h
     cbv
     injection h with h
     refine hY6 _ h.symm _ _ (And.intro rfl ?_) (by intro hh; cases hh)
     exact le_sparse rfl ⟨lR _, trivial⟩ trivial rfl
    ·replace h := of_br_f b16 h
     cbv
     injection h with h
     refine hK8 _ h.symm _ ?_
     exact le_sparse rfl ⟨lR _, lR _, lR _, trivial⟩ trivial rfl
   ·replace h := of_br_f b17 h
    cbv
    injection h with h
    refine hY6 _ h.symm _ _ (And.intro rfl ?_) (by intro hh; cases hh)
    exact le_sparse rfl trivial trivial rfl
  ·clear hr4
   have h := hN5
   clear hN5
   intro e12 s13 q11 hne
   rcases y3 with y3k0 | y3m0
   ·replace h := h
    obtain ⟨rfl, q11⟩ := q11
    cbv
    injection h with h
    subst h
    refine ⟨(sparse 26 [(4, .c (.v (.bool false)))] []), ?_, ?_⟩
    ·refine St.le_trans q11 ?_
     exact le_sparse rfl ⟨lR _, trivial⟩ trivial rfl
    ·exact ⟨lR _, trivial, rfl⟩
   ·obtain ⟨rfl, q11⟩ := q11
    cbv
    refine ⟨_, q11, ?_⟩
    cbv
    injection h with h
    subst h
    refine ⟨(sparse 26 [(4, .c (.v (.bool true)))] []), ?_, ?_⟩
    ·exact le_sparse rfl ⟨lR _, trivial⟩ trivial rfl
    ·exact ⟨lR _, trivial, rfl⟩

noncomputable def L_laws_FnRecords_x23 (y3 : TLibrary) (l19 : List Int) : (Int × (List Int)) → Option ((Int × (List Int)) ⊕ (((List Int)))) := fun x23 =>
 letO x23.1 fun v21 =>
 letO x23.2 fun v22 =>
 br (std.lt v21 (std.ofN (len y3.fCells)))
 (((
    req (std.inR 2 (len l19)) <|
    req (std.inR v21 (len y3.fCells)) <|
    req (std.inR 2 (len l19)) <|
    req (len l19 = len v22) <|
    letO (List.set v22 (std.nadd 0 (std.toN 2)) (std.add .i64 (gd v22 (std.nadd 0 (std.toN 2))) (std.ofN (len (gd y3.fCells (std.nadd 0 (std.toN v21))).fShapes)))) fun l45 =>
    some l45
  ) : Option ((List Int))).bind fun y35 =>
 letO y35 fun w41 =>
 ((
    req (std.inR 3 (len l19)) <|
    req (std.inR v21 (len y3.fCells)) <|
    req (std.inR 3 (len l19)) <|
    req (len l19 = len w41) <|
    letO (List.set w41 (std.nadd 0 (std.toN 3)) (std.add .i64 (gd w41 (std.nadd 0 (std.toN 3))) (std.ofN (len (gd y3.fCells (std.nadd 0 (std.toN v21))).fLabels)))) fun l57 =>
    some l57
  ) : Option ((List Int))).bind fun y47 =>
 letO y47 fun w53 =>
 ((
    req (std.inR 4 (len l19)) <|
    req (std.inR v21 (len y3.fCells)) <|
    req (std.inR 4 (len l19)) <|
    req (len l19 = len w53) <|
    letO (List.set w53 (std.nadd 0 (std.toN 4)) (std.add .i64 (gd w53 (std.nadd 0 (std.toN 4))) (std.ofN (len (gd y3.fCells (std.nadd 0 (std.toN v21))).fInstances)))) fun l69 =>
    some l69
  ) : Option ((List Int))).bind fun y59 =>
 letO y59 fun w65 =>
 some (.inl (std.add .i64 v21 1, w65)))
 (some (.inr v22))
/-- laws.FnRecords -/
noncomputable def F_laws_FnRecords (a0 : List Int) : Option (Bool) :=
 (F_laws_big a0).bind fun y1 =>
 br y1
 (some true)
 ((F_spec_DrawLibraryStream a0).bind fun y3 =>
 (F_spec_IsValidLibrary y3).bind fun y5 =>
 br (!(y5))
 (((
    (F_impl_LibraryStream y3).bind fun y14 =>
    br (std.seq y14 (ByteArray.mk #[]))
    ((F_impl_StreamRecord 2 (ByteArray.mk #[])).bind fun y16 =>
    some (std.eq (std.ofN (std.slen y16)) 5))
    (some false)
  ) : Option (Bool)).bind fun y7 =>
 letO y7 fun w13 =>
 some w13)
 (letO ([1, std.ofN (len y3.fCells), 0, 0, 0, std.ofN (len y3.fCells), 1] : List Int) fun l19 =>
 (whileP (σ := Int × (List Int)) (ρ := ((List Int))) (L_laws_FnRecords_x23 y3 l19) (0, l19)).bind fun y24 =>
 letO y24 fun y24k0 =>
 letO y24k0 fun w72 =>
 (F_impl_LibraryStream y3).bind fun y73 =>
 (F_impl_CountRecords y73).bind fun y75 =>
 ((
    br (std.eq y75.2 0)
    ((F_laws_sameInts y75.1 w72).bind fun y84 =>
    req (len l19 = len w72) <|
    some y84)
    (some false)
  ) : Option (Bool)).bind fun y77 =>
 letO y77 fun w83 =>
 some w83))
theorem run_laws_FnRecords (a0 : List Int) (r : Bool) (h : F_laws_FnRecords a0 = some r) : Fun Try.prog 11 [.c (.bs (len a0) 1 (row gd (encI .u8) a0))] [] (.c (.v (.bool r))) [] true := by
 refine Fun.of_wp (oneOf [5, 10, 11, 12, 14]) tok mixed Try.func11 (by kernel_rfl) rfl Try.ntmps11 rfl trivial (fun _ => ⟨trivial, trivial⟩) ?_
 unfold F_laws_FnRecords at h
 unfold L_laws_FnRecords_x23 at h
 have hf_impl_CountRecords := @run_impl_CountRecords
 have hf_impl_LibraryStream := @run_impl_LibraryStream
 have hf_impl_StreamRecord := @run_impl_StreamRecord
 have hf_laws_big := @run_laws_big
 have hf_laws_sameInts := @run_laws_sameInts
 have hf_spec_DrawLibraryStream := @run_spec_DrawLibraryStream
 have hf_spec_IsValidLibrary := @run_spec_IsValidLibrary
 generalize hLEN : @len = LEN at *
 generalize hGD : @gd = GD at *
 generalize hA : std = A at *
 generalize hP : Try.prog = P at *
 cbv
 replace h := of_bind h
 obtain ⟨y1, hy2, h⟩ := h
 refine ⟨{ args := [.c (.bs (LEN a0) 1 (row GD (encI .u8) a0))], o0 := [], r := .c (.v (.bool y1)), o1 := [], fl := true, σ := [], τ := [] }, hf_laws_big _ _ hy2, ⟨les_cons (lR _) (les_nil), trivial, rfl, rfl, rfl, rfl, trivial, rfl⟩, ?_⟩
 cbv
 refine fork (fun b89 => ?_) (fun b89 => ?_)
 ·replace h := of_br_t b89 h
  cbv
  injection h with h
  subst h
  refine ⟨(sparse 89 [(2, .c (.v (.bool true)))] []), ?_, ?_⟩
  ·exact le_sparse rfl ⟨lR _, trivial⟩ trivial rfl
  ·exact ⟨lR _, trivial, rfl⟩
 ·replace h := of_br_f b89 h
  cbv
  replace h := of_bind h
  obtain ⟨y3, hy4, h⟩ := h
  refine ⟨{ args := [.c (.bs (LEN a0) 1 (row GD (encI .u8) a0))], o0 := [], r := .agg [.os 64000 0 (LEN y3.fCells)], o1 := [(64000, .arr .rw [] (LEN y3.fCells) 4 (row GD (oncCell LEN GD) y3.fCells))], fl := true, σ := [], τ := [(64000, 704)] }, hf_spec_DrawLibraryStream _ _ hy4, ⟨les_cons (lR _) (les_nil), trivial, rfl, rfl, rfl, rfl, ⟨fun h => absurd (show (64000 : Nat) % 2 = 1 from h) (by decide), trivial⟩, rfl⟩, _, rfl, _, _, rfl, fun _ _ _ _ => rfl, ?_⟩
  cbv
  replace h := of_bind h
  obtain ⟨y5, hy6, h⟩ := h
  refine ⟨{ args := [.agg [.bs (LEN y3.fCells) 4 (row GD (encCell LEN GD) y3.fCells)]], o0 := [], r := .c (.v (.bool y5)), o1 := [], fl := true, σ := [], τ := [] }, hf_spec_IsValidLibrary _ _ hy6, ⟨les_cons (le_agg ⟨give_osD (rf_oncCell) (ln_oncCell) rfl rfl rfl, trivial⟩) (les_nil), trivial, rfl, rfl, rfl, rfl, trivial, rfl⟩, ?_⟩
  cbv
  refine fork (fun b88 => ?_) (fun b88 => ?_)
  ·replace h := of_br_t b88 h
   cbv
   replace h := of_bind h
   obtain ⟨y7, hy8, h⟩ := h
   obtain ⟨S11, hS12⟩ : ∃ S, S = (sparse 89 [(2, .c (.v (.bool y7)))] []) := ⟨_, rfl⟩
   refine ⟨S11, ?_, ?_⟩
   ·clear h
    have h := hy8
    clear hy8
    cbv
    replace h := of_bind h
    obtain ⟨y14, hy15, h⟩ := h
    refine ⟨{ args := [.agg [.bs (LEN y3.fCells) 4 (row GD (encCell LEN GD) y3.fCells)]], o0 := [], r := .c (.v (.string y14)), o1 := [], fl := true, σ := [], τ := [] }, hf_impl_LibraryStream _ _ hy15, ⟨les_cons (le_agg ⟨give_osD (rf_oncCell) (ln_oncCell) rfl rfl rfl, trivial⟩) (les_nil), trivial, rfl, rfl, rfl, rfl, trivial, rfl⟩, ?_⟩
    cbv
    refine fork (fun b18 => ?_) (fun b18 => ?_)
    ·replace h := of_br_t b18 h
     cbv
     replace h := of_bind h
     obtain ⟨y16, hy17, h⟩ := h
     refine ⟨{ args := [.c (.v (.int .i64 2)), .c (.v (.string (ByteArray.mk #[])))], o0 := [], r := .c (.v (.string y16)), o1 := [], fl := true, σ := [], τ := [] }, hf_impl_StreamRecord _ _ _ hy17, ⟨les_cons (lR _) (les_cons (lR _) (les_nil)), trivial, rfl, rfl, rfl, rfl, trivial, rfl⟩, ?_⟩
     cbv
     injection h with h
     subst h
     subst hS12
     show St.le _ _
     exact le_sparse rfl ⟨lR _, trivial⟩ trivial rfl
    ·replace h := of_br_f b18 h
     cbv
     injection h with h
     subst h
     subst hS12
     show St.le _ _
     exact le_sparse rfl ⟨lR _, trivial⟩ trivial rfl
   ·clear hy8
    subst hS12
    replace h := of_let h
    obtain ⟨w13, hw13, h⟩ := h
    have hw13 : w13 = y7 := hw13
    subst hw13
    cbv
    injection h with h
    subst h
    refine ⟨(sparse 89 [(2, .c (.v (.bool w13)))] []), ?_, ?_⟩
    ·exact le_sparse rfl ⟨lR _, trivial⟩ trivial rfl
    ·exact ⟨lR _, trivial, rfl⟩
  ·replace h := of_br_f b88 h
   cbv
   replace h := of_let h
   obtain ⟨l19, hl19, h⟩ := h
   have e20 : 7 = LEN l19 := by subst hl19 hLEN; rfl
   refine ⟨_, congrArg (fun n => AV.c (AC.os 1856 0 n)) e20, _, row GD (encI .i64) l19, e20, ?_, ?_⟩
   ·intro i hi j hj
    rw [← e20] at hi
    subst hl19
    subst hGD
    obtain rfl | rfl | rfl | rfl | rfl | rfl | rfl : i = 0 ∨ i = 1 ∨ i = 2 ∨ i = 3 ∨ i = 4 ∨ i = 5 ∨ i = 6 := (by omega)
    all_goals obtain rfl : j = 0 := by omega
    all_goals rfl
   cbv
   replace h := of_bind h
   obtain ⟨y24, hr25, hN26⟩ := h
   refine loop_cut hr25 (fun x => (sparse 89 [(3, .c (.ptr 192 0)), (4, .c (.os 1856 0 (LEN l19))), (5, .c (.v (.int .i64 x.1)))] [(192, .var [.os 704 0 (LEN y3.fCells)]), (1856, .arr .rw [] (LEN l19) 1 (row GD (encI .i64) x.2)), (704, .arr .rw [] (LEN y3.fCells) 4 (row GD (oncCell LEN GD) y3.fCells))])) ?_ (fun y e s => (fun (w : (List Int)) => e = .exit 0 ∧ s.le (sparse 89 [(3, .c (.ptr 192 0)), (4, .c (.os 1856 0 (LEN l19)))] [(192, .var [.os 704 0 (LEN y3.fCells)]), (1856, .arr .rw [] (LEN l19) 1 (row GD (encI .i64) w)), (704, .arr .rw [] (LEN y3.fCells) 4 (row GD (oncCell LEN GD) y3.fCells))])) y) ?_ ?_
   ·clear hr25 hN26
    show St.le _ _
    exact le_sparse rfl ⟨lR _, lR _, lR _, trivial⟩ ⟨rfl, oS, oS, trivial⟩ rfl
   ·clear hr25 hN26
    intro x z30 h K28 hK29 hY27
    obtain ⟨x0_, x1_⟩ := x
    replace h := of_let h
    obtain ⟨v21, hv21, h⟩ := h
    have hv21 : v21 = x0_ := hv21
    subst hv21
    replace h := of_let h
    obtain ⟨v22, hv22, h⟩ := h
    have hv22 : v22 = x1_ := hv22
    subst hv22
    cbv
    refine fork (fun b71 => ?_) (fun b71 => ?_)
    ·replace h := of_br_t b71 h
     cbv
     replace h := of_bind h
     obtain ⟨y35, hy36, h⟩ := h
     obtain ⟨S39, hS40⟩ : ∃ S, S = (sparse 89 [(3, .c (.ptr 192 0)), (4, .c (.os 1856 0 (LEN l19))), (5, .c (.v (.int .i64 v21)))] [(192, .var [.os 704 0 (LEN y3.fCells)]), (1856, .arr .rw [] (LEN l19) 1 (row GD (encI .i64) y35)), (704, .arr .rw [] (LEN y3.fCells) 4 (row GD (oncCell LEN GD) y3.fCells))]) := ⟨_, rfl⟩
     refine ⟨S39, ?_, ?_⟩
     ·clear h
      have h := hy36
      clear hy36
      cbv
      replace h := of_req h
      obtain ⟨c42, h⟩ := h
      refine ⟨⟨c42, trivial⟩, ?_⟩
      refine And.intro (by first | exact (by subst hA; exact idx_lt c42) | (refine And.intro (by subst hA; exact idx_lt c42) ?_; first | trivial | exact ⟨trivial, trivial⟩)) ?_
      replace h := of_req h
      obtain ⟨c43, h⟩ := h
      refine ⟨⟨c43, trivial⟩, ?_⟩
      refine And.intro (by first | exact (by subst hA; exact idx_lt c43) | (refine And.intro (by subst hA; exact idx_lt c43) ?_; first | trivial | exact ⟨trivial, trivial⟩)) ?_
      refine ⟨_, rfl, _, (patchC (row GD (oncCell LEN GD) y3.fCells) (A.nadd 0 (A.toN v21)) [.v (.string (GD y3.fCells (A.nadd 0 (A.toN v21))).fName), .os 2946 0 (LEN (GD y3.fCells (A.nadd 0 (A.toN v21))).fShapes), .ow (LEN (GD y3.fCells (A.nadd 0 (A.toN v21))).fLabels) 4 (row GD (encLabel) (GD y3.fCells (A.nadd 0 (A.toN v21))).fLabels), .ow (LEN (GD y3.fCells (A.nadd 0 (A.toN v21))).fInstances) 8 (row GD (encInstance) (GD y3.fCells (A.nadd 0 (A.toN v21))).fInstances)]), rfl, ?_, ?_⟩
      ·refine patch_of ?_
       intro j hj
       match j, hj with | 0, _ => (rfl) | 1, _ => (rfl) | 2, _ => (rfl) | 3, _ => (rfl) | (j_ + 4), h_ => exact absurd h_ (by omega)
      refine ⟨_, row GD (encShape) (GD y3.fCells (A.nadd 0 (A.toN v21))).fShapes, rfl, ?_, ?_⟩
      ·exact fun i _ j _ => plain_cp (pl_encShape _ _)
      cbv
      replace h := of_req h
      obtain ⟨c44, h⟩ := h
      refine ⟨⟨c44, trivial⟩, ?_⟩
      replace h := of_req h
      obtain ⟨c46, h⟩ := h
      replace h := of_let h
      obtain ⟨l45, hl45, h⟩ := h
      refine And.intro (by first | exact (by subst hA; exact idx_lt c44) | (refine And.intro (by subst hA; exact idx_lt c44) ?_; first | trivial | exact ⟨trivial, trivial⟩)) ?_
      refine ⟨_, rfl, _, row GD (encI .i64) l45, rfl, ?_, ?_⟩
      ·subst hGD hLEN hA
       rw [c46] at c44
       refine upd_set hl45 (idx_lt c44) ?_ ?_
       ·intro b hb hh
        match b, hb, hh with | 0, _, hh => exact rfl | (b_ + 1), h_, _ => exact absurd h_ (by omega)
       ·intro b hb hh
        match b, hb, hh with | 0, _, hh => exact (absurd (show 0 ≤ 0 ∧ 0 < 0 + 1 from by decide) hh) | (b_ + 1), h_, _ => exact absurd h_ (by omega)
      cbv
      injection h with h
      subst h
      subst hS40
      show St.le _ _
      refine St.le_trans (le_foldP 704 1 2946 rfl rfl rfl (by decide) (by subst hA; exact idx_lt c43) (by decide) rfl (fun _ _ => rf_oncCell _ _)) ?_
      exact le_sparse rfl ⟨lR _, lR _, lR _, trivial⟩ ⟨rfl, oS, ⟨fun hw => hw, fun c hc => (by cases hc), .inr (fun i _ j _ z hz => (noref (rf_oncCell _ _) hz).elim), rfl, rfl, (by subst hGD hLEN hA; exact patch_same (by intro j hj; match j, hj with | 0, _ => rfl | 1, _ => rfl | 2, _ => rfl | 3, _ => rfl | (j_ + 4), h_ => exact absurd h_ (by omega)))⟩, trivial⟩ rfl
     ·clear hy36
      subst hS40
      replace h := of_let h
      obtain ⟨w41, hw41, h⟩ := h
      have hw41 : w41 = y35 := hw41
      subst hw41
      cbv
      replace h := of_bind h
      obtain ⟨y47, hy48, h⟩ := h
      obtain ⟨S51, hS52⟩ : ∃ S, S = (sparse 89 [(3, .c (.ptr 192 0)), (4, .c (.os 1856 0 (LEN l19))), (5, .c (.v (.int .i64 v21)))] [(192, .var [.os 704 0 (LEN y3.fCells)]), (1856, .arr .rw [] (LEN l19) 1 (row GD (encI .i64) y47)), (704, .arr .rw [] (LEN y3.fCells) 4 (row GD (oncCell LEN GD) y3.fCells))]) := ⟨_, rfl⟩
      refine ⟨S51, ?_, ?_⟩
      ·clear h
       have h := hy48
       clear hy48
       cbv
       replace h := of_req h
       obtain ⟨c54, h⟩ := h
       refine ⟨⟨c54, trivial⟩, ?_⟩
       refine And.intro (by first | exact (by subst hA; exact idx_lt c54) | (refine And.intro (by subst hA; exact idx_lt c54) ?_; first | trivial | exact ⟨trivial, trivial⟩)) ?_
       replace h := of_req h
       obtain ⟨c55, h⟩ := h
       refine ⟨⟨c55, trivial⟩, ?_⟩
       refine And.intro (by first | exact (by subst hA; exact idx_lt c55) | (refine And.intro (by subst hA; exact idx_lt c55) ?_; first | trivial | exact ⟨trivial, trivial⟩)) ?_
       refine ⟨_, rfl, _, (patchC (row GD (oncCell LEN GD) y3.fCells) (A.nadd 0 (A.toN v21)) [.v (.string (GD y3.fCells (A.nadd 0 (A.toN v21))).fName), .ow (LEN (GD y3.fCells (A.nadd 0 (A.toN v21))).fShapes) 5 (row GD (encShape) (GD y3.fCells (A.nadd 0 (A.toN v21))).fShapes), .os 3778 0 (LEN (GD y3.fCells (A.nadd 0 (A.toN v21))).fLabels), .ow (LEN (GD y3.fCells (A.nadd 0 (A.toN v21))).fInstances) 8 (row GD (encInstance) (GD y3.fCells (A.nadd 0 (A.toN v21))).fInstances)]), rfl, ?_, ?_⟩
       ·refine patch_of ?_
        intro j hj
        match j, hj with | 0, _ => (rfl) | 1, _ => (rfl) | 2, _ => (rfl) | 3, _ => (rfl) | (j_ + 4), h_ => exact absurd h_ (by omega)
       refine ⟨_, row GD (encLabel) (GD y3.fCells (A.nadd 0 (A.toN v21))).fLabels, rfl, ?_, ?_⟩
       ·exact fun i _ j _ => plain_cp (pl_encLabel _ _)
       cbv
       replace h := of_req h
       obtain ⟨c56, h⟩ := h
       refine ⟨⟨c56, trivial⟩, ?_⟩
       replace h := of_req h
       obtain ⟨c58, h⟩ := h
       replace h := of_let h
       obtain ⟨l57, hl57, h⟩ := h
       refine And.intro (by first | exact (by subst hA; exact idx_lt c56) | (refine And.intro (by subst hA; exact idx_lt c56) ?_; first | trivial | exact ⟨trivial, trivial⟩)) ?_
       refine ⟨_, rfl, _, row GD (encI .i64) l57, rfl, ?_, ?_⟩
       ·subst hGD hLEN hA
        rw [c58] at c56
        refine upd_set hl57 (idx_lt c56) ?_ ?_
        ·intro b hb hh
         match b, hb, hh with | 0, _, hh => exact rfl | (b_ + 1), h_, _ => exact absurd h_ (by omega)
        ·intro b hb hh
         match b, hb, hh with | 0, _, hh => exact (absurd (show 0 ≤ 0 ∧ 0 < 0 + 1 from by decide) hh) | (b_ + 1), h_, _ => exact absurd h_ (by omega)
       cbv
       injection h with h
       subst h
       subst hS52
       show St.le _ _
       refine St.le_trans (le_foldP 704 2 3778 rfl rfl rfl (by decide) (by subst hA; exact idx_lt c55) (by decide) rfl (fun _ _ => rf_oncCell _ _)) ?_
       exact le_sparse rfl ⟨lR _, lR _, lR _, trivial⟩ ⟨rfl, oS, ⟨fun hw => hw, fun c hc => (by cases hc), .inr (fun i _ j _ z hz => (noref (rf_oncCell _ _) hz).elim), rfl, rfl, (by subst hGD hLEN hA; exact patch_same (by intro j hj; match j, hj with | 0, _ => rfl | 1, _ => rfl | 2, _ => rfl | 3, _ => rfl | (j_ + 4), h_ => exact absurd h_ (by omega)))⟩, trivial⟩ rfl
      ·clear hy48
       subst hS52
       replace h := of_let h
       obtain ⟨w53, hw53, h⟩ := h
       have hw53 : w53 = y47 := hw53
       subst hw53
       cbv
       replace h := of_bind h
       obtain ⟨y59, hy60, h⟩ := h
       obtain ⟨S63, hS64⟩ : ∃ S, S = (sparse 89 [(3, .c (.ptr 192 0)), (4, .c (.os 1856 0 (LEN l19))), (5, .c (.v (.int .i64 v21)))] [(192, .var [.os 704 0 (LEN y3.fCells)]), (1856, .arr .rw [] (LEN l19) 1 (row GD (encI .i64) y59)), (704, .arr .rw [] (LEN y3.fCells) 4 (row GD (oncCell LEN GD) y3.fCells))]) := ⟨_, rfl⟩
       refine ⟨S63, ?_, ?_⟩
       ·clear h
        have h := hy60
        clear hy60
        cbv
        replace h := of_req h
        obtain ⟨c66, h⟩ := h
        refine ⟨⟨c66, trivial⟩, ?_⟩
        refine And.intro (by first | exact (by subst hA; exact idx_lt c66) | (refine And.intro (by subst hA; exact idx_lt c66) ?_; first | trivial | exact ⟨trivial, trivial⟩)) ?_
        replace h := of_req h
        obtain ⟨c67, h⟩ := h
        refine ⟨⟨c67, trivial⟩, ?_⟩
        refine And.intro (by first | exact (by subst hA; exact idx_lt c67) | (refine And.intro (by subst hA; exact idx_lt c67) ?_; first | trivial | exact ⟨trivial, trivial⟩)) ?_
        refine ⟨_, rfl, _, (patchC (row GD (oncCell LEN GD) y3.fCells) (A.nadd 0 (A.toN v21)) [.v (.string (GD y3.fCells (A.nadd 0 (A.toN v21))).fName), .ow (LEN (GD y3.fCells (A.nadd 0 (A.toN v21))).fShapes) 5 (row GD (encShape) (GD y3.fCells (A.nadd 0 (A.toN v21))).fShapes), .ow (LEN (GD y3.fCells (A.nadd 0 (A.toN v21))).fLabels) 4 (row GD (encLabel) (GD y3.fCells (A.nadd 0 (A.toN v21))).fLabels), .os 4610 0 (LEN (GD y3.fCells (A.nadd 0 (A.toN v21))).fInstances)]), rfl, ?_, ?_⟩
        ·refine patch_of ?_
         intro j hj
         match j, hj with | 0, _ => (rfl) | 1, _ => (rfl) | 2, _ => (rfl) | 3, _ => (rfl) | (j_ + 4), h_ => exact absurd h_ (by omega)
        refine ⟨_, row GD (encInstance) (GD y3.fCells (A.nadd 0 (A.toN v21))).fInstances, rfl, ?_, ?_⟩
        ·exact fun i _ j _ => plain_cp (pl_encInstance _ _)
        cbv
        replace h := of_req h
        obtain ⟨c68, h⟩ := h
        refine ⟨⟨c68, trivial⟩, ?_⟩
        replace h := of_req h
        obtain ⟨c70, h⟩ := h
        replace h := of_let h
        obtain ⟨l69, hl69, h⟩ := h
        refine And.intro (by first | exact (by subst hA; exact idx_lt c68) | (refine And.intro (by subst hA; exact idx_lt c68) ?_; first | trivial | exact ⟨trivial, trivial⟩)) ?_
        refine ⟨_, rfl, _, row GD (encI .i64) l69, rfl, ?_, ?_⟩
        ·subst hGD hLEN hA
         rw [c70] at c68
         refine upd_set hl69 (idx_lt c68) ?_ ?_
         ·intro b hb hh
          match b, hb, hh with | 0, _, hh => exact rfl | (b_ + 1), h_, _ => exact absurd h_ (by omega)
         ·intro b hb hh
          match b, hb, hh with | 0, _, hh => exact (absurd (show 0 ≤ 0 ∧ 0 < 0 + 1 from by decide) hh) | (b_ + 1), h_, _ => exact absurd h_ (by omega)
        cbv
        injection h with h
        subst h
        subst hS64
        show St.le _ _
        refine St.le_trans (le_foldP 704 3 4610 rfl rfl rfl (by decide) (by subst hA; exact idx_lt c67) (by decide) rfl (fun _ _ => rf_oncCell _ _)) ?_
        exact le_sparse rfl ⟨lR _, lR _, lR _, trivial⟩ ⟨rfl, oS, ⟨fun hw => hw, fun c hc => (by cases hc), .inr (fun i _ j _ z hz => (noref (rf_oncCell _ _) hz).elim), rfl, rfl, (by subst hGD hLEN hA; exact patch_same (by intro j hj; match j, hj with | 0, _ => rfl | 1, _ => rfl | 2, _ => rfl | 3, _ => rfl | (j_ + 4), h_ => exact absurd h_ (by omega)))⟩, trivial⟩ rfl
       ·clear hy60
        subst hS64
        replace h := of_let h
        obtain ⟨w65, hw65, h⟩ := h
        have hw65 : w65 = y59 := hw65
        subst hw65
        cbv
        injection h with h
        refine hK29 _ h.symm _ ?_
        exact le_sparse rfl ⟨lR _, lR _, lR _, trivial⟩ ⟨rfl, oS, oS, trivial⟩ rfl
    ·replace h := of_br_f b71 h
     cbv
     injection h with h
     refine hY27 _ h.symm _ _ (And.intro rfl ?_) (by intro hh; cases hh)
     exact le_sparse rfl ⟨lR _, lR _, trivial⟩ ⟨rfl, oS, oS, trivial⟩ rfl
   ·clear hr25
    have h := hN26
    clear hN26
    intro e33 s34 q32 hne
    replace h := of_let h
    obtain ⟨y24k0, hyk, h⟩ := h
    have hyk : y24k0 = y24 := hyk
    subst hyk
    obtain ⟨rfl, q32⟩ := q32
    replace h := of_let h
    obtain ⟨w72, hw72, h⟩ := h
    have hw72 : w72 = y24k0 := hw72
    subst hw72
    cbv
    refine ⟨_, q32, ?_⟩
    cbv
    replace h := of_bind h
    obtain ⟨y73, hy74, h⟩ := h
    refine ⟨{ args := [.agg [.bs (LEN y3.fCells) 4 (row GD (encCell LEN GD) y3.fCells)]], o0 := [], r := .c (.v (.string y73)), o1 := [], fl := true, σ := [], τ := [] }, hf_impl_LibraryStream _ _ hy74, ⟨les_cons (le_agg ⟨give_osD (rf_oncCell) (ln_oncCell) rfl rfl rfl, trivial⟩) (les_nil), trivial, rfl, rfl, rfl, rfl, trivial, rfl⟩, ?_⟩
    cbv
    replace h := of_bind h
    obtain ⟨y75, hy76, h⟩ := h
    refine ⟨{ args := [.c (.v (.string y73))], o0 := [], r := .tup [.c (.os 64000 0 (LEN y75.1)), .c (.v (.int .i64 y75.2))], o1 := [(64000, .arr .rw [] (LEN y75.1) 1 (row GD (encI .i64) y75.1))], fl := true, σ := [], τ := [(64000, 5056)] }, hf_impl_CountRecords _ _ hy76, ⟨les_cons (lR _) (les_nil), trivial, rfl, rfl, rfl, rfl, ⟨fun h => absurd (show (64000 : Nat) % 2 = 1 from h) (by decide), trivial⟩, rfl⟩, _, rfl, _, _, rfl, fun _ _ _ _ => rfl, ?_⟩
    cbv
    replace h := of_bind h
    obtain ⟨y77, hy78, h⟩ := h
    obtain ⟨S81, hS82⟩ : ∃ S, S = (sparse 89 [(2, .c (.v (.bool y77)))] []) := ⟨_, rfl⟩
    refine ⟨S81, ?_, ?_⟩
    ·clear h
     have h := hy78
     clear hy78
     cbv
     refine fork (fun b87 => ?_) (fun b87 => ?_)
     ·replace h := of_br_t b87 h
      cbv
      replace h := of_bind h
      obtain ⟨y84, hy85, h⟩ := h
      replace h := of_req h
      obtain ⟨c86, h⟩ := h
      refine ⟨{ args := [.c (.bs (LEN y75.1) 1 (row GD (encI .i64) y75.1)), .c (.bs (LEN w72) 1 (row GD (encI .i64) w72))], o0 := [], r := .c (.v (.bool y84)), o1 := [], fl := true, σ := [], τ := [] }, hf_laws_sameInts _ _ _ hy85, ⟨les_cons (give_os (fun _ _ => rfl) rfl rfl rfl) (les_cons (give_os (fun _ _ => rfl) rfl rfl c86) (les_nil)), trivial, rfl, rfl, rfl, rfl, trivial, rfl⟩, ?_⟩
      cbv
      injection h with h
      subst h
      subst hS82
      show St.le _ _
      exact le_sparse rfl ⟨lR _, trivial⟩ trivial rfl
     ·replace h := of_br_f b87 h
      cbv
      injection h with h
      subst h
      subst hS82
      show St.le _ _
      exact le_sparse rfl ⟨lR _, trivial⟩ trivial rfl
    ·clear hy78
     subst hS82
     replace h := of_let h
     obtain ⟨w83, hw83, h⟩ := h
     have hw83 : w83 = y77 := hw83
     subst hw83
     cbv
     injection h with h
     subst h
     refine ⟨(sparse 89 [(2, .c (.v (.bool w83)))] []), ?_, ?_⟩
     ·exact le_sparse rfl ⟨lR _, trivial⟩ trivial rfl
     ·exact ⟨lR _, trivial, rfl⟩
theorem op_5 (d : Nat) : Opens T (d + 1) 5 (clI .u8) (wfI .u8) := op_int .u8 (show T 5 = some d5 from rfl) rfl
theorem op_87 (d : Nat) : Opens T (d + 2) 87 (clL 1 (encI .u8)) (wfL (wfI .u8)) := op_slice (e := 5) (sz := 1) (show T 87 = some d87 from rfl) rfl (show T 5 = some d5 from rfl) rfl (fun x j hj => by match j, hj with | 0, _ => rfl | (j_ + 1), h_ => exact absurd h_ (by omega)) (op_5 d)
theorem open_87 {H : Type} {enc : TypeId × Value → H} {W : World} {spare : Nat → Bool} {held : Bool} {r : Reach} {base : Nat} {v : Value} {x : DataW H} {ps : List MemPlace}
    (hv : Value.okWide Try.prog W r base 87 v) (h : DataW.Trod enc Try.prog W 0 spare held 87 v x ps) : ∃ e : List Int, (wfL (wfI .u8)) e ∧ RelV (RelI (fun b => b < W.heap.size) W) (.c (.bs (len e) 1 (row gd (encI .u8) e))) v := by
  refine opened_one tok (op_87 0) (fun _ => rfl) (by kernel_rfl) ?_ h
  have ht : Try.prog.underlying 87 = some (.slice 5) := (tok 87 d87 rfl).1
  unfold Value.okWide at hv
  rw [ht] at hv
  cases v <;> first | rfl | exact False.elim hv
end Go.Proofs.Ytnmfighfidaglaa.AM
