/-
  What the functions that the law reaches compute, and that they do. No condition.
-/
import Derived.Test.YtlenieingkfjaaaAmSX
import Derived.Test.YtlenieingkfjaaaAmE
namespace Go.Proofs.Ytlenieingkfjaaa.AM
open Go Go.Proofs Go.RowKit
set_option linter.unusedVariables false
set_option linter.unusedSimpArgs false
set_option maxRecDepth 100000

noncomputable def L_slices_Equal_Limpl_Shape_impl_Shape_x2 (a0 : List TShape) (a1 : List TShape) : (Int) → Option ((Int) ⊕ ((Unit) ⊕ (Unit))) := fun x2 =>
 letO x2 fun v1 =>
 br (std.lt v1 (std.ofN (len a0)))
 (req (std.inR v1 (len a0)) <|
 req (std.inR v1 (len a1)) <|
 br (std.not (std.band (std.eq (gd a0 (std.toN v1)).fLayer (gd a1 (std.toN v1)).fLayer) (std.band (std.band (std.eq (gd a0 (std.toN v1)).fBox.fX0 (gd a1 (std.toN v1)).fBox.fX0) (std.band (std.eq (gd a0 (std.toN v1)).fBox.fY0 (gd a1 (std.toN v1)).fBox.fY0) (std.band (std.eq (gd a0 (std.toN v1)).fBox.fX1 (gd a1 (std.toN v1)).fBox.fX1) (std.band (std.eq (gd a0 (std.toN v1)).fBox.fY1 (gd a1 (std.toN v1)).fBox.fY1) (true))))) (true))))
 (some (.inr (.inl ())))
 (some (.inl (std.add .i64 v1 1))))
 (some (.inr (.inr ())))
/-- impl.Shape] -/
noncomputable def F_slices_Equal_Limpl_Shape_impl_Shape (a0 : List TShape) (a1 : List TShape) : Option (Bool) :=
 br (std.not (std.eq (std.ofN (len a0)) (std.ofN (len a1))))
 (some false)
 ((whileP (σ := Int) (ρ := (Unit) ⊕ (Unit)) (L_slices_Equal_Limpl_Shape_impl_Shape_x2 a0 a1) 0).bind fun y3 =>
 (match y3 with
  | .inl y3k0 => (
    some false)
  | .inr y3m0 =>
    some true))
set_option maxHeartbeats 4000000 in
theorem run_slices_Equal_Limpl_Shape_impl_Shape (a0 : List TShape) (a1 : List TShape) (r : Bool) (h : F_slices_Equal_Limpl_Shape_impl_Shape a0 a1 = some r) : Fun Try.prog 156 [.c (.bs (len a0) 5 (row gd (encShape) a0)), .c (.bs (len a1) 5 (row gd (encShape) a1))] [] (.c (.v (.bool r))) [] true := by
 refine Fun.of_wp (oneOf []) tok mixed Try.func156 (by kernel_rfl) rfl Try.ntmps156 rfl trivial (fun _ => ⟨trivial, trivial⟩) ?_
 unfold F_slices_Equal_Limpl_Shape_impl_Shape at h
 unfold L_slices_Equal_Limpl_Shape_impl_Shape_x2 at h
 generalize hLEN : @len = LEN at *
 generalize hGD : @gd = GD at *
 generalize hA : std = A at *
 generalize hP : Try.prog = P at *
 cbv
 refine fork (fun b18 => ?_) (fun b18 => ?_)
 ·replace h := of_br_t b18 h
  cbv
  injection h with h
  subst h
  refine ⟨(sparse 26 [(4, .c (.v (.bool false)))] []), ?_, ?_⟩
  ·exact le_sparse rfl ⟨lR _, trivial⟩ trivial rfl
  ·exact ⟨lR _, trivial, rfl⟩
 ·replace h := of_br_f b18 h
  cbv
  replace h := of_bind h
  obtain ⟨y3, hr4, hN5⟩ := h
  refine loop_cut hr4 (fun x => (sparse 26 [(0, .c (.bs (LEN a0) 5 (row GD (encShape) a0))), (1, .c (.bs (LEN a1) 5 (row GD (encShape) a1))), (12, .c (.v (.int .i64 (A.ofN (LEN a0))))), (13, .c (.v (.int .i64 x)))] [])) ?_ (fun y e s => (match y with | .inl w => e = .ret ∧ s.le (sparse 26 [(4, .c (.v (.bool false)))] []) | .inr w0 => (fun (w : Unit) => e = .exit 0 ∧ s.le (sparse 26 [] [])) w0)) ?_ ?_
  ·clear hr4 hN5
   show St.le _ _
   exact le_sparse rfl ⟨lR _, lR _, lR _, lR _, trivial⟩ trivial rfl
  ·clear hr4 hN5
   intro x z9 h K7 hK8 hY6
   replace h := of_let h
   obtain ⟨v1, hv1, h⟩ := h
   have hv1 : v1 = x := hv1
   subst hv1
   cbv
   refine fork (fun b17 => ?_) (fun b17 => ?_)
   ·replace h := of_br_t b17 h
    cbv
    replace h := of_req h
    obtain ⟨c14, h⟩ := h
    refine ⟨⟨c14, trivial⟩, ?_⟩
    replace h := of_req h
    obtain ⟨c15, h⟩ := h
    refine ⟨⟨c15, trivial⟩, ?_⟩
    refine fork (fun b16 => ?_) (fun b16 => ?_)
    ·replace h := of_br_t b16 h
     cbv
     injection h with h
     refine hY6 _ h.symm _ _ (And.intro rfl ?_) (by intro hh; cases hh)
     exact le_sparse rfl ⟨lR _, trivial⟩ trivial rfl
    ·replace h := of_br_f b16 h
     cbv
     injection h with h
     refine hK8 _ h.symm _ ?_
     exact le_sparse rfl ⟨lR _, lR _, lR _, lR _, trivial⟩ trivial rfl
   ·replace h := of_br_f b17 h
    cbv
    injection h with h
    refine hY6 _ h.symm _ _ (And.intro rfl ?_) (by intro hh; cases hh)
    exact le_sparse rfl trivial trivial rfl
  ·clear hr4
   have h := hN5
   clear hN5
   intro e12 s13 q11 hne
   rcases y3 with y3k0 | y3m0
   ·replace h := h
    obtain ⟨rfl, q11⟩ := q11
    cbv
    injection h with h
    subst h
    refine ⟨(sparse 26 [(4, .c (.v (.bool false)))] []), ?_, ?_⟩
    ·refine St.le_trans q11 ?_
     exact le_sparse rfl ⟨lR _, trivial⟩ trivial rfl
    ·exact ⟨lR _, trivial, rfl⟩
   ·obtain ⟨rfl, q11⟩ := q11
    cbv
    refine ⟨_, q11, ?_⟩
    cbv
    injection h with h
    subst h
    refine ⟨(sparse 26 [(4, .c (.v (.bool true)))] []), ?_, ?_⟩
    ·exact le_sparse rfl ⟨lR _, trivial⟩ trivial rfl
    ·exact ⟨lR _, trivial, rfl⟩

noncomputable def L_slices_Equal_Limpl_Label_impl_Label_x2 (a0 : List TLabel) (a1 : List TLabel) : (Int) → Option ((Int) ⊕ ((Unit) ⊕ (Unit))) := fun x2 =>
 letO x2 fun v1 =>
 br (std.lt v1 (std.ofN (len a0)))
 (req (std.inR v1 (len a0)) <|
 req (std.inR v1 (len a1)) <|
 br (std.not (std.band (std.eq (gd a0 (std.toN v1)).fLayer (gd a1 (std.toN v1)).fLayer) (std.band (std.band (std.eq (gd a0 (std.toN v1)).fAt.fX (gd a1 (std.toN v1)).fAt.fX) (std.band (std.eq (gd a0 (std.toN v1)).fAt.fY (gd a1 (std.toN v1)).fAt.fY) (true))) (std.band (std.seq (gd a0 (std.toN v1)).fName (gd a1 (std.toN v1)).fName) (true)))))
 (some (.inr (.inl ())))
 (some (.inl (std.add .i64 v1 1))))
 (some (.inr (.inr ())))
/-- impl.Label] -/
noncomputable def F_slices_Equal_Limpl_Label_impl_Label (a0 : List TLabel) (a1 : List TLabel) : Option (Bool) :=
 br (std.not (std.eq (std.ofN (len a0)) (std.ofN (len a1))))
 (some false)
 ((whileP (σ := Int) (ρ := (Unit) ⊕ (Unit)) (L_slices_Equal_Limpl_Label_impl_Label_x2 a0 a1) 0).bind fun y3 =>
 (match y3 with
  | .inl y3k0 => (
    some false)
  | .inr y3m0 =>
    some true))
set_option maxHeartbeats 4000000 in
theorem run_slices_Equal_Limpl_Label_impl_Label (a0 : List TLabel) (a1 : List TLabel) (r : Bool) (h : F_slices_Equal_Limpl_Label_impl_Label a0 a1 = some r) : Fun Try.prog 157 [.c (.bs (len a0) 4 (row gd (encLabel) a0)), .c (.bs (len a1) 4 (row gd (encLabel) a1))] [] (.c (.v (.bool r))) [] true := by
 refine Fun.of_wp (oneOf []) tok mixed Try.func157 (by kernel_rfl) rfl Try.ntmps157 rfl trivial (fun _ => ⟨trivial, trivial⟩) ?_
 unfold F_slices_Equal_Limpl_Label_impl_Label at h
 unfold L_slices_Equal_Limpl_Label_impl_Label_x2 at h
 generalize hLEN : @len = LEN at *
 generalize hGD : @gd = GD at *
 generalize hA : std = A at *
 generalize hP : Try.prog = P at *
 cbv
 refine fork (fun b18 => ?_) (fun b18 => ?_)
 ·replace h := of_br_t b18 h
  cbv
  injection h with h
  subst h
  refine ⟨(sparse 26 [(4, .c (.v (.bool false)))] []), ?_, ?_⟩
  ·exact le_sparse rfl ⟨lR _, trivial⟩ trivial rfl
  ·exact ⟨lR _, trivial, rfl⟩
 ·replace h := of_br_f b18 h
  cbv
  replace h := of_bind h
  obtain ⟨y3, hr4, hN5⟩ := h
  refine loop_cut hr4 (fun x => (sparse 26 [(0, .c (.bs (LEN a0) 4 (row GD (encLabel) a0))), (1, .c (.bs (LEN a1) 4 (row GD (encLabel) a1))), (12, .c (.v (.int .i64 (A.ofN (LEN a0))))), (13, .c (.v (.int .i64 x)))] [])) ?_ (fun y e s => (match y with | .inl w => e = .ret ∧ s.le (sparse 26 [(4, .c (.v (.bool false)))] []) | .inr w0 => (fun (w : Unit) => e = .exit 0 ∧ s.le (sparse 26 [] [])) w0)) ?_ ?_
  ·clear hr4 hN5
   show St.le _ _
   exact le_sparse rfl ⟨lR _, lR _, lR _, lR _, trivial⟩ trivial rfl
  ·clear hr4 hN5
   intro x z9 h K7 hK8 hY6
   replace h := of_let h
   obtain ⟨v1, hv1, h⟩ := h
   have hv1 : v1 = x := hv1
   subst hv1
   cbv
   refine fork (fun b17 => ?_) (fun b17 => ?_)
   ·replace h := of_br_t b17 h
    cbv
    replace h := of_req h
    obtain ⟨c14, h⟩ := h
    refine ⟨⟨c14, trivial⟩, ?_⟩
    replace h := of_req h
    obtain ⟨c15, h⟩ := h
    refine ⟨⟨c15, trivial⟩, ?_⟩
    refine fork (fun b16 => ?_) (fun b16 => ?_)
    ·replace h := of_br_t b16 h
     cbv
     injection h with h
     refine hY6 _ h.symm _ _ (And.intro rfl ?_) (by intro hh; cases hh)
     exact le_sparse rfl ⟨lR _, trivial⟩ trivial rfl
    ·replace h := of_br_f b16 h
     cbv
     injection h with h
     refine hK8 _ h.symm _ ?_
     exact le_sparse rfl ⟨lR _, lR _, lR _, lR _, trivial⟩ trivial rfl
   ·replace h := of_br_f b17 h
    cbv
    injection h with h
    refine hY6 _ h.symm _ _ (And.intro rfl ?_) (by intro hh; cases hh)
    exact le_sparse rfl trivial trivial rfl
  ·clear hr4
   have h := hN5
   clear hN5
   intro e12 s13 q11 hne
   rcases y3 with y3k0 | y3m0
   ·replace h := h
    obtain ⟨rfl, q11⟩ := q11
    cbv
    injection h with h
    subst h
    refine ⟨(sparse 26 [(4, .c (.v (.bool false)))] []), ?_, ?_⟩
    ·refine St.le_trans q11 ?_
     exact le_sparse rfl ⟨lR _, trivial⟩ trivial rfl
    ·exact ⟨lR _, trivial, rfl⟩
   ·obtain ⟨rfl, q11⟩ := q11
    cbv
    refine ⟨_, q11, ?_⟩
    cbv
    injection h with h
    subst h
    refine ⟨(sparse 26 [(4, .c (.v (.bool true)))] []), ?_, ?_⟩
    ·exact le_sparse rfl ⟨lR _, trivial⟩ trivial rfl
    ·exact ⟨lR _, trivial, rfl⟩

noncomputable def L_slices_Equal_Limpl_Instance_impl_Instance_x2 (a0 : List TInstance) (a1 : List TInstance) : (Int) → Option ((Int) ⊕ ((Unit) ⊕ (Unit))) := fun x2 =>
 letO x2 fun v1 =>
 br (std.lt v1 (std.ofN (len a0)))
 (req (std.inR v1 (len a0)) <|
 req (std.inR v1 (len a1)) <|
 br (std.not (std.band (std.eq (gd a0 (std.toN v1)).fCell (gd a1 (std.toN v1)).fCell) (std.band (std.band (std.eq (gd a0 (std.toN v1)).fPlace.fOrientation (gd a1 (std.toN v1)).fPlace.fOrientation) (std.band (std.eq (gd a0 (std.toN v1)).fPlace.fX (gd a1 (std.toN v1)).fPlace.fX) (std.band (std.eq (gd a0 (std.toN v1)).fPlace.fY (gd a1 (std.toN v1)).fPlace.fY) (true)))) (std.band (std.eq (gd a0 (std.toN v1)).fColumns (gd a1 (std.toN v1)).fColumns) (std.band (std.eq (gd a0 (std.toN v1)).fRows (gd a1 (std.toN v1)).fRows) (std.band (std.eq (gd a0 (std.toN v1)).fStepX (gd a1 (std.toN v1)).fStepX) (std.band (std.eq (gd a0 (std.toN v1)).fStepY (gd a1 (std.toN v1)).fStepY) (true))))))))
 (some (.inr (.inl ())))
 (some (.inl (std.add .i64 v1 1))))
 (some (.inr (.inr ())))
/-- impl.Instance] -/
noncomputable def F_slices_Equal_Limpl_Instance_impl_Instance (a0 : List TInstance) (a1 : List TInstance) : Option (Bool) :=
 br (std.not (std.eq (std.ofN (len a0)) (std.ofN (len a1))))
 (some false)
 ((whileP (σ := Int) (ρ := (Unit) ⊕ (Unit)) (L_slices_Equal_Limpl_Instance_impl_Instance_x2 a0 a1) 0).bind fun y3 =>
 (match y3 with
  | .inl y3k0 => (
    some false)
  | .inr y3m0 =>
    some true))
set_option maxHeartbeats 4000000 in
theorem run_slices_Equal_Limpl_Instance_impl_Instance (a0 : List TInstance) (a1 : List TInstance) (r : Bool) (h : F_slices_Equal_Limpl_Instance_impl_Instance a0 a1 = some r) : Fun Try.prog 158 [.c (.bs (len a0) 8 (row gd (encInstance) a0)), .c (.bs (len a1) 8 (row gd (encInstance) a1))] [] (.c (.v (.bool r))) [] true := by
 refine Fun.of_wp (oneOf []) tok mixed Try.func158 (by kernel_rfl) rfl Try.ntmps158 rfl trivial (fun _ => ⟨trivial, trivial⟩) ?_
 unfold F_slices_Equal_Limpl_Instance_impl_Instance at h
 unfold L_slices_Equal_Limpl_Instance_impl_Instance_x2 at h
 generalize hLEN : @len = LEN at *
 generalize hGD : @gd = GD at *
 generalize hA : std = A at *
 generalize hP : Try.prog = P at *
 cbv
 refine fork (fun b18 => ?_) (fun b18 => ?_)
 ·replace h := of_br_t b18 h
  cbv
  injection h with h
  subst h
  refine ⟨(sparse 26 [(4, .c (.v (.bool false)))] []), ?_, ?_⟩
  ·exact le_sparse rfl ⟨lR _, trivial⟩ trivial rfl
  ·exact ⟨lR _, trivial, rfl⟩
 ·replace h := of_br_f b18 h
  cbv
  replace h := of_bind h
  obtain ⟨y3, hr4, hN5⟩ := h
  refine loop_cut hr4 (fun x => (sparse 26 [(0, .c (.bs (LEN a0) 8 (row GD (encInstance) a0))), (1, .c (.bs (LEN a1) 8 (row GD (encInstance) a1))), (12, .c (.v (.int .i64 (A.ofN (LEN a0))))), (13, .c (.v (.int .i64 x)))] [])) ?_ (fun y e s => (match y with | .inl w => e = .ret ∧ s.le (sparse 26 [(4, .c (.v (.bool false)))] []) | .inr w0 => (fun (w : Unit) => e = .exit 0 ∧ s.le (sparse 26 [] [])) w0)) ?_ ?_
  ·clear hr4 hN5
   show St.le _ _
   exact le_sparse rfl ⟨lR _, lR _, lR _, lR _, trivial⟩ trivial rfl
  ·clear hr4 hN5
   intro x z9 h K7 hK8 hY6
   replace h := of_let h
   obtain ⟨v1, hv1, h⟩ := h
   have hv1 : v1 = x := hv1
   subst hv1
   cbv
   refine fork (fun b17 => ?_) (fun b17 => ?_)
   ·replace h := of_br_t b17 h
    cbv
    replace h := of_req h
    obtain ⟨c14, h⟩ := h
    refine ⟨⟨c14, trivial⟩, ?_⟩
    replace h := of_req h
    obtain ⟨c15, h⟩ := h
    refine ⟨⟨c15, trivial⟩, ?_⟩
    refine fork (fun b16 => ?_) (fun b16 => ?_)
    ·replace h := of_br_t b16 h
     cbv
     injection h with h
     refine hY6 _ h.symm _ _ (And.intro rfl ?_) (by intro hh; cases hh)
     exact le_sparse rfl ⟨lR _, trivial⟩ trivial rfl
    ·replace h := of_br_f b16 h
     cbv
     injection h with h
     refine hK8 _ h.symm _ ?_
     exact le_sparse rfl ⟨lR _, lR _, lR _, lR _, trivial⟩ trivial rfl
   ·replace h := of_br_f b17 h
    cbv
    injection h with h
    refine hY6 _ h.symm _ _ (And.intro rfl ?_) (by intro hh; cases hh)
    exact le_sparse rfl trivial trivial rfl
  ·clear hr4
   have h := hN5
   clear hN5
   intro e12 s13 q11 hne
   rcases y3 with y3k0 | y3m0
   ·replace h := h
    obtain ⟨rfl, q11⟩ := q11
    cbv
    injection h with h
    subst h
    refine ⟨(sparse 26 [(4, .c (.v (.bool false)))] []), ?_, ?_⟩
    ·refine St.le_trans q11 ?_
     exact le_sparse rfl ⟨lR _, trivial⟩ trivial rfl
    ·exact ⟨lR _, trivial, rfl⟩
   ·obtain ⟨rfl, q11⟩ := q11
    cbv
    refine ⟨_, q11, ?_⟩
    cbv
    injection h with h
    subst h
    refine ⟨(sparse 26 [(4, .c (.v (.bool true)))] []), ?_, ?_⟩
    ·exact le_sparse rfl ⟨lR _, trivial⟩ trivial rfl
    ·exact ⟨lR _, trivial, rfl⟩

/-- impl.sameCell -/
noncomputable def F_impl_sameCell (a0 : TCell) (a1 : TCell) : Option (Bool) :=
 ((
    br (std.seq a0.fName a1.fName)
    ((F_slices_Equal_Limpl_Shape_impl_Shape a0.fShapes a1.fShapes).bind fun y8 =>
    br y8
    ((F_slices_Equal_Limpl_Label_impl_Label a0.fLabels a1.fLabels).bind fun y10 =>
    br y10
    ((F_slices_Equal_Limpl_Instance_impl_Instance a0.fInstances a1.fInstances).bind fun y12 =>
    some y12)
    (some false))
    (some false))
    (some false)
  ) : Option (Bool)).bind fun y1 =>
 letO y1 fun w7 =>
 some w7
set_option maxHeartbeats 4000000 in
theorem run_impl_sameCell (a0 : TCell) (a1 : TCell) (r : Bool) (h : F_impl_sameCell a0 a1 = some r) : Fun Try.prog 100 [.agg [.v (.string a0.fName), .bs (len a0.fShapes) 5 (row gd (encShape) a0.fShapes), .bs (len a0.fLabels) 4 (row gd (encLabel) a0.fLabels), .bs (len a0.fInstances) 8 (row gd (encInstance) a0.fInstances)], .agg [.v (.string a1.fName), .bs (len a1.fShapes) 5 (row gd (encShape) a1.fShapes), .bs (len a1.fLabels) 4 (row gd (encLabel) a1.fLabels), .bs (len a1.fInstances) 8 (row gd (encInstance) a1.fInstances)]] [] (.c (.v (.bool r))) [] true := by
 refine Fun.of_wp (oneOf [1]) tok mixed Try.func100 (by kernel_rfl) rfl Try.ntmps100 rfl trivial (fun _ => ⟨trivial, trivial⟩) ?_
 unfold F_impl_sameCell at h
 have hf_slices_Equal_Limpl_Instance_impl_Instance := @run_slices_Equal_Limpl_Instance_impl_Instance
 have hf_slices_Equal_Limpl_Label_impl_Label := @run_slices_Equal_Limpl_Label_impl_Label
 have hf_slices_Equal_Limpl_Shape_impl_Shape := @run_slices_Equal_Limpl_Shape_impl_Shape
 generalize hLEN : @len = LEN at *
 generalize hGD : @gd = GD at *
 generalize hA : std = A at *
 generalize hP : Try.prog = P at *
 cbv
 replace h := of_bind h
 obtain ⟨y1, hy2, h⟩ := h
 obtain ⟨S5, hS6⟩ : ∃ S, S = (sparse 31 [(4, .c (.v (.bool y1)))] []) := ⟨_, rfl⟩
 refine ⟨S5, ?_, ?_⟩
 ·clear h
  have h := hy2
  clear hy2
  cbv
  refine fork (fun b16 => ?_) (fun b16 => ?_)
  ·replace h := of_br_t b16 h
   cbv
   replace h := of_bind h
   obtain ⟨y8, hy9, h⟩ := h
   refine ⟨{ args := [.c (.bs (LEN a0.fShapes) 5 (row GD (encShape) a0.fShapes)), .c (.bs (LEN a1.fShapes) 5 (row GD (encShape) a1.fShapes))], o0 := [], r := .c (.v (.bool y8)), o1 := [], fl := true, σ := [], τ := [] }, hf_slices_Equal_Limpl_Shape_impl_Shape _ _ _ hy9, ⟨les_cons (lR _) (les_cons (lR _) (les_nil)), trivial, rfl, rfl, rfl, rfl, trivial, rfl⟩, ?_⟩
   cbv
   refine fork (fun b15 => ?_) (fun b15 => ?_)
   ·replace h := of_br_t b15 h
    cbv
    replace h := of_bind h
    obtain ⟨y10, hy11, h⟩ := h
    refine ⟨{ args := [.c (.bs (LEN a0.fLabels) 4 (row GD (encLabel) a0.fLabels)), .c (.bs (LEN a1.fLabels) 4 (row GD (encLabel) a1.fLabels))], o0 := [], r := .c (.v (.bool y10)), o1 := [], fl := true, σ := [], τ := [] }, hf_slices_Equal_Limpl_Label_impl_Label _ _ _ hy11, ⟨les_cons (lR _) (les_cons (lR _) (les_nil)), trivial, rfl, rfl, rfl, rfl, trivial, rfl⟩, ?_⟩
    cbv
    refine fork (fun b14 => ?_) (fun b14 => ?_)
    ·replace h := of_br_t b14 h
     cbv
     replace h := of_bind h
     obtain ⟨y12, hy13, h⟩ := h
     refine ⟨{ args := [.c (.bs (LEN a0.fInstances) 8 (row GD (encInstance) a0.fInstances)), .c (.bs (LEN a1.fInstances) 8 (row GD (encInstance) a1.fInstances))], o0 := [], r := .c (.v (.bool y12)), o1 := [], fl := true, σ := [], τ := [] }, hf_slices_Equal_Limpl_Instance_impl_Instance _ _ _ hy13, ⟨les_cons (lR _) (les_cons (lR _) (les_nil)), trivial, rfl, rfl, rfl, rfl, trivial, rfl⟩, ?_⟩
     cbv
     injection h with h
     subst h
     subst hS6
     show St.le _ _
     exact le_sparse rfl ⟨lR _, trivial⟩ trivial rfl
    ·replace h := of_br_f b14 h
     cbv
     injection h with h
     subst h
     subst hS6
     show St.le _ _
     exact le_sparse rfl ⟨lR _, trivial⟩ trivial rfl
   ·replace h := of_br_f b15 h
    cbv
    injection h with h
    subst h
    subst hS6
    show St.le _ _
    exact le_sparse rfl ⟨lR _, trivial⟩ trivial rfl
  ·replace h := of_br_f b16 h
   cbv
   injection h with h
   subst h
   subst hS6
   show St.le _ _
   exact le_sparse rfl ⟨lR _, trivial⟩ trivial rfl
 ·clear hy2
  subst hS6
  replace h := of_let h
  obtain ⟨w7, hw7, h⟩ := h
  have hw7 : w7 = y1 := hw7
  subst hw7
  cbv
  injection h with h
  subst h
  refine ⟨(sparse 31 [(4, .c (.v (.bool w7)))] []), ?_, ?_⟩
  ·exact le_sparse rfl ⟨lR _, trivial⟩ trivial rfl
  ·exact ⟨lR _, trivial, rfl⟩

noncomputable def L_slices_EqualFunc_Limpl_Cell_Limpl_Cell_impl_Cell_impl_Cell_mbbFimpl_sameCell_x2 (a0 : List TCell) (a1 : List TCell) : (Int) → Option ((Int) ⊕ ((Unit) ⊕ (Unit))) := fun x2 =>
 letO x2 fun v1 =>
 br (std.lt v1 (std.ofN (len a0)))
 (req (std.inR v1 (len a0)) <|
 req (std.inR v1 (len a1)) <|
 (F_impl_sameCell (gd a0 (std.toN v1)) (gd a1 (std.toN v1))).bind fun y16 =>
 br (!(y16))
 (some (.inr (.inl ())))
 (some (.inl (std.add .i64 v1 1))))
 (some (.inr (.inr ())))
/-- impl.Cell] -/
noncomputable def F_slices_EqualFunc_Limpl_Cell_Limpl_Cell_impl_Cell_impl_Cell_mbbFimpl_sameCell (a0 : List TCell) (a1 : List TCell) : Option (Bool) :=
 br (std.not (std.eq (std.ofN (len a0)) (std.ofN (len a1))))
 (some false)
 ((whileP (σ := Int) (ρ := (Unit) ⊕ (Unit)) (L_slices_EqualFunc_Limpl_Cell_Limpl_Cell_impl_Cell_impl_Cell_mbbFimpl_sameCell_x2 a0 a1) 0).bind fun y3 =>
 (match y3 with
  | .inl y3k0 => (
    some false)
  | .inr y3m0 =>
    some true))
set_option maxHeartbeats 4000000 in
theorem run_slices_EqualFunc_Limpl_Cell_Limpl_Cell_impl_Cell_impl_Cell_mbbFimpl_sameCell (a0 : List TCell) (a1 : List TCell) (r : Bool) (h : F_slices_EqualFunc_Limpl_Cell_Limpl_Cell_impl_Cell_impl_Cell_mbbFimpl_sameCell a0 a1 = some r) : Fun Try.prog 99 [.c (.bs (len a0) 4 (row gd (encCell len gd) a0)), .c (.bs (len a1) 4 (row gd (encCell len gd) a1)), .c (.fn 100 0 fun _ => .junk)] [] (.c (.v (.bool r))) [] true := by
 refine Fun.of_wp (oneOf []) tok mixed Try.func99 (by kernel_rfl) rfl Try.ntmps99 rfl trivial (fun _ => ⟨trivial, trivial⟩) ?_
 unfold F_slices_EqualFunc_Limpl_Cell_Limpl_Cell_impl_Cell_impl_Cell_mbbFimpl_sameCell at h
 unfold L_slices_EqualFunc_Limpl_Cell_Limpl_Cell_impl_Cell_impl_Cell_mbbFimpl_sameCell_x2 at h
 have hf_impl_sameCell := @run_impl_sameCell
 generalize hLEN : @len = LEN at *
 generalize hGD : @gd = GD at *
 generalize hA : std = A at *
 generalize hP : Try.prog = P at *
 cbv
 refine fork (fun b20 => ?_) (fun b20 => ?_)
 ·replace h := of_br_t b20 h
  cbv
  injection h with h
  subst h
  refine ⟨(sparse 32 [(6, .c (.v (.bool false)))] []), ?_, ?_⟩
  ·exact le_sparse rfl ⟨lR _, trivial⟩ trivial rfl
  ·exact ⟨lR _, trivial, rfl⟩
 ·replace h := of_br_f b20 h
  cbv
  replace h := of_bind h
  obtain ⟨y3, hr4, hN5⟩ := h
  refine loop_cut hr4 (fun x => (sparse 32 [(1, .c (.bs (LEN a1) 4 (row GD (encCell LEN GD) a1))), (2, .c (.fn 100 0 fun _ => .junk)), (15, .c (.bs (LEN a0) 4 (row GD (encCell LEN GD) a0))), (16, .c (.v (.int .i64 (A.ofN (LEN a0))))), (17, .c (.v (.int .i64 x)))] [])) ?_ (fun y e s => (match y with | .inl w => e = .ret ∧ s.le (sparse 32 [(6, .c (.v (.bool false)))] []) | .inr w0 => (fun (w : Unit) => e = .exit 0 ∧ s.le (sparse 32 [] [])) w0)) ?_ ?_
  ·clear hr4 hN5
   show St.le _ _
   exact le_sparse rfl ⟨lR _, lR _, lR _, lR _, lR _, trivial⟩ trivial rfl
  ·clear hr4 hN5
   intro x z9 h K7 hK8 hY6
   replace h := of_let h
   obtain ⟨v1, hv1, h⟩ := h
   have hv1 : v1 = x := hv1
   subst hv1
   cbv
   refine fork (fun b19 => ?_) (fun b19 => ?_)
   ·replace h := of_br_t b19 h
    cbv
    replace h := of_req h
    obtain ⟨c14, h⟩ := h
    refine ⟨⟨c14, trivial⟩, ?_⟩
    replace h := of_req h
    obtain ⟨c15, h⟩ := h
    refine ⟨⟨c15, trivial⟩, ?_⟩
    replace h := of_bind h
    obtain ⟨y16, hy17, h⟩ := h
    refine ⟨{ args := [.agg [.v (.string (GD a0 (A.toN v1)).fName), .bs (LEN (GD a0 (A.toN v1)).fShapes) 5 (row GD (encShape) (GD a0 (A.toN v1)).fShapes), .bs (LEN (GD a0 (A.toN v1)).fLabels) 4 (row GD (encLabel) (GD a0 (A.toN v1)).fLabels), .bs (LEN (GD a0 (A.toN v1)).fInstances) 8 (row GD (encInstance) (GD a0 (A.toN v1)).fInstances)], .agg [.v (.string (GD a1 (A.toN v1)).fName), .bs (LEN (GD a1 (A.toN v1)).fShapes) 5 (row GD (encShape) (GD a1 (A.toN v1)).fShapes), .bs (LEN (GD a1 (A.toN v1)).fLabels) 4 (row GD (encLabel) (GD a1 (A.toN v1)).fLabels), .bs (LEN (GD a1 (A.toN v1)).fInstances) 8 (row GD (encInstance) (GD a1 (A.toN v1)).fInstances)]], o0 := [], r := .c (.v (.bool y16)), o1 := [], fl := true, σ := [], τ := [] }, hf_impl_sameCell _ _ _ hy17, ⟨les_cons (lR _) (les_cons (lR _) (les_nil)), trivial, rfl, rfl, rfl, rfl, trivial, rfl⟩, ?_⟩
    cbv
    refine fork (fun b18 => ?_) (fun b18 => ?_)
    ·replace h := of_br_t b18 h
     cbv
     injection h with h
     refine hY6 _ h.symm _ _ (And.intro rfl ?_) (by intro hh; cases hh)
     exact le_sparse rfl ⟨lR _, trivial⟩ trivial rfl
    ·replace h := of_br_f b18 h
     cbv
     injection h with h
     refine hK8 _ h.symm _ ?_
     exact le_sparse rfl ⟨lR _, lR _, lR _, lR _, lR _, trivial⟩ trivial rfl
   ·replace h := of_br_f b19 h
    cbv
    injection h with h
    refine hY6 _ h.symm _ _ (And.intro rfl ?_) (by intro hh; cases hh)
    exact le_sparse rfl trivial trivial rfl
  ·clear hr4
   have h := hN5
   clear hN5
   intro e12 s13 q11 hne
   rcases y3 with y3k0 | y3m0
   ·replace h := h
    obtain ⟨rfl, q11⟩ := q11
    cbv
    injection h with h
    subst h
    refine ⟨(sparse 32 [(6, .c (.v (.bool false)))] []), ?_, ?_⟩
    ·refine St.le_trans q11 ?_
     exact le_sparse rfl ⟨lR _, trivial⟩ trivial rfl
    ·exact ⟨lR _, trivial, rfl⟩
   ·obtain ⟨rfl, q11⟩ := q11
    cbv
    refine ⟨_, q11, ?_⟩
    cbv
    injection h with h
    subst h
    refine ⟨(sparse 32 [(6, .c (.v (.bool true)))] []), ?_, ?_⟩
    ·exact le_sparse rfl ⟨lR _, trivial⟩ trivial rfl
    ·exact ⟨lR _, trivial, rfl⟩

/-- impl.SameLibrary -/
noncomputable def F_impl_SameLibrary (a0 : TLibrary) (a1 : TLibrary) : Option (Bool) :=
 ((
    (F_impl_IsValidLibrary (TLibrary.mk a0.fCells)).bind fun y8 =>
    br y8
    ((F_impl_IsValidLibrary (TLibrary.mk a1.fCells)).bind fun y10 =>
    br y10
    ((F_slices_EqualFunc_Limpl_Cell_Limpl_Cell_impl_Cell_impl_Cell_mbbFimpl_sameCell a0.fCells a1.fCells).bind fun y12 =>
    some y12)
    (some false))
    (some false)
  ) : Option (Bool)).bind fun y1 =>
 letO y1 fun w7 =>
 some w7
set_option maxHeartbeats 4000000 in
theorem run_impl_SameLibrary (a0 : TLibrary) (a1 : TLibrary) (r : Bool) (h : F_impl_SameLibrary a0 a1 = some r) : Fun Try.prog 39 [.agg [.bs (len a0.fCells) 4 (row gd (encCell len gd) a0.fCells)], .agg [.bs (len a1.fCells) 4 (row gd (encCell len gd) a1.fCells)]] [] (.c (.v (.bool r))) [] true := by
 refine Fun.of_wp (oneOf [1]) tok mixed Try.func39 (by kernel_rfl) rfl Try.ntmps39 rfl trivial (fun _ => ⟨trivial, trivial⟩) ?_
 unfold F_impl_SameLibrary at h
 have hf_impl_IsValidLibrary := @run_impl_IsValidLibrary
 have hf_slices_EqualFunc_Limpl_Cell_Limpl_Cell_impl_Cell_impl_Cell_mbbFimpl_sameCell := @run_slices_EqualFunc_Limpl_Cell_Limpl_Cell_impl_Cell_impl_Cell_mbbFimpl_sameCell
 generalize hLEN : @len = LEN at *
 generalize hGD : @gd = GD at *
 generalize hA : std = A at *
 generalize hP : Try.prog = P at *
 cbv
 replace h := of_bind h
 obtain ⟨y1, hy2, h⟩ := h
 obtain ⟨S5, hS6⟩ : ∃ S, S = (sparse 18 [(4, .c (.v (.bool y1)))] []) := ⟨_, rfl⟩
 refine ⟨S5, ?_, ?_⟩
 ·clear h
  have h := hy2
  clear hy2
  cbv
  replace h := of_bind h
  obtain ⟨y8, hy9, h⟩ := h
  refine ⟨{ args := [.agg [.bs (LEN a0.fCells) 4 (row GD (encCell LEN GD) a0.fCells)]], o0 := [], r := .c (.v (.bool y8)), o1 := [], fl := true, σ := [], τ := [] }, hf_impl_IsValidLibrary _ _ hy9, ⟨les_cons (lR _) (les_nil), trivial, rfl, rfl, rfl, rfl, trivial, rfl⟩, ?_⟩
  cbv
  refine fork (fun b15 => ?_) (fun b15 => ?_)
  ·replace h := of_br_t b15 h
   cbv
   replace h := of_bind h
   obtain ⟨y10, hy11, h⟩ := h
   refine ⟨{ args := [.agg [.bs (LEN a1.fCells) 4 (row GD (encCell LEN GD) a1.fCells)]], o0 := [], r := .c (.v (.bool y10)), o1 := [], fl := true, σ := [], τ := [] }, hf_impl_IsValidLibrary _ _ hy11, ⟨les_cons (lR _) (les_nil), trivial, rfl, rfl, rfl, rfl, trivial, rfl⟩, ?_⟩
   cbv
   refine fork (fun b14 => ?_) (fun b14 => ?_)
   ·replace h := of_br_t b14 h
    cbv
    replace h := of_bind h
    obtain ⟨y12, hy13, h⟩ := h
    refine ⟨{ args := [.c (.bs (LEN a0.fCells) 4 (row GD (encCell LEN GD) a0.fCells)), .c (.bs (LEN a1.fCells) 4 (row GD (encCell LEN GD) a1.fCells)), .c (.fn 100 0 fun _ => .junk)], o0 := [], r := .c (.v (.bool y12)), o1 := [], fl := true, σ := [], τ := [] }, hf_slices_EqualFunc_Limpl_Cell_Limpl_Cell_impl_Cell_impl_Cell_mbbFimpl_sameCell _ _ _ hy13, ⟨les_cons (lR _) (les_cons (lR _) (les_cons (lR _) (les_nil))), trivial, rfl, rfl, rfl, rfl, trivial, rfl⟩, ?_⟩
    cbv
    injection h with h
    subst h
    subst hS6
    show St.le _ _
    exact le_sparse rfl ⟨lR _, trivial⟩ trivial rfl
   ·replace h := of_br_f b14 h
    cbv
    injection h with h
    subst h
    subst hS6
    show St.le _ _
    exact le_sparse rfl ⟨lR _, trivial⟩ trivial rfl
  ·replace h := of_br_f b15 h
   cbv
   injection h with h
   subst h
   subst hS6
   show St.le _ _
   exact le_sparse rfl ⟨lR _, trivial⟩ trivial rfl
 ·clear hy2
  subst hS6
  replace h := of_let h
  obtain ⟨w7, hw7, h⟩ := h
  have hw7 : w7 = y1 := hw7
  subst hw7
  cbv
  injection h with h
  subst h
  refine ⟨(sparse 18 [(4, .c (.v (.bool w7)))] []), ?_, ?_⟩
  ·exact le_sparse rfl ⟨lR _, trivial⟩ trivial rfl
  ·exact ⟨lR _, trivial, rfl⟩
noncomputable def L_laws_FnStream_x27 (y3 : TLibrary) : (ByteArray × Int) → Option ((ByteArray × Int) ⊕ ((ByteArray))) := fun x27 =>
 letO x27.1 fun v25 =>
 letO x27.2 fun v26 =>
 br (std.lt v26 (std.ofN (len y3.fCells)))
 ((F_impl_CellRecords y3 v26).bind fun y39 =>
 req (std.room (std.nadd (std.slen v25) (std.slen y39)) 1) <|
 some (.inl (std.scat v25 y39, std.add .i64 v26 1)))
 (some (.inr v25))
/-- laws.FnStream -/
noncomputable def F_laws_FnStream (a0 : List Int) : Option (Bool) :=
 (F_laws_big a0).bind fun y1 =>
 br y1
 (some true)
 ((F_spec_DrawLibraryStream a0).bind fun y3 =>
 (F_impl_LibraryStream y3).bind fun y5 =>
 (F_spec_IsValidLibrary y3).bind fun y7 =>
 br (!(y7))
 (((
    br (std.seq y5 (ByteArray.mk #[]))
    ((F_impl_StreamRecord 7 (ByteArray.mk #[])).bind fun y16 =>
    some (std.not (std.seq y16 (ByteArray.mk #[]))))
    (some false)
  ) : Option (Bool)).bind fun y9 =>
 letO y9 fun w15 =>
 some w15)
 ((F_impl_ReadStream y5).bind fun y19 =>
 letO ([1, std.conv .u8 (std.ofN (len y3.fCells))] : List Int) fun l21 =>
 (F_impl_StreamRecord 1 (std.ofBytes (len l21) (fun i => gd l21 (0 + i)))).bind fun y23 =>
 (whileP (σ := ByteArray × Int) (ρ := (ByteArray)) (L_laws_FnStream_x27 y3) (y23, 0)).bind fun y28 =>
 letO y28 fun y28k0 =>
 letO y28k0 fun w43 =>
 ((
    br (std.eq y19.2.1 0)
    (br (std.eq y19.2.2 (std.ofN (std.slen y5)))
    ((F_impl_SameLibrary y19.1 y3).bind fun y51 =>
    br y51
    (br (std.eq (std.ofN (std.slen y5)) (std.add .i64 (std.ofN (std.slen w43)) 7))
    (req (std.upTo (std.ofN (std.slen w43)) (std.slen y5)) <|
    some (std.seq (std.ssub y5 0 (std.toN (std.ofN (std.slen w43)))) w43))
    (some false))
    (some false))
    (some false))
    (some false)
  ) : Option (Bool)).bind fun y44 =>
 letO y44 fun w50 =>
 some w50))
set_option maxHeartbeats 4000000 in
theorem run_laws_FnStream (a0 : List Int) (r : Bool) (h : F_laws_FnStream a0 = some r) : Fun Try.prog 7 [.c (.bs (len a0) 1 (row gd (encI .u8) a0))] [] (.c (.v (.bool r))) [] true := by
 refine Fun.of_wp (oneOf [6, 13]) tok mixed Try.func7 (by kernel_rfl) rfl Try.ntmps7 rfl trivial (fun _ => ⟨trivial, trivial⟩) ?_
 unfold F_laws_FnStream at h
 unfold L_laws_FnStream_x27 at h
 have hf_impl_CellRecords := @run_impl_CellRecords
 have hf_impl_LibraryStream := @run_impl_LibraryStream
 have hf_impl_ReadStream := @run_impl_ReadStream
 have hf_impl_SameLibrary := @run_impl_SameLibrary
 have hf_impl_StreamRecord := @run_impl_StreamRecord
 have hf_laws_big := @run_laws_big
 have hf_spec_DrawLibraryStream := @run_spec_DrawLibraryStream
 have hf_spec_IsValidLibrary := @run_spec_IsValidLibrary
 generalize hLEN : @len = LEN at *
 generalize hGD : @gd = GD at *
 generalize hA : std = A at *
 generalize hP : Try.prog = P at *
 cbv
 replace h := of_bind h
 obtain ⟨y1, hy2, h⟩ := h
 refine ⟨{ args := [.c (.bs (LEN a0) 1 (row GD (encI .u8) a0))], o0 := [], r := .c (.v (.bool y1)), o1 := [], fl := true, σ := [], τ := [] }, hf_laws_big _ _ hy2, ⟨les_cons (lR _) (les_nil), trivial, rfl, rfl, rfl, rfl, trivial, rfl⟩, ?_⟩
 cbv
 refine fork (fun b59 => ?_) (fun b59 => ?_)
 ·replace h := of_br_t b59 h
  cbv
  injection h with h
  subst h
  refine ⟨(sparse 79 [(2, .c (.v (.bool true)))] []), ?_, ?_⟩
  ·exact le_sparse rfl ⟨lR _, trivial⟩ trivial rfl
  ·exact ⟨lR _, trivial, rfl⟩
 ·replace h := of_br_f b59 h
  cbv
  replace h := of_bind h
  obtain ⟨y3, hy4, h⟩ := h
  refine ⟨{ args := [.c (.bs (LEN a0) 1 (row GD (encI .u8) a0))], o0 := [], r := .agg [.os 64000 0 (LEN y3.fCells)], o1 := [(64000, .arr .rw [] (LEN y3.fCells) 4 (row GD (oncCell LEN GD) y3.fCells))], fl := true, σ := [], τ := [(64000, 832)] }, hf_spec_DrawLibraryStream _ _ hy4, ⟨les_cons (lR _) (les_nil), trivial, rfl, rfl, rfl, rfl, ⟨fun h => absurd (show (64000 : Nat) % 2 = 1 from h) (by decide), trivial⟩, rfl⟩, _, rfl, _, _, rfl, fun _ _ _ _ => .refl _, ?_⟩
  cbv
  replace h := of_bind h
  obtain ⟨y5, hy6, h⟩ := h
  refine ⟨{ args := [.agg [.bs (LEN y3.fCells) 4 (row GD (encCell LEN GD) y3.fCells)]], o0 := [], r := .c (.v (.string y5)), o1 := [], fl := true, σ := [], τ := [] }, hf_impl_LibraryStream _ _ hy6, ⟨les_cons (le_agg ⟨give_osD (rf_oncCell) (ln_oncCell) rfl rfl rfl, trivial⟩) (les_nil), trivial, rfl, rfl, rfl, rfl, trivial, rfl⟩, ?_⟩
  cbv
  replace h := of_bind h
  obtain ⟨y7, hy8, h⟩ := h
  refine ⟨{ args := [.agg [.bs (LEN y3.fCells) 4 (row GD (encCell LEN GD) y3.fCells)]], o0 := [], r := .c (.v (.bool y7)), o1 := [], fl := true, σ := [], τ := [] }, hf_spec_IsValidLibrary _ _ hy8, ⟨les_cons (le_agg ⟨give_osD (rf_oncCell) (ln_oncCell) rfl rfl rfl, trivial⟩) (les_nil), trivial, rfl, rfl, rfl, rfl, trivial, rfl⟩, ?_⟩
  cbv
  refine fork (fun b58 => ?_) (fun b58 => ?_)
  ·replace h := of_br_t b58 h
   cbv
   replace h := of_bind h
   obtain ⟨y9, hy10, h⟩ := h
   obtain ⟨S13, hS14⟩ : ∃ S, S = (sparse 79 [(2, .c (.v (.bool y9)))] []) := ⟨_, rfl⟩
   refine ⟨S13, ?_, ?_⟩
   ·clear h
    have h := hy10
    clear hy10
    cbv
    refine fork (fun b18 => ?_) (fun b18 => ?_)
    ·replace h := of_br_t b18 h
     cbv
     replace h := of_bind h
     obtain ⟨y16, hy17, h⟩ := h
     refine ⟨{ args := [.c (.v (.int .i64 7)), .c (.v (.string (ByteArray.mk #[])))], o0 := [], r := .c (.v (.string y16)), o1 := [], fl := true, σ := [], τ := [] }, hf_impl_StreamRecord _ _ _ hy17, ⟨les_cons (lR _) (les_cons (lR _) (les_nil)), trivial, rfl, rfl, rfl, rfl, trivial, rfl⟩, ?_⟩
     cbv
     injection h with h
     subst h
     subst hS14
     show St.le _ _
     exact le_sparse rfl ⟨lR _, trivial⟩ trivial rfl
    ·replace h := of_br_f b18 h
     cbv
     injection h with h
     subst h
     subst hS14
     show St.le _ _
     exact le_sparse rfl ⟨lR _, trivial⟩ trivial rfl
   ·clear hy10
    subst hS14
    replace h := of_let h
    obtain ⟨w15, hw15, h⟩ := h
    have hw15 : w15 = y9 := hw15
    subst hw15
    cbv
    injection h with h
    subst h
    refine ⟨(sparse 79 [(2, .c (.v (.bool w15)))] []), ?_, ?_⟩
    ·exact le_sparse rfl ⟨lR _, trivial⟩ trivial rfl
    ·exact ⟨lR _, trivial, rfl⟩
  ·replace h := of_br_f b58 h
   cbv
   replace h := of_bind h
   obtain ⟨y19, hy20, h⟩ := h
   refine ⟨{ args := [.c (.v (.string y5))], o0 := [], r := .tup [.agg [.os 64000 0 (LEN y19.1.fCells)], .c (.v (.int .i64 y19.2.1)), .c (.v (.int .i64 y19.2.2))], o1 := [(64000, .arr .rw [] (LEN y19.1.fCells) 4 (row GD (oncCell LEN GD) y19.1.fCells))], fl := true, σ := [], τ := [(64000, 1728)] }, hf_impl_ReadStream _ _ hy20, ⟨les_cons (lR _) (les_nil), trivial, rfl, rfl, rfl, rfl, ⟨fun h => absurd (show (64000 : Nat) % 2 = 1 from h) (by decide), trivial⟩, rfl⟩, _, rfl, _, _, rfl, fun _ _ _ _ => .refl _, ?_⟩
   cbv
   replace h := of_let h
   obtain ⟨l21, hl21, h⟩ := h
   have e22 : 2 = LEN l21 := by subst hl21 hLEN; rfl
   refine ⟨_, congrArg (fun n => AV.c (AC.os 2240 0 n)) e22, _, row GD (encI .u8) l21, e22, wkOf ?_, ?_⟩
   ·intro i hi j hj
    rw [← e22] at hi
    subst hl21
    subst hGD
    obtain rfl | rfl : i = 0 ∨ i = 1 := (by omega)
    all_goals obtain rfl : j = 0 := by omega
    all_goals rfl
   cbv
   refine ⟨fun _ _ => rfl, ?_⟩
   replace h := of_bind h
   obtain ⟨y23, hy24, h⟩ := h
   refine ⟨{ args := [.c (.v (.int .i64 1)), .c (.v (.string (A.ofBytes (LEN l21) (fun i => GD l21 (0 + i)))))], o0 := [], r := .c (.v (.string y23)), o1 := [], fl := true, σ := [], τ := [] }, hf_impl_StreamRecord _ _ _ hy24, ⟨les_cons (lR _) (les_cons (lR _) (les_nil)), trivial, rfl, rfl, rfl, rfl, trivial, rfl⟩, ?_⟩
   cbv
   replace h := of_bind h
   obtain ⟨y28, hr29, hN30⟩ := h
   refine loop_cut hr29 (fun x => (sparse 79 [(3, .c (.ptr 192 0)), (4, .c (.v (.string y5))), (5, .c (.ptr 320 0)), (6, .c (.v (.int .i64 y19.2.1))), (7, .c (.v (.int .i64 y19.2.2))), (8, .c (.v (.string x.1))), (9, .c (.v (.int .i64 x.2)))] [(192, .var [.os 832 0 (LEN y3.fCells)]), (320, .var [.os 1728 0 (LEN y19.1.fCells)]), (832, .arr .rw [] (LEN y3.fCells) 4 (row GD (oncCell LEN GD) y3.fCells)), (1728, .arr .rw [] (LEN y19.1.fCells) 4 (row GD (oncCell LEN GD) y19.1.fCells))])) ?_ (fun y e s => (fun (w : ByteArray) => e = .exit 0 ∧ s.le (sparse 79 [(3, .c (.ptr 192 0)), (4, .c (.v (.string y5))), (5, .c (.ptr 320 0)), (6, .c (.v (.int .i64 y19.2.1))), (7, .c (.v (.int .i64 y19.2.2))), (8, .c (.v (.string w)))] [(192, .var [.os 832 0 (LEN y3.fCells)]), (320, .var [.os 1728 0 (LEN y19.1.fCells)]), (832, .arr .rw [] (LEN y3.fCells) 4 (row GD (oncCell LEN GD) y3.fCells)), (1728, .arr .rw [] (LEN y19.1.fCells) 4 (row GD (oncCell LEN GD) y19.1.fCells))])) y) ?_ ?_
   ·clear hr29 hN30
    show St.le _ _
    exact le_sparse rfl ⟨lR _, lR _, lR _, lR _, lR _, lR _, lR _, trivial⟩ ⟨rfl, rfl, oS, oS, trivial⟩ rfl
   ·clear hr29 hN30
    intro x z34 h K32 hK33 hY31
    obtain ⟨x0_, x1_⟩ := x
    replace h := of_let h
    obtain ⟨v25, hv25, h⟩ := h
    have hv25 : v25 = x0_ := hv25
    subst hv25
    replace h := of_let h
    obtain ⟨v26, hv26, h⟩ := h
    have hv26 : v26 = x1_ := hv26
    subst hv26
    cbv
    refine fork (fun b42 => ?_) (fun b42 => ?_)
    ·replace h := of_br_t b42 h
     cbv
     replace h := of_bind h
     obtain ⟨y39, hy40, h⟩ := h
     refine ⟨{ args := [.agg [.bs (LEN y3.fCells) 4 (row GD (encCell LEN GD) y3.fCells)], .c (.v (.int .i64 v26))], o0 := [], r := .c (.v (.string y39)), o1 := [], fl := true, σ := [], τ := [] }, hf_impl_CellRecords _ _ _ hy40, ⟨les_cons (le_agg ⟨give_osD (rf_oncCell) (ln_oncCell) rfl rfl rfl, trivial⟩) (les_cons (lR _) (les_nil)), trivial, rfl, rfl, rfl, rfl, trivial, rfl⟩, ?_⟩
     cbv
     replace h := of_req h
     obtain ⟨c41, h⟩ := h
     refine ⟨c41, ?_⟩
     injection h with h
     refine hK33 _ h.symm _ ?_
     exact le_sparse rfl ⟨lR _, lR _, lR _, lR _, lR _, lR _, lR _, trivial⟩ ⟨rfl, rfl, oS, oS, trivial⟩ rfl
    ·replace h := of_br_f b42 h
     cbv
     injection h with h
     refine hY31 _ h.symm _ _ (And.intro rfl ?_) (by intro hh; cases hh)
     exact le_sparse rfl ⟨lR _, lR _, lR _, lR _, lR _, lR _, trivial⟩ ⟨rfl, rfl, oS, oS, trivial⟩ rfl
   ·clear hr29
    have h := hN30
    clear hN30
    intro e37 s38 q36 hne
    replace h := of_let h
    obtain ⟨y28k0, hyk, h⟩ := h
    have hyk : y28k0 = y28 := hyk
    subst hyk
    obtain ⟨rfl, q36⟩ := q36
    replace h := of_let h
    obtain ⟨w43, hw43, h⟩ := h
    have hw43 : w43 = y28k0 := hw43
    subst hw43
    cbv
    refine ⟨_, q36, ?_⟩
    cbv
    replace h := of_bind h
    obtain ⟨y44, hy45, h⟩ := h
    obtain ⟨S48, hS49⟩ : ∃ S, S = (sparse 79 [(2, .c (.v (.bool y44)))] []) := ⟨_, rfl⟩
    refine ⟨S48, ?_, ?_⟩
    ·clear h
     have h := hy45
     clear hy45
     cbv
     refine fork (fun b57 => ?_) (fun b57 => ?_)
     ·replace h := of_br_t b57 h
      cbv
      refine fork (fun b56 => ?_) (fun b56 => ?_)
      ·replace h := of_br_t b56 h
       cbv
       replace h := of_bind h
       obtain ⟨y51, hy52, h⟩ := h
       refine ⟨{ args := [.agg [.bs (LEN y19.1.fCells) 4 (row GD (encCell LEN GD) y19.1.fCells)], .agg [.bs (LEN y3.fCells) 4 (row GD (encCell LEN GD) y3.fCells)]], o0 := [], r := .c (.v (.bool y51)), o1 := [], fl := true, σ := [], τ := [] }, hf_impl_SameLibrary _ _ _ hy52, ⟨les_cons (le_agg ⟨give_osD (rf_oncCell) (ln_oncCell) rfl rfl rfl, trivial⟩) (les_cons (le_agg ⟨give_osD (rf_oncCell) (ln_oncCell) rfl rfl rfl, trivial⟩) (les_nil)), trivial, rfl, rfl, rfl, rfl, trivial, rfl⟩, ?_⟩
       cbv
       refine fork (fun b55 => ?_) (fun b55 => ?_)
       ·replace h := of_br_t b55 h
        cbv
        refine fork (fun b54 => ?_) (fun b54 => ?_)
        ·replace h := of_br_t b54 h
         cbv
         replace h := of_req h
         obtain ⟨c53, h⟩ := h
         refine ⟨c53, ?_⟩
         injection h with h
         subst h
         subst hS49
         show St.le _ _
         exact le_sparse rfl ⟨lR _, trivial⟩ trivial rfl
        ·replace h := of_br_f b54 h
         cbv
         injection h with h
         subst h
         subst hS49
         show St.le _ _
         exact le_sparse rfl ⟨lR _, trivial⟩ trivial rfl
       ·replace h := of_br_f b55 h
        cbv
        injection h with h
        subst h
        subst hS49
        show St.le _ _
        exact le_sparse rfl ⟨lR _, trivial⟩ trivial rfl
      ·replace h := of_br_f b56 h
       cbv
       injection h with h
       subst h
       subst hS49
       show St.le _ _
       exact le_sparse rfl ⟨lR _, trivial⟩ trivial rfl
     ·replace h := of_br_f b57 h
      cbv
      injection h with h
      subst h
      subst hS49
      show St.le _ _
      exact le_sparse rfl ⟨lR _, trivial⟩ trivial rfl
    ·clear hy45
     subst hS49
     replace h := of_let h
     obtain ⟨w50, hw50, h⟩ := h
     have hw50 : w50 = y44 := hw50
     subst hw50
     cbv
     injection h with h
     subst h
     refine ⟨(sparse 79 [(2, .c (.v (.bool w50)))] []), ?_, ?_⟩
     ·exact le_sparse rfl ⟨lR _, trivial⟩ trivial rfl
     ·exact ⟨lR _, trivial, rfl⟩
theorem op_5 (d : Nat) : Opens T (d + 1) 5 (clI .u8) (wfI .u8) := op_int .u8 (show T 5 = some d5 from rfl) rfl
theorem op_22 (d : Nat) : Opens T (d + 2) 22 (clL 1 (encI .u8)) (wfL (wfI .u8)) := op_slice (e := 5) (sz := 1) (show T 22 = some d22 from rfl) rfl (show T 5 = some d5 from rfl) rfl (fun x j hj => by match j, hj with | 0, _ => rfl | (j_ + 1), h_ => exact absurd h_ (by omega)) (op_5 d)
theorem open_22 {H : Type} {enc : TypeId × Value → H} {W : World} {spare : Nat → Bool} {held : Bool} {r : Reach} {base : Nat} {v : Value} {x : DataW H} {ps : List MemPlace}
    (hv : Value.okWide Try.prog W r base 22 v) (h : DataW.Trod enc Try.prog W 0 spare held 22 v x ps) : ∃ e : List Int, (wfL (wfI .u8)) e ∧ RelV (RelI (fun b => b < W.heap.size) W) (.c (.bs (len e) 1 (row gd (encI .u8) e))) v := by
  refine opened_one tok (op_22 0) (fun _ => rfl) (by kernel_rfl) ?_ h
  have ht : Try.prog.underlying 22 = some (.slice 5) := (tok 22 d22 rfl).1
  unfold Value.okWide at hv
  rw [ht] at hv
  cases v <;> first | rfl | exact False.elim hv
end Go.Proofs.Ytlenieingkfjaaa.AM
