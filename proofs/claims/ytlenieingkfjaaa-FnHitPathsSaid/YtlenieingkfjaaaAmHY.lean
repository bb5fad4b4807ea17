/-
  What the functions that the law reaches compute, and that they do. No condition.
-/
import Derived.Test.YtlenieingkfjaaaAmHX
import Derived.Test.YtlenieingkfjaaaAmE
namespace Go.Proofs.Ytlenieingkfjaaa.AM
open Go Go.Proofs Go.RowKit
set_option linter.unusedVariables false
set_option linter.unusedSimpArgs false
set_option maxRecDepth 100000

noncomputable def L_impl_PathPlace_x10 (a0 : TLibrary) (a2 : List Int) : (Int × Int × Int × Int × Int) → Option ((Int × Int × Int × Int × Int) ⊕ ((Int) ⊕ (Int × Int × Int × Int))) := fun x10 =>
 letO x10.1 fun v5 =>
 letO x10.2.1 fun v6 =>
 letO x10.2.2.1 fun v7 =>
 letO x10.2.2.2.1 fun v8 =>
 letO x10.2.2.2.2 fun v9 =>
 br (std.lt v5 (std.ofN (len a2)))
 (req (std.inR v5 (len a2)) <|
 req (std.inR v6 (len a0.fCells)) <|
 (F_impl_elements (gd a0.fCells (std.toN v6))).bind fun y24 =>
 (F_impl_within (gd a2 (std.toN v5)) 0 (std.sub .i64 (std.ofN (len y24)) 1)).bind fun y26 =>
 br (!(y26))
 (some (.inr (.inl 5)))
 (req (std.inR (gd a2 (std.toN v5)) (len y24)) <|
 req (std.inR (gd a2 (std.toN v5)) (len y24)) <|
 (F_impl_compose (gd y24 (std.nadd 0 (std.toN (gd a2 (std.toN v5))))).gplace (TTransform.mk v7 v8 v9)).bind fun y30 =>
 some (.inl (std.add .i64 v5 1, (gd y24 (std.nadd 0 (std.toN (gd a2 (std.toN v5))))).gcell, y30.fOrientation, y30.fX, y30.fY))))
 (some (.inr (.inr (v6, v7, v8, v9))))
/-- impl.PathPlace -/
noncomputable def F_impl_PathPlace (a0 : TLibrary) (a1 : Int) (a2 : List Int) : Option (TOccurrence × Int) :=
 (F_impl_cellCode a0 a1).bind fun y1 =>
 br (std.not (std.eq y1 0))
 (some ((TOccurrence.mk 0 (TTransform.mk 0 0 0) ([] : List Int)), y1))
 ((F_slices_Clone_Lint64_int64 a2).bind fun y3 =>
 (whileP (σ := Int × Int × Int × Int × Int) (ρ := (Int) ⊕ (Int × Int × Int × Int)) (L_impl_PathPlace_x10 a0 a2) (0, a1, 0, 0, 0)).bind fun y11 =>
 (match y11 with
  | .inl y11k0 => (
    letO y11k0 fun w34 =>
    some ((TOccurrence.mk 0 (TTransform.mk 0 0 0) ([] : List Int)), w34))
  | .inr y11m0 =>
    letO y11m0 fun y11k1 =>
    letO y11k1.1 fun w35 =>
    letO y11k1.2.1 fun w36 =>
    letO y11k1.2.2.1 fun w37 =>
    letO y11k1.2.2.2 fun w38 =>
    (F_impl_IsValidTransform (TTransform.mk w36 w37 w38)).bind fun y39 =>
    br (!(y39))
    (some ((TOccurrence.mk 0 (TTransform.mk 0 0 0) ([] : List Int)), (2 : Int)))
    (some ((TOccurrence.mk w35 (TTransform.mk w36 w37 w38) y3), (0 : Int)))))
theorem run_impl_PathPlace (a0 : TLibrary) (a1 : Int) (a2 : List Int) (r : TOccurrence × Int) (h : F_impl_PathPlace a0 a1 a2 = some r) : Fun Try.prog 17 [.agg [.bs (len a0.fCells) 4 (row gd (encCell len gd) a0.fCells)], .c (.v (.int .i64 a1)), .c (.bs (len a2) 1 (row gd (encI .i64) a2))] [] (.tup [.agg [.v (.int .i64 r.1.fCell), .v (.int .i64 r.1.fPlace.fOrientation), .v (.int .i64 r.1.fPlace.fX), .v (.int .i64 r.1.fPlace.fY), .os 64000 0 (len r.1.fPath)], .c (.v (.int .i64 r.2))]) [(64000, .arr .rw [] (len r.1.fPath) 1 (row gd (encI .i64) r.1.fPath))] true := by
 refine Fun.of_wp (oneOf []) tok mixed Try.func17 (by kernel_rfl) rfl Try.ntmps17 rfl trivial (fun _ => ⟨(by simp [AV.flat, AV.flat1, AC.flat]), ⟨fun i _ j _ => val_flat (rfl), trivial⟩⟩) ?_
 unfold F_impl_PathPlace at h
 unfold L_impl_PathPlace_x10 at h
 have hf_impl_IsValidTransform := @run_impl_IsValidTransform
 have hf_impl_cellCode := @run_impl_cellCode
 have hf_impl_compose := @run_impl_compose
 have hf_impl_elements := @run_impl_elements
 have hf_impl_within := @run_impl_within
 have hf_slices_Clone_Lint64_int64 := @run_slices_Clone_Lint64_int64
 generalize hLEN : @len = LEN at *
 generalize hGD : @gd = GD at *
 generalize hA : std = A at *
 generalize hP : Try.prog = P at *
 cbv
 replace h := of_bind h
 obtain ⟨y1, hy2, h⟩ := h
 refine ⟨{ args := [.agg [.bs (LEN a0.fCells) 4 (row GD (encCell LEN GD) a0.fCells)], .c (.v (.int .i64 a1))], o0 := [], r := .c (.v (.int .i64 y1)), o1 := [], fl := true, σ := [], τ := [] }, hf_impl_cellCode _ _ _ hy2, ⟨les_cons (lR _) (les_cons (lR _) (les_nil)), trivial, rfl, rfl, rfl, rfl, trivial, rfl⟩, ?_⟩
 cbv
 refine fork (fun b42 => ?_) (fun b42 => ?_)
 ·replace h := of_br_t b42 h
  cbv
  injection h with h
  subst h
  refine ⟨(sparse 66 [(6, .c (.ptr 384 0)), (7, .c (.v (.int .i64 y1)))] [(384, .var [.v (.int .i64 0), .v (.int .i64 0), .v (.int .i64 0), .v (.int .i64 0), .os 64000 0 (LEN ([] : List Int))]), (64000, .arr .rw [] (LEN ([] : List Int)) 1 (row GD (encI .i64) ([] : List Int)))]), ?_, ?_⟩
  ·refine St.le_trans (le_nilV 384 4 64000 1 (row GD (encI .i64) ([] : List Int)) (by decide) (by decide) rfl rfl) ?_
   subst hLEN
   exact le_sparse rfl ⟨lR _, lR _, trivial⟩ ⟨rfl, oS, trivial⟩ rfl
  ·subst hLEN
   exact ⟨lR _, ⟨oS, trivial⟩, rfl⟩
 ·replace h := of_br_f b42 h
  cbv
  replace h := of_bind h
  obtain ⟨y3, hy4, h⟩ := h
  refine ⟨{ args := [.c (.bs (LEN a2) 1 (row GD (encI .i64) a2))], o0 := [], r := .c (.os 64000 0 (LEN y3)), o1 := [(64000, .arr .rw [] (LEN y3) 1 (row GD (encI .i64) y3))], fl := true, σ := [], τ := [(64000, 1408)] }, hf_slices_Clone_Lint64_int64 _ _ hy4, ⟨les_cons (lR _) (les_nil), trivial, rfl, rfl, rfl, rfl, ⟨fun h => absurd (show (64000 : Nat) % 2 = 1 from h) (by decide), trivial⟩, rfl⟩, _, rfl, _, _, rfl, fun _ _ _ _ => .refl _, ?_⟩
  cbv
  replace h := of_bind h
  obtain ⟨y11, hr12, hN13⟩ := h
  refine loop_cut hr12 (fun x => (sparse 66 [(3, .c (.ptr 192 0)), (6, .c (.ptr 384 0)), (9, .c (.ptr 576 0)), (24, .c (.bs (LEN a2) 1 (row GD (encI .i64) a2))), (25, .c (.v (.int .i64 (A.ofN (LEN a2))))), (26, .c (.v (.int .i64 x.1)))] [(192, .var [.bs (LEN a0.fCells) 4 (row GD (encCell LEN GD) a0.fCells)]), (384, .var [.v (.int .i64 0), .v (.int .i64 0), .v (.int .i64 0), .v (.int .i64 0), .v (.slice none 0 0)]), (576, .var [.v (.int .i64 x.2.1), .v (.int .i64 x.2.2.1), .v (.int .i64 x.2.2.2.1), .v (.int .i64 x.2.2.2.2), .os 1408 0 (LEN y3)]), (1408, .arr .rw [] (LEN y3) 1 (row GD (encI .i64) y3))])) ?_ (fun y e s => (match y with | .inl w => e = .ret ∧ s.le (sparse 66 [(6, .c (.ptr 384 0)), (7, .c (.v (.int .i64 w)))] [(384, .var [.v (.int .i64 0), .v (.int .i64 0), .v (.int .i64 0), .v (.int .i64 0), .v (.slice none 0 0)])]) | .inr w0 => (fun (w : Int × Int × Int × Int) => e = .exit 0 ∧ s.le (sparse 66 [(6, .c (.ptr 384 0)), (9, .c (.ptr 576 0))] [(384, .var [.v (.int .i64 0), .v (.int .i64 0), .v (.int .i64 0), .v (.int .i64 0), .v (.slice none 0 0)]), (576, .var [.v (.int .i64 w.1), .v (.int .i64 w.2.1), .v (.int .i64 w.2.2.1), .v (.int .i64 w.2.2.2), .os 1408 0 (LEN y3)]), (1408, .arr .rw [] (LEN y3) 1 (row GD (encI .i64) y3))])) w0)) ?_ ?_
  ·clear hr12 hN13
   show St.le _ _
   exact le_sparse rfl ⟨lR _, lR _, lR _, lR _, lR _, lR _, trivial⟩ ⟨rfl, rfl, rfl, oS, trivial⟩ rfl
  ·clear hr12 hN13
   intro x z17 h K15 hK16 hY14
   obtain ⟨x0_, x1_, x2_, x3_, x4_⟩ := x
   replace h := of_let h
   obtain ⟨v5, hv5, h⟩ := h
   have hv5 : v5 = x0_ := hv5
   subst hv5
   replace h := of_let h
   obtain ⟨v6, hv6, h⟩ := h
   have hv6 : v6 = x1_ := hv6
   subst hv6
   replace h := of_let h
   obtain ⟨v7, hv7, h⟩ := h
   have hv7 : v7 = x2_ := hv7
   subst hv7
   replace h := of_let h
   obtain ⟨v8, hv8, h⟩ := h
   have hv8 : v8 = x3_ := hv8
   subst hv8
   replace h := of_let h
   obtain ⟨v9, hv9, h⟩ := h
   have hv9 : v9 = x4_ := hv9
   subst hv9
   cbv
   refine fork (fun b33 => ?_) (fun b33 => ?_)
   ·replace h := of_br_t b33 h
    cbv
    replace h := of_req h
    obtain ⟨c22, h⟩ := h
    refine ⟨⟨c22, trivial⟩, ?_⟩
    replace h := of_req h
    obtain ⟨c23, h⟩ := h
    refine ⟨⟨c23, trivial⟩, ?_⟩
    replace h := of_bind h
    obtain ⟨y24, hy25, h⟩ := h
    refine ⟨{ args := [.agg [.v (.string (GD a0.fCells (A.toN v6)).fName), .bs (LEN (GD a0.fCells (A.toN v6)).fShapes) 5 (row GD (encShape) (GD a0.fCells (A.toN v6)).fShapes), .bs (LEN (GD a0.fCells (A.toN v6)).fLabels) 4 (row GD (encLabel) (GD a0.fCells (A.toN v6)).fLabels), .bs (LEN (GD a0.fCells (A.toN v6)).fInstances) 8 (row GD (encInstance) (GD a0.fCells (A.toN v6)).fInstances)]], o0 := [], r := .c (.os 64000 0 (LEN y24)), o1 := [(64000, .arr .rw [] (LEN y24) 4 (row GD (encelement) y24))], fl := true, σ := [], τ := [(64000, 2304)] }, hf_impl_elements _ _ hy25, ⟨les_cons (lR _) (les_nil), trivial, rfl, rfl, rfl, rfl, ⟨fun h => absurd (show (64000 : Nat) % 2 = 1 from h) (by decide), trivial⟩, rfl⟩, _, rfl, _, _, rfl, fun _ _ _ _ => .refl _, ?_⟩
    cbv
    replace h := of_bind h
    obtain ⟨y26, hy27, h⟩ := h
    refine ⟨{ args := [.c (.v (.int .i64 (GD a2 (A.toN v5)))), .c (.v (.int .i64 0)), .c (.v (.int .i64 (A.sub .i64 (A.ofN (LEN y24)) 1)))], o0 := [], r := .c (.v (.bool y26)), o1 := [], fl := true, σ := [], τ := [] }, hf_impl_within _ _ _ _ hy27, ⟨les_cons (lR _) (les_cons (lR _) (les_cons (lR _) (les_nil))), trivial, rfl, rfl, rfl, rfl, trivial, rfl⟩, ?_⟩
    cbv
    refine fork (fun b32 => ?_) (fun b32 => ?_)
    ·replace h := of_br_t b32 h
     cbv
     injection h with h
     refine hY14 _ h.symm _ _ (And.intro rfl ?_) (by intro hh; cases hh)
     exact le_sparse rfl ⟨lR _, lR _, trivial⟩ ⟨rfl, trivial⟩ rfl
    ·replace h := of_br_f b32 h
     cbv
     replace h := of_req h
     obtain ⟨c28, h⟩ := h
     refine ⟨⟨c28, trivial⟩, ?_⟩
     refine And.intro (by first | exact (by subst hA; exact idx_lt c28) | (refine And.intro (by subst hA; exact idx_lt c28) ?_; first | trivial | exact ⟨trivial, trivial⟩)) ?_
     replace h := of_req h
     obtain ⟨c29, h⟩ := h
     refine ⟨⟨c29, trivial⟩, ?_⟩
     refine And.intro (by first | exact (by subst hA; exact idx_lt c29) | (refine And.intro (by subst hA; exact idx_lt c29) ?_; first | trivial | exact ⟨trivial, trivial⟩)) ?_
     replace h := of_bind h
     obtain ⟨y30, hy31, h⟩ := h
     refine ⟨{ args := [.agg [.v (.int .i64 (GD y24 (A.nadd 0 (A.toN (GD a2 (A.toN v5))))).gplace.fOrientation), .v (.int .i64 (GD y24 (A.nadd 0 (A.toN (GD a2 (A.toN v5))))).gplace.fX), .v (.int .i64 (GD y24 (A.nadd 0 (A.toN (GD a2 (A.toN v5))))).gplace.fY)], .agg [.v (.int .i64 v7), .v (.int .i64 v8), .v (.int .i64 v9)]], o0 := [], r := .agg [.v (.int .i64 y30.fOrientation), .v (.int .i64 y30.fX), .v (.int .i64 y30.fY)], o1 := [], fl := true, σ := [], τ := [] }, hf_impl_compose _ _ _ hy31, ⟨les_cons (lR _) (les_cons (lR _) (les_nil)), trivial, rfl, rfl, rfl, rfl, trivial, rfl⟩, ?_⟩
     cbv
     injection h with h
     refine hK16 _ h.symm _ ?_
     exact le_sparse rfl ⟨lR _, lR _, lR _, lR _, lR _, lR _, trivial⟩ ⟨rfl, rfl, rfl, oS, trivial⟩ rfl
   ·replace h := of_br_f b33 h
    cbv
    injection h with h
    refine hY14 _ h.symm _ _ (And.intro rfl ?_) (by intro hh; cases hh)
    exact le_sparse rfl ⟨lR _, lR _, trivial⟩ ⟨rfl, rfl, oS, trivial⟩ rfl
  ·clear hr12
   have h := hN13
   clear hN13
   intro e20 s21 q19 hne
   rcases y11 with y11k0 | y11m0
   ·replace h := h
    obtain ⟨rfl, q19⟩ := q19
    replace h := of_let h
    obtain ⟨w34, hw34, h⟩ := h
    have hw34 : w34 = y11k0 := hw34
    subst hw34
    cbv
    injection h with h
    subst h
    refine ⟨(sparse 66 [(6, .c (.ptr 384 0)), (7, .c (.v (.int .i64 w34)))] [(384, .var [.v (.int .i64 0), .v (.int .i64 0), .v (.int .i64 0), .v (.int .i64 0), .os 64000 0 (LEN ([] : List Int))]), (64000, .arr .rw [] (LEN ([] : List Int)) 1 (row GD (encI .i64) ([] : List Int)))]), ?_, ?_⟩
    ·refine St.le_trans q19 ?_
     refine St.le_trans (le_nilV 384 4 64000 1 (row GD (encI .i64) ([] : List Int)) (by decide) (by decide) rfl rfl) ?_
     subst hLEN
     exact le_sparse rfl ⟨lR _, lR _, trivial⟩ ⟨rfl, oS, trivial⟩ rfl
    ·subst hLEN
     exact ⟨lR _, ⟨oS, trivial⟩, rfl⟩
   ·replace h := of_let h
    obtain ⟨y11k1, hyk, h⟩ := h
    have hyk : y11k1 = y11m0 := hyk
    subst hyk
    obtain ⟨rfl, q19⟩ := q19
    obtain ⟨y11k1_0, y11k1_1, y11k1_2, y11k1_3⟩ := y11k1
    replace h := of_let h
    obtain ⟨w35, hw35, h⟩ := h
    have hw35 : w35 = y11k1_0 := hw35
    subst hw35
    replace h := of_let h
    obtain ⟨w36, hw36, h⟩ := h
    have hw36 : w36 = y11k1_1 := hw36
    subst hw36
    replace h := of_let h
    obtain ⟨w37, hw37, h⟩ := h
    have hw37 : w37 = y11k1_2 := hw37
    subst hw37
    replace h := of_let h
    obtain ⟨w38, hw38, h⟩ := h
    have hw38 : w38 = y11k1_3 := hw38
    subst hw38
    cbv
    refine ⟨_, q19, ?_⟩
    cbv
    replace h := of_bind h
    obtain ⟨y39, hy40, h⟩ := h
    refine ⟨{ args := [.agg [.v (.int .i64 w36), .v (.int .i64 w37), .v (.int .i64 w38)]], o0 := [], r := .c (.v (.bool y39)), o1 := [], fl := true, σ := [], τ := [] }, hf_impl_IsValidTransform _ _ hy40, ⟨les_cons (lR _) (les_nil), trivial, rfl, rfl, rfl, rfl, trivial, rfl⟩, ?_⟩
    cbv
    refine fork (fun b41 => ?_) (fun b41 => ?_)
    ·replace h := of_br_t b41 h
     cbv
     injection h with h
     subst h
     refine ⟨(sparse 66 [(6, .c (.ptr 384 0)), (7, .c (.v (.int .i64 2)))] [(384, .var [.v (.int .i64 0), .v (.int .i64 0), .v (.int .i64 0), .v (.int .i64 0), .os 64000 0 (LEN ([] : List Int))]), (64000, .arr .rw [] (LEN ([] : List Int)) 1 (row GD (encI .i64) ([] : List Int)))]), ?_, ?_⟩
     ·refine St.le_trans (le_nilV 384 4 64000 1 (row GD (encI .i64) ([] : List Int)) (by decide) (by decide) rfl rfl) ?_
      subst hLEN
      exact le_sparse rfl ⟨lR _, lR _, trivial⟩ ⟨rfl, oS, trivial⟩ rfl
     ·subst hLEN
      exact ⟨lR _, ⟨oS, trivial⟩, rfl⟩
    ·replace h := of_br_f b41 h
     cbv
     injection h with h
     subst h
     refine ⟨(sparse 66 [(6, .c (.ptr 384 0)), (7, .c (.v (.int .i64 0)))] [(384, .var [.v (.int .i64 w35), .v (.int .i64 w36), .v (.int .i64 w37), .v (.int .i64 w38), .os 64000 0 (LEN y3)]), (64000, .arr .rw [] (LEN y3) 1 (row GD (encI .i64) y3))]), ?_, ?_⟩
     ·refine St.le_trans (le_ren 1408 64000 (by decide) rfl) ?_
      exact le_sparse rfl ⟨lR _, lR _, trivial⟩ ⟨rfl, oS, trivial⟩ rfl
     ·exact ⟨lR _, ⟨oS, trivial⟩, rfl⟩

/-- impl.MoveRect -/
noncomputable def F_impl_MoveRect (a0 : TTransform) (a1 : TRect) : Option (TRect × Bool) :=
 ((
    (F_impl_IsValidTransform a0).bind fun y8 =>
    br (!(y8))
    (some true)
    ((F_impl_IsValidRect a1).bind fun y10 =>
    some (!(y10)))
  ) : Option (Bool)).bind fun y1 =>
 letO y1 fun w7 =>
 br w7
 (some ((TRect.mk 0 0 0 0), false))
 ((F_impl_moveRect a0 a1).bind fun y13 =>
 (F_impl_IsValidRect y13).bind fun y15 =>
 br (!(y15))
 (some ((TRect.mk 0 0 0 0), false))
 (some (y13, true)))
theorem run_impl_MoveRect (a0 : TTransform) (a1 : TRect) (r : TRect × Bool) (h : F_impl_MoveRect a0 a1 = some r) : Fun Try.prog 18 [.agg [.v (.int .i64 a0.fOrientation), .v (.int .i64 a0.fX), .v (.int .i64 a0.fY)], .agg [.v (.int .i64 a1.fX0), .v (.int .i64 a1.fY0), .v (.int .i64 a1.fX1), .v (.int .i64 a1.fY1)]] [] (.tup [.agg [.v (.int .i64 r.1.fX0), .v (.int .i64 r.1.fY0), .v (.int .i64 r.1.fX1), .v (.int .i64 r.1.fY1)], .c (.v (.bool r.2))]) [] true := by
 refine Fun.of_wp (oneOf [1]) tok mixed Try.func18 (by kernel_rfl) rfl Try.ntmps18 rfl trivial (fun _ => ⟨(by simp [AV.flat, AV.flat1, AC.flat]), trivial⟩) ?_
 unfold F_impl_MoveRect at h
 have hf_impl_IsValidRect := @run_impl_IsValidRect
 have hf_impl_IsValidTransform := @run_impl_IsValidTransform
 have hf_impl_moveRect := @run_impl_moveRect
 generalize hLEN : @len = LEN at *
 generalize hGD : @gd = GD at *
 generalize hA : std = A at *
 generalize hP : Try.prog = P at *
 cbv
 replace h := of_bind h
 obtain ⟨y1, hy2, h⟩ := h
 obtain ⟨S5, hS6⟩ : ∃ S, S = (sparse 24 [(2, .c (.ptr 128 0)), (3, .c (.ptr 192 0)), (4, .c (.ptr 256 0)), (14, .c (.v (.bool y1)))] [(128, .var [.v (.int .i64 a0.fOrientation), .v (.int .i64 a0.fX), .v (.int .i64 a0.fY)]), (192, .var [.v (.int .i64 a1.fX0), .v (.int .i64 a1.fY0), .v (.int .i64 a1.fX1), .v (.int .i64 a1.fY1)]), (256, .var [.v (.int .i64 0), .v (.int .i64 0), .v (.int .i64 0), .v (.int .i64 0)])]) := ⟨_, rfl⟩
 refine ⟨S5, ?_, ?_⟩
 ·clear h
  have h := hy2
  clear hy2
  cbv
  replace h := of_bind h
  obtain ⟨y8, hy9, h⟩ := h
  refine ⟨{ args := [.agg [.v (.int .i64 a0.fOrientation), .v (.int .i64 a0.fX), .v (.int .i64 a0.fY)]], o0 := [], r := .c (.v (.bool y8)), o1 := [], fl := true, σ := [], τ := [] }, hf_impl_IsValidTransform _ _ hy9, ⟨les_cons (lR _) (les_nil), trivial, rfl, rfl, rfl, rfl, trivial, rfl⟩, ?_⟩
  cbv
  refine fork (fun b12 => ?_) (fun b12 => ?_)
  ·replace h := of_br_t b12 h
   cbv
   injection h with h
   subst h
   subst hS6
   show St.le _ _
   exact le_sparse rfl ⟨lR _, lR _, lR _, lR _, trivial⟩ ⟨rfl, rfl, rfl, trivial⟩ rfl
  ·replace h := of_br_f b12 h
   cbv
   replace h := of_bind h
   obtain ⟨y10, hy11, h⟩ := h
   refine ⟨{ args := [.agg [.v (.int .i64 a1.fX0), .v (.int .i64 a1.fY0), .v (.int .i64 a1.fX1), .v (.int .i64 a1.fY1)]], o0 := [], r := .c (.v (.bool y10)), o1 := [], fl := true, σ := [], τ := [] }, hf_impl_IsValidRect _ _ hy11, ⟨les_cons (lR _) (les_nil), trivial, rfl, rfl, rfl, rfl, trivial, rfl⟩, ?_⟩
   cbv
   injection h with h
   subst h
   subst hS6
   show St.le _ _
   exact le_sparse rfl ⟨lR _, lR _, lR _, lR _, trivial⟩ ⟨rfl, rfl, rfl, trivial⟩ rfl
 ·clear hy2
  subst hS6
  replace h := of_let h
  obtain ⟨w7, hw7, h⟩ := h
  have hw7 : w7 = y1 := hw7
  subst hw7
  cbv
  refine fork (fun b18 => ?_) (fun b18 => ?_)
  ·replace h := of_br_t b18 h
   cbv
   injection h with h
   subst h
   refine ⟨(sparse 24 [(4, .c (.ptr 256 0)), (5, .c (.v (.bool false)))] [(256, .var [.v (.int .i64 0), .v (.int .i64 0), .v (.int .i64 0), .v (.int .i64 0)])]), ?_, ?_⟩
   ·exact le_sparse rfl ⟨lR _, lR _, trivial⟩ ⟨rfl, trivial⟩ rfl
   ·exact ⟨lR _, trivial, rfl⟩
  ·replace h := of_br_f b18 h
   cbv
   replace h := of_bind h
   obtain ⟨y13, hy14, h⟩ := h
   refine ⟨{ args := [.agg [.v (.int .i64 a0.fOrientation), .v (.int .i64 a0.fX), .v (.int .i64 a0.fY)], .agg [.v (.int .i64 a1.fX0), .v (.int .i64 a1.fY0), .v (.int .i64 a1.fX1), .v (.int .i64 a1.fY1)]], o0 := [], r := .agg [.v (.int .i64 y13.fX0), .v (.int .i64 y13.fY0), .v (.int .i64 y13.fX1), .v (.int .i64 y13.fY1)], o1 := [], fl := true, σ := [], τ := [] }, hf_impl_moveRect _ _ _ hy14, ⟨les_cons (lR _) (les_cons (lR _) (les_nil)), trivial, rfl, rfl, rfl, rfl, trivial, rfl⟩, ?_⟩
   cbv
   replace h := of_bind h
   obtain ⟨y15, hy16, h⟩ := h
   refine ⟨{ args := [.agg [.v (.int .i64 y13.fX0), .v (.int .i64 y13.fY0), .v (.int .i64 y13.fX1), .v (.int .i64 y13.fY1)]], o0 := [], r := .c (.v (.bool y15)), o1 := [], fl := true, σ := [], τ := [] }, hf_impl_IsValidRect _ _ hy16, ⟨les_cons (lR _) (les_nil), trivial, rfl, rfl, rfl, rfl, trivial, rfl⟩, ?_⟩
   cbv
   refine fork (fun b17 => ?_) (fun b17 => ?_)
   ·replace h := of_br_t b17 h
    cbv
    injection h with h
    subst h
    refine ⟨(sparse 24 [(4, .c (.ptr 256 0)), (5, .c (.v (.bool false)))] [(256, .var [.v (.int .i64 0), .v (.int .i64 0), .v (.int .i64 0), .v (.int .i64 0)])]), ?_, ?_⟩
    ·exact le_sparse rfl ⟨lR _, lR _, trivial⟩ ⟨rfl, trivial⟩ rfl
    ·exact ⟨lR _, trivial, rfl⟩
   ·replace h := of_br_f b17 h
    cbv
    injection h with h
    subst h
    refine ⟨(sparse 24 [(4, .c (.ptr 256 0)), (5, .c (.v (.bool true)))] [(256, .var [.v (.int .i64 y13.fX0), .v (.int .i64 y13.fY0), .v (.int .i64 y13.fX1), .v (.int .i64 y13.fY1)])]), ?_, ?_⟩
    ·exact le_sparse rfl ⟨lR _, lR _, trivial⟩ ⟨rfl, trivial⟩ rfl
    ·exact ⟨lR _, trivial, rfl⟩

/-- laws.w5Around -/
noncomputable def F_laws_w5Around (a0 : TPoint) (a1 : Int) : Option (TRect) :=
 some (TRect.mk (std.imax (std.sub .i64 a0.fX a1) (-40)) (std.imax (std.sub .i64 a0.fY a1) (-40)) (std.imin (std.add .i64 (std.add .i64 a0.fX a1) 1) 40) (std.imin (std.add .i64 (std.add .i64 a0.fY a1) 1) 40))
theorem run_laws_w5Around (a0 : TPoint) (a1 : Int) (r : TRect) (h : F_laws_w5Around a0 a1 = some r) : Fun Try.prog 20 [.agg [.v (.int .i64 a0.fX), .v (.int .i64 a0.fY)], .c (.v (.int .i64 a1))] [] (.agg [.v (.int .i64 r.fX0), .v (.int .i64 r.fY0), .v (.int .i64 r.fX1), .v (.int .i64 r.fY1)]) [] true := by
 refine Fun.of_wp (oneOf []) tok mixed Try.func20 (by kernel_rfl) rfl Try.ntmps20 rfl trivial (fun _ => ⟨(by simp [AV.flat, AV.flat1, AC.flat]), trivial⟩) ?_
 unfold F_laws_w5Around at h
 generalize hLEN : @len = LEN at *
 generalize hGD : @gd = GD at *
 generalize hA : std = A at *
 generalize hP : Try.prog = P at *
 cbv
 injection h with h
 subst h
 refine ⟨(sparse 28 [(4, .c (.ptr 256 0))] [(256, .var [.v (.int .i64 (A.imax (A.sub .i64 a0.fX a1) (-40))), .v (.int .i64 (A.imax (A.sub .i64 a0.fY a1) (-40))), .v (.int .i64 (A.imin (A.add .i64 (A.add .i64 a0.fX a1) 1) 40)), .v (.int .i64 (A.imin (A.add .i64 (A.add .i64 a0.fY a1) 1) 40))])]), ?_, ?_⟩
 ·exact le_sparse rfl ⟨lR _, trivial⟩ ⟨rfl, trivial⟩ rfl
 ·exact ⟨lR _, trivial, rfl⟩

/-- impl.VisitedCount -/
noncomputable def F_impl_VisitedCount (a0 : TLibrary) (a1 : Int) (a2 : TRect) : Option (Int) :=
 ((
    (F_impl_hasCell a0 a1).bind fun y8 =>
    br (!(y8))
    (some true)
    ((F_impl_IsValidRect a2).bind fun y10 =>
    br (!(y10))
    (some true)
    ((F_impl_elementCount a0 a1).bind fun y12 =>
    some (std.lt 200 y12)))
  ) : Option (Bool)).bind fun y1 =>
 letO y1 fun w7 =>
 br w7
 (some (-1))
 ((F_impl_visited a0 a1 a2).bind fun y16 =>
 some (std.ofN (len y16)))
theorem run_impl_VisitedCount (a0 : TLibrary) (a1 : Int) (a2 : TRect) (r : Int) (h : F_impl_VisitedCount a0 a1 a2 = some r) : Fun Try.prog 19 [.agg [.bs (len a0.fCells) 4 (row gd (encCell len gd) a0.fCells)], .c (.v (.int .i64 a1)), .agg [.v (.int .i64 a2.fX0), .v (.int .i64 a2.fY0), .v (.int .i64 a2.fX1), .v (.int .i64 a2.fY1)]] [] (.c (.v (.int .i64 r))) [] true := by
 refine Fun.of_wp (oneOf [1]) tok mixed Try.func19 (by kernel_rfl) rfl Try.ntmps19 rfl trivial (fun _ => ⟨trivial, trivial⟩) ?_
 unfold F_impl_VisitedCount at h
 have hf_impl_IsValidRect := @run_impl_IsValidRect
 have hf_impl_elementCount := @run_impl_elementCount
 have hf_impl_hasCell := @run_impl_hasCell
 have hf_impl_visited := @run_impl_visited
 generalize hLEN : @len = LEN at *
 generalize hGD : @gd = GD at *
 generalize hA : std = A at *
 generalize hP : Try.prog = P at *
 cbv
 replace h := of_bind h
 obtain ⟨y1, hy2, h⟩ := h
 obtain ⟨S5, hS6⟩ : ∃ S, S = (sparse 27 [(1, .c (.v (.int .i64 a1))), (3, .c (.ptr 192 0)), (5, .c (.ptr 320 0)), (21, .c (.v (.bool y1)))] [(192, .var [.bs (LEN a0.fCells) 4 (row GD (encCell LEN GD) a0.fCells)]), (320, .var [.v (.int .i64 a2.fX0), .v (.int .i64 a2.fY0), .v (.int .i64 a2.fX1), .v (.int .i64 a2.fY1)])]) := ⟨_, rfl⟩
 refine ⟨S5, ?_, ?_⟩
 ·clear h
  have h := hy2
  clear hy2
  cbv
  replace h := of_bind h
  obtain ⟨y8, hy9, h⟩ := h
  refine ⟨{ args := [.agg [.bs (LEN a0.fCells) 4 (row GD (encCell LEN GD) a0.fCells)], .c (.v (.int .i64 a1))], o0 := [], r := .c (.v (.bool y8)), o1 := [], fl := true, σ := [], τ := [] }, hf_impl_hasCell _ _ _ hy9, ⟨les_cons (lR _) (les_cons (lR _) (les_nil)), trivial, rfl, rfl, rfl, rfl, trivial, rfl⟩, ?_⟩
  cbv
  refine fork (fun b15 => ?_) (fun b15 => ?_)
  ·replace h := of_br_t b15 h
   cbv
   injection h with h
   subst h
   subst hS6
   show St.le _ _
   exact le_sparse rfl ⟨lR _, lR _, lR _, lR _, trivial⟩ ⟨rfl, rfl, trivial⟩ rfl
  ·replace h := of_br_f b15 h
   cbv
   replace h := of_bind h
   obtain ⟨y10, hy11, h⟩ := h
   refine ⟨{ args := [.agg [.v (.int .i64 a2.fX0), .v (.int .i64 a2.fY0), .v (.int .i64 a2.fX1), .v (.int .i64 a2.fY1)]], o0 := [], r := .c (.v (.bool y10)), o1 := [], fl := true, σ := [], τ := [] }, hf_impl_IsValidRect _ _ hy11, ⟨les_cons (lR _) (les_nil), trivial, rfl, rfl, rfl, rfl, trivial, rfl⟩, ?_⟩
   cbv
   refine fork (fun b14 => ?_) (fun b14 => ?_)
   ·replace h := of_br_t b14 h
    cbv
    injection h with h
    subst h
    subst hS6
    show St.le _ _
    exact le_sparse rfl ⟨lR _, lR _, lR _, lR _, trivial⟩ ⟨rfl, rfl, trivial⟩ rfl
   ·replace h := of_br_f b14 h
    cbv
    replace h := of_bind h
    obtain ⟨y12, hy13, h⟩ := h
    refine ⟨{ args := [.agg [.bs (LEN a0.fCells) 4 (row GD (encCell LEN GD) a0.fCells)], .c (.v (.int .i64 a1))], o0 := [], r := .c (.v (.int .i64 y12)), o1 := [], fl := true, σ := [], τ := [] }, hf_impl_elementCount _ _ _ hy13, ⟨les_cons (lR _) (les_cons (lR _) (les_nil)), trivial, rfl, rfl, rfl, rfl, trivial, rfl⟩, ?_⟩
    cbv
    injection h with h
    subst h
    subst hS6
    show St.le _ _
    exact le_sparse rfl ⟨lR _, lR _, lR _, lR _, trivial⟩ ⟨rfl, rfl, trivial⟩ rfl
 ·clear hy2
  subst hS6
  replace h := of_let h
  obtain ⟨w7, hw7, h⟩ := h
  have hw7 : w7 = y1 := hw7
  subst hw7
  cbv
  refine fork (fun b18 => ?_) (fun b18 => ?_)
  ·replace h := of_br_t b18 h
   cbv
   injection h with h
   subst h
   refine ⟨(sparse 27 [(6, .c (.v (.int .i64 (-1))))] []), ?_, ?_⟩
   ·exact le_sparse rfl ⟨lR _, trivial⟩ trivial rfl
   ·exact ⟨lR _, trivial, rfl⟩
  ·replace h := of_br_f b18 h
   cbv
   replace h := of_bind h
   obtain ⟨y16, hy17, h⟩ := h
   refine ⟨{ args := [.agg [.bs (LEN a0.fCells) 4 (row GD (encCell LEN GD) a0.fCells)], .c (.v (.int .i64 a1)), .agg [.v (.int .i64 a2.fX0), .v (.int .i64 a2.fY0), .v (.int .i64 a2.fX1), .v (.int .i64 a2.fY1)]], o0 := [], r := .c (.os 64000 0 (LEN y16)), o1 := [(64000, .arr .rw [] (LEN y16) 5 (row GD (encOccurrence LEN GD) y16))], fl := false, σ := [], τ := [(64000, 1600)] }, hf_impl_visited _ _ _ _ hy17, ⟨les_cons (lR _) (les_cons (lR _) (les_cons (lR _) (les_nil))), trivial, rfl, rfl, rfl, rfl, ⟨fun h => absurd (show (64000 : Nat) % 2 = 1 from h) (by decide), trivial⟩, rfl⟩, _, rfl, _, _, rfl, fun _ _ _ _ => .refl _, ?_⟩
   cbv
   injection h with h
   subst h
   refine ⟨(sparse 27 [(6, .c (.v (.int .i64 (A.ofN (LEN y16)))))] []), ?_, ?_⟩
   ·exact le_sparse rfl ⟨lR _, trivial⟩ trivial rfl
   ·exact ⟨lR _, trivial, rfl⟩

noncomputable def L_laws_FnHitPaths_x8 (y3 : TLibrary × Int × TPoint) (y5 : (List TWindowHit) × Int) : (Int) → Option ((Int) ⊕ ((Unit) ⊕ (Unit))) := fun x8 =>
 letO x8 fun v7 =>
 br (std.lt v7 (std.ofN (len y5.1)))
 (((
    req (std.inR v7 (len y5.1)) <|
    (F_impl_PathPlace y3.1 y3.2.1 (gd y5.1 (std.nadd 0 (std.toN v7))).fPath).bind fun y33 =>
    some (y33.2, y33.1.fCell, y33.1.fPlace.fOrientation, y33.1.fPlace.fX, y33.1.fPlace.fY, y33.1.fPath)
  ) : Option (Int × Int × Int × Int × Int × (List Int))).bind fun y20 =>
 letO y20.1 fun w26 =>
 letO y20.2.1 fun w27 =>
 letO y20.2.2.1 fun w28 =>
 letO y20.2.2.2.1 fun w29 =>
 letO y20.2.2.2.2.1 fun w30 =>
 letO y20.2.2.2.2.2 fun w31 =>
 br (std.eq w26 2)
 (some (.inl (std.add .i64 v7 1)))
 (((
    br (std.not (std.eq w26 0))
    (some true)
    (req (std.inR v7 (len y5.1)) <|
    br (std.not (std.eq w27 (gd y5.1 (std.nadd 0 (std.toN v7))).fCell))
    (some true)
    (br (std.lt w27 0)
    (some true)
    (br (std.le (std.ofN (len y3.1.fCells)) w27)
    (some true)
    (req (std.inR v7 (len y5.1)) <|
    br (std.lt (gd y5.1 (std.nadd 0 (std.toN v7))).fShape 0)
    (some true)
    (req (std.inR v7 (len y5.1)) <|
    req (std.inR w27 (len y3.1.fCells)) <|
    some (std.le (std.ofN (len (gd y3.1.fCells (std.nadd 0 (std.toN w27))).fShapes)) (gd y5.1 (std.nadd 0 (std.toN v7))).fShape))))))
  ) : Option (Bool)).bind fun y35 =>
 letO y35 fun w41 =>
 br w41
 (some (.inr (.inl ())))
 (((
    req (std.inR w27 (len y3.1.fCells)) <|
    req (std.inR v7 (len y5.1)) <|
    req (std.inR (gd y5.1 (std.nadd 0 (std.toN v7))).fShape (len (gd y3.1.fCells (std.nadd 0 (std.toN w27))).fShapes)) <|
    some ((gd (gd y3.1.fCells (std.nadd 0 (std.toN w27))).fShapes (std.nadd 0 (std.toN (gd y5.1 (std.nadd 0 (std.toN v7))).fShape))).fLayer, (gd (gd y3.1.fCells (std.nadd 0 (std.toN w27))).fShapes (std.nadd 0 (std.toN (gd y5.1 (std.nadd 0 (std.toN v7))).fShape))).fBox.fX0, (gd (gd y3.1.fCells (std.nadd 0 (std.toN w27))).fShapes (std.nadd 0 (std.toN (gd y5.1 (std.nadd 0 (std.toN v7))).fShape))).fBox.fY0, (gd (gd y3.1.fCells (std.nadd 0 (std.toN w27))).fShapes (std.nadd 0 (std.toN (gd y5.1 (std.nadd 0 (std.toN v7))).fShape))).fBox.fX1, (gd (gd y3.1.fCells (std.nadd 0 (std.toN w27))).fShapes (std.nadd 0 (std.toN (gd y5.1 (std.nadd 0 (std.toN v7))).fShape))).fBox.fY1)
  ) : Option (Int × Int × Int × Int × Int)).bind fun y51 =>
 letO y51.1 fun w57 =>
 letO y51.2.1 fun w58 =>
 letO y51.2.2.1 fun w59 =>
 letO y51.2.2.2.1 fun w60 =>
 letO y51.2.2.2.2 fun w61 =>
 (F_impl_MoveRect (TTransform.mk w28 w29 w30) (TRect.mk w58 w59 w60 w61)).bind fun y65 =>
 ((
    req (std.inR v7 (len y5.1)) <|
    br (std.not (std.eq w57 (gd y5.1 (std.nadd 0 (std.toN v7))).fLayer))
    (some true)
    (br y65.2
    (req (std.inR v7 (len y5.1)) <|
    br (std.not (std.band (std.eq y65.1.fX0 (gd y5.1 (std.nadd 0 (std.toN v7))).fBox.fX0) (std.band (std.eq y65.1.fY0 (gd y5.1 (std.nadd 0 (std.toN v7))).fBox.fY0) (std.band (std.eq y65.1.fX1 (gd y5.1 (std.nadd 0 (std.toN v7))).fBox.fX1) (std.band (std.eq y65.1.fY1 (gd y5.1 (std.nadd 0 (std.toN v7))).fBox.fY1) (true))))))
    (some true)
    (br (std.lt 0 v7)
    (req (std.inR (std.sub .i64 v7 1) (len y5.1)) <|
    req (std.inR v7 (len y5.1)) <|
    some (std.lt (gd y5.1 (std.nadd 0 (std.toN (std.sub .i64 v7 1)))).fLayer (gd y5.1 (std.nadd 0 (std.toN v7))).fLayer))
    (some false)))
    (br (std.lt 0 v7)
    (req (std.inR (std.sub .i64 v7 1) (len y5.1)) <|
    req (std.inR v7 (len y5.1)) <|
    some (std.lt (gd y5.1 (std.nadd 0 (std.toN (std.sub .i64 v7 1)))).fLayer (gd y5.1 (std.nadd 0 (std.toN v7))).fLayer))
    (some false)))
  ) : Option (Bool)).bind fun y67 =>
 letO y67 fun w73 =>
 br w73
 (some (.inr (.inl ())))
 (some (.inl (std.add .i64 v7 1))))))
 (some (.inr (.inr ())))
/-- laws.FnHitPaths -/
noncomputable def F_laws_FnHitPaths (a0 : List Int) : Option (Bool) :=
 (F_laws_big a0).bind fun y1 =>
 br y1
 (some true)
 ((F_spec_DrawProbeUnit a0).bind fun y3 =>
 (F_impl_ProbeUnit y3.1 y3.2.1 y3.2.2).bind fun y5 =>
 br (std.not (std.eq y5.2 0))
 (some (std.eq (std.ofN (len y5.1)) 0))
 ((whileP (σ := Int) (ρ := (Unit) ⊕ (Unit)) (L_laws_FnHitPaths_x8 y3 y5) 0).bind fun y9 =>
 (match y9 with
  | .inl y9k0 => (
    some false)
  | .inr y9m0 =>
    (F_laws_w5Around y3.2.2 0).bind fun y89 =>
    (F_impl_VisitedCount y3.1 y3.2.1 y89).bind fun y91 =>
    some (std.lt 0 y91))))
set_option maxHeartbeats 4000000 in
theorem run_laws_FnHitPaths (a0 : List Int) (r : Bool) (h : F_laws_FnHitPaths a0 = some r) : Fun Try.prog 3 [.c (.bs (len a0) 1 (row gd (encI .u8) a0))] [] (.c (.v (.bool r))) [] true := by
 refine Fun.of_wp (oneOf [10, 12, 14, 16]) tok mixed Try.func3 (by kernel_rfl) rfl Try.ntmps3 rfl trivial (fun _ => ⟨trivial, trivial⟩) ?_
 unfold F_laws_FnHitPaths at h
 unfold L_laws_FnHitPaths_x8 at h
 have hf_impl_MoveRect := @run_impl_MoveRect
 have hf_impl_PathPlace := @run_impl_PathPlace
 have hf_impl_ProbeUnit := @run_impl_ProbeUnit
 have hf_impl_VisitedCount := @run_impl_VisitedCount
 have hf_laws_big := @run_laws_big
 have hf_laws_w5Around := @run_laws_w5Around
 have hf_spec_DrawProbeUnit := @run_spec_DrawProbeUnit
 generalize hLEN : @len = LEN at *
 generalize hGD : @gd = GD at *
 generalize hA : std = A at *
 generalize hP : Try.prog = P at *
 cbv
 replace h := of_bind h
 obtain ⟨y1, hy2, h⟩ := h
 refine ⟨{ args := [.c (.bs (LEN a0) 1 (row GD (encI .u8) a0))], o0 := [], r := .c (.v (.bool y1)), o1 := [], fl := true, σ := [], τ := [] }, hf_laws_big _ _ hy2, ⟨les_cons (lR _) (les_nil), trivial, rfl, rfl, rfl, rfl, trivial, rfl⟩, ?_⟩
 cbv
 refine fork (fun b94 => ?_) (fun b94 => ?_)
 ·replace h := of_br_t b94 h
  cbv
  injection h with h
  subst h
  refine ⟨(sparse 168 [(2, .c (.v (.bool true)))] []), ?_, ?_⟩
  ·exact le_sparse rfl ⟨lR _, trivial⟩ trivial rfl
  ·exact ⟨lR _, trivial, rfl⟩
 ·replace h := of_br_f b94 h
  cbv
  replace h := of_bind h
  obtain ⟨y3, hy4, h⟩ := h
  refine ⟨{ args := [.c (.bs (LEN a0) 1 (row GD (encI .u8) a0))], o0 := [], r := .tup [.agg [.os 64000 0 (LEN y3.1.fCells)], .c (.v (.int .i64 y3.2.1)), .agg [.v (.int .i64 y3.2.2.fX), .v (.int .i64 y3.2.2.fY)]], o1 := [(64000, .arr .rw [] (LEN y3.1.fCells) 4 (row GD (oncCell LEN GD) y3.1.fCells))], fl := true, σ := [], τ := [(64000, 1152)] }, hf_spec_DrawProbeUnit _ _ hy4, ⟨les_cons (lR _) (les_nil), trivial, rfl, rfl, rfl, rfl, ⟨fun h => absurd (show (64000 : Nat) % 2 = 1 from h) (by decide), trivial⟩, rfl⟩, _, rfl, _, _, rfl, fun _ _ _ _ => .refl _, ?_⟩
  cbv
  replace h := of_bind h
  obtain ⟨y5, hy6, h⟩ := h
  refine ⟨{ args := [.agg [.bs (LEN y3.1.fCells) 4 (row GD (encCell LEN GD) y3.1.fCells)], .c (.v (.int .i64 y3.2.1)), .agg [.v (.int .i64 y3.2.2.fX), .v (.int .i64 y3.2.2.fY)]], o0 := [], r := .tup [.c (.os 64000 0 (LEN y5.1)), .c (.v (.int .i64 y5.2))], o1 := [(64000, .arr .rw [] (LEN y5.1) 8 (row GD (oncWindowHit LEN GD) y5.1))], fl := true, σ := [], τ := [(64000, 1664)] }, hf_impl_ProbeUnit _ _ _ _ hy6, ⟨les_cons (le_agg ⟨give_osD (rf_oncCell) (ln_oncCell) rfl rfl rfl, trivial⟩) (les_cons (lR _) (les_cons (lR _) (les_nil))), trivial, rfl, rfl, rfl, rfl, ⟨fun h => absurd (show (64000 : Nat) % 2 = 1 from h) (by decide), trivial⟩, rfl⟩, _, rfl, _, _, rfl, fun _ _ _ _ => .refl _, ?_⟩
  cbv
  refine fork (fun b93 => ?_) (fun b93 => ?_)
  ·replace h := of_br_t b93 h
   cbv
   injection h with h
   subst h
   refine ⟨(sparse 168 [(2, .c (.v (.bool (A.eq (A.ofN (LEN y5.1)) 0))))] []), ?_, ?_⟩
   ·exact le_sparse rfl ⟨lR _, trivial⟩ trivial rfl
   ·exact ⟨lR _, trivial, rfl⟩
  ·replace h := of_br_f b93 h
   cbv
   replace h := of_bind h
   obtain ⟨y9, hr10, hN11⟩ := h
   refine loop_cut hr10 (fun x => (sparse 168 [(3, .c (.ptr 192 0)), (4, .c (.v (.int .i64 y3.2.1))), (5, .c (.ptr 320 0)), (6, .c (.os 1664 0 (LEN y5.1))), (8, .c (.v (.int .i64 x)))] [(192, .var [.os 1152 0 (LEN y3.1.fCells)]), (320, .var [.v (.int .i64 y3.2.2.fX), .v (.int .i64 y3.2.2.fY)]), (1664, .arr .rw [] (LEN y5.1) 8 (row GD (oncWindowHit LEN GD) y5.1)), (1152, .arr .rw [] (LEN y3.1.fCells) 4 (row GD (oncCell LEN GD) y3.1.fCells))])) ?_ (fun y e s => (match y with | .inl w => e = .ret ∧ s.le (sparse 168 [(2, .c (.v (.bool false)))] []) | .inr w0 => (fun (w : Unit) => e = .exit 0 ∧ s.le (sparse 168 [(3, .c (.ptr 192 0)), (4, .c (.v (.int .i64 y3.2.1))), (5, .c (.ptr 320 0))] [(192, .var [.os 1152 0 (LEN y3.1.fCells)]), (320, .var [.v (.int .i64 y3.2.2.fX), .v (.int .i64 y3.2.2.fY)]), (1152, .arr .rw [] (LEN y3.1.fCells) 4 (row GD (oncCell LEN GD) y3.1.fCells))])) w0)) ?_ ?_
   ·clear hr10 hN11
    show St.le _ _
    exact le_sparse rfl ⟨lR _, lR _, lR _, lR _, lR _, trivial⟩ ⟨rfl, rfl, oS, oS, trivial⟩ rfl
   ·clear hr10 hN11
    intro x z15 h K13 hK14 hY12
    replace h := of_let h
    obtain ⟨v7, hv7, h⟩ := h
    have hv7 : v7 = x := hv7
    subst hv7
    cbv
    refine fork (fun b88 => ?_) (fun b88 => ?_)
    ·replace h := of_br_t b88 h
     cbv
     replace h := of_bind h
     obtain ⟨y20, hy21, h⟩ := h
     obtain ⟨S24, hS25⟩ : ∃ S, S = (sparse 168 [(3, .c (.ptr 192 0)), (4, .c (.v (.int .i64 y3.2.1))), (5, .c (.ptr 320 0)), (6, .c (.os 1664 0 (LEN y5.1))), (8, .c (.v (.int .i64 v7))), (9, .c (.ptr 576 0)), (10, .c (.v (.int .i64 y20.1)))] [(192, .var [.os 1152 0 (LEN y3.1.fCells)]), (320, .var [.v (.int .i64 y3.2.2.fX), .v (.int .i64 y3.2.2.fY)]), (1664, .arr .rw [] (LEN y5.1) 8 (row GD (oncWindowHit LEN GD) y5.1)), (576, .var [.v (.int .i64 y20.2.1), .v (.int .i64 y20.2.2.1), .v (.int .i64 y20.2.2.2.1), .v (.int .i64 y20.2.2.2.2.1), .os 3072 0 (LEN y20.2.2.2.2.2)]), (1152, .arr .rw [] (LEN y3.1.fCells) 4 (row GD (oncCell LEN GD) y3.1.fCells)), (3072, .arr .rw [] (LEN y20.2.2.2.2.2) 1 (row GD (encI .i64) y20.2.2.2.2.2))]) := ⟨_, rfl⟩
     refine ⟨S24, ?_, ?_⟩
     ·clear h
      have h := hy21
      clear hy21
      cbv
      replace h := of_req h
      obtain ⟨c32, h⟩ := h
      refine ⟨⟨c32, trivial⟩, ?_⟩
      refine And.intro (by first | exact (by subst hA; exact idx_lt c32) | (refine And.intro (by subst hA; exact idx_lt c32) ?_; first | trivial | exact ⟨trivial, trivial⟩)) ?_
      refine ⟨_, rfl, _, (patchC (row GD (oncWindowHit LEN GD) y5.1) (A.nadd 0 (A.toN v7)) [.v (.int .i64 (GD y5.1 (A.nadd 0 (A.toN v7))).fCell), .v (.int .i64 (GD y5.1 (A.nadd 0 (A.toN v7))).fShape), .v (.int .i64 (GD y5.1 (A.nadd 0 (A.toN v7))).fLayer), .v (.int .i64 (GD y5.1 (A.nadd 0 (A.toN v7))).fBox.fX0), .v (.int .i64 (GD y5.1 (A.nadd 0 (A.toN v7))).fBox.fY0), .v (.int .i64 (GD y5.1 (A.nadd 0 (A.toN v7))).fBox.fX1), .v (.int .i64 (GD y5.1 (A.nadd 0 (A.toN v7))).fBox.fY1), .os 3010 0 (LEN (GD y5.1 (A.nadd 0 (A.toN v7))).fPath)]), rfl, wkOf ?_, ?_⟩
      ·refine patch_of ?_
       intro j hj
       match j, hj with | 0, _ => (rfl) | 1, _ => (rfl) | 2, _ => (rfl) | 3, _ => (rfl) | 4, _ => (rfl) | 5, _ => (rfl) | 6, _ => (rfl) | 7, _ => (rfl) | (j_ + 8), h_ => exact absurd h_ (by omega)
      refine ⟨_, row GD (encI .i64) (GD y5.1 (A.nadd 0 (A.toN v7))).fPath, rfl, wkOf ?_, ?_⟩
      ·exact fun i _ j _ => plain_cp (rfl)
      cbv
      replace h := of_bind h
      obtain ⟨y33, hy34, h⟩ := h
      refine ⟨{ args := [.agg [.bs (LEN y3.1.fCells) 4 (row GD (encCell LEN GD) y3.1.fCells)], .c (.v (.int .i64 y3.2.1)), .c (.bs (LEN (GD y5.1 (A.nadd 0 (A.toN v7))).fPath) 1 (row GD (encI .i64) (GD y5.1 (A.nadd 0 (A.toN v7))).fPath))], o0 := [], r := .tup [.agg [.v (.int .i64 y33.1.fCell), .v (.int .i64 y33.1.fPlace.fOrientation), .v (.int .i64 y33.1.fPlace.fX), .v (.int .i64 y33.1.fPlace.fY), .os 64000 0 (LEN y33.1.fPath)], .c (.v (.int .i64 y33.2))], o1 := [(64000, .arr .rw [] (LEN y33.1.fPath) 1 (row GD (encI .i64) y33.1.fPath))], fl := true, σ := [], τ := [(64000, 3072)] }, hf_impl_PathPlace _ _ _ _ hy34, ⟨les_cons (le_agg ⟨give_osD (rf_oncCell) (ln_oncCell) rfl rfl rfl, trivial⟩) (les_cons (lR _) (les_cons (give_os (fun _ _ => rfl) rfl rfl rfl) (les_nil))), trivial, rfl, rfl, rfl, rfl, ⟨fun h => absurd (show (64000 : Nat) % 2 = 1 from h) (by decide), trivial⟩, rfl⟩, _, rfl, _, _, rfl, fun _ _ _ _ => .refl _, ?_⟩
      cbv
      injection h with h
      subst h
      subst hS25
      show St.le _ _
      refine St.le_trans (le_foldP 1664 7 3010 rfl rfl rfl (by decide) (by subst hA; exact idx_lt c32) (by decide) rfl (fun _ _ => rf_oncWindowHit _ _)) ?_
      exact le_sparse rfl ⟨lR _, lR _, lR _, lR _, lR _, lR _, lR _, trivial⟩ ⟨rfl, rfl, ⟨fun hw => hw, fun c hc => (by cases hc), .inr (fun i _ j _ z hz => (noref (rf_oncWindowHit _ _) hz).elim), rfl, rfl, (by subst hGD hLEN hA; exact patch_same (by intro j hj; match j, hj with | 0, _ => rfl | 1, _ => rfl | 2, _ => rfl | 3, _ => rfl | 4, _ => rfl | 5, _ => rfl | 6, _ => rfl | 7, _ => rfl | (j_ + 8), h_ => exact absurd h_ (by omega)))⟩, rfl, oS, oS, trivial⟩ rfl
     ·clear hy21
      subst hS25
      obtain ⟨y20_0, y20_1, y20_2, y20_3, y20_4, y20_5⟩ := y20
      replace h := of_let h
      obtain ⟨w26, hw26, h⟩ := h
      have hw26 : w26 = y20_0 := hw26
      subst hw26
      replace h := of_let h
      obtain ⟨w27, hw27, h⟩ := h
      have hw27 : w27 = y20_1 := hw27
      subst hw27
      replace h := of_let h
      obtain ⟨w28, hw28, h⟩ := h
      have hw28 : w28 = y20_2 := hw28
      subst hw28
      replace h := of_let h
      obtain ⟨w29, hw29, h⟩ := h
      have hw29 : w29 = y20_3 := hw29
      subst hw29
      replace h := of_let h
      obtain ⟨w30, hw30, h⟩ := h
      have hw30 : w30 = y20_4 := hw30
      subst hw30
      replace h := of_let h
      obtain ⟨w31, hw31, h⟩ := h
      have hw31 : w31 = y20_5 := hw31
      subst hw31
      cbv
      refine fork (fun b87 => ?_) (fun b87 => ?_)
      ·replace h := of_br_t b87 h
       cbv
       refine ⟨_, St.le_refl _, ?_⟩
       cbv
       injection h with h
       refine hK14 _ h.symm _ ?_
       exact le_sparse rfl ⟨lR _, lR _, lR _, lR _, lR _, trivial⟩ ⟨rfl, rfl, oS, oS, trivial⟩ rfl
      ·replace h := of_br_f b87 h
       cbv
       replace h := of_bind h
       obtain ⟨y35, hy36, h⟩ := h
       obtain ⟨S39, hS40⟩ : ∃ S, S = (sparse 168 [(3, .c (.ptr 192 0)), (4, .c (.v (.int .i64 y3.2.1))), (5, .c (.ptr 320 0)), (6, .c (.os 1664 0 (LEN y5.1))), (8, .c (.v (.int .i64 v7))), (9, .c (.ptr 576 0)), (101, .c (.v (.bool y35)))] [(192, .var [.os 1152 0 (LEN y3.1.fCells)]), (320, .var [.v (.int .i64 y3.2.2.fX), .v (.int .i64 y3.2.2.fY)]), (1664, .arr .rw [] (LEN y5.1) 8 (row GD (oncWindowHit LEN GD) y5.1)), (576, .var [.v (.int .i64 w27), .v (.int .i64 w28), .v (.int .i64 w29), .v (.int .i64 w30), .os 3072 0 (LEN w31)]), (1152, .arr .rw [] (LEN y3.1.fCells) 4 (row GD (oncCell LEN GD) y3.1.fCells)), (3072, .arr .rw [] (LEN w31) 1 (row GD (encI .i64) w31))]) := ⟨_, rfl⟩
       refine ⟨S39, ?_, ?_⟩
       ·clear h
        have h := hy36
        clear hy36
        cbv
        refine fork (fun b50 => ?_) (fun b50 => ?_)
        ·replace h := of_br_t b50 h
         cbv
         injection h with h
         subst h
         subst hS40
         show St.le _ _
         exact le_sparse rfl ⟨lR _, lR _, lR _, lR _, lR _, lR _, lR _, trivial⟩ ⟨rfl, rfl, oS, rfl, oS, oS, trivial⟩ rfl
        ·replace h := of_br_f b50 h
         cbv
         replace h := of_req h
         obtain ⟨c42, h⟩ := h
         refine ⟨⟨c42, trivial⟩, ?_⟩
         refine And.intro (by first | exact (by subst hA; exact idx_lt c42) | (refine And.intro (by subst hA; exact idx_lt c42) ?_; first | trivial | exact ⟨trivial, trivial⟩)) ?_
         refine fork (fun b49 => ?_) (fun b49 => ?_)
         ·replace h := of_br_t b49 h
          cbv
          injection h with h
          subst h
          subst hS40
          show St.le _ _
          exact le_sparse rfl ⟨lR _, lR _, lR _, lR _, lR _, lR _, lR _, trivial⟩ ⟨rfl, rfl, oS, rfl, oS, oS, trivial⟩ rfl
         ·replace h := of_br_f b49 h
          cbv
          refine fork (fun b48 => ?_) (fun b48 => ?_)
          ·replace h := of_br_t b48 h
           cbv
           injection h with h
           subst h
           subst hS40
           show St.le _ _
           exact le_sparse rfl ⟨lR _, lR _, lR _, lR _, lR _, lR _, lR _, trivial⟩ ⟨rfl, rfl, oS, rfl, oS, oS, trivial⟩ rfl
          ·replace h := of_br_f b48 h
           cbv
           refine fork (fun b47 => ?_) (fun b47 => ?_)
           ·replace h := of_br_t b47 h
            cbv
            injection h with h
            subst h
            subst hS40
            show St.le _ _
            exact le_sparse rfl ⟨lR _, lR _, lR _, lR _, lR _, lR _, lR _, trivial⟩ ⟨rfl, rfl, oS, rfl, oS, oS, trivial⟩ rfl
           ·replace h := of_br_f b47 h
            cbv
            replace h := of_req h
            obtain ⟨c43, h⟩ := h
            refine ⟨⟨c43, trivial⟩, ?_⟩
            refine And.intro (by first | exact (by subst hA; exact idx_lt c43) | (refine And.intro (by subst hA; exact idx_lt c43) ?_; first | trivial | exact ⟨trivial, trivial⟩)) ?_
            refine fork (fun b46 => ?_) (fun b46 => ?_)
            ·replace h := of_br_t b46 h
             cbv
             injection h with h
             subst h
             subst hS40
             show St.le _ _
             exact le_sparse rfl ⟨lR _, lR _, lR _, lR _, lR _, lR _, lR _, trivial⟩ ⟨rfl, rfl, oS, rfl, oS, oS, trivial⟩ rfl
            ·replace h := of_br_f b46 h
             cbv
             replace h := of_req h
             obtain ⟨c44, h⟩ := h
             refine ⟨⟨c44, trivial⟩, ?_⟩
             refine And.intro (by first | exact (by subst hA; exact idx_lt c44) | (refine And.intro (by subst hA; exact idx_lt c44) ?_; first | trivial | exact ⟨trivial, trivial⟩)) ?_
             replace h := of_req h
             obtain ⟨c45, h⟩ := h
             refine ⟨⟨c45, trivial⟩, ?_⟩
             refine And.intro (by first | exact (by subst hA; exact idx_lt c45) | (refine And.intro (by subst hA; exact idx_lt c45) ?_; first | trivial | exact ⟨trivial, trivial⟩)) ?_
             refine ⟨_, rfl, _, (patchC (row GD (oncCell LEN GD) y3.1.fCells) (A.nadd 0 (A.toN w27)) [.v (.string (GD y3.1.fCells (A.nadd 0 (A.toN w27))).fName), .os 6274 0 (LEN (GD y3.1.fCells (A.nadd 0 (A.toN w27))).fShapes), .ow (LEN (GD y3.1.fCells (A.nadd 0 (A.toN w27))).fLabels) 4 (row GD (encLabel) (GD y3.1.fCells (A.nadd 0 (A.toN w27))).fLabels), .ow (LEN (GD y3.1.fCells (A.nadd 0 (A.toN w27))).fInstances) 8 (row GD (encInstance) (GD y3.1.fCells (A.nadd 0 (A.toN w27))).fInstances)]), rfl, wkOf ?_, ?_⟩
             ·refine patch_of ?_
              intro j hj
              match j, hj with | 0, _ => (rfl) | 1, _ => (rfl) | 2, _ => (rfl) | 3, _ => (rfl) | (j_ + 4), h_ => exact absurd h_ (by omega)
             refine ⟨_, row GD (encShape) (GD y3.1.fCells (A.nadd 0 (A.toN w27))).fShapes, rfl, wkOf ?_, ?_⟩
             ·exact fun i _ j _ => plain_cp (pl_encShape _ _)
             cbv
             injection h with h
             subst h
             subst hS40
             show St.le _ _
             refine St.le_trans (le_foldP 1152 1 6274 rfl rfl rfl (by decide) (by subst hA; exact idx_lt c45) (by decide) rfl (fun _ _ => rf_oncCell _ _)) ?_
             exact le_sparse rfl ⟨lR _, lR _, lR _, lR _, lR _, lR _, lR _, trivial⟩ ⟨rfl, rfl, oS, rfl, ⟨fun hw => hw, fun c hc => (by cases hc), .inr (fun i _ j _ z hz => (noref (rf_oncCell _ _) hz).elim), rfl, rfl, (by subst hGD hLEN hA; exact patch_same (by intro j hj; match j, hj with | 0, _ => rfl | 1, _ => rfl | 2, _ => rfl | 3, _ => rfl | (j_ + 4), h_ => exact absurd h_ (by omega)))⟩, oS, trivial⟩ rfl
       ·clear hy36
        subst hS40
        replace h := of_let h
        obtain ⟨w41, hw41, h⟩ := h
        have hw41 : w41 = y35 := hw41
        subst hw41
        cbv
        refine fork (fun b86 => ?_) (fun b86 => ?_)
        ·replace h := of_br_t b86 h
         cbv
         injection h with h
         refine hY12 _ h.symm _ _ (And.intro rfl ?_) (by intro hh; cases hh)
         exact le_sparse rfl ⟨lR _, trivial⟩ trivial rfl
        ·replace h := of_br_f b86 h
         cbv
         replace h := of_bind h
         obtain ⟨y51, hy52, h⟩ := h
         obtain ⟨S55, hS56⟩ : ∃ S, S = (sparse 168 [(3, .c (.ptr 192 0)), (4, .c (.v (.int .i64 y3.2.1))), (5, .c (.ptr 320 0)), (6, .c (.os 1664 0 (LEN y5.1))), (8, .c (.v (.int .i64 v7))), (9, .c (.ptr 576 0)), (11, .c (.ptr 704 0))] [(192, .var [.os 1152 0 (LEN y3.1.fCells)]), (320, .var [.v (.int .i64 y3.2.2.fX), .v (.int .i64 y3.2.2.fY)]), (1664, .arr .rw [] (LEN y5.1) 8 (row GD (oncWindowHit LEN GD) y5.1)), (576, .var [.v (.int .i64 w27), .v (.int .i64 w28), .v (.int .i64 w29), .v (.int .i64 w30), .os 3072 0 (LEN w31)]), (704, .var [.v (.int .i64 y51.1), .v (.int .i64 y51.2.1), .v (.int .i64 y51.2.2.1), .v (.int .i64 y51.2.2.2.1), .v (.int .i64 y51.2.2.2.2)]), (1152, .arr .rw [] (LEN y3.1.fCells) 4 (row GD (oncCell LEN GD) y3.1.fCells)), (3072, .arr .rw [] (LEN w31) 1 (row GD (encI .i64) w31))]) := ⟨_, rfl⟩
         refine ⟨S55, ?_, ?_⟩
         ·clear h
          have h := hy52
          clear hy52
          cbv
          replace h := of_req h
          obtain ⟨c62, h⟩ := h
          refine ⟨⟨c62, trivial⟩, ?_⟩
          refine And.intro (by first | exact (by subst hA; exact idx_lt c62) | (refine And.intro (by subst hA; exact idx_lt c62) ?_; first | trivial | exact ⟨trivial, trivial⟩)) ?_
          refine ⟨_, rfl, _, (patchC (row GD (oncCell LEN GD) y3.1.fCells) (A.nadd 0 (A.toN w27)) [.v (.string (GD y3.1.fCells (A.nadd 0 (A.toN w27))).fName), .os 6914 0 (LEN (GD y3.1.fCells (A.nadd 0 (A.toN w27))).fShapes), .ow (LEN (GD y3.1.fCells (A.nadd 0 (A.toN w27))).fLabels) 4 (row GD (encLabel) (GD y3.1.fCells (A.nadd 0 (A.toN w27))).fLabels), .ow (LEN (GD y3.1.fCells (A.nadd 0 (A.toN w27))).fInstances) 8 (row GD (encInstance) (GD y3.1.fCells (A.nadd 0 (A.toN w27))).fInstances)]), rfl, wkOf ?_, ?_⟩
          ·refine patch_of ?_
           intro j hj
           match j, hj with | 0, _ => (rfl) | 1, _ => (rfl) | 2, _ => (rfl) | 3, _ => (rfl) | (j_ + 4), h_ => exact absurd h_ (by omega)
          refine ⟨_, row GD (encShape) (GD y3.1.fCells (A.nadd 0 (A.toN w27))).fShapes, rfl, wkOf ?_, ?_⟩
          ·exact fun i _ j _ => plain_cp (pl_encShape _ _)
          cbv
          replace h := of_req h
          obtain ⟨c63, h⟩ := h
          refine ⟨⟨c63, trivial⟩, ?_⟩
          refine And.intro (by first | exact (by subst hA; exact idx_lt c63) | (refine And.intro (by subst hA; exact idx_lt c63) ?_; first | trivial | exact ⟨trivial, trivial⟩)) ?_
          replace h := of_req h
          obtain ⟨c64, h⟩ := h
          refine ⟨⟨c64, trivial⟩, ?_⟩
          refine And.intro (by first | exact (by subst hA; exact idx_lt c64) | (refine And.intro (by subst hA; exact idx_lt c64) ?_; first | trivial | exact ⟨trivial, trivial⟩)) ?_
          injection h with h
          subst h
          subst hS56
          show St.le _ _
          refine St.le_trans (le_foldP 1152 1 6914 rfl rfl rfl (by decide) (by subst hA; exact idx_lt c62) (by decide) rfl (fun _ _ => rf_oncCell _ _)) ?_
          exact le_sparse rfl ⟨lR _, lR _, lR _, lR _, lR _, lR _, lR _, trivial⟩ ⟨rfl, rfl, oS, rfl, rfl, ⟨fun hw => hw, fun c hc => (by cases hc), .inr (fun i _ j _ z hz => (noref (rf_oncCell _ _) hz).elim), rfl, rfl, (by subst hGD hLEN hA; exact patch_same (by intro j hj; match j, hj with | 0, _ => rfl | 1, _ => rfl | 2, _ => rfl | 3, _ => rfl | (j_ + 4), h_ => exact absurd h_ (by omega)))⟩, oS, trivial⟩ rfl
         ·clear hy52
          subst hS56
          obtain ⟨y51_0, y51_1, y51_2, y51_3, y51_4⟩ := y51
          replace h := of_let h
          obtain ⟨w57, hw57, h⟩ := h
          have hw57 : w57 = y51_0 := hw57
          subst hw57
          replace h := of_let h
          obtain ⟨w58, hw58, h⟩ := h
          have hw58 : w58 = y51_1 := hw58
          subst hw58
          replace h := of_let h
          obtain ⟨w59, hw59, h⟩ := h
          have hw59 : w59 = y51_2 := hw59
          subst hw59
          replace h := of_let h
          obtain ⟨w60, hw60, h⟩ := h
          have hw60 : w60 = y51_3 := hw60
          subst hw60
          replace h := of_let h
          obtain ⟨w61, hw61, h⟩ := h
          have hw61 : w61 = y51_4 := hw61
          subst hw61
          cbv
          replace h := of_bind h
          obtain ⟨y65, hy66, h⟩ := h
          refine ⟨{ args := [.agg [.v (.int .i64 w28), .v (.int .i64 w29), .v (.int .i64 w30)], .agg [.v (.int .i64 w58), .v (.int .i64 w59), .v (.int .i64 w60), .v (.int .i64 w61)]], o0 := [], r := .tup [.agg [.v (.int .i64 y65.1.fX0), .v (.int .i64 y65.1.fY0), .v (.int .i64 y65.1.fX1), .v (.int .i64 y65.1.fY1)], .c (.v (.bool y65.2))], o1 := [], fl := true, σ := [], τ := [] }, hf_impl_MoveRect _ _ _ hy66, ⟨les_cons (lR _) (les_cons (lR _) (les_nil)), trivial, rfl, rfl, rfl, rfl, trivial, rfl⟩, ?_⟩
          cbv
          replace h := of_bind h
          obtain ⟨y67, hy68, h⟩ := h
          obtain ⟨S71, hS72⟩ : ∃ S, S = (sparse 168 [(3, .c (.ptr 192 0)), (4, .c (.v (.int .i64 y3.2.1))), (5, .c (.ptr 320 0)), (6, .c (.os 1664 0 (LEN y5.1))), (8, .c (.v (.int .i64 v7))), (161, .c (.v (.bool y67)))] [(192, .var [.os 1152 0 (LEN y3.1.fCells)]), (320, .var [.v (.int .i64 y3.2.2.fX), .v (.int .i64 y3.2.2.fY)]), (1664, .arr .rw [] (LEN y5.1) 8 (row GD (oncWindowHit LEN GD) y5.1)), (1152, .arr .rw [] (LEN y3.1.fCells) 4 (row GD (oncCell LEN GD) y3.1.fCells))]) := ⟨_, rfl⟩
          refine ⟨S71, ?_, ?_⟩
          ·clear h
           have h := hy68
           clear hy68
           cbv
           replace h := of_req h
           obtain ⟨c74, h⟩ := h
           refine ⟨⟨c74, trivial⟩, ?_⟩
           refine And.intro (by first | exact (by subst hA; exact idx_lt c74) | (refine And.intro (by subst hA; exact idx_lt c74) ?_; first | trivial | exact ⟨trivial, trivial⟩)) ?_
           refine fork (fun b84 => ?_) (fun b84 => ?_)
           ·replace h := of_br_t b84 h
            cbv
            injection h with h
            subst h
            subst hS72
            show St.le _ _
            exact le_sparse rfl ⟨lR _, lR _, lR _, lR _, lR _, lR _, trivial⟩ ⟨rfl, rfl, oS, oS, trivial⟩ rfl
           ·replace h := of_br_f b84 h
            cbv
            refine fork (fun b83 => ?_) (fun b83 => ?_)
            ·replace h := of_br_t b83 h
             cbv
             replace h := of_req h
             obtain ⟨c75, h⟩ := h
             refine ⟨⟨c75, trivial⟩, ?_⟩
             refine And.intro (by first | exact (by subst hA; exact idx_lt c75) | (refine And.intro (by subst hA; exact idx_lt c75) ?_; first | trivial | exact ⟨trivial, trivial⟩)) ?_
             refine fork (fun b79 => ?_) (fun b79 => ?_)
             ·replace h := of_br_t b79 h
              cbv
              injection h with h
              subst h
              subst hS72
              show St.le _ _
              exact le_sparse rfl ⟨lR _, lR _, lR _, lR _, lR _, lR _, trivial⟩ ⟨rfl, rfl, oS, oS, trivial⟩ rfl
             ·replace h := of_br_f b79 h
              cbv
              refine fork (fun b78 => ?_) (fun b78 => ?_)
              ·replace h := of_br_t b78 h
               cbv
               replace h := of_req h
               obtain ⟨c76, h⟩ := h
               refine ⟨⟨c76, trivial⟩, ?_⟩
               refine And.intro (by first | exact (by subst hA; exact idx_lt c76) | (refine And.intro (by subst hA; exact idx_lt c76) ?_; first | trivial | exact ⟨trivial, trivial⟩)) ?_
               replace h := of_req h
               obtain ⟨c77, h⟩ := h
               refine ⟨⟨c77, trivial⟩, ?_⟩
               refine And.intro (by first | exact (by subst hA; exact idx_lt c77) | (refine And.intro (by subst hA; exact idx_lt c77) ?_; first | trivial | exact ⟨trivial, trivial⟩)) ?_
               injection h with h
               subst h
               subst hS72
               show St.le _ _
               exact le_sparse rfl ⟨lR _, lR _, lR _, lR _, lR _, lR _, trivial⟩ ⟨rfl, rfl, oS, oS, trivial⟩ rfl
              ·replace h := of_br_f b78 h
               cbv
               injection h with h
               subst h
               subst hS72
               show St.le _ _
               exact le_sparse rfl ⟨lR _, lR _, lR _, lR _, lR _, lR _, trivial⟩ ⟨rfl, rfl, oS, oS, trivial⟩ rfl
            ·replace h := of_br_f b83 h
             cbv
             refine fork (fun b82 => ?_) (fun b82 => ?_)
             ·replace h := of_br_t b82 h
              cbv
              replace h := of_req h
              obtain ⟨c80, h⟩ := h
              refine ⟨⟨c80, trivial⟩, ?_⟩
              refine And.intro (by first | exact (by subst hA; exact idx_lt c80) | (refine And.intro (by subst hA; exact idx_lt c80) ?_; first | trivial | exact ⟨trivial, trivial⟩)) ?_
              replace h := of_req h
              obtain ⟨c81, h⟩ := h
              refine ⟨⟨c81, trivial⟩, ?_⟩
              refine And.intro (by first | exact (by subst hA; exact idx_lt c81) | (refine And.intro (by subst hA; exact idx_lt c81) ?_; first | trivial | exact ⟨trivial, trivial⟩)) ?_
              injection h with h
              subst h
              subst hS72
              show St.le _ _
              exact le_sparse rfl ⟨lR _, lR _, lR _, lR _, lR _, lR _, trivial⟩ ⟨rfl, rfl, oS, oS, trivial⟩ rfl
             ·replace h := of_br_f b82 h
              cbv
              injection h with h
              subst h
              subst hS72
              show St.le _ _
              exact le_sparse rfl ⟨lR _, lR _, lR _, lR _, lR _, lR _, trivial⟩ ⟨rfl, rfl, oS, oS, trivial⟩ rfl
          ·clear hy68
           subst hS72
           replace h := of_let h
           obtain ⟨w73, hw73, h⟩ := h
           have hw73 : w73 = y67 := hw73
           subst hw73
           cbv
           refine fork (fun b85 => ?_) (fun b85 => ?_)
           ·replace h := of_br_t b85 h
            cbv
            injection h with h
            refine hY12 _ h.symm _ _ (And.intro rfl ?_) (by intro hh; cases hh)
            exact le_sparse rfl ⟨lR _, trivial⟩ trivial rfl
           ·replace h := of_br_f b85 h
            cbv
            injection h with h
            refine hK14 _ h.symm _ ?_
            exact le_sparse rfl ⟨lR _, lR _, lR _, lR _, lR _, trivial⟩ ⟨rfl, rfl, oS, oS, trivial⟩ rfl
    ·replace h := of_br_f b88 h
     cbv
     injection h with h
     refine hY12 _ h.symm _ _ (And.intro rfl ?_) (by intro hh; cases hh)
     exact le_sparse rfl ⟨lR _, lR _, lR _, trivial⟩ ⟨rfl, rfl, oS, trivial⟩ rfl
   ·clear hr10
    have h := hN11
    clear hN11
    intro e18 s19 q17 hne
    rcases y9 with y9k0 | y9m0
    ·replace h := h
     obtain ⟨rfl, q17⟩ := q17
     cbv
     injection h with h
     subst h
     refine ⟨(sparse 168 [(2, .c (.v (.bool false)))] []), ?_, ?_⟩
     ·refine St.le_trans q17 ?_
      exact le_sparse rfl ⟨lR _, trivial⟩ trivial rfl
     ·exact ⟨lR _, trivial, rfl⟩
    ·obtain ⟨rfl, q17⟩ := q17
     cbv
     refine ⟨_, q17, ?_⟩
     cbv
     replace h := of_bind h
     obtain ⟨y89, hy90, h⟩ := h
     refine ⟨{ args := [.agg [.v (.int .i64 y3.2.2.fX), .v (.int .i64 y3.2.2.fY)], .c (.v (.int .i64 0))], o0 := [], r := .agg [.v (.int .i64 y89.fX0), .v (.int .i64 y89.fY0), .v (.int .i64 y89.fX1), .v (.int .i64 y89.fY1)], o1 := [], fl := true, σ := [], τ := [] }, hf_laws_w5Around _ _ _ hy90, ⟨les_cons (lR _) (les_cons (lR _) (les_nil)), trivial, rfl, rfl, rfl, rfl, trivial, rfl⟩, ?_⟩
     cbv
     replace h := of_bind h
     obtain ⟨y91, hy92, h⟩ := h
     refine ⟨{ args := [.agg [.bs (LEN y3.1.fCells) 4 (row GD (encCell LEN GD) y3.1.fCells)], .c (.v (.int .i64 y3.2.1)), .agg [.v (.int .i64 y89.fX0), .v (.int .i64 y89.fY0), .v (.int .i64 y89.fX1), .v (.int .i64 y89.fY1)]], o0 := [], r := .c (.v (.int .i64 y91)), o1 := [], fl := true, σ := [], τ := [] }, hf_impl_VisitedCount _ _ _ _ hy92, ⟨les_cons (le_agg ⟨give_osD (rf_oncCell) (ln_oncCell) rfl rfl rfl, trivial⟩) (les_cons (lR _) (les_cons (lR _) (les_nil))), trivial, rfl, rfl, rfl, rfl, trivial, rfl⟩, ?_⟩
     cbv
     injection h with h
     subst h
     refine ⟨(sparse 168 [(2, .c (.v (.bool (A.lt 0 y91))))] []), ?_, ?_⟩
     ·exact le_sparse rfl ⟨lR _, trivial⟩ trivial rfl
     ·exact ⟨lR _, trivial, rfl⟩
theorem op_5 (d : Nat) : Opens T (d + 1) 5 (clI .u8) (wfI .u8) := op_int .u8 (show T 5 = some d5 from rfl) rfl
theorem op_22 (d : Nat) : Opens T (d + 2) 22 (clL 1 (encI .u8)) (wfL (wfI .u8)) := op_slice (e := 5) (sz := 1) (show T 22 = some d22 from rfl) rfl (show T 5 = some d5 from rfl) rfl (fun x j hj => by match j, hj with | 0, _ => rfl | (j_ + 1), h_ => exact absurd h_ (by omega)) (op_5 d)
theorem open_22 {H : Type} {enc : TypeId × Value → H} {W : World} {spare : Nat → Bool} {held : Bool} {r : Reach} {base : Nat} {v : Value} {x : DataW H} {ps : List MemPlace}
    (hv : Value.okWide Try.prog W r base 22 v) (h : DataW.Trod enc Try.prog W 0 spare held 22 v x ps) : ∃ e : List Int, (wfL (wfI .u8)) e ∧ RelV (RelI (fun b => b < W.heap.size) W) (.c (.bs (len e) 1 (row gd (encI .u8) e))) v := by
  refine opened_one tok (op_22 0) (fun _ => rfl) (by kernel_rfl) ?_ h
  have ht : Try.prog.underlying 22 = some (.slice 5) := (tok 22 d22 rfl).1
  unfold Value.okWide at hv
  rw [ht] at hv
  cases v <;> first | rfl | exact False.elim hv
end Go.Proofs.Ytlenieingkfjaaa.AM
