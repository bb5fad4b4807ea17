/-
  What the functions that the law reaches compute, and that they do. No condition.
-/
import Derived.Test.YtlenieingkfjaaaAmWW
namespace Go.Proofs.Ytlenieingkfjaaa.AM
open Go Go.Proofs Go.RowKit
set_option linter.unusedVariables false
set_option linter.unusedSimpArgs false
set_option maxRecDepth 100000

/-- impl.move -/
noncomputable def F_impl_move (a0 : TTransform) (a1 : TPoint) : Option (TPoint) :=
 (F_impl_turn a0.fOrientation a1).bind fun y1 =>
 some (TPoint.mk (std.add .i64 y1.fX a0.fX) (std.add .i64 y1.fY a0.fY))
theorem run_impl_move (a0 : TTransform) (a1 : TPoint) (r : TPoint) (h : F_impl_move a0 a1 = some r) : Fun Try.prog 132 [.agg [.v (.int .i64 a0.fOrientation), .v (.int .i64 a0.fX), .v (.int .i64 a0.fY)], .agg [.v (.int .i64 a1.fX), .v (.int .i64 a1.fY)]] [] (.agg [.v (.int .i64 r.fX), .v (.int .i64 r.fY)]) [] true := by
 refine Fun.of_wp (oneOf []) tok mixed Try.func132 (by kernel_rfl) rfl Try.ntmps132 rfl trivial (fun _ => ⟨(by simp [AV.flat, AV.flat1, AC.flat]), trivial⟩) ?_
 unfold F_impl_move at h
 have hf_impl_turn := @run_impl_turn
 generalize hLEN : @len = LEN at *
 generalize hGD : @gd = GD at *
 generalize hA : std = A at *
 generalize hP : Try.prog = P at *
 cbv
 replace h := of_bind h
 obtain ⟨y1, hy2, h⟩ := h
 refine ⟨{ args := [.c (.v (.int .i64 a0.fOrientation)), .agg [.v (.int .i64 a1.fX), .v (.int .i64 a1.fY)]], o0 := [], r := .agg [.v (.int .i64 y1.fX), .v (.int .i64 y1.fY)], o1 := [], fl := true, σ := [], τ := [] }, hf_impl_turn _ _ _ hy2, ⟨les_cons (lR _) (les_cons (lR _) (les_nil)), trivial, rfl, rfl, rfl, rfl, trivial, rfl⟩, ?_⟩
 cbv
 injection h with h
 subst h
 refine ⟨(sparse 20 [(4, .c (.ptr 256 0))] [(256, .var [.v (.int .i64 (A.add .i64 y1.fX a0.fX)), .v (.int .i64 (A.add .i64 y1.fY a0.fY))])]), ?_, ?_⟩
 ·exact le_sparse rfl ⟨lR _, trivial⟩ ⟨rfl, trivial⟩ rfl
 ·exact ⟨lR _, trivial, rfl⟩

/-- impl.composed -/
noncomputable def F_impl_composed (a0 : Int) (a1 : Int) : Option (Int) :=
 req (std.nz 4) <|
 req (std.nz 4) <|
 ((
    br (std.le 4 a1)
    (req (std.nz 4) <|
    req (std.nz 4) <|
    some (std.sub .i64 (std.add .i64 (std.rem a1 4) 4) (std.rem a0 4)))
    (some (std.add .i64 (std.rem a1 4) (std.rem a0 4)))
  ) : Option (Int)).bind fun y3 =>
 letO y3 fun w9 =>
 req (std.nz 4) <|
 ((
    br (std.not (std.beq (std.le 4 a0) (std.le 4 a1)))
    (some (std.add .i64 (std.rem w9 4) 4))
    (some (std.rem w9 4))
  ) : Option (Int)).bind fun y14 =>
 letO y14 fun w20 =>
 some w20
theorem run_impl_composed (a0 : Int) (a1 : Int) (r : Int) (h : F_impl_composed a0 a1 = some r) : Fun Try.prog 133 [.c (.v (.int .i64 a0)), .c (.v (.int .i64 a1))] [] (.c (.v (.int .i64 r))) [] true := by
 refine Fun.of_wp (oneOf [100013, 100026]) tok mixed Try.func133 (by kernel_rfl) rfl Try.ntmps133 rfl trivial (fun _ => ⟨trivial, trivial⟩) ?_
 unfold F_impl_composed at h
 generalize hLEN : @len = LEN at *
 generalize hGD : @gd = GD at *
 generalize hA : std = A at *
 generalize hP : Try.prog = P at *
 cbv
 replace h := of_req h
 obtain ⟨c1, h⟩ := h
 refine ⟨c1, ?_⟩
 replace h := of_req h
 obtain ⟨c2, h⟩ := h
 refine ⟨c2, ?_⟩
 replace h := of_bind h
 obtain ⟨y3, hy4, h⟩ := h
 obtain ⟨S7, hS8⟩ : ∃ S, S = some (sparse 30 [(0, .c (.v (.int .i64 a0))), (1, .c (.v (.int .i64 a1))), (5, .c (.v (.int .i64 y3)))] []) := ⟨_, rfl⟩
 refine ⟨S7, ?_, ?_⟩
 ·clear h
  have h := hy4
  clear hy4
  cbv
  refine fork (fun b12 => ?_) (fun b12 => ?_)
  ·replace h := of_br_t b12 h
   cbv
   replace h := of_req h
   obtain ⟨c10, h⟩ := h
   refine ⟨c10, ?_⟩
   replace h := of_req h
   obtain ⟨c11, h⟩ := h
   refine ⟨c11, ?_⟩
   injection h with h
   subst h
   subst hS8
   show St.le _ _
   exact le_sparse rfl ⟨lR _, lR _, lR _, trivial⟩ trivial rfl
  ·replace h := of_br_f b12 h
   cbv
   injection h with h
   subst h
   subst hS8
   show St.le _ _
   exact le_sparse rfl ⟨lR _, lR _, lR _, trivial⟩ trivial rfl
 ·clear hy4
  subst hS8
  replace h := of_let h
  obtain ⟨w9, hw9, h⟩ := h
  have hw9 : w9 = y3 := hw9
  subst hw9
  cbv
  replace h := of_req h
  obtain ⟨c13, h⟩ := h
  refine ⟨c13, ?_⟩
  replace h := of_bind h
  obtain ⟨y14, hy15, h⟩ := h
  obtain ⟨S18, hS19⟩ : ∃ S, S = some (sparse 30 [(6, .c (.v (.int .i64 y14)))] []) := ⟨_, rfl⟩
  refine ⟨S18, ?_, ?_⟩
  ·clear h
   have h := hy15
   clear hy15
   cbv
   refine fork (fun b21 => ?_) (fun b21 => ?_)
   ·replace h := of_br_t b21 h
    cbv
    injection h with h
    subst h
    subst hS19
    show St.le _ _
    exact le_sparse rfl ⟨lR _, trivial⟩ trivial rfl
   ·replace h := of_br_f b21 h
    cbv
    injection h with h
    subst h
    subst hS19
    show St.le _ _
    exact le_sparse rfl ⟨lR _, trivial⟩ trivial rfl
  ·clear hy15
   subst hS19
   replace h := of_let h
   obtain ⟨w20, hw20, h⟩ := h
   have hw20 : w20 = y14 := hw20
   subst hw20
   cbv
   injection h with h
   subst h
   refine ⟨(sparse 30 [(4, .c (.v (.int .i64 w20)))] []), ?_, ?_⟩
   ·exact le_sparse rfl ⟨lR _, trivial⟩ trivial rfl
   ·exact ⟨lR _, trivial, rfl⟩

/-- impl.compose -/
noncomputable def F_impl_compose (a0 : TTransform) (a1 : TTransform) : Option (TTransform) :=
 (F_impl_move (TTransform.mk a1.fOrientation a1.fX a1.fY) (TPoint.mk a0.fX a0.fY)).bind fun y1 =>
 (F_impl_composed a0.fOrientation a1.fOrientation).bind fun y3 =>
 some (TTransform.mk y3 y1.fX y1.fY)
theorem run_impl_compose (a0 : TTransform) (a1 : TTransform) (r : TTransform) (h : F_impl_compose a0 a1 = some r) : Fun Try.prog 72 [.agg [.v (.int .i64 a0.fOrientation), .v (.int .i64 a0.fX), .v (.int .i64 a0.fY)], .agg [.v (.int .i64 a1.fOrientation), .v (.int .i64 a1.fX), .v (.int .i64 a1.fY)]] [] (.agg [.v (.int .i64 r.fOrientation), .v (.int .i64 r.fX), .v (.int .i64 r.fY)]) [] true := by
 refine Fun.of_wp (oneOf []) tok mixed Try.func72 (by kernel_rfl) rfl Try.ntmps72 rfl trivial (fun _ => ⟨(by simp [AV.flat, AV.flat1, AC.flat]), trivial⟩) ?_
 unfold F_impl_compose at h
 have hf_impl_composed := @run_impl_composed
 have hf_impl_move := @run_impl_move
 generalize hLEN : @len = LEN at *
 generalize hGD : @gd = GD at *
 generalize hA : std = A at *
 generalize hP : Try.prog = P at *
 cbv
 replace h := of_bind h
 obtain ⟨y1, hy2, h⟩ := h
 refine ⟨{ args := [.agg [.v (.int .i64 a1.fOrientation), .v (.int .i64 a1.fX), .v (.int .i64 a1.fY)], .agg [.v (.int .i64 a0.fX), .v (.int .i64 a0.fY)]], o0 := [], r := .agg [.v (.int .i64 y1.fX), .v (.int .i64 y1.fY)], o1 := [], fl := true, σ := [], τ := [] }, hf_impl_move _ _ _ hy2, ⟨les_cons (lR _) (les_cons (lR _) (les_nil)), trivial, rfl, rfl, rfl, rfl, trivial, rfl⟩, ?_⟩
 cbv
 replace h := of_bind h
 obtain ⟨y3, hy4, h⟩ := h
 refine ⟨{ args := [.c (.v (.int .i64 a0.fOrientation)), .c (.v (.int .i64 a1.fOrientation))], o0 := [], r := .c (.v (.int .i64 y3)), o1 := [], fl := true, σ := [], τ := [] }, hf_impl_composed _ _ _ hy4, ⟨les_cons (lR _) (les_cons (lR _) (les_nil)), trivial, rfl, rfl, rfl, rfl, trivial, rfl⟩, ?_⟩
 cbv
 injection h with h
 subst h
 refine ⟨(sparse 23 [(4, .c (.ptr 256 0))] [(256, .var [.v (.int .i64 y3), .v (.int .i64 y1.fX), .v (.int .i64 y1.fY)])]), ?_, ?_⟩
 ·exact le_sparse rfl ⟨lR _, trivial⟩ ⟨rfl, trivial⟩ rfl
 ·exact ⟨lR _, trivial, rfl⟩

noncomputable def L_impl_below_mbxb_x11 (a0 : TLibrary) (a2 : TOccurrence) (F_REC_impl_below_mbxb : TLibrary → (List TOccurrence) → TOccurrence → Option (List TOccurrence)) (y7 : (List Telement)) : (Int × (List TOccurrence)) → Option ((Int × (List TOccurrence)) ⊕ (((List TOccurrence)))) := fun x11 =>
 letO x11.1 fun v9 =>
 letO x11.2 fun v10 =>
 br (std.lt v9 (std.ofN (len y7)))
 (req (std.inR v9 (len y7)) <|
 (F_slices_Clone_Lint64_int64 a2.fPath).bind fun y24 =>
 letO ([v9] : List Int) fun l26 =>
 req (std.room (std.nadd (len y24) (len l26)) 8) <|
 letO (y24 ++ l26) fun l28 =>
 (F_impl_compose (gd y7 (std.nadd 0 (std.toN v9))).gplace a2.fPlace).bind fun y31 =>
 (F_REC_impl_below_mbxb a0 v10 (TOccurrence.mk (gd y7 (std.nadd 0 (std.toN v9))).gcell y31 l28)).bind fun y33 =>
 some (.inl (std.add .i64 v9 1, y33)))
 (some (.inr v10))
/-- impl.below -/
noncomputable def FS_impl_below_mbxb (F_REC_impl_below_mbxb : TLibrary → (List TOccurrence) → TOccurrence → Option (List TOccurrence)) (a0 : TLibrary) (a1 : List TOccurrence) (a2 : TOccurrence) : Option (List TOccurrence) :=
 letO ([a2] : List TOccurrence) fun l1 =>
 req (std.room (std.nadd (len a1) (len l1)) 56) <|
 letO (a1 ++ l1) fun l3 =>
 req (std.inR a2.fCell (len a0.fCells)) <|
 (F_impl_elements (gd a0.fCells (std.toN a2.fCell))).bind fun y7 =>
 (whileP (σ := Int × (List TOccurrence)) (ρ := ((List TOccurrence))) (L_impl_below_mbxb_x11 a0 a2 F_REC_impl_below_mbxb y7) (0, l3)).bind fun y12 =>
 letO y12 fun y12k0 =>
 letO y12k0 fun w36 =>
 some w36
theorem runS_impl_below_mbxb (F_REC_impl_below_mbxb : TLibrary → (List TOccurrence) → TOccurrence → Option (List TOccurrence)) (hf_REC_impl_below_mbxb : ∀ (a0 : TLibrary) (a1 : List TOccurrence) (a2 : TOccurrence) (r : List TOccurrence), F_REC_impl_below_mbxb a0 a1 a2 = some r → Fun Try.prog 134 [.agg [.bs (len a0.fCells) 4 (row gd (encCell len gd) a0.fCells)], .c (.os 5 0 (len a1)), .agg [.v (.int .i64 a2.fCell), .v (.int .i64 a2.fPlace.fOrientation), .v (.int .i64 a2.fPlace.fX), .v (.int .i64 a2.fPlace.fY), .bs (len a2.fPath) 1 (row gd (encI .i64) a2.fPath)]] [(5, .arr .rw [] (len a1) 5 (row gd (encOccurrence len gd) a1))] (.c (.os 64000 0 (len r))) [(64000, .arr .rw [] (len r) 5 (row gd (encOccurrence len gd) r))] false) (a0 : TLibrary) (a1 : List TOccurrence) (a2 : TOccurrence) (r : List TOccurrence) (h : FS_impl_below_mbxb F_REC_impl_below_mbxb a0 a1 a2 = some r) : Fun Try.prog 134 [.agg [.bs (len a0.fCells) 4 (row gd (encCell len gd) a0.fCells)], .c (.os 5 0 (len a1)), .agg [.v (.int .i64 a2.fCell), .v (.int .i64 a2.fPlace.fOrientation), .v (.int .i64 a2.fPlace.fX), .v (.int .i64 a2.fPlace.fY), .bs (len a2.fPath) 1 (row gd (encI .i64) a2.fPath)]] [(5, .arr .rw [] (len a1) 5 (row gd (encOccurrence len gd) a1))] (.c (.os 64000 0 (len r))) [(64000, .arr .rw [] (len r) 5 (row gd (encOccurrence len gd) r))] false := by
 refine Fun.of_wp (oneOf []) tok mixed Try.func134 (by kernel_rfl) rfl Try.ntmps134 rfl ⟨fun i _ j _ k hk => (noref (plain_nil (pl_encOccurrence _ _)) hk).elim, trivial⟩ (fun h => by cases h) ?_
 unfold FS_impl_below_mbxb at h
 unfold L_impl_below_mbxb_x11 at h
 have hf_impl_compose := @run_impl_compose
 have hf_impl_elements := @run_impl_elements
 have hf_slices_Clone_Lint64_int64 := @run_slices_Clone_Lint64_int64
 generalize hLEN : @len = LEN at *
 generalize hGD : @gd = GD at *
 generalize hA : std = A at *
 generalize hP : Try.prog = P at *
 cbv
 replace h := of_let h
 obtain ⟨l1, hl1, h⟩ := h
 have e2 : 1 = LEN l1 := by subst hl1 hLEN; rfl
 refine ⟨_, congrArg (fun n => AV.c (AC.os 768 0 n)) e2, _, row GD (encOccurrence LEN GD) l1, e2, wkOf ?_, ?_⟩
 ·intro i hi j hj
  rw [← e2] at hi
  subst hl1
  subst hGD
  obtain rfl : i = 0 := (by omega) <;> obtain rfl | rfl | rfl | rfl | rfl : j = 0 ∨ j = 1 ∨ j = 2 ∨ j = 3 ∨ j = 4 := (by omega)
  all_goals rfl
 cbv
 replace h := of_req h
 obtain ⟨c5, h⟩ := h
 replace h := of_let h
 obtain ⟨l3, hl3, h⟩ := h
 have e4 : A.nadd (LEN a1) (LEN l1) = LEN l3 := by subst hl3 hLEN hA; simp [std, len]
 refine ⟨c5, _, congrArg (fun n => AV.c (AC.os 832 0 n)) e4, _, row GD (encOccurrence LEN GD) l3, e4, wkOf ?_, ?_⟩
 ·subst hGD hLEN hA
  exact app_os (off := 0) (pl_encOccurrence) hl3 (Nat.le_refl _)
 cbv
 replace h := of_req h
 obtain ⟨c6, h⟩ := h
 refine ⟨⟨c6, trivial⟩, ?_⟩
 replace h := of_bind h
 obtain ⟨y7, hy8, h⟩ := h
 refine ⟨{ args := [.agg [.v (.string (GD a0.fCells (A.toN a2.fCell)).fName), .bs (LEN (GD a0.fCells (A.toN a2.fCell)).fShapes) 5 (row GD (encShape) (GD a0.fCells (A.toN a2.fCell)).fShapes), .bs (LEN (GD a0.fCells (A.toN a2.fCell)).fLabels) 4 (row GD (encLabel) (GD a0.fCells (A.toN a2.fCell)).fLabels), .bs (LEN (GD a0.fCells (A.toN a2.fCell)).fInstances) 8 (row GD (encInstance) (GD a0.fCells (A.toN a2.fCell)).fInstances)]], o0 := [], r := .c (.os 64000 0 (LEN y7)), o1 := [(64000, .arr .rw [] (LEN y7) 4 (row GD (encelement) y7))], fl := true, σ := [], τ := [(64000, 1280)] }, hf_impl_elements _ _ hy8, ⟨les_cons (lR _) (les_nil), trivial, rfl, rfl, rfl, rfl, ⟨fun h => absurd (show (64000 : Nat) % 2 = 1 from h) (by decide), trivial⟩, rfl⟩, _, rfl, _, _, rfl, fun _ _ _ _ => .refl _, ?_⟩
 cbv
 replace h := of_bind h
 obtain ⟨y12, hr13, hN14⟩ := h
 refine loop_cut hr13 (fun x => (sparse 47 [(1, .c (.os 2816 0 (LEN x.2))), (3, .c (.ptr 192 0)), (5, .c (.ptr 320 0)), (20, .c (.os 1280 0 (LEN y7))), (21, .c (.v (.int .i64 (A.ofN (LEN y7))))), (22, .c (.v (.int .i64 x.1)))] [(2816, .arr .rw [] (LEN x.2) 5 (row GD (encOccurrence LEN GD) x.2)), (192, .var [.bs (LEN a0.fCells) 4 (row GD (encCell LEN GD) a0.fCells)]), (320, .var [.v (.int .i64 a2.fCell), .v (.int .i64 a2.fPlace.fOrientation), .v (.int .i64 a2.fPlace.fX), .v (.int .i64 a2.fPlace.fY), .bs (LEN a2.fPath) 1 (row GD (encI .i64) a2.fPath)]), (1280, .arr .rw [] (LEN y7) 4 (row GD (encelement) y7))])) ?_ (fun y e s => (fun (w : (List TOccurrence)) => e = .exit 0 ∧ s.le (sparse 47 [(1, .c (.os 2816 0 (LEN w)))] [(2816, .arr .rw [] (LEN w) 5 (row GD (encOccurrence LEN GD) w))])) y) ?_ ?_
 ·clear hr13 hN14
  show St.le _ _
  refine St.le_trans (le_ren 832 2816 (by decide) rfl) ?_
  exact le_sparse rfl ⟨lR _, lR _, lR _, lR _, lR _, lR _, trivial⟩ ⟨oS, rfl, rfl, oS, trivial⟩ rfl
 ·clear hr13 hN14
  intro x z18 h K16 hK17 hY15
  obtain ⟨x0_, x1_⟩ := x
  replace h := of_let h
  obtain ⟨v9, hv9, h⟩ := h
  have hv9 : v9 = x0_ := hv9
  subst hv9
  replace h := of_let h
  obtain ⟨v10, hv10, h⟩ := h
  have hv10 : v10 = x1_ := hv10
  subst hv10
  cbv
  refine fork (fun b35 => ?_) (fun b35 => ?_)
  ·replace h := of_br_t b35 h
   cbv
   replace h := of_req h
   obtain ⟨c23, h⟩ := h
   refine ⟨⟨c23, trivial⟩, ?_⟩
   refine And.intro (by first | exact (by subst hA; exact idx_lt c23) | (refine And.intro (by subst hA; exact idx_lt c23) ?_; first | trivial | exact ⟨trivial, trivial⟩)) ?_
   replace h := of_bind h
   obtain ⟨y24, hy25, h⟩ := h
   refine ⟨{ args := [.c (.bs (LEN a2.fPath) 1 (row GD (encI .i64) a2.fPath))], o0 := [], r := .c (.os 64000 0 (LEN y24)), o1 := [(64000, .arr .rw [] (LEN y24) 1 (row GD (encI .i64) y24))], fl := true, σ := [], τ := [(64000, 1856)] }, hf_slices_Clone_Lint64_int64 _ _ hy25, ⟨les_cons (lR _) (les_nil), trivial, rfl, rfl, rfl, rfl, ⟨fun h => absurd (show (64000 : Nat) % 2 = 1 from h) (by decide), trivial⟩, rfl⟩, _, rfl, _, _, rfl, fun _ _ _ _ => .refl _, ?_⟩
   cbv
   replace h := of_let h
   obtain ⟨l26, hl26, h⟩ := h
   have e27 : 1 = LEN l26 := by subst hl26 hLEN; rfl
   refine ⟨_, congrArg (fun n => AV.c (AC.os 1984 0 n)) e27, _, row GD (encI .i64) l26, e27, wkOf ?_, ?_⟩
   ·intro i hi j hj
    rw [← e27] at hi
    subst hl26
    subst hGD
    obtain rfl : i = 0 := (by omega)
    all_goals obtain rfl : j = 0 := by omega
    all_goals rfl
   cbv
   replace h := of_req h
   obtain ⟨c30, h⟩ := h
   replace h := of_let h
   obtain ⟨l28, hl28, h⟩ := h
   have e29 : A.nadd (LEN y24) (LEN l26) = LEN l28 := by subst hl28 hLEN hA; simp [std, len]
   refine ⟨c30, _, congrArg (fun n => AV.c (AC.os 1856 0 n)) e29, _, row GD (encI .i64) l28, e29, wkOf ?_, ?_⟩
   ·subst hGD hLEN hA
    exact app_os (off := 0) (fun _ _ => rfl) hl28 (Nat.le_refl _)
   cbv
   replace h := of_bind h
   obtain ⟨y31, hy32, h⟩ := h
   refine ⟨{ args := [.agg [.v (.int .i64 (GD y7 (A.nadd 0 (A.toN v9))).gplace.fOrientation), .v (.int .i64 (GD y7 (A.nadd 0 (A.toN v9))).gplace.fX), .v (.int .i64 (GD y7 (A.nadd 0 (A.toN v9))).gplace.fY)], .agg [.v (.int .i64 a2.fPlace.fOrientation), .v (.int .i64 a2.fPlace.fX), .v (.int .i64 a2.fPlace.fY)]], o0 := [], r := .agg [.v (.int .i64 y31.fOrientation), .v (.int .i64 y31.fX), .v (.int .i64 y31.fY)], o1 := [], fl := true, σ := [], τ := [] }, hf_impl_compose _ _ _ hy32, ⟨les_cons (lR _) (les_cons (lR _) (les_nil)), trivial, rfl, rfl, rfl, rfl, trivial, rfl⟩, ?_⟩
   cbv
   replace h := of_bind h
   obtain ⟨y33, hy34, h⟩ := h
   refine ⟨{ args := [.agg [.bs (LEN a0.fCells) 4 (row GD (encCell LEN GD) a0.fCells)], .c (.os 5 0 (LEN v10)), .agg [.v (.int .i64 (GD y7 (A.nadd 0 (A.toN v9))).gcell), .v (.int .i64 y31.fOrientation), .v (.int .i64 y31.fX), .v (.int .i64 y31.fY), .bs (LEN l28) 1 (row GD (encI .i64) l28)]], o0 := [(5, .arr .rw [] (LEN v10) 5 (row GD (encOccurrence LEN GD) v10))], r := .c (.os 64000 0 (LEN y33)), o1 := [(64000, .arr .rw [] (LEN y33) 5 (row GD (encOccurrence LEN GD) y33))], fl := false, σ := [(5, 2816)], τ := [(64000, 2816)] }, hf_REC_impl_below_mbxb _ _ _ _ hy34, ⟨les_cons (lR _) (les_cons (lR _) (les_cons (le_agg ⟨lR _, lR _, lR _, lR _, give_os (fun _ _ => rfl) rfl rfl rfl, trivial⟩) (les_nil))), ⟨oS, trivial⟩, rfl, rfl, rfl, rfl, ⟨fun h => absurd (show (64000 : Nat) % 2 = 1 from h) (by decide), trivial⟩, rfl⟩, _, rfl, _, _, rfl, fun _ _ _ _ => .refl _, _, _, rfl, fun _ _ _ _ => .refl _, ?_⟩
   cbv
   injection h with h
   refine hK17 _ h.symm _ ?_
   exact le_sparse rfl ⟨lR _, lR _, lR _, lR _, lR _, lR _, trivial⟩ ⟨oS, rfl, rfl, oS, trivial⟩ rfl
  ·replace h := of_br_f b35 h
   cbv
   injection h with h
   refine hY15 _ h.symm _ _ (And.intro rfl ?_) (by intro hh; cases hh)
   exact le_sparse rfl ⟨lR _, trivial⟩ ⟨oS, trivial⟩ rfl
 ·clear hr13
  have h := hN14
  clear hN14
  intro e21 s22 q20 hne
  replace h := of_let h
  obtain ⟨y12k0, hyk, h⟩ := h
  have hyk : y12k0 = y12 := hyk
  subst hyk
  obtain ⟨rfl, q20⟩ := q20
  replace h := of_let h
  obtain ⟨w36, hw36, h⟩ := h
  have hw36 : w36 = y12k0 := hw36
  subst hw36
  cbv
  refine ⟨_, q20, ?_⟩
  cbv
  injection h with h
  subst h
  refine ⟨(sparse 47 [(6, .c (.os 64000 0 (LEN w36)))] [(64000, .arr .rw [] (LEN w36) 5 (row GD (encOccurrence LEN GD) w36))]), ?_, ?_⟩
  ·refine St.le_trans (le_ren 2816 64000 (by decide) rfl) ?_
   exact le_sparse rfl ⟨lR _, trivial⟩ ⟨oS, trivial⟩ rfl
  ·exact ⟨lR _, ⟨oS, trivial⟩, rfl⟩
/-- as deep as this -/
noncomputable def FR_impl_below_mbxb : Nat → TLibrary → (List TOccurrence) → TOccurrence → Option (List TOccurrence)
 | 0 => fun _ _ _ => none
 | k + 1 => FS_impl_below_mbxb (FR_impl_below_mbxb k)
theorem runR_impl_below_mbxb : ∀ (k : Nat) (a0 : TLibrary) (a1 : List TOccurrence) (a2 : TOccurrence) (r : List TOccurrence), FR_impl_below_mbxb k a0 a1 a2 = some r → Fun Try.prog 134 [.agg [.bs (len a0.fCells) 4 (row gd (encCell len gd) a0.fCells)], .c (.os 5 0 (len a1)), .agg [.v (.int .i64 a2.fCell), .v (.int .i64 a2.fPlace.fOrientation), .v (.int .i64 a2.fPlace.fX), .v (.int .i64 a2.fPlace.fY), .bs (len a2.fPath) 1 (row gd (encI .i64) a2.fPath)]] [(5, .arr .rw [] (len a1) 5 (row gd (encOccurrence len gd) a1))] (.c (.os 64000 0 (len r))) [(64000, .arr .rw [] (len r) 5 (row gd (encOccurrence len gd) r))] false := by
 intro k
 induction k with
 | zero => intro a0 a1 a2 r h; cases h
 | succ k ih => exact fun a0 a1 a2 r h => runS_impl_below_mbxb (FR_impl_below_mbxb k) ih a0 a1 a2 r h
/-- impl.below -/
noncomputable def F_impl_below_mbxb (a0 : TLibrary) (a1 : List TOccurrence) (a2 : TOccurrence) : Option (List TOccurrence) := FR_impl_below_mbxb 64 a0 a1 a2
theorem run_impl_below_mbxb (a0 : TLibrary) (a1 : List TOccurrence) (a2 : TOccurrence) (r : List TOccurrence) (h : F_impl_below_mbxb a0 a1 a2 = some r) : Fun Try.prog 134 [.agg [.bs (len a0.fCells) 4 (row gd (encCell len gd) a0.fCells)], .c (.os 5 0 (len a1)), .agg [.v (.int .i64 a2.fCell), .v (.int .i64 a2.fPlace.fOrientation), .v (.int .i64 a2.fPlace.fX), .v (.int .i64 a2.fPlace.fY), .bs (len a2.fPath) 1 (row gd (encI .i64) a2.fPath)]] [(5, .arr .rw [] (len a1) 5 (row gd (encOccurrence len gd) a1))] (.c (.os 64000 0 (len r))) [(64000, .arr .rw [] (len r) 5 (row gd (encOccurrence len gd) r))] false := runR_impl_below_mbxb 64 a0 a1 a2 r h

noncomputable def L_impl_below_mbnb_x11 (a0 : TLibrary) (a2 : TOccurrence) (y7 : (List Telement)) : (Int × (List TOccurrence)) → Option ((Int × (List TOccurrence)) ⊕ (((List TOccurrence)))) := fun x11 =>
 letO x11.1 fun v9 =>
 letO x11.2 fun v10 =>
 br (std.lt v9 (std.ofN (len y7)))
 (req (std.inR v9 (len y7)) <|
 (F_slices_Clone_Lint64_int64 a2.fPath).bind fun y24 =>
 letO ([v9] : List Int) fun l26 =>
 req (std.room (std.nadd (len y24) (len l26)) 8) <|
 letO (y24 ++ l26) fun l28 =>
 (F_impl_compose (gd y7 (std.nadd 0 (std.toN v9))).gplace a2.fPlace).bind fun y31 =>
 (F_impl_below_mbxb a0 v10 (TOccurrence.mk (gd y7 (std.nadd 0 (std.toN v9))).gcell y31 l28)).bind fun y33 =>
 some (.inl (std.add .i64 v9 1, y33)))
 (some (.inr v10))
/-- impl.below -/
noncomputable def F_impl_below_mbnb (a0 : TLibrary) (a1 : List TOccurrence) (a2 : TOccurrence) : Option (List TOccurrence) :=
 letO ([a2] : List TOccurrence) fun l1 =>
 req (std.room (std.nadd 0 (len l1)) 56) <|
 letO (([] : List TOccurrence) ++ l1) fun l3 =>
 req (std.inR a2.fCell (len a0.fCells)) <|
 (F_impl_elements (gd a0.fCells (std.toN a2.fCell))).bind fun y7 =>
 (whileP (σ := Int × (List TOccurrence)) (ρ := ((List TOccurrence))) (L_impl_below_mbnb_x11 a0 a2 y7) (0, l3)).bind fun y12 =>
 letO y12 fun y12k0 =>
 letO y12k0 fun w36 =>
 some w36
theorem run_impl_below_mbnb (a0 : TLibrary) (a1 : List TOccurrence) (a2 : TOccurrence) (r : List TOccurrence) (h : F_impl_below_mbnb a0 a1 a2 = some r) : Fun Try.prog 134 [.agg [.bs (len a0.fCells) 4 (row gd (encCell len gd) a0.fCells)], .c (.v (.slice none 0 0)), .agg [.v (.int .i64 a2.fCell), .v (.int .i64 a2.fPlace.fOrientation), .v (.int .i64 a2.fPlace.fX), .v (.int .i64 a2.fPlace.fY), .bs (len a2.fPath) 1 (row gd (encI .i64) a2.fPath)]] [] (.c (.os 64000 0 (len r))) [(64000, .arr .rw [] (len r) 5 (row gd (encOccurrence len gd) r))] false := by
 refine Fun.of_wp (oneOf []) tok mixed Try.func134 (by kernel_rfl) rfl Try.ntmps134 rfl trivial (fun h => by cases h) ?_
 unfold F_impl_below_mbnb at h
 unfold L_impl_below_mbnb_x11 at h
 have hf_impl_below_mbxb := @run_impl_below_mbxb
 have hf_impl_compose := @run_impl_compose
 have hf_impl_elements := @run_impl_elements
 have hf_slices_Clone_Lint64_int64 := @run_slices_Clone_Lint64_int64
 generalize hLEN : @len = LEN at *
 generalize hGD : @gd = GD at *
 generalize hA : std = A at *
 generalize hP : Try.prog = P at *
 cbv
 replace h := of_let h
 obtain ⟨l1, hl1, h⟩ := h
 have e2 : 1 = LEN l1 := by subst hl1 hLEN; rfl
 refine ⟨_, congrArg (fun n => AV.c (AC.os 768 0 n)) e2, _, row GD (encOccurrence LEN GD) l1, e2, wkOf ?_, ?_⟩
 ·intro i hi j hj
  rw [← e2] at hi
  subst hl1
  subst hGD
  obtain rfl : i = 0 := (by omega) <;> obtain rfl | rfl | rfl | rfl | rfl : j = 0 ∨ j = 1 ∨ j = 2 ∨ j = 3 ∨ j = 4 := (by omega)
  all_goals rfl
 cbv
 replace h := of_req h
 obtain ⟨c5, h⟩ := h
 replace h := of_let h
 obtain ⟨l3, hl3, h⟩ := h
 have e4 : A.nadd 0 (LEN l1) = LEN l3 := by subst hl3 hLEN hA; simp [std, len]
 refine ⟨c5, _, congrArg (fun n => AV.c (AC.os 832 0 n)) e4, _, row GD (encOccurrence LEN GD) l3, e4, wkOf ?_, ?_⟩
 ·subst hGD hLEN hA
  exact app_nil_os (off := 0) (pl_encOccurrence) hl3 (Nat.le_refl _)
 cbv
 replace h := of_req h
 obtain ⟨c6, h⟩ := h
 refine ⟨⟨c6, trivial⟩, ?_⟩
 replace h := of_bind h
 obtain ⟨y7, hy8, h⟩ := h
 refine ⟨{ args := [.agg [.v (.string (GD a0.fCells (A.toN a2.fCell)).fName), .bs (LEN (GD a0.fCells (A.toN a2.fCell)).fShapes) 5 (row GD (encShape) (GD a0.fCells (A.toN a2.fCell)).fShapes), .bs (LEN (GD a0.fCells (A.toN a2.fCell)).fLabels) 4 (row GD (encLabel) (GD a0.fCells (A.toN a2.fCell)).fLabels), .bs (LEN (GD a0.fCells (A.toN a2.fCell)).fInstances) 8 (row GD (encInstance) (GD a0.fCells (A.toN a2.fCell)).fInstances)]], o0 := [], r := .c (.os 64000 0 (LEN y7)), o1 := [(64000, .arr .rw [] (LEN y7) 4 (row GD (encelement) y7))], fl := true, σ := [], τ := [(64000, 1280)] }, hf_impl_elements _ _ hy8, ⟨les_cons (lR _) (les_nil), trivial, rfl, rfl, rfl, rfl, ⟨fun h => absurd (show (64000 : Nat) % 2 = 1 from h) (by decide), trivial⟩, rfl⟩, _, rfl, _, _, rfl, fun _ _ _ _ => .refl _, ?_⟩
 cbv
 replace h := of_bind h
 obtain ⟨y12, hr13, hN14⟩ := h
 refine loop_cut hr13 (fun x => (sparse 47 [(1, .c (.os 2816 0 (LEN x.2))), (3, .c (.ptr 192 0)), (5, .c (.ptr 320 0)), (20, .c (.os 1280 0 (LEN y7))), (21, .c (.v (.int .i64 (A.ofN (LEN y7))))), (22, .c (.v (.int .i64 x.1)))] [(2816, .arr .rw [] (LEN x.2) 5 (row GD (encOccurrence LEN GD) x.2)), (192, .var [.bs (LEN a0.fCells) 4 (row GD (encCell LEN GD) a0.fCells)]), (320, .var [.v (.int .i64 a2.fCell), .v (.int .i64 a2.fPlace.fOrientation), .v (.int .i64 a2.fPlace.fX), .v (.int .i64 a2.fPlace.fY), .bs (LEN a2.fPath) 1 (row GD (encI .i64) a2.fPath)]), (1280, .arr .rw [] (LEN y7) 4 (row GD (encelement) y7))])) ?_ (fun y e s => (fun (w : (List TOccurrence)) => e = .exit 0 ∧ s.le (sparse 47 [(1, .c (.os 2816 0 (LEN w)))] [(2816, .arr .rw [] (LEN w) 5 (row GD (encOccurrence LEN GD) w))])) y) ?_ ?_
 ·clear hr13 hN14
  show St.le _ _
  refine St.le_trans (le_ren 832 2816 (by decide) rfl) ?_
  exact le_sparse rfl ⟨lR _, lR _, lR _, lR _, lR _, lR _, trivial⟩ ⟨oS, rfl, rfl, oS, trivial⟩ rfl
 ·clear hr13 hN14
  intro x z18 h K16 hK17 hY15
  obtain ⟨x0_, x1_⟩ := x
  replace h := of_let h
  obtain ⟨v9, hv9, h⟩ := h
  have hv9 : v9 = x0_ := hv9
  subst hv9
  replace h := of_let h
  obtain ⟨v10, hv10, h⟩ := h
  have hv10 : v10 = x1_ := hv10
  subst hv10
  cbv
  refine fork (fun b35 => ?_) (fun b35 => ?_)
  ·replace h := of_br_t b35 h
   cbv
   replace h := of_req h
   obtain ⟨c23, h⟩ := h
   refine ⟨⟨c23, trivial⟩, ?_⟩
   refine And.intro (by first | exact (by subst hA; exact idx_lt c23) | (refine And.intro (by subst hA; exact idx_lt c23) ?_; first | trivial | exact ⟨trivial, trivial⟩)) ?_
   replace h := of_bind h
   obtain ⟨y24, hy25, h⟩ := h
   refine ⟨{ args := [.c (.bs (LEN a2.fPath) 1 (row GD (encI .i64) a2.fPath))], o0 := [], r := .c (.os 64000 0 (LEN y24)), o1 := [(64000, .arr .rw [] (LEN y24) 1 (row GD (encI .i64) y24))], fl := true, σ := [], τ := [(64000, 1856)] }, hf_slices_Clone_Lint64_int64 _ _ hy25, ⟨les_cons (lR _) (les_nil), trivial, rfl, rfl, rfl, rfl, ⟨fun h => absurd (show (64000 : Nat) % 2 = 1 from h) (by decide), trivial⟩, rfl⟩, _, rfl, _, _, rfl, fun _ _ _ _ => .refl _, ?_⟩
   cbv
   replace h := of_let h
   obtain ⟨l26, hl26, h⟩ := h
   have e27 : 1 = LEN l26 := by subst hl26 hLEN; rfl
   refine ⟨_, congrArg (fun n => AV.c (AC.os 1984 0 n)) e27, _, row GD (encI .i64) l26, e27, wkOf ?_, ?_⟩
   ·intro i hi j hj
    rw [← e27] at hi
    subst hl26
    subst hGD
    obtain rfl : i = 0 := (by omega)
    all_goals obtain rfl : j = 0 := by omega
    all_goals rfl
   cbv
   replace h := of_req h
   obtain ⟨c30, h⟩ := h
   replace h := of_let h
   obtain ⟨l28, hl28, h⟩ := h
   have e29 : A.nadd (LEN y24) (LEN l26) = LEN l28 := by subst hl28 hLEN hA; simp [std, len]
   refine ⟨c30, _, congrArg (fun n => AV.c (AC.os 1856 0 n)) e29, _, row GD (encI .i64) l28, e29, wkOf ?_, ?_⟩
   ·subst hGD hLEN hA
    exact app_os (off := 0) (fun _ _ => rfl) hl28 (Nat.le_refl _)
   cbv
   replace h := of_bind h
   obtain ⟨y31, hy32, h⟩ := h
   refine ⟨{ args := [.agg [.v (.int .i64 (GD y7 (A.nadd 0 (A.toN v9))).gplace.fOrientation), .v (.int .i64 (GD y7 (A.nadd 0 (A.toN v9))).gplace.fX), .v (.int .i64 (GD y7 (A.nadd 0 (A.toN v9))).gplace.fY)], .agg [.v (.int .i64 a2.fPlace.fOrientation), .v (.int .i64 a2.fPlace.fX), .v (.int .i64 a2.fPlace.fY)]], o0 := [], r := .agg [.v (.int .i64 y31.fOrientation), .v (.int .i64 y31.fX), .v (.int .i64 y31.fY)], o1 := [], fl := true, σ := [], τ := [] }, hf_impl_compose _ _ _ hy32, ⟨les_cons (lR _) (les_cons (lR _) (les_nil)), trivial, rfl, rfl, rfl, rfl, trivial, rfl⟩, ?_⟩
   cbv
   replace h := of_bind h
   obtain ⟨y33, hy34, h⟩ := h
   refine ⟨{ args := [.agg [.bs (LEN a0.fCells) 4 (row GD (encCell LEN GD) a0.fCells)], .c (.os 5 0 (LEN v10)), .agg [.v (.int .i64 (GD y7 (A.nadd 0 (A.toN v9))).gcell), .v (.int .i64 y31.fOrientation), .v (.int .i64 y31.fX), .v (.int .i64 y31.fY), .bs (LEN l28) 1 (row GD (encI .i64) l28)]], o0 := [(5, .arr .rw [] (LEN v10) 5 (row GD (encOccurrence LEN GD) v10))], r := .c (.os 64000 0 (LEN y33)), o1 := [(64000, .arr .rw [] (LEN y33) 5 (row GD (encOccurrence LEN GD) y33))], fl := false, σ := [(5, 2816)], τ := [(64000, 2816)] }, hf_impl_below_mbxb _ _ _ _ hy34, ⟨les_cons (lR _) (les_cons (lR _) (les_cons (le_agg ⟨lR _, lR _, lR _, lR _, give_os (fun _ _ => rfl) rfl rfl rfl, trivial⟩) (les_nil))), ⟨oS, trivial⟩, rfl, rfl, rfl, rfl, ⟨fun h => absurd (show (64000 : Nat) % 2 = 1 from h) (by decide), trivial⟩, rfl⟩, _, rfl, _, _, rfl, fun _ _ _ _ => .refl _, _, _, rfl, fun _ _ _ _ => .refl _, ?_⟩
   cbv
   injection h with h
   refine hK17 _ h.symm _ ?_
   exact le_sparse rfl ⟨lR _, lR _, lR _, lR _, lR _, lR _, trivial⟩ ⟨oS, rfl, rfl, oS, trivial⟩ rfl
  ·replace h := of_br_f b35 h
   cbv
   injection h with h
   refine hY15 _ h.symm _ _ (And.intro rfl ?_) (by intro hh; cases hh)
   exact le_sparse rfl ⟨lR _, trivial⟩ ⟨oS, trivial⟩ rfl
 ·clear hr13
  have h := hN14
  clear hN14
  intro e21 s22 q20 hne
  replace h := of_let h
  obtain ⟨y12k0, hyk, h⟩ := h
  have hyk : y12k0 = y12 := hyk
  subst hyk
  obtain ⟨rfl, q20⟩ := q20
  replace h := of_let h
  obtain ⟨w36, hw36, h⟩ := h
  have hw36 : w36 = y12k0 := hw36
  subst hw36
  cbv
  refine ⟨_, q20, ?_⟩
  cbv
  injection h with h
  subst h
  refine ⟨(sparse 47 [(6, .c (.os 64000 0 (LEN w36)))] [(64000, .arr .rw [] (LEN w36) 5 (row GD (encOccurrence LEN GD) w36))]), ?_, ?_⟩
  ·refine St.le_trans (le_ren 2816 64000 (by decide) rfl) ?_
   exact le_sparse rfl ⟨lR _, trivial⟩ ⟨oS, trivial⟩ rfl
  ·exact ⟨lR _, ⟨oS, trivial⟩, rfl⟩

noncomputable def L_impl_Occurrences_x8 (y5 : (List TOccurrence)) : (Int) → Option ((Int) ⊕ ((Int) ⊕ (Unit))) := fun x8 =>
 letO x8 fun v7 =>
 br (std.lt v7 (std.ofN (len y5)))
 (req (std.inR v7 (len y5)) <|
 (F_impl_IsValidTransform (gd y5 (std.nadd 0 (std.toN v7))).fPlace).bind fun y21 =>
 br (!(y21))
 (some (.inr (.inl 2)))
 (some (.inl (std.add .i64 v7 1))))
 (some (.inr (.inr ())))
/-- impl.Occurrences -/
noncomputable def F_impl_Occurrences (a0 : TLibrary) (a1 : Int) : Option ((List TOccurrence) × Int) :=
 (F_impl_cellCode a0 a1).bind fun y1 =>
 br (std.not (std.eq y1 0))
 (some (([] : List TOccurrence), y1))
 ((F_impl_elementCount a0 a1).bind fun y3 =>
 br (std.lt 200 y3)
 (some (([] : List TOccurrence), (3 : Int)))
 ((F_impl_below_mbnb a0 ([] : List TOccurrence) (TOccurrence.mk a1 (TTransform.mk 0 0 0) ([] : List Int))).bind fun y5 =>
 (whileP (σ := Int) (ρ := (Int) ⊕ (Unit)) (L_impl_Occurrences_x8 y5) 0).bind fun y9 =>
 (match y9 with
  | .inl y9k0 => (
    letO y9k0 fun w25 =>
    some (([] : List TOccurrence), w25))
  | .inr y9m0 =>
    some (y5, (0 : Int)))))
theorem run_impl_Occurrences (a0 : TLibrary) (a1 : Int) (r : (List TOccurrence) × Int) (h : F_impl_Occurrences a0 a1 = some r) : Fun Try.prog 79 [.agg [.bs (len a0.fCells) 4 (row gd (encCell len gd) a0.fCells)], .c (.v (.int .i64 a1))] [] (.tup [.c (.os 64000 0 (len r.1)), .c (.v (.int .i64 r.2))]) [(64000, .arr .rw [] (len r.1) 5 (row gd (encOccurrence len gd) r.1))] false := by
 refine Fun.of_wp (oneOf []) tok mixed Try.func79 (by kernel_rfl) rfl Try.ntmps79 rfl trivial (fun h => by cases h) ?_
 unfold F_impl_Occurrences at h
 unfold L_impl_Occurrences_x8 at h
 have hf_impl_IsValidTransform := @run_impl_IsValidTransform
 have hf_impl_below_mbnb := @run_impl_below_mbnb
 have hf_impl_cellCode := @run_impl_cellCode
 have hf_impl_elementCount := @run_impl_elementCount
 generalize hLEN : @len = LEN at *
 generalize hGD : @gd = GD at *
 generalize hA : std = A at *
 generalize hP : Try.prog = P at *
 cbv
 replace h := of_bind h
 obtain ⟨y1, hy2, h⟩ := h
 refine ⟨{ args := [.agg [.bs (LEN a0.fCells) 4 (row GD (encCell LEN GD) a0.fCells)], .c (.v (.int .i64 a1))], o0 := [], r := .c (.v (.int .i64 y1)), o1 := [], fl := true, σ := [], τ := [] }, hf_impl_cellCode _ _ _ hy2, ⟨les_cons (lR _) (les_cons (lR _) (les_nil)), trivial, rfl, rfl, rfl, rfl, trivial, rfl⟩, ?_⟩
 cbv
 refine fork (fun b27 => ?_) (fun b27 => ?_)
 ·replace h := of_br_t b27 h
  cbv
  injection h with h
  subst h
  refine ⟨(sparse 36 [(4, .c (.os 64000 0 (LEN ([] : List TOccurrence)))), (5, .c (.v (.int .i64 y1)))] [(64000, .arr .rw [] (LEN ([] : List TOccurrence)) 5 (row GD (encOccurrence LEN GD) ([] : List TOccurrence)))]), ?_, ?_⟩
  ·refine St.le_trans (le_nilT 4 64000 5 (row GD (encOccurrence LEN GD) ([] : List TOccurrence)) (by decide) rfl) ?_
   subst hLEN
   exact le_sparse rfl ⟨lR _, lR _, trivial⟩ ⟨oS, trivial⟩ rfl
  ·subst hLEN
   exact ⟨lR _, ⟨oS, trivial⟩, rfl⟩
 ·replace h := of_br_f b27 h
  cbv
  replace h := of_bind h
  obtain ⟨y3, hy4, h⟩ := h
  refine ⟨{ args := [.agg [.bs (LEN a0.fCells) 4 (row GD (encCell LEN GD) a0.fCells)], .c (.v (.int .i64 a1))], o0 := [], r := .c (.v (.int .i64 y3)), o1 := [], fl := true, σ := [], τ := [] }, hf_impl_elementCount _ _ _ hy4, ⟨les_cons (lR _) (les_cons (lR _) (les_nil)), trivial, rfl, rfl, rfl, rfl, trivial, rfl⟩, ?_⟩
  cbv
  refine fork (fun b26 => ?_) (fun b26 => ?_)
  ·replace h := of_br_t b26 h
   cbv
   injection h with h
   subst h
   refine ⟨(sparse 36 [(4, .c (.os 64000 0 (LEN ([] : List TOccurrence)))), (5, .c (.v (.int .i64 3)))] [(64000, .arr .rw [] (LEN ([] : List TOccurrence)) 5 (row GD (encOccurrence LEN GD) ([] : List TOccurrence)))]), ?_, ?_⟩
   ·refine St.le_trans (le_nilT 4 64000 5 (row GD (encOccurrence LEN GD) ([] : List TOccurrence)) (by decide) rfl) ?_
    subst hLEN
    exact le_sparse rfl ⟨lR _, lR _, trivial⟩ ⟨oS, trivial⟩ rfl
   ·subst hLEN
    exact ⟨lR _, ⟨oS, trivial⟩, rfl⟩
  ·replace h := of_br_f b26 h
   cbv
   replace h := of_bind h
   obtain ⟨y5, hy6, h⟩ := h
   refine ⟨{ args := [.agg [.bs (LEN a0.fCells) 4 (row GD (encCell LEN GD) a0.fCells)], .c (.v (.slice none 0 0)), .agg [.v (.int .i64 a1), .v (.int .i64 0), .v (.int .i64 0), .v (.int .i64 0), .bs (LEN ([] : List Int)) 1 (row GD (encI .i64) ([] : List Int))]], o0 := [], r := .c (.os 64000 0 (LEN y5)), o1 := [(64000, .arr .rw [] (LEN y5) 5 (row GD (encOccurrence LEN GD) y5))], fl := false, σ := [], τ := [(64000, 1472)] }, hf_impl_below_mbnb _ _ _ _ hy6, ⟨les_cons (lR _) (les_cons (lR _) (les_cons (le_agg ⟨lR _, lR _, lR _, lR _, (by subst hLEN; exact le_nil_bs), trivial⟩) (les_nil))), trivial, rfl, rfl, rfl, rfl, ⟨fun h => absurd (show (64000 : Nat) % 2 = 1 from h) (by decide), trivial⟩, rfl⟩, _, rfl, _, _, rfl, fun _ _ _ _ => .refl _, ?_⟩
   cbv
   replace h := of_bind h
   obtain ⟨y9, hr10, hN11⟩ := h
   refine loop_cut hr10 (fun x => (sparse 36 [(7, .c (.os 1472 0 (LEN y5))), (24, .c (.os 1472 0 (LEN y5))), (25, .c (.v (.int .i64 (A.ofN (LEN y5))))), (26, .c (.v (.int .i64 x)))] [(1472, .arr .rw [] (LEN y5) 5 (row GD (encOccurrence LEN GD) y5))])) ?_ (fun y e s => (match y with | .inl w => e = .ret ∧ s.le (sparse 36 [(4, .c (.v (.slice none 0 0))), (5, .c (.v (.int .i64 w)))] []) | .inr w0 => (fun (w : Unit) => e = .exit 0 ∧ s.le (sparse 36 [(7, .c (.os 1472 0 (LEN y5)))] [(1472, .arr .rw [] (LEN y5) 5 (row GD (encOccurrence LEN GD) y5))])) w0)) ?_ ?_
   ·clear hr10 hN11
    show St.le _ _
    exact le_sparse rfl ⟨lR _, lR _, lR _, lR _, trivial⟩ ⟨oS, trivial⟩ rfl
   ·clear hr10 hN11
    intro x z15 h K13 hK14 hY12
    replace h := of_let h
    obtain ⟨v7, hv7, h⟩ := h
    have hv7 : v7 = x := hv7
    subst hv7
    cbv
    refine fork (fun b24 => ?_) (fun b24 => ?_)
    ·replace h := of_br_t b24 h
     cbv
     replace h := of_req h
     obtain ⟨c20, h⟩ := h
     refine ⟨⟨c20, trivial⟩, ?_⟩
     refine And.intro (by first | exact (by subst hA; exact idx_lt c20) | (refine And.intro (by subst hA; exact idx_lt c20) ?_; first | trivial | exact ⟨trivial, trivial⟩)) ?_
     replace h := of_bind h
     obtain ⟨y21, hy22, h⟩ := h
     refine ⟨{ args := [.agg [.v (.int .i64 (GD y5 (A.nadd 0 (A.toN v7))).fPlace.fOrientation), .v (.int .i64 (GD y5 (A.nadd 0 (A.toN v7))).fPlace.fX), .v (.int .i64 (GD y5 (A.nadd 0 (A.toN v7))).fPlace.fY)]], o0 := [], r := .c (.v (.bool y21)), o1 := [], fl := true, σ := [], τ := [] }, hf_impl_IsValidTransform _ _ hy22, ⟨les_cons (lR _) (les_nil), trivial, rfl, rfl, rfl, rfl, trivial, rfl⟩, ?_⟩
     cbv
     refine fork (fun b23 => ?_) (fun b23 => ?_)
     ·replace h := of_br_t b23 h
      cbv
      injection h with h
      refine hY12 _ h.symm _ _ (And.intro rfl ?_) (by intro hh; cases hh)
      exact le_sparse rfl ⟨lR _, lR _, trivial⟩ trivial rfl
     ·replace h := of_br_f b23 h
      cbv
      injection h with h
      refine hK14 _ h.symm _ ?_
      exact le_sparse rfl ⟨lR _, lR _, lR _, lR _, trivial⟩ ⟨oS, trivial⟩ rfl
    ·replace h := of_br_f b24 h
     cbv
     injection h with h
     refine hY12 _ h.symm _ _ (And.intro rfl ?_) (by intro hh; cases hh)
     exact le_sparse rfl ⟨lR _, trivial⟩ ⟨oS, trivial⟩ rfl
   ·clear hr10
    have h := hN11
    clear hN11
    intro e18 s19 q17 hne
    rcases y9 with y9k0 | y9m0
    ·replace h := h
     obtain ⟨rfl, q17⟩ := q17
     replace h := of_let h
     obtain ⟨w25, hw25, h⟩ := h
     have hw25 : w25 = y9k0 := hw25
     subst hw25
     cbv
     injection h with h
     subst h
     refine ⟨(sparse 36 [(4, .c (.os 64000 0 (LEN ([] : List TOccurrence)))), (5, .c (.v (.int .i64 w25)))] [(64000, .arr .rw [] (LEN ([] : List TOccurrence)) 5 (row GD (encOccurrence LEN GD) ([] : List TOccurrence)))]), ?_, ?_⟩
     ·refine St.le_trans q17 ?_
      refine St.le_trans (le_nilT 4 64000 5 (row GD (encOccurrence LEN GD) ([] : List TOccurrence)) (by decide) rfl) ?_
      subst hLEN
      exact le_sparse rfl ⟨lR _, lR _, trivial⟩ ⟨oS, trivial⟩ rfl
     ·subst hLEN
      exact ⟨lR _, ⟨oS, trivial⟩, rfl⟩
    ·obtain ⟨rfl, q17⟩ := q17
     cbv
     refine ⟨_, q17, ?_⟩
     cbv
     injection h with h
     subst h
     refine ⟨(sparse 36 [(4, .c (.os 64000 0 (LEN y5))), (5, .c (.v (.int .i64 0)))] [(64000, .arr .rw [] (LEN y5) 5 (row GD (encOccurrence LEN GD) y5))]), ?_, ?_⟩
     ·refine St.le_trans (le_ren 1472 64000 (by decide) rfl) ?_
      exact le_sparse rfl ⟨lR _, lR _, trivial⟩ ⟨oS, trivial⟩ rfl
     ·exact ⟨lR _, ⟨oS, trivial⟩, rfl⟩
/-- impl.moveRect -/
noncomputable def F_impl_moveRect (a0 : TTransform) (a1 : TRect) : Option (TRect) :=
 (F_impl_move a0 (TPoint.mk a1.fX0 a1.fY0)).bind fun y1 =>
 (F_impl_move a0 (TPoint.mk a1.fX1 a1.fY1)).bind fun y3 =>
 some (TRect.mk (std.imin y1.fX y3.fX) (std.imin y1.fY y3.fY) (std.imax y1.fX y3.fX) (std.imax y1.fY y3.fY))
theorem run_impl_moveRect (a0 : TTransform) (a1 : TRect) (r : TRect) (h : F_impl_moveRect a0 a1 = some r) : Fun Try.prog 75 [.agg [.v (.int .i64 a0.fOrientation), .v (.int .i64 a0.fX), .v (.int .i64 a0.fY)], .agg [.v (.int .i64 a1.fX0), .v (.int .i64 a1.fY0), .v (.int .i64 a1.fX1), .v (.int .i64 a1.fY1)]] [] (.agg [.v (.int .i64 r.fX0), .v (.int .i64 r.fY0), .v (.int .i64 r.fX1), .v (.int .i64 r.fY1)]) [] true := by
 refine Fun.of_wp (oneOf []) tok mixed Try.func75 (by kernel_rfl) rfl Try.ntmps75 rfl trivial (fun _ => ⟨(by simp [AV.flat, AV.flat1, AC.flat]), trivial⟩) ?_
 unfold F_impl_moveRect at h
 have hf_impl_move := @run_impl_move
 generalize hLEN : @len = LEN at *
 generalize hGD : @gd = GD at *
 generalize hA : std = A at *
 generalize hP : Try.prog = P at *
 cbv
 replace h := of_bind h
 obtain ⟨y1, hy2, h⟩ := h
 refine ⟨{ args := [.agg [.v (.int .i64 a0.fOrientation), .v (.int .i64 a0.fX), .v (.int .i64 a0.fY)], .agg [.v (.int .i64 a1.fX0), .v (.int .i64 a1.fY0)]], o0 := [], r := .agg [.v (.int .i64 y1.fX), .v (.int .i64 y1.fY)], o1 := [], fl := true, σ := [], τ := [] }, hf_impl_move _ _ _ hy2, ⟨les_cons (lR _) (les_cons (lR _) (les_nil)), trivial, rfl, rfl, rfl, rfl, trivial, rfl⟩, ?_⟩
 cbv
 replace h := of_bind h
 obtain ⟨y3, hy4, h⟩ := h
 refine ⟨{ args := [.agg [.v (.int .i64 a0.fOrientation), .v (.int .i64 a0.fX), .v (.int .i64 a0.fY)], .agg [.v (.int .i64 a1.fX1), .v (.int .i64 a1.fY1)]], o0 := [], r := .agg [.v (.int .i64 y3.fX), .v (.int .i64 y3.fY)], o1 := [], fl := true, σ := [], τ := [] }, hf_impl_move _ _ _ hy4, ⟨les_cons (lR _) (les_cons (lR _) (les_nil)), trivial, rfl, rfl, rfl, rfl, trivial, rfl⟩, ?_⟩
 cbv
 injection h with h
 subst h
 refine ⟨(sparse 42 [(4, .c (.ptr 256 0))] [(256, .var [.v (.int .i64 (A.imin y1.fX y3.fX)), .v (.int .i64 (A.imin y1.fY y3.fY)), .v (.int .i64 (A.imax y1.fX y3.fX)), .v (.int .i64 (A.imax y1.fY y3.fY))])]), ?_, ?_⟩
 ·exact le_sparse rfl ⟨lR _, trivial⟩ ⟨rfl, trivial⟩ rfl
 ·exact ⟨lR _, trivial, rfl⟩

noncomputable def L_impl_FlattenShapes_x23 (a0 : TLibrary) (y1 : (List TOccurrence) × Int) (v5 : Int) : (Int × (List TShape)) → Option ((Int × (List TShape)) ⊕ ((Int) ⊕ ((List TShape)))) := fun x23 =>
 letO x23.1 fun v21 =>
 letO x23.2 fun v22 =>
 br (std.lt v21 (std.ofN (len (gd a0.fCells (std.toN (gd y1.1 (std.nadd 0 (std.toN v5))).fCell)).fShapes)))
 (req (std.inR v21 (len (gd a0.fCells (std.toN (gd y1.1 (std.nadd 0 (std.toN v5))).fCell)).fShapes)) <|
 (F_impl_moveRect (gd y1.1 (std.nadd 0 (std.toN v5))).fPlace (gd (gd a0.fCells (std.toN (gd y1.1 (std.nadd 0 (std.toN v5))).fCell)).fShapes (std.toN v21)).fBox).bind fun y36 =>
 (F_impl_IsValidRect y36).bind fun y38 =>
 br (!(y38))
 (some (.inr (.inl 2)))
 (letO ([(TShape.mk (gd (gd a0.fCells (std.toN (gd y1.1 (std.nadd 0 (std.toN v5))).fCell)).fShapes (std.toN v21)).fLayer y36)] : List TShape) fun l40 =>
 req (std.room (std.nadd (len v22) (len l40)) 40) <|
 letO (v22 ++ l40) fun l42 =>
 some (.inl (std.add .i64 v21 1, l42))))
 (some (.inr (.inr v22)))
noncomputable def L_impl_FlattenShapes_x7 (a0 : TLibrary) (y1 : (List TOccurrence) × Int) : (Int × (List TShape)) → Option ((Int × (List TShape)) ⊕ ((Int) ⊕ ((List TShape)))) := fun x7 =>
 letO x7.1 fun v5 =>
 letO x7.2 fun v6 =>
 br (std.lt v5 (std.ofN (len y1.1)))
 (req (std.inR v5 (len y1.1)) <|
 req (std.inR (gd y1.1 (std.nadd 0 (std.toN v5))).fCell (len a0.fCells)) <|
 (whileP (σ := Int × (List TShape)) (ρ := (Int) ⊕ ((List TShape))) (L_impl_FlattenShapes_x23 a0 y1 v5) (0, v6)).bind fun y24 =>
 (match y24 with
  | .inl y24k0 => (
    letO y24k0 fun w47 =>
    some (.inr (.inl w47)))
  | .inr y24m0 =>
    letO y24m0 fun y24k1 =>
    letO y24k1 fun w48 =>
    some (.inl (std.add .i64 v5 1, w48))))
 (some (.inr (.inr v6)))
/-- impl.FlattenShapes -/
noncomputable def F_impl_FlattenShapes (a0 : TLibrary) (a1 : Int) : Option ((List TShape) × Int) :=
 (F_impl_Occurrences (TLibrary.mk a0.fCells) a1).bind fun y1 =>
 br (std.not (std.eq y1.2 0))
 (some (([] : List TShape), y1.2))
 (letO ([] : List TShape) fun l3 =>
 (whileP (σ := Int × (List TShape)) (ρ := (Int) ⊕ ((List TShape))) (L_impl_FlattenShapes_x7 a0 y1) (0, l3)).bind fun y8 =>
 (match y8 with
  | .inl y8k0 => (
    letO y8k0 fun w50 =>
    some (([] : List TShape), w50))
  | .inr y8m0 =>
    letO y8m0 fun y8k1 =>
    letO y8k1 fun w51 =>
    some (w51, (0 : Int))))
theorem run_impl_FlattenShapes (a0 : TLibrary) (a1 : Int) (r : (List TShape) × Int) (h : F_impl_FlattenShapes a0 a1 = some r) : Fun Try.prog 22 [.agg [.bs (len a0.fCells) 4 (row gd (encCell len gd) a0.fCells)], .c (.v (.int .i64 a1))] [] (.tup [.c (.os 64000 0 (len r.1)), .c (.v (.int .i64 r.2))]) [(64000, .arr .rw [] (len r.1) 5 (row gd (encShape) r.1))] true := by
 refine Fun.of_wp (oneOf []) tok mixed Try.func22 (by kernel_rfl) rfl Try.ntmps22 rfl trivial (fun _ => ⟨(by simp [AV.flat, AV.flat1, AC.flat]), ⟨fun i _ j _ => val_flat (vl_encShape _ _), trivial⟩⟩) ?_
 unfold F_impl_FlattenShapes at h
 unfold L_impl_FlattenShapes_x7 at h
 unfold L_impl_FlattenShapes_x23 at h
 have hf_impl_IsValidRect := @run_impl_IsValidRect
 have hf_impl_Occurrences := @run_impl_Occurrences
 have hf_impl_moveRect := @run_impl_moveRect
 generalize hLEN : @len = LEN at *
 generalize hGD : @gd = GD at *
 generalize hA : std = A at *
 generalize hP : Try.prog = P at *
 cbv
 replace h := of_bind h
 obtain ⟨y1, hy2, h⟩ := h
 refine ⟨{ args := [.agg [.bs (LEN a0.fCells) 4 (row GD (encCell LEN GD) a0.fCells)], .c (.v (.int .i64 a1))], o0 := [], r := .tup [.c (.os 64000 0 (LEN y1.1)), .c (.v (.int .i64 y1.2))], o1 := [(64000, .arr .rw [] (LEN y1.1) 5 (row GD (encOccurrence LEN GD) y1.1))], fl := false, σ := [], τ := [(64000, 1088)] }, hf_impl_Occurrences _ _ _ hy2, ⟨les_cons (lR _) (les_cons (lR _) (les_nil)), trivial, rfl, rfl, rfl, rfl, ⟨fun h => absurd (show (64000 : Nat) % 2 = 1 from h) (by decide), trivial⟩, rfl⟩, _, rfl, _, _, rfl, fun _ _ _ _ => .refl _, ?_⟩
 cbv
 refine fork (fun b52 => ?_) (fun b52 => ?_)
 ·replace h := of_br_t b52 h
  cbv
  injection h with h
  subst h
  refine ⟨(sparse 60 [(4, .c (.os 64000 0 (LEN ([] : List TShape)))), (5, .c (.v (.int .i64 y1.2)))] [(64000, .arr .rw [] (LEN ([] : List TShape)) 5 (row GD (encShape) ([] : List TShape)))]), ?_, ?_⟩
  ·refine St.le_trans (le_nilT 4 64000 5 (row GD (encShape) ([] : List TShape)) (by decide) rfl) ?_
   subst hLEN
   exact le_sparse rfl ⟨lR _, lR _, trivial⟩ ⟨oS, trivial⟩ rfl
  ·subst hLEN
   exact ⟨lR _, ⟨oS, trivial⟩, rfl⟩
 ·replace h := of_br_f b52 h
  cbv
  replace h := of_let h
  obtain ⟨l3, hl3, h⟩ := h
  have e4 : 0 = LEN l3 := by subst hl3 hLEN; rfl
  refine ⟨_, congrArg (fun n => AV.c (AC.os 1472 0 n)) e4, _, row GD (encShape) l3, e4, wkOf ?_, ?_⟩
  ·intro i hi j hj
   rw [← e4] at hi
   subst hl3
   subst hGD
   omega
  cbv
  replace h := of_bind h
  obtain ⟨y8, hr9, hN10⟩ := h
  refine loop_cut hr9 (fun x => (sparse 60 [(2, .c (.ptr 128 0)), (8, .c (.os 1472 0 (LEN x.2))), (24, .c (.os 1088 0 (LEN y1.1))), (25, .c (.v (.int .i64 (A.ofN (LEN y1.1))))), (26, .c (.v (.int .i64 x.1)))] [(128, .var [.bs (LEN a0.fCells) 4 (row GD (encCell LEN GD) a0.fCells)]), (1472, .arr .rw [] (LEN x.2) 5 (row GD (encShape) x.2)), (1088, .arr .rw [] (LEN y1.1) 5 (row GD (encOccurrence LEN GD) y1.1))])) ?_ (fun y e s => (match y with | .inl w => e = .ret ∧ s.le (sparse 60 [(4, .c (.v (.slice none 0 0))), (5, .c (.v (.int .i64 w)))] []) | .inr w0 => (fun (w : (List TShape)) => e = .exit 0 ∧ s.le (sparse 60 [(8, .c (.os 1472 0 (LEN w)))] [(1472, .arr .rw [] (LEN w) 5 (row GD (encShape) w))])) w0)) ?_ ?_
  ·clear hr9 hN10
   show St.le _ _
   exact le_sparse rfl ⟨lR _, lR _, lR _, lR _, lR _, trivial⟩ ⟨rfl, oS, oS, trivial⟩ rfl
  ·clear hr9 hN10
   intro x z14 h K12 hK13 hY11
   obtain ⟨x0_, x1_⟩ := x
   replace h := of_let h
   obtain ⟨v5, hv5, h⟩ := h
   have hv5 : v5 = x0_ := hv5
   subst hv5
   replace h := of_let h
   obtain ⟨v6, hv6, h⟩ := h
   have hv6 : v6 = x1_ := hv6
   subst hv6
   cbv
   refine fork (fun b49 => ?_) (fun b49 => ?_)
   ·replace h := of_br_t b49 h
    cbv
    replace h := of_req h
    obtain ⟨c19, h⟩ := h
    refine ⟨⟨c19, trivial⟩, ?_⟩
    refine And.intro (by first | exact (by subst hA; exact idx_lt c19) | (refine And.intro (by subst hA; exact idx_lt c19) ?_; first | trivial | exact ⟨trivial, trivial⟩)) ?_
    replace h := of_req h
    obtain ⟨c20, h⟩ := h
    refine ⟨⟨c20, trivial⟩, ?_⟩
    replace h := of_bind h
    obtain ⟨y24, hr25, hN26⟩ := h
    refine loop_cut hr25 (fun x => (sparse 60 [(2, .c (.ptr 128 0)), (8, .c (.os 1472 0 (LEN x.2))), (10, .c (.ptr 640 0)), (24, .c (.os 1088 0 (LEN y1.1))), (25, .c (.v (.int .i64 (A.ofN (LEN y1.1))))), (26, .c (.v (.int .i64 v5))), (36, .c (.bs (LEN (GD a0.fCells (A.toN (GD y1.1 (A.nadd 0 (A.toN v5))).fCell)).fShapes) 5 (row GD (encShape) (GD a0.fCells (A.toN (GD y1.1 (A.nadd 0 (A.toN v5))).fCell)).fShapes))), (37, .c (.v (.int .i64 (A.ofN (LEN (GD a0.fCells (A.toN (GD y1.1 (A.nadd 0 (A.toN v5))).fCell)).fShapes))))), (38, .c (.v (.int .i64 x.1)))] [(128, .var [.bs (LEN a0.fCells) 4 (row GD (encCell LEN GD) a0.fCells)]), (1472, .arr .rw [] (LEN x.2) 5 (row GD (encShape) x.2)), (640, .var [.v (.int .i64 (GD y1.1 (A.nadd 0 (A.toN v5))).fCell), .v (.int .i64 (GD y1.1 (A.nadd 0 (A.toN v5))).fPlace.fOrientation), .v (.int .i64 (GD y1.1 (A.nadd 0 (A.toN v5))).fPlace.fX), .v (.int .i64 (GD y1.1 (A.nadd 0 (A.toN v5))).fPlace.fY), .bs (LEN (GD y1.1 (A.nadd 0 (A.toN v5))).fPath) 1 (row GD (encI .i64) (GD y1.1 (A.nadd 0 (A.toN v5))).fPath)]), (1088, .arr .rw [] (LEN y1.1) 5 (row GD (encOccurrence LEN GD) y1.1))])) ?_ (fun y e s => (match y with | .inl w => e = .ret ∧ s.le (sparse 60 [(4, .c (.v (.slice none 0 0))), (5, .c (.v (.int .i64 w)))] []) | .inr w0 => (fun (w : (List TShape)) => e = .exit 2 ∧ s.le (sparse 60 [(2, .c (.ptr 128 0)), (8, .c (.os 1472 0 (LEN w))), (24, .c (.os 1088 0 (LEN y1.1))), (25, .c (.v (.int .i64 (A.ofN (LEN y1.1))))), (26, .c (.v (.int .i64 v5)))] [(128, .var [.bs (LEN a0.fCells) 4 (row GD (encCell LEN GD) a0.fCells)]), (1472, .arr .rw [] (LEN w) 5 (row GD (encShape) w)), (1088, .arr .rw [] (LEN y1.1) 5 (row GD (encOccurrence LEN GD) y1.1))])) w0)) ?_ ?_
    ·clear hr25 hN26
     show St.le _ _
     exact le_sparse rfl ⟨lR _, lR _, lR _, lR _, lR _, lR _, lR _, lR _, lR _, trivial⟩ ⟨rfl, oS, rfl, oS, trivial⟩ rfl
    ·clear hr25 hN26
     intro x z30 h K28 hK29 hY27
     obtain ⟨x0_, x1_⟩ := x
     replace h := of_let h
     obtain ⟨v21, hv21, h⟩ := h
     have hv21 : v21 = x0_ := hv21
     subst hv21
     replace h := of_let h
     obtain ⟨v22, hv22, h⟩ := h
     have hv22 : v22 = x1_ := hv22
     subst hv22
     cbv
     refine fork (fun b46 => ?_) (fun b46 => ?_)
     ·replace h := of_br_t b46 h
      cbv
      replace h := of_req h
      obtain ⟨c35, h⟩ := h
      refine ⟨⟨c35, trivial⟩, ?_⟩
      replace h := of_bind h
      obtain ⟨y36, hy37, h⟩ := h
      refine ⟨{ args := [.agg [.v (.int .i64 (GD y1.1 (A.nadd 0 (A.toN v5))).fPlace.fOrientation), .v (.int .i64 (GD y1.1 (A.nadd 0 (A.toN v5))).fPlace.fX), .v (.int .i64 (GD y1.1 (A.nadd 0 (A.toN v5))).fPlace.fY)], .agg [.v (.int .i64 (GD (GD a0.fCells (A.toN (GD y1.1 (A.nadd 0 (A.toN v5))).fCell)).fShapes (A.toN v21)).fBox.fX0), .v (.int .i64 (GD (GD a0.fCells (A.toN (GD y1.1 (A.nadd 0 (A.toN v5))).fCell)).fShapes (A.toN v21)).fBox.fY0), .v (.int .i64 (GD (GD a0.fCells (A.toN (GD y1.1 (A.nadd 0 (A.toN v5))).fCell)).fShapes (A.toN v21)).fBox.fX1), .v (.int .i64 (GD (GD a0.fCells (A.toN (GD y1.1 (A.nadd 0 (A.toN v5))).fCell)).fShapes (A.toN v21)).fBox.fY1)]], o0 := [], r := .agg [.v (.int .i64 y36.fX0), .v (.int .i64 y36.fY0), .v (.int .i64 y36.fX1), .v (.int .i64 y36.fY1)], o1 := [], fl := true, σ := [], τ := [] }, hf_impl_moveRect _ _ _ hy37, ⟨les_cons (lR _) (les_cons (lR _) (les_nil)), trivial, rfl, rfl, rfl, rfl, trivial, rfl⟩, ?_⟩
      cbv
      replace h := of_bind h
      obtain ⟨y38, hy39, h⟩ := h
      refine ⟨{ args := [.agg [.v (.int .i64 y36.fX0), .v (.int .i64 y36.fY0), .v (.int .i64 y36.fX1), .v (.int .i64 y36.fY1)]], o0 := [], r := .c (.v (.bool y38)), o1 := [], fl := true, σ := [], τ := [] }, hf_impl_IsValidRect _ _ hy39, ⟨les_cons (lR _) (les_nil), trivial, rfl, rfl, rfl, rfl, trivial, rfl⟩, ?_⟩
      cbv
      refine fork (fun b45 => ?_) (fun b45 => ?_)
      ·replace h := of_br_t b45 h
       cbv
       injection h with h
       refine hY27 _ h.symm _ _ (And.intro rfl ?_) (by intro hh; cases hh)
       exact le_sparse rfl ⟨lR _, lR _, trivial⟩ trivial rfl
      ·replace h := of_br_f b45 h
       cbv
       replace h := of_let h
       obtain ⟨l40, hl40, h⟩ := h
       have e41 : 1 = LEN l40 := by subst hl40 hLEN; rfl
       refine ⟨_, congrArg (fun n => AV.c (AC.os 3520 0 n)) e41, _, row GD (encShape) l40, e41, wkOf ?_, ?_⟩
       ·intro i hi j hj
        rw [← e41] at hi
        subst hl40
        subst hGD
        obtain rfl : i = 0 := (by omega) <;> obtain rfl | rfl | rfl | rfl | rfl : j = 0 ∨ j = 1 ∨ j = 2 ∨ j = 3 ∨ j = 4 := (by omega)
        all_goals rfl
       cbv
       replace h := of_req h
       obtain ⟨c44, h⟩ := h
       replace h := of_let h
       obtain ⟨l42, hl42, h⟩ := h
       have e43 : A.nadd (LEN v22) (LEN l40) = LEN l42 := by subst hl42 hLEN hA; simp [std, len]
       refine ⟨c44, _, congrArg (fun n => AV.c (AC.os 1472 0 n)) e43, _, row GD (encShape) l42, e43, wkOf ?_, ?_⟩
       ·subst hGD hLEN hA
        exact app_os (off := 0) (pl_encShape) hl42 (Nat.le_refl _)
       cbv
       injection h with h
       refine hK29 _ h.symm _ ?_
       exact le_sparse rfl ⟨lR _, lR _, lR _, lR _, lR _, lR _, lR _, lR _, lR _, trivial⟩ ⟨rfl, oS, rfl, oS, trivial⟩ rfl
     ·replace h := of_br_f b46 h
      cbv
      injection h with h
      refine hY27 _ h.symm _ _ (And.intro rfl ?_) (by intro hh; cases hh)
      exact le_sparse rfl ⟨lR _, lR _, lR _, lR _, lR _, trivial⟩ ⟨rfl, oS, oS, trivial⟩ rfl
    ·clear hr25
     have h := hN26
     clear hN26
     intro e33 s34 q32 hne
     rcases y24 with y24k0 | y24m0
     ·replace h := h
      obtain ⟨rfl, q32⟩ := q32
      replace h := of_let h
      obtain ⟨w47, hw47, h⟩ := h
      have hw47 : w47 = y24k0 := hw47
      subst hw47
      cbv
      injection h with h
      refine hY11 _ h.symm _ _ (And.intro rfl ?_) (by intro hh; cases hh)
      refine St.le_trans q32 ?_
      exact le_sparse rfl ⟨lR _, lR _, trivial⟩ trivial rfl
     ·replace h := of_let h
      obtain ⟨y24k1, hyk, h⟩ := h
      have hyk : y24k1 = y24m0 := hyk
      subst hyk
      obtain ⟨rfl, q32⟩ := q32
      replace h := of_let h
      obtain ⟨w48, hw48, h⟩ := h
      have hw48 : w48 = y24k1 := hw48
      subst hw48
      cbv
      refine ⟨_, q32, ?_⟩
      cbv
      injection h with h
      refine hK13 _ h.symm _ ?_
      exact le_sparse rfl ⟨lR _, lR _, lR _, lR _, lR _, trivial⟩ ⟨rfl, oS, oS, trivial⟩ rfl
   ·replace h := of_br_f b49 h
    cbv
    injection h with h
    refine hY11 _ h.symm _ _ (And.intro rfl ?_) (by intro hh; cases hh)
    exact le_sparse rfl ⟨lR _, trivial⟩ ⟨oS, trivial⟩ rfl
  ·clear hr9
   have h := hN10
   clear hN10
   intro e17 s18 q16 hne
   rcases y8 with y8k0 | y8m0
   ·replace h := h
    obtain ⟨rfl, q16⟩ := q16
    replace h := of_let h
    obtain ⟨w50, hw50, h⟩ := h
    have hw50 : w50 = y8k0 := hw50
    subst hw50
    cbv
    injection h with h
    subst h
    refine ⟨(sparse 60 [(4, .c (.os 64000 0 (LEN ([] : List TShape)))), (5, .c (.v (.int .i64 w50)))] [(64000, .arr .rw [] (LEN ([] : List TShape)) 5 (row GD (encShape) ([] : List TShape)))]), ?_, ?_⟩
    ·refine St.le_trans q16 ?_
     refine St.le_trans (le_nilT 4 64000 5 (row GD (encShape) ([] : List TShape)) (by decide) rfl) ?_
     subst hLEN
     exact le_sparse rfl ⟨lR _, lR _, trivial⟩ ⟨oS, trivial⟩ rfl
    ·subst hLEN
     exact ⟨lR _, ⟨oS, trivial⟩, rfl⟩
   ·replace h := of_let h
    obtain ⟨y8k1, hyk, h⟩ := h
    have hyk : y8k1 = y8m0 := hyk
    subst hyk
    obtain ⟨rfl, q16⟩ := q16
    replace h := of_let h
    obtain ⟨w51, hw51, h⟩ := h
    have hw51 : w51 = y8k1 := hw51
    subst hw51
    cbv
    refine ⟨_, q16, ?_⟩
    cbv
    injection h with h
    subst h
    refine ⟨(sparse 60 [(4, .c (.os 64000 0 (LEN w51))), (5, .c (.v (.int .i64 0)))] [(64000, .arr .rw [] (LEN w51) 5 (row GD (encShape) w51))]), ?_, ?_⟩
    ·refine St.le_trans (le_ren 1472 64000 (by decide) rfl) ?_
     exact le_sparse rfl ⟨lR _, lR _, trivial⟩ ⟨oS, trivial⟩ rfl
    ·exact ⟨lR _, ⟨oS, trivial⟩, rfl⟩

/-- impl.hasCell -/
noncomputable def F_impl_hasCell (a0 : TLibrary) (a1 : Int) : Option (Bool) :=
 ((
    (F_impl_IsValidLibrary a0).bind fun y8 =>
    br y8
    ((F_impl_within a1 0 (std.sub .i64 (std.ofN (len a0.fCells)) 1)).bind fun y10 =>
    some y10)
    (some false)
  ) : Option (Bool)).bind fun y1 =>
 letO y1 fun w7 =>
 some w7
theorem run_impl_hasCell (a0 : TLibrary) (a1 : Int) (r : Bool) (h : F_impl_hasCell a0 a1 = some r) : Fun Try.prog 76 [.agg [.bs (len a0.fCells) 4 (row gd (encCell len gd) a0.fCells)], .c (.v (.int .i64 a1))] [] (.c (.v (.bool r))) [] true := by
 refine Fun.of_wp (oneOf [1]) tok mixed Try.func76 (by kernel_rfl) rfl Try.ntmps76 rfl trivial (fun _ => ⟨trivial, trivial⟩) ?_
 unfold F_impl_hasCell at h
 have hf_impl_IsValidLibrary := @run_impl_IsValidLibrary
 have hf_impl_within := @run_impl_within
 generalize hLEN : @len = LEN at *
 generalize hGD : @gd = GD at *
 generalize hA : std = A at *
 generalize hP : Try.prog = P at *
 cbv
 replace h := of_bind h
 obtain ⟨y1, hy2, h⟩ := h
 obtain ⟨S5, hS6⟩ : ∃ S, S = (sparse 15 [(4, .c (.v (.bool y1)))] []) := ⟨_, rfl⟩
 refine ⟨S5, ?_, ?_⟩
 ·clear h
  have h := hy2
  clear hy2
  cbv
  replace h := of_bind h
  obtain ⟨y8, hy9, h⟩ := h
  refine ⟨{ args := [.agg [.bs (LEN a0.fCells) 4 (row GD (encCell LEN GD) a0.fCells)]], o0 := [], r := .c (.v (.bool y8)), o1 := [], fl := true, σ := [], τ := [] }, hf_impl_IsValidLibrary _ _ hy9, ⟨les_cons (lR _) (les_nil), trivial, rfl, rfl, rfl, rfl, trivial, rfl⟩, ?_⟩
  cbv
  refine fork (fun b12 => ?_) (fun b12 => ?_)
  ·replace h := of_br_t b12 h
   cbv
   replace h := of_bind h
   obtain ⟨y10, hy11, h⟩ := h
   refine ⟨{ args := [.c (.v (.int .i64 a1)), .c (.v (.int .i64 0)), .c (.v (.int .i64 (A.sub .i64 (A.ofN (LEN a0.fCells)) 1)))], o0 := [], r := .c (.v (.bool y10)), o1 := [], fl := true, σ := [], τ := [] }, hf_impl_within _ _ _ _ hy11, ⟨les_cons (lR _) (les_cons (lR _) (les_cons (lR _) (les_nil))), trivial, rfl, rfl, rfl, rfl, trivial, rfl⟩, ?_⟩
   cbv
   injection h with h
   subst h
   subst hS6
   show St.le _ _
   exact le_sparse rfl ⟨lR _, trivial⟩ trivial rfl
  ·replace h := of_br_f b12 h
   cbv
   injection h with h
   subst h
   subst hS6
   show St.le _ _
   exact le_sparse rfl ⟨lR _, trivial⟩ trivial rfl
 ·clear hy2
  subst hS6
  replace h := of_let h
  obtain ⟨w7, hw7, h⟩ := h
  have hw7 : w7 = y1 := hw7
  subst hw7
  cbv
  injection h with h
  subst h
  refine ⟨(sparse 15 [(4, .c (.v (.bool w7)))] []), ?_, ?_⟩
  ·exact le_sparse rfl ⟨lR _, trivial⟩ trivial rfl
  ·exact ⟨lR _, trivial, rfl⟩

/-- impl.windowCode -/
noncomputable def F_impl_windowCode (a0 : TLibrary) (a1 : Int) (a2 : Int) (a3 : TRect) : Option (Int) :=
 ((
    (F_impl_IsValidLibrary a0).bind fun y8 =>
    br (!(y8))
    (some true)
    ((F_impl_IsValidRect a3).bind fun y10 =>
    some (!(y10)))
  ) : Option (Bool)).bind fun y1 =>
 letO y1 fun w7 =>
 br w7
 (some 1)
 ((F_impl_hasCell a0 a1).bind fun y13 =>
 br (!(y13))
 (some 5)
 ((F_impl_within a2 0 7).bind fun y15 =>
 br (!(y15))
 (some 2)
 ((F_impl_elementCount a0 a1).bind fun y17 =>
 br (std.lt 200 y17)
 (some 3)
 (some 0))))
theorem run_impl_windowCode (a0 : TLibrary) (a1 : Int) (a2 : Int) (a3 : TRect) (r : Int) (h : F_impl_windowCode a0 a1 a2 a3 = some r) : Fun Try.prog 65 [.agg [.bs (len a0.fCells) 4 (row gd (encCell len gd) a0.fCells)], .c (.v (.int .i64 a1)), .c (.v (.int .i64 a2)), .agg [.v (.int .i64 a3.fX0), .v (.int .i64 a3.fY0), .v (.int .i64 a3.fX1), .v (.int .i64 a3.fY1)]] [] (.c (.v (.int .i64 r))) [] true := by
 refine Fun.of_wp (oneOf [1]) tok mixed Try.func65 (by kernel_rfl) rfl Try.ntmps65 rfl trivial (fun _ => ⟨trivial, trivial⟩) ?_
 unfold F_impl_windowCode at h
 have hf_impl_IsValidLibrary := @run_impl_IsValidLibrary
 have hf_impl_IsValidRect := @run_impl_IsValidRect
 have hf_impl_elementCount := @run_impl_elementCount
 have hf_impl_hasCell := @run_impl_hasCell
 have hf_impl_within := @run_impl_within
 generalize hLEN : @len = LEN at *
 generalize hGD : @gd = GD at *
 generalize hA : std = A at *
 generalize hP : Try.prog = P at *
 cbv
 replace h := of_bind h
 obtain ⟨y1, hy2, h⟩ := h
 obtain ⟨S5, hS6⟩ : ∃ S, S = (sparse 32 [(1, .c (.v (.int .i64 a1))), (2, .c (.v (.int .i64 a2))), (4, .c (.ptr 256 0)), (9, .c (.v (.bool y1)))] [(256, .var [.bs (LEN a0.fCells) 4 (row GD (encCell LEN GD) a0.fCells)])]) := ⟨_, rfl⟩
 refine ⟨S5, ?_, ?_⟩
 ·clear h
  have h := hy2
  clear hy2
  cbv
  replace h := of_bind h
  obtain ⟨y8, hy9, h⟩ := h
  refine ⟨{ args := [.agg [.bs (LEN a0.fCells) 4 (row GD (encCell LEN GD) a0.fCells)]], o0 := [], r := .c (.v (.bool y8)), o1 := [], fl := true, σ := [], τ := [] }, hf_impl_IsValidLibrary _ _ hy9, ⟨les_cons (lR _) (les_nil), trivial, rfl, rfl, rfl, rfl, trivial, rfl⟩, ?_⟩
  cbv
  refine fork (fun b12 => ?_) (fun b12 => ?_)
  ·replace h := of_br_t b12 h
   cbv
   injection h with h
   subst h
   subst hS6
   show St.le _ _
   exact le_sparse rfl ⟨lR _, lR _, lR _, lR _, trivial⟩ ⟨rfl, trivial⟩ rfl
  ·replace h := of_br_f b12 h
   cbv
   replace h := of_bind h
   obtain ⟨y10, hy11, h⟩ := h
   refine ⟨{ args := [.agg [.v (.int .i64 a3.fX0), .v (.int .i64 a3.fY0), .v (.int .i64 a3.fX1), .v (.int .i64 a3.fY1)]], o0 := [], r := .c (.v (.bool y10)), o1 := [], fl := true, σ := [], τ := [] }, hf_impl_IsValidRect _ _ hy11, ⟨les_cons (lR _) (les_nil), trivial, rfl, rfl, rfl, rfl, trivial, rfl⟩, ?_⟩
   cbv
   injection h with h
   subst h
   subst hS6
   show St.le _ _
   exact le_sparse rfl ⟨lR _, lR _, lR _, lR _, trivial⟩ ⟨rfl, trivial⟩ rfl
 ·clear hy2
  subst hS6
  replace h := of_let h
  obtain ⟨w7, hw7, h⟩ := h
  have hw7 : w7 = y1 := hw7
  subst hw7
  cbv
  refine fork (fun b22 => ?_) (fun b22 => ?_)
  ·replace h := of_br_t b22 h
   cbv
   injection h with h
   subst h
   refine ⟨(sparse 32 [(8, .c (.v (.int .i64 1)))] []), ?_, ?_⟩
   ·exact le_sparse rfl ⟨lR _, trivial⟩ trivial rfl
   ·exact ⟨lR _, trivial, rfl⟩
  ·replace h := of_br_f b22 h
   cbv
   replace h := of_bind h
   obtain ⟨y13, hy14, h⟩ := h
   refine ⟨{ args := [.agg [.bs (LEN a0.fCells) 4 (row GD (encCell LEN GD) a0.fCells)], .c (.v (.int .i64 a1))], o0 := [], r := .c (.v (.bool y13)), o1 := [], fl := true, σ := [], τ := [] }, hf_impl_hasCell _ _ _ hy14, ⟨les_cons (lR _) (les_cons (lR _) (les_nil)), trivial, rfl, rfl, rfl, rfl, trivial, rfl⟩, ?_⟩
   cbv
   refine fork (fun b21 => ?_) (fun b21 => ?_)
   ·replace h := of_br_t b21 h
    cbv
    injection h with h
    subst h
    refine ⟨(sparse 32 [(8, .c (.v (.int .i64 5)))] []), ?_, ?_⟩
    ·exact le_sparse rfl ⟨lR _, trivial⟩ trivial rfl
    ·exact ⟨lR _, trivial, rfl⟩
   ·replace h := of_br_f b21 h
    cbv
    replace h := of_bind h
    obtain ⟨y15, hy16, h⟩ := h
    refine ⟨{ args := [.c (.v (.int .i64 a2)), .c (.v (.int .i64 0)), .c (.v (.int .i64 7))], o0 := [], r := .c (.v (.bool y15)), o1 := [], fl := true, σ := [], τ := [] }, hf_impl_within _ _ _ _ hy16, ⟨les_cons (lR _) (les_cons (lR _) (les_cons (lR _) (les_nil))), trivial, rfl, rfl, rfl, rfl, trivial, rfl⟩, ?_⟩
    cbv
    refine fork (fun b20 => ?_) (fun b20 => ?_)
    ·replace h := of_br_t b20 h
     cbv
     injection h with h
     subst h
     refine ⟨(sparse 32 [(8, .c (.v (.int .i64 2)))] []), ?_, ?_⟩
     ·exact le_sparse rfl ⟨lR _, trivial⟩ trivial rfl
     ·exact ⟨lR _, trivial, rfl⟩
    ·replace h := of_br_f b20 h
     cbv
     replace h := of_bind h
     obtain ⟨y17, hy18, h⟩ := h
     refine ⟨{ args := [.agg [.bs (LEN a0.fCells) 4 (row GD (encCell LEN GD) a0.fCells)], .c (.v (.int .i64 a1))], o0 := [], r := .c (.v (.int .i64 y17)), o1 := [], fl := true, σ := [], τ := [] }, hf_impl_elementCount _ _ _ hy18, ⟨les_cons (lR _) (les_cons (lR _) (les_nil)), trivial, rfl, rfl, rfl, rfl, trivial, rfl⟩, ?_⟩
     cbv
     refine fork (fun b19 => ?_) (fun b19 => ?_)
     ·replace h := of_br_t b19 h
      cbv
      injection h with h
      subst h
      refine ⟨(sparse 32 [(8, .c (.v (.int .i64 3)))] []), ?_, ?_⟩
      ·exact le_sparse rfl ⟨lR _, trivial⟩ trivial rfl
      ·exact ⟨lR _, trivial, rfl⟩
     ·replace h := of_br_f b19 h
      cbv
      injection h with h
      subst h
      refine ⟨(sparse 32 [(8, .c (.v (.int .i64 0)))] []), ?_, ?_⟩
      ·exact le_sparse rfl ⟨lR _, trivial⟩ trivial rfl
      ·exact ⟨lR _, trivial, rfl⟩

/-- impl.unitRect -/
noncomputable def F_impl_unitRect (a0 : TPoint) : Option (TRect) :=
 some (TRect.mk a0.fX a0.fY (std.add .i64 a0.fX 1) (std.add .i64 a0.fY 1))
theorem run_impl_unitRect (a0 : TPoint) (r : TRect) (h : F_impl_unitRect a0 = some r) : Fun Try.prog 64 [.agg [.v (.int .i64 a0.fX), .v (.int .i64 a0.fY)]] [] (.agg [.v (.int .i64 r.fX0), .v (.int .i64 r.fY0), .v (.int .i64 r.fX1), .v (.int .i64 r.fY1)]) [] true := by
 refine Fun.of_wp (oneOf []) tok mixed Try.func64 (by kernel_rfl) rfl Try.ntmps64 rfl trivial (fun _ => ⟨(by simp [AV.flat, AV.flat1, AC.flat]), trivial⟩) ?_
 unfold F_impl_unitRect at h
 generalize hLEN : @len = LEN at *
 generalize hGD : @gd = GD at *
 generalize hA : std = A at *
 generalize hP : Try.prog = P at *
 cbv
 injection h with h
 subst h
 refine ⟨(sparse 14 [(2, .c (.ptr 128 0))] [(128, .var [.v (.int .i64 a0.fX), .v (.int .i64 a0.fY), .v (.int .i64 (A.add .i64 a0.fX 1)), .v (.int .i64 (A.add .i64 a0.fY 1))])]), ?_, ?_⟩
 ·exact le_sparse rfl ⟨lR _, trivial⟩ ⟨rfl, trivial⟩ rfl
 ·exact ⟨lR _, trivial, rfl⟩

noncomputable def L_impl_boxOf_x7 (a0 : List TRect) : (Int × Int × Int × Int × Int) → Option ((Int × Int × Int × Int × Int) ⊕ ((Int × Int × Int × Int))) := fun x7 =>
 letO x7.1 fun v2 =>
 letO x7.2.1 fun v3 =>
 letO x7.2.2.1 fun v4 =>
 letO x7.2.2.2.1 fun v5 =>
 letO x7.2.2.2.2 fun v6 =>
 br (std.lt v2 (std.ofN (len a0)))
 (req (std.inR v2 (len a0)) <|
 some (.inl (std.add .i64 v2 1, (std.imin v3 (gd a0 (std.toN v2)).fX0), (std.imin v4 (gd a0 (std.toN v2)).fY0), (std.imax v5 (gd a0 (std.toN v2)).fX1), (std.imax v6 (gd a0 (std.toN v2)).fY1))))
 (some (.inr (v3, v4, v5, v6)))
/-- impl.boxOf -/
noncomputable def F_impl_boxOf (a0 : List TRect) : Option (TRect) :=
 req (std.inR 0 (len a0)) <|
 (whileP (σ := Int × Int × Int × Int × Int) (ρ := (Int × Int × Int × Int)) (L_impl_boxOf_x7 a0) (0, (gd a0 (std.toN 0)).fX0, (gd a0 (std.toN 0)).fY0, (gd a0 (std.toN 0)).fX1, (gd a0 (std.toN 0)).fY1)).bind fun y8 =>
 letO y8 fun y8k0 =>
 letO y8k0.1 fun w21 =>
 letO y8k0.2.1 fun w22 =>
 letO y8k0.2.2.1 fun w23 =>
 letO y8k0.2.2.2 fun w24 =>
 some (TRect.mk w21 w22 w23 w24)
theorem run_impl_boxOf (a0 : List TRect) (r : TRect) (h : F_impl_boxOf a0 = some r) : Fun Try.prog 190 [.c (.bs (len a0) 4 (row gd (encRect) a0))] [] (.agg [.v (.int .i64 r.fX0), .v (.int .i64 r.fY0), .v (.int .i64 r.fX1), .v (.int .i64 r.fY1)]) [] true := by
 refine Fun.of_wp (oneOf []) tok mixed Try.func190 (by kernel_rfl) rfl Try.ntmps190 rfl trivial (fun _ => ⟨(by simp [AV.flat, AV.flat1, AC.flat]), trivial⟩) ?_
 unfold F_impl_boxOf at h
 unfold L_impl_boxOf_x7 at h
 generalize hLEN : @len = LEN at *
 generalize hGD : @gd = GD at *
 generalize hA : std = A at *
 generalize hP : Try.prog = P at *
 cbv
 replace h := of_req h
 obtain ⟨c1, h⟩ := h
 refine ⟨⟨c1, trivial⟩, ?_⟩
 replace h := of_bind h
 obtain ⟨y8, hr9, hN10⟩ := h
 refine loop_cut hr9 (fun x => (sparse 38 [(2, .c (.ptr 128 0)), (3, .c (.ptr 192 0)), (9, .c (.bs (LEN a0) 4 (row GD (encRect) a0))), (10, .c (.v (.int .i64 (A.ofN (LEN a0))))), (11, .c (.v (.int .i64 x.1)))] [(128, .var [.v (.int .i64 0), .v (.int .i64 0), .v (.int .i64 0), .v (.int .i64 0)]), (192, .var [.v (.int .i64 x.2.1), .v (.int .i64 x.2.2.1), .v (.int .i64 x.2.2.2.1), .v (.int .i64 x.2.2.2.2)])])) ?_ (fun y e s => (fun (w : Int × Int × Int × Int) => e = .exit 0 ∧ s.le (sparse 38 [(2, .c (.ptr 128 0)), (3, .c (.ptr 192 0))] [(128, .var [.v (.int .i64 0), .v (.int .i64 0), .v (.int .i64 0), .v (.int .i64 0)]), (192, .var [.v (.int .i64 w.1), .v (.int .i64 w.2.1), .v (.int .i64 w.2.2.1), .v (.int .i64 w.2.2.2)])])) y) ?_ ?_
 ·clear hr9 hN10
  show St.le _ _
  exact le_sparse rfl ⟨lR _, lR _, lR _, lR _, lR _, trivial⟩ ⟨rfl, rfl, trivial⟩ rfl
 ·clear hr9 hN10
  intro x z14 h K12 hK13 hY11
  obtain ⟨x0_, x1_, x2_, x3_, x4_⟩ := x
  replace h := of_let h
  obtain ⟨v2, hv2, h⟩ := h
  have hv2 : v2 = x0_ := hv2
  subst hv2
  replace h := of_let h
  obtain ⟨v3, hv3, h⟩ := h
  have hv3 : v3 = x1_ := hv3
  subst hv3
  replace h := of_let h
  obtain ⟨v4, hv4, h⟩ := h
  have hv4 : v4 = x2_ := hv4
  subst hv4
  replace h := of_let h
  obtain ⟨v5, hv5, h⟩ := h
  have hv5 : v5 = x3_ := hv5
  subst hv5
  replace h := of_let h
  obtain ⟨v6, hv6, h⟩ := h
  have hv6 : v6 = x4_ := hv6
  subst hv6
  cbv
  refine fork (fun b20 => ?_) (fun b20 => ?_)
  ·replace h := of_br_t b20 h
   cbv
   replace h := of_req h
   obtain ⟨c19, h⟩ := h
   refine ⟨⟨c19, trivial⟩, ?_⟩
   injection h with h
   refine hK13 _ h.symm _ ?_
   exact le_sparse rfl ⟨lR _, lR _, lR _, lR _, lR _, trivial⟩ ⟨rfl, rfl, trivial⟩ rfl
  ·replace h := of_br_f b20 h
   cbv
   injection h with h
   refine hY11 _ h.symm _ _ (And.intro rfl ?_) (by intro hh; cases hh)
   exact le_sparse rfl ⟨lR _, lR _, trivial⟩ ⟨rfl, rfl, trivial⟩ rfl
 ·clear hr9
  have h := hN10
  clear hN10
  intro e17 s18 q16 hne
  replace h := of_let h
  obtain ⟨y8k0, hyk, h⟩ := h
  have hyk : y8k0 = y8 := hyk
  subst hyk
  obtain ⟨rfl, q16⟩ := q16
  obtain ⟨y8k0_0, y8k0_1, y8k0_2, y8k0_3⟩ := y8k0
  replace h := of_let h
  obtain ⟨w21, hw21, h⟩ := h
  have hw21 : w21 = y8k0_0 := hw21
  subst hw21
  replace h := of_let h
  obtain ⟨w22, hw22, h⟩ := h
  have hw22 : w22 = y8k0_1 := hw22
  subst hw22
  replace h := of_let h
  obtain ⟨w23, hw23, h⟩ := h
  have hw23 : w23 = y8k0_2 := hw23
  subst hw23
  replace h := of_let h
  obtain ⟨w24, hw24, h⟩ := h
  have hw24 : w24 = y8k0_3 := hw24
  subst hw24
  cbv
  refine ⟨_, q16, ?_⟩
  cbv
  injection h with h
  subst h
  refine ⟨(sparse 38 [(2, .c (.ptr 128 0))] [(128, .var [.v (.int .i64 w21), .v (.int .i64 w22), .v (.int .i64 w23), .v (.int .i64 w24)])]), ?_, ?_⟩
  ·exact le_sparse rfl ⟨lR _, trivial⟩ ⟨rfl, trivial⟩ rfl
  ·exact ⟨lR _, trivial, rfl⟩
noncomputable def L_impl_contentBoxes_x95 (y66 : (List Telement)) (w89 : Int) (v4 : List (List TRect)) (v68 : Int) : (Int × (List TRect)) → Option ((Int × (List TRect)) ⊕ (((List TRect)))) := fun x95 =>
 letO x95.1 fun v93 =>
 letO x95.2 fun v94 =>
 br (std.lt v93 w89)
 (((
    req (std.inR v93 (len (gd v4 (std.nadd 0 (std.toN (gd y66 (std.nadd 0 (std.toN v68))).gcell))))) <|
    some ((gd (gd v4 (std.nadd 0 (std.toN (gd y66 (std.nadd 0 (std.toN v68))).gcell))) (std.nadd 0 (std.toN v93))).fX0, (gd (gd v4 (std.nadd 0 (std.toN (gd y66 (std.nadd 0 (std.toN v68))).gcell))) (std.nadd 0 (std.toN v93))).fY0, (gd (gd v4 (std.nadd 0 (std.toN (gd y66 (std.nadd 0 (std.toN v68))).gcell))) (std.nadd 0 (std.toN v93))).fX1, (gd (gd v4 (std.nadd 0 (std.toN (gd y66 (std.nadd 0 (std.toN v68))).gcell))) (std.nadd 0 (std.toN v93))).fY1)
  ) : Option (Int × Int × Int × Int)).bind fun y107 =>
 letO y107.1 fun w113 =>
 letO y107.2.1 fun w114 =>
 letO y107.2.2.1 fun w115 =>
 letO y107.2.2.2 fun w116 =>
 ((
    (F_impl_moveRect (gd y66 (std.nadd 0 (std.toN v68))).gplace (TRect.mk w113 w114 w115 w116)).bind fun y125 =>
    letO ([y125] : List TRect) fun l127 =>
    req (std.room (std.nadd (len v94) (len l127)) 32) <|
    letO (v94 ++ l127) fun l129 =>
    some l129
  ) : Option ((List TRect))).bind fun y118 =>
 letO y118 fun w124 =>
 some (.inl (std.add .i64 v93 1, w124)))
 (some (.inr v94))
noncomputable def L_impl_contentBoxes_x70 (y66 : (List Telement)) (v4 : List (List TRect)) : (Int × (List TRect)) → Option ((Int × (List TRect)) ⊕ (((List TRect)))) := fun x70 =>
 letO x70.1 fun v68 =>
 letO x70.2 fun v69 =>
 br (std.lt v68 (std.ofN (len y66)))
 (req (std.inR v68 (len y66)) <|
 ((
    req (std.inR (gd y66 (std.nadd 0 (std.toN v68))).gcell (len v4)) <|
    some (std.ofN (len (gd v4 (std.nadd 0 (std.toN (gd y66 (std.nadd 0 (std.toN v68))).gcell)))), 0)
  ) : Option (Int × Int)).bind fun y83 =>
 letO y83.1 fun w89 =>
 letO y83.2 fun w90 =>
 req (std.inR (gd y66 (std.nadd 0 (std.toN v68))).gcell (len v4)) <|
 (whileP (σ := Int × (List TRect)) (ρ := ((List TRect))) (L_impl_contentBoxes_x95 y66 w89 v4 v68) (w90, v69)).bind fun y96 =>
 letO y96 fun y96k0 =>
 letO y96k0 fun w133 =>
 some (.inl (std.add .i64 v68 1, w133)))
 (some (.inr v69))
noncomputable def L_impl_contentBoxes_x44 (a0 : TLibrary) (v3 : Int) : (Int × (List TRect)) → Option ((Int × (List TRect)) ⊕ (((List TRect)))) := fun x44 =>
 letO x44.1 fun v42 =>
 letO x44.2 fun v43 =>
 br (std.lt v42 (std.ofN (len (gd a0.fCells (std.toN v3)).fLabels)))
 (req (std.inR v42 (len (gd a0.fCells (std.toN v3)).fLabels)) <|
 (F_impl_unitRect (gd (gd a0.fCells (std.toN v3)).fLabels (std.toN v42)).fAt).bind fun y57 =>
 letO ([y57] : List TRect) fun l59 =>
 req (std.room (std.nadd (len v43) (len l59)) 32) <|
 letO (v43 ++ l59) fun l61 =>
 some (.inl (std.add .i64 v42 1, l61)))
 (some (.inr v43))
noncomputable def L_impl_contentBoxes_x22 (a0 : TLibrary) (v3 : Int) : (Int × (List TRect)) → Option ((Int × (List TRect)) ⊕ (((List TRect)))) := fun x22 =>
 letO x22.1 fun v20 =>
 letO x22.2 fun v21 =>
 br (std.lt v20 (std.ofN (len (gd a0.fCells (std.toN v3)).fShapes)))
 (req (std.inR v20 (len (gd a0.fCells (std.toN v3)).fShapes)) <|
 letO ([(gd (gd a0.fCells (std.toN v3)).fShapes (std.toN v20)).fBox] : List TRect) fun l35 =>
 req (std.room (std.nadd (len v21) (len l35)) 32) <|
 letO (v21 ++ l35) fun l37 =>
 some (.inl (std.add .i64 v20 1, l37)))
 (some (.inr v21))
noncomputable def L_impl_contentBoxes_x5 (a0 : TLibrary) : (Int × (List (List TRect))) → Option ((Int × (List (List TRect))) ⊕ (((List (List TRect))))) := fun x5 =>
 letO x5.1 fun v3 =>
 letO x5.2 fun v4 =>
 br (std.lt v3 (std.ofN (len a0.fCells)))
 (req (std.inR v3 (len a0.fCells)) <|
 letO ([] : List TRect) fun l18 =>
 (whileP (σ := Int × (List TRect)) (ρ := ((List TRect))) (L_impl_contentBoxes_x22 a0 v3) (0, l18)).bind fun y23 =>
 letO y23 fun y23k0 =>
 letO y23k0 fun w41 =>
 (whileP (σ := Int × (List TRect)) (ρ := ((List TRect))) (L_impl_contentBoxes_x44 a0 v3) (0, w41)).bind fun y45 =>
 letO y45 fun y45k0 =>
 letO y45k0 fun w65 =>
 (F_impl_elements (gd a0.fCells (std.toN v3))).bind fun y66 =>
 (whileP (σ := Int × (List TRect)) (ρ := ((List TRect))) (L_impl_contentBoxes_x70 y66 v4) (0, w65)).bind fun y71 =>
 letO y71 fun y71k0 =>
 letO y71k0 fun w135 =>
 ((
    br (std.lt 0 (std.ofN (len w135)))
    ((F_impl_boxOf w135).bind fun y143 =>
    letO ([y143] : List TRect) fun l145 =>
    some l145)
    (some w135)
  ) : Option ((List TRect))).bind fun y136 =>
 letO y136 fun w142 =>
 ((
    letO ([w142] : List (List TRect)) fun l155 =>
    req (std.room (std.nadd (len v4) (len l155)) 24) <|
    letO (v4 ++ l155) fun l157 =>
    some l157
  ) : Option ((List (List TRect)))).bind fun y148 =>
 letO y148 fun w154 =>
 some (.inl (std.add .i64 v3 1, w154)))
 (some (.inr v4))
/-- impl.contentBoxes -/
noncomputable def F_impl_contentBoxes (a0 : TLibrary) : Option (List (List TRect)) :=
 letO ([] : List (List TRect)) fun l1 =>
 (whileP (σ := Int × (List (List TRect))) (ρ := ((List (List TRect)))) (L_impl_contentBoxes_x5 a0) (0, l1)).bind fun y6 =>
 letO y6 fun y6k0 =>
 letO y6k0 fun w161 =>
 some w161
theorem run_impl_contentBoxes (a0 : TLibrary) (r : List (List TRect)) (h : F_impl_contentBoxes a0 = some r) : Fun Try.prog 129 [.agg [.bs (len a0.fCells) 4 (row gd (encCell len gd) a0.fCells)]] [] (.c (.os 64000 0 (len r))) [(64000, .arr .rw [] (len r) 1 (row gd (oncL len gd 4 (encRect)) r))] true := by
 refine Fun.of_wp (oneOf [19, 21, 22, 27, 100079]) tok mixed Try.func129 (by kernel_rfl) rfl Try.ntmps129 rfl trivial (fun _ => ⟨trivial, ⟨fun i _ j _ => fl_oncL (vl_encRect) _ _, trivial⟩⟩) ?_
 unfold F_impl_contentBoxes at h
 unfold L_impl_contentBoxes_x5 at h
 unfold L_impl_contentBoxes_x22 at h
 unfold L_impl_contentBoxes_x44 at h
 unfold L_impl_contentBoxes_x70 at h
 unfold L_impl_contentBoxes_x95 at h
 have hf_impl_boxOf := @run_impl_boxOf
 have hf_impl_elements := @run_impl_elements
 have hf_impl_moveRect := @run_impl_moveRect
 have hf_impl_unitRect := @run_impl_unitRect
 generalize hLEN : @len = LEN at *
 generalize hGD : @gd = GD at *
 generalize hA : std = A at *
 generalize hP : Try.prog = P at *
 cbv
 replace h := of_let h
 obtain ⟨l1, hl1, h⟩ := h
 have e2 : 0 = LEN l1 := by subst hl1 hLEN; rfl
 refine ⟨_, congrArg (fun n => AV.c (AC.os 960 0 n)) e2, _, row GD (oncL LEN GD 4 (encRect)) l1, e2, wkOf ?_, ?_⟩
 ·intro i hi j hj
  rw [← e2] at hi
  subst hl1
  subst hGD
  omega
 cbv
 replace h := of_bind h
 obtain ⟨y6, hr7, hN8⟩ := h
 refine loop_cut hr7 (fun x => (sparse 89 [(3, .c (.os 960 0 (LEN x.2))), (17, .c (.bs (LEN a0.fCells) 4 (row GD (encCell LEN GD) a0.fCells))), (18, .c (.v (.int .i64 (A.ofN (LEN a0.fCells))))), (19, .c (.v (.int .i64 x.1)))] [(960, .arr .rw [] (LEN x.2) 1 (row GD (oncL LEN GD 4 (encRect)) x.2))])) ?_ (fun y e s => (fun (w : (List (List TRect))) => e = .exit 0 ∧ s.le (sparse 89 [(3, .c (.os 960 0 (LEN w)))] [(960, .arr .rw [] (LEN w) 1 (row GD (oncL LEN GD 4 (encRect)) w))])) y) ?_ ?_
 ·clear hr7 hN8
  show St.le _ _
  exact le_sparse rfl ⟨lR _, lR _, lR _, lR _, trivial⟩ ⟨oS, trivial⟩ rfl
 ·clear hr7 hN8
  intro x z12 h K10 hK11 hY9
  obtain ⟨x0_, x1_⟩ := x
  replace h := of_let h
  obtain ⟨v3, hv3, h⟩ := h
  have hv3 : v3 = x0_ := hv3
  subst hv3
  replace h := of_let h
  obtain ⟨v4, hv4, h⟩ := h
  have hv4 : v4 = x1_ := hv4
  subst hv4
  cbv
  refine fork (fun b160 => ?_) (fun b160 => ?_)
  ·replace h := of_br_t b160 h
   cbv
   replace h := of_req h
   obtain ⟨c17, h⟩ := h
   refine ⟨⟨c17, trivial⟩, ?_⟩
   replace h := of_let h
   obtain ⟨l18, hl18, h⟩ := h
   have e19 : 0 = LEN l18 := by subst hl18 hLEN; rfl
   refine ⟨_, congrArg (fun n => AV.c (AC.os 1472 0 n)) e19, _, row GD (encRect) l18, e19, wkOf ?_, ?_⟩
   ·intro i hi j hj
    rw [← e19] at hi
    subst hl18
    subst hGD
    omega
   cbv
   replace h := of_bind h
   obtain ⟨y23, hr24, hN25⟩ := h
   refine loop_cut hr24 (fun x => (sparse 89 [(3, .c (.os 960 0 (LEN v4))), (5, .c (.ptr 320 0)), (6, .c (.os 1472 0 (LEN x.2))), (17, .c (.bs (LEN a0.fCells) 4 (row GD (encCell LEN GD) a0.fCells))), (18, .c (.v (.int .i64 (A.ofN (LEN a0.fCells))))), (19, .c (.v (.int .i64 v3))), (25, .c (.bs (LEN (GD a0.fCells (A.toN v3)).fShapes) 5 (row GD (encShape) (GD a0.fCells (A.toN v3)).fShapes))), (26, .c (.v (.int .i64 (A.ofN (LEN (GD a0.fCells (A.toN v3)).fShapes))))), (27, .c (.v (.int .i64 x.1)))] [(960, .arr .rw [] (LEN v4) 1 (row GD (oncL LEN GD 4 (encRect)) v4)), (320, .var [.v (.string (GD a0.fCells (A.toN v3)).fName), .bs (LEN (GD a0.fCells (A.toN v3)).fShapes) 5 (row GD (encShape) (GD a0.fCells (A.toN v3)).fShapes), .bs (LEN (GD a0.fCells (A.toN v3)).fLabels) 4 (row GD (encLabel) (GD a0.fCells (A.toN v3)).fLabels), .bs (LEN (GD a0.fCells (A.toN v3)).fInstances) 8 (row GD (encInstance) (GD a0.fCells (A.toN v3)).fInstances)]), (1472, .arr .rw [] (LEN x.2) 4 (row GD (encRect) x.2))])) ?_ (fun y e s => (fun (w : (List TRect)) => e = .exit 2 ∧ s.le (sparse 89 [(3, .c (.os 960 0 (LEN v4))), (5, .c (.ptr 320 0)), (6, .c (.os 1472 0 (LEN w))), (17, .c (.bs (LEN a0.fCells) 4 (row GD (encCell LEN GD) a0.fCells))), (18, .c (.v (.int .i64 (A.ofN (LEN a0.fCells))))), (19, .c (.v (.int .i64 v3)))] [(960, .arr .rw [] (LEN v4) 1 (row GD (oncL LEN GD 4 (encRect)) v4)), (320, .var [.v (.string (GD a0.fCells (A.toN v3)).fName), .bs (LEN (GD a0.fCells (A.toN v3)).fShapes) 5 (row GD (encShape) (GD a0.fCells (A.toN v3)).fShapes), .bs (LEN (GD a0.fCells (A.toN v3)).fLabels) 4 (row GD (encLabel) (GD a0.fCells (A.toN v3)).fLabels), .bs (LEN (GD a0.fCells (A.toN v3)).fInstances) 8 (row GD (encInstance) (GD a0.fCells (A.toN v3)).fInstances)]), (1472, .arr .rw [] (LEN w) 4 (row GD (encRect) w))])) y) ?_ ?_
   ·clear hr24 hN25
    show St.le _ _
    exact le_sparse rfl ⟨lR _, lR _, lR _, lR _, lR _, lR _, lR _, lR _, lR _, trivial⟩ ⟨oS, rfl, oS, trivial⟩ rfl
   ·clear hr24 hN25
    intro x z29 h K27 hK28 hY26
    obtain ⟨x0_, x1_⟩ := x
    replace h := of_let h
    obtain ⟨v20, hv20, h⟩ := h
    have hv20 : v20 = x0_ := hv20
    subst hv20
    replace h := of_let h
    obtain ⟨v21, hv21, h⟩ := h
    have hv21 : v21 = x1_ := hv21
    subst hv21
    cbv
    refine fork (fun b40 => ?_) (fun b40 => ?_)
    ·replace h := of_br_t b40 h
     cbv
     replace h := of_req h
     obtain ⟨c34, h⟩ := h
     refine ⟨⟨c34, trivial⟩, ?_⟩
     replace h := of_let h
     obtain ⟨l35, hl35, h⟩ := h
     have e36 : 1 = LEN l35 := by subst hl35 hLEN; rfl
     refine ⟨_, congrArg (fun n => AV.c (AC.os 2176 0 n)) e36, _, row GD (encRect) l35, e36, wkOf ?_, ?_⟩
     ·intro i hi j hj
      rw [← e36] at hi
      subst hl35
      subst hGD
      obtain rfl : i = 0 := (by omega) <;> obtain rfl | rfl | rfl | rfl : j = 0 ∨ j = 1 ∨ j = 2 ∨ j = 3 := (by omega)
      all_goals rfl
     cbv
     replace h := of_req h
     obtain ⟨c39, h⟩ := h
     replace h := of_let h
     obtain ⟨l37, hl37, h⟩ := h
     have e38 : A.nadd (LEN v21) (LEN l35) = LEN l37 := by subst hl37 hLEN hA; simp [std, len]
     refine ⟨c39, _, congrArg (fun n => AV.c (AC.os 1472 0 n)) e38, _, row GD (encRect) l37, e38, wkOf ?_, ?_⟩
     ·subst hGD hLEN hA
      exact app_os (off := 0) (pl_encRect) hl37 (Nat.le_refl _)
     cbv
     injection h with h
     refine hK28 _ h.symm _ ?_
     exact le_sparse rfl ⟨lR _, lR _, lR _, lR _, lR _, lR _, lR _, lR _, lR _, trivial⟩ ⟨oS, rfl, oS, trivial⟩ rfl
    ·replace h := of_br_f b40 h
     cbv
     injection h with h
     refine hY26 _ h.symm _ _ (And.intro rfl ?_) (by intro hh; cases hh)
     exact le_sparse rfl ⟨lR _, lR _, lR _, lR _, lR _, lR _, trivial⟩ ⟨oS, rfl, oS, trivial⟩ rfl
   ·clear hr24
    have h := hN25
    clear hN25
    intro e32 s33 q31 hne
    replace h := of_let h
    obtain ⟨y23k0, hyk, h⟩ := h
    have hyk : y23k0 = y23 := hyk
    subst hyk
    obtain ⟨rfl, q31⟩ := q31
    replace h := of_let h
    obtain ⟨w41, hw41, h⟩ := h
    have hw41 : w41 = y23k0 := hw41
    subst hw41
    cbv
    refine ⟨_, q31, ?_⟩
    cbv
    replace h := of_bind h
    obtain ⟨y45, hr46, hN47⟩ := h
    refine loop_cut hr46 (fun x => (sparse 89 [(3, .c (.os 960 0 (LEN v4))), (5, .c (.ptr 320 0)), (6, .c (.os 1472 0 (LEN x.2))), (17, .c (.bs (LEN a0.fCells) 4 (row GD (encCell LEN GD) a0.fCells))), (18, .c (.v (.int .i64 (A.ofN (LEN a0.fCells))))), (19, .c (.v (.int .i64 v3))), (38, .c (.bs (LEN (GD a0.fCells (A.toN v3)).fLabels) 4 (row GD (encLabel) (GD a0.fCells (A.toN v3)).fLabels))), (39, .c (.v (.int .i64 (A.ofN (LEN (GD a0.fCells (A.toN v3)).fLabels))))), (40, .c (.v (.int .i64 x.1)))] [(960, .arr .rw [] (LEN v4) 1 (row GD (oncL LEN GD 4 (encRect)) v4)), (320, .var [.v (.string (GD a0.fCells (A.toN v3)).fName), .bs (LEN (GD a0.fCells (A.toN v3)).fShapes) 5 (row GD (encShape) (GD a0.fCells (A.toN v3)).fShapes), .bs (LEN (GD a0.fCells (A.toN v3)).fLabels) 4 (row GD (encLabel) (GD a0.fCells (A.toN v3)).fLabels), .bs (LEN (GD a0.fCells (A.toN v3)).fInstances) 8 (row GD (encInstance) (GD a0.fCells (A.toN v3)).fInstances)]), (1472, .arr .rw [] (LEN x.2) 4 (row GD (encRect) x.2))])) ?_ (fun y e s => (fun (w : (List TRect)) => e = .exit 4 ∧ s.le (sparse 89 [(3, .c (.os 960 0 (LEN v4))), (5, .c (.ptr 320 0)), (6, .c (.os 1472 0 (LEN w))), (17, .c (.bs (LEN a0.fCells) 4 (row GD (encCell LEN GD) a0.fCells))), (18, .c (.v (.int .i64 (A.ofN (LEN a0.fCells))))), (19, .c (.v (.int .i64 v3)))] [(960, .arr .rw [] (LEN v4) 1 (row GD (oncL LEN GD 4 (encRect)) v4)), (320, .var [.v (.string (GD a0.fCells (A.toN v3)).fName), .bs (LEN (GD a0.fCells (A.toN v3)).fShapes) 5 (row GD (encShape) (GD a0.fCells (A.toN v3)).fShapes), .bs (LEN (GD a0.fCells (A.toN v3)).fLabels) 4 (row GD (encLabel) (GD a0.fCells (A.toN v3)).fLabels), .bs (LEN (GD a0.fCells (A.toN v3)).fInstances) 8 (row GD (encInstance) (GD a0.fCells (A.toN v3)).fInstances)]), (1472, .arr .rw [] (LEN w) 4 (row GD (encRect) w))])) y) ?_ ?_
    ·clear hr46 hN47
     show St.le _ _
     exact le_sparse rfl ⟨lR _, lR _, lR _, lR _, lR _, lR _, lR _, lR _, lR _, trivial⟩ ⟨oS, rfl, oS, trivial⟩ rfl
    ·clear hr46 hN47
     intro x z51 h K49 hK50 hY48
     obtain ⟨x0_, x1_⟩ := x
     replace h := of_let h
     obtain ⟨v42, hv42, h⟩ := h
     have hv42 : v42 = x0_ := hv42
     subst hv42
     replace h := of_let h
     obtain ⟨v43, hv43, h⟩ := h
     have hv43 : v43 = x1_ := hv43
     subst hv43
     cbv
     refine fork (fun b64 => ?_) (fun b64 => ?_)
     ·replace h := of_br_t b64 h
      cbv
      replace h := of_req h
      obtain ⟨c56, h⟩ := h
      refine ⟨⟨c56, trivial⟩, ?_⟩
      replace h := of_bind h
      obtain ⟨y57, hy58, h⟩ := h
      refine ⟨{ args := [.agg [.v (.int .i64 (GD (GD a0.fCells (A.toN v3)).fLabels (A.toN v42)).fAt.fX), .v (.int .i64 (GD (GD a0.fCells (A.toN v3)).fLabels (A.toN v42)).fAt.fY)]], o0 := [], r := .agg [.v (.int .i64 y57.fX0), .v (.int .i64 y57.fY0), .v (.int .i64 y57.fX1), .v (.int .i64 y57.fY1)], o1 := [], fl := true, σ := [], τ := [] }, hf_impl_unitRect _ _ hy58, ⟨les_cons (lR _) (les_nil), trivial, rfl, rfl, rfl, rfl, trivial, rfl⟩, ?_⟩
      cbv
      replace h := of_let h
      obtain ⟨l59, hl59, h⟩ := h
      have e60 : 1 = LEN l59 := by subst hl59 hLEN; rfl
      refine ⟨_, congrArg (fun n => AV.c (AC.os 3072 0 n)) e60, _, row GD (encRect) l59, e60, wkOf ?_, ?_⟩
      ·intro i hi j hj
       rw [← e60] at hi
       subst hl59
       subst hGD
       obtain rfl : i = 0 := (by omega) <;> obtain rfl | rfl | rfl | rfl : j = 0 ∨ j = 1 ∨ j = 2 ∨ j = 3 := (by omega)
       all_goals rfl
      cbv
      replace h := of_req h
      obtain ⟨c63, h⟩ := h
      replace h := of_let h
      obtain ⟨l61, hl61, h⟩ := h
      have e62 : A.nadd (LEN v43) (LEN l59) = LEN l61 := by subst hl61 hLEN hA; simp [std, len]
      refine ⟨c63, _, congrArg (fun n => AV.c (AC.os 1472 0 n)) e62, _, row GD (encRect) l61, e62, wkOf ?_, ?_⟩
      ·subst hGD hLEN hA
       exact app_os (off := 0) (pl_encRect) hl61 (Nat.le_refl _)
      cbv
      injection h with h
      refine hK50 _ h.symm _ ?_
      exact le_sparse rfl ⟨lR _, lR _, lR _, lR _, lR _, lR _, lR _, lR _, lR _, trivial⟩ ⟨oS, rfl, oS, trivial⟩ rfl
     ·replace h := of_br_f b64 h
      cbv
      injection h with h
      refine hY48 _ h.symm _ _ (And.intro rfl ?_) (by intro hh; cases hh)
      exact le_sparse rfl ⟨lR _, lR _, lR _, lR _, lR _, lR _, trivial⟩ ⟨oS, rfl, oS, trivial⟩ rfl
    ·clear hr46
     have h := hN47
     clear hN47
     intro e54 s55 q53 hne
     replace h := of_let h
     obtain ⟨y45k0, hyk, h⟩ := h
     have hyk : y45k0 = y45 := hyk
     subst hyk
     obtain ⟨rfl, q53⟩ := q53
     replace h := of_let h
     obtain ⟨w65, hw65, h⟩ := h
     have hw65 : w65 = y45k0 := hw65
     subst hw65
     cbv
     refine ⟨_, q53, ?_⟩
     cbv
     replace h := of_bind h
     obtain ⟨y66, hy67, h⟩ := h
     refine ⟨{ args := [.agg [.v (.string (GD a0.fCells (A.toN v3)).fName), .bs (LEN (GD a0.fCells (A.toN v3)).fShapes) 5 (row GD (encShape) (GD a0.fCells (A.toN v3)).fShapes), .bs (LEN (GD a0.fCells (A.toN v3)).fLabels) 4 (row GD (encLabel) (GD a0.fCells (A.toN v3)).fLabels), .bs (LEN (GD a0.fCells (A.toN v3)).fInstances) 8 (row GD (encInstance) (GD a0.fCells (A.toN v3)).fInstances)]], o0 := [], r := .c (.os 64000 0 (LEN y66)), o1 := [(64000, .arr .rw [] (LEN y66) 4 (row GD (encelement) y66))], fl := true, σ := [], τ := [(64000, 3328)] }, hf_impl_elements _ _ hy67, ⟨les_cons (lR _) (les_nil), trivial, rfl, rfl, rfl, rfl, ⟨fun h => absurd (show (64000 : Nat) % 2 = 1 from h) (by decide), trivial⟩, rfl⟩, _, rfl, _, _, rfl, fun _ _ _ _ => .refl _, ?_⟩
     cbv
     replace h := of_bind h
     obtain ⟨y71, hr72, hN73⟩ := h
     refine loop_cut hr72 (fun x => (sparse 89 [(3, .c (.os 960 0 (LEN v4))), (6, .c (.os 1472 0 (LEN x.2))), (17, .c (.bs (LEN a0.fCells) 4 (row GD (encCell LEN GD) a0.fCells))), (18, .c (.v (.int .i64 (A.ofN (LEN a0.fCells))))), (19, .c (.v (.int .i64 v3))), (52, .c (.os 3328 0 (LEN y66))), (53, .c (.v (.int .i64 (A.ofN (LEN y66))))), (54, .c (.v (.int .i64 x.1)))] [(960, .arr .rw [] (LEN v4) 1 (row GD (oncL LEN GD 4 (encRect)) v4)), (1472, .arr .rw [] (LEN x.2) 4 (row GD (encRect) x.2)), (3328, .arr .rw [] (LEN y66) 4 (row GD (encelement) y66))])) ?_ (fun y e s => (fun (w : (List TRect)) => e = .exit 6 ∧ s.le (sparse 89 [(3, .c (.os 960 0 (LEN v4))), (6, .c (.os 1472 0 (LEN w))), (17, .c (.bs (LEN a0.fCells) 4 (row GD (encCell LEN GD) a0.fCells))), (18, .c (.v (.int .i64 (A.ofN (LEN a0.fCells))))), (19, .c (.v (.int .i64 v3)))] [(960, .arr .rw [] (LEN v4) 1 (row GD (oncL LEN GD 4 (encRect)) v4)), (1472, .arr .rw [] (LEN w) 4 (row GD (encRect) w))])) y) ?_ ?_
     ·clear hr72 hN73
      show St.le _ _
      exact le_sparse rfl ⟨lR _, lR _, lR _, lR _, lR _, lR _, lR _, lR _, trivial⟩ ⟨oS, oS, oS, trivial⟩ rfl
     ·clear hr72 hN73
      intro x z77 h K75 hK76 hY74
      obtain ⟨x0_, x1_⟩ := x
      replace h := of_let h
      obtain ⟨v68, hv68, h⟩ := h
      have hv68 : v68 = x0_ := hv68
      subst hv68
      replace h := of_let h
      obtain ⟨v69, hv69, h⟩ := h
      have hv69 : v69 = x1_ := hv69
      subst hv69
      cbv
      refine fork (fun b134 => ?_) (fun b134 => ?_)
      ·replace h := of_br_t b134 h
       cbv
       replace h := of_req h
       obtain ⟨c82, h⟩ := h
       refine ⟨⟨c82, trivial⟩, ?_⟩
       refine And.intro (by first | exact (by subst hA; exact idx_lt c82) | (refine And.intro (by subst hA; exact idx_lt c82) ?_; first | trivial | exact ⟨trivial, trivial⟩)) ?_
       replace h := of_bind h
       obtain ⟨y83, hy84, h⟩ := h
       obtain ⟨S87, hS88⟩ : ∃ S, S = (sparse 89 [(3, .c (.os 960 0 (LEN v4))), (6, .c (.os 1472 0 (LEN v69))), (12, .c (.ptr 768 0)), (17, .c (.bs (LEN a0.fCells) 4 (row GD (encCell LEN GD) a0.fCells))), (18, .c (.v (.int .i64 (A.ofN (LEN a0.fCells))))), (19, .c (.v (.int .i64 v3))), (52, .c (.os 3328 0 (LEN y66))), (53, .c (.v (.int .i64 (A.ofN (LEN y66))))), (54, .c (.v (.int .i64 v68))), (62, .c (.os 3970 0 (LEN (GD v4 (A.nadd 0 (A.toN (GD y66 (A.nadd 0 (A.toN v68))).gcell)))))), (63, .c (.v (.int .i64 y83.1))), (64, .c (.v (.int .i64 y83.2)))] [(960, .arr .rw [3970] (LEN v4) 1 (patchC (row GD (oncL LEN GD 4 (encRect)) v4) (A.nadd 0 (A.toN (GD y66 (A.nadd 0 (A.toN v68))).gcell)) [.os 3970 0 (LEN (GD v4 (A.nadd 0 (A.toN (GD y66 (A.nadd 0 (A.toN v68))).gcell))))])), (1472, .arr .rw [] (LEN v69) 4 (row GD (encRect) v69)), (768, .var [.v (.int .i64 (GD y66 (A.nadd 0 (A.toN v68))).gcell), .v (.int .i64 (GD y66 (A.nadd 0 (A.toN v68))).gplace.fOrientation), .v (.int .i64 (GD y66 (A.nadd 0 (A.toN v68))).gplace.fX), .v (.int .i64 (GD y66 (A.nadd 0 (A.toN v68))).gplace.fY)]), (3328, .arr .rw [] (LEN y66) 4 (row GD (encelement) y66)), (3970, .arr .rw [] (LEN (GD v4 (A.nadd 0 (A.toN (GD y66 (A.nadd 0 (A.toN v68))).gcell)))) 4 (row GD (encRect) (GD v4 (A.nadd 0 (A.toN (GD y66 (A.nadd 0 (A.toN v68))).gcell)))))]) := ⟨_, rfl⟩
       refine ⟨S87, ?_, ?_⟩
       ·clear h
        have h := hy84
        clear hy84
        cbv
        replace h := of_req h
        obtain ⟨c91, h⟩ := h
        refine ⟨⟨c91, trivial⟩, ?_⟩
        refine And.intro (by first | exact (by subst hA; exact idx_lt c91) | (refine And.intro (by subst hA; exact idx_lt c91) ?_; first | trivial | exact ⟨trivial, trivial⟩)) ?_
        refine ⟨_, rfl, _, (patchC (row GD (oncL LEN GD 4 (encRect)) v4) (A.nadd 0 (A.toN (GD y66 (A.nadd 0 (A.toN v68))).gcell)) [.os 3970 0 (LEN (GD v4 (A.nadd 0 (A.toN (GD y66 (A.nadd 0 (A.toN v68))).gcell))))]), rfl, wkOf ?_, ?_⟩
        ·refine patch_of ?_
         intro j hj
         match j, hj with | 0, _ => (rfl) | (j_ + 1), h_ => exact absurd h_ (by omega)
        refine ⟨_, row GD (encRect) (GD v4 (A.nadd 0 (A.toN (GD y66 (A.nadd 0 (A.toN v68))).gcell))), rfl, wkOf ?_, ?_⟩
        ·exact fun i _ j _ => plain_cp (pl_encRect _ _)
        cbv
        injection h with h
        subst h
        subst hS88
        show St.le _ _
        exact le_sparse rfl ⟨lR _, lR _, lR _, lR _, lR _, lR _, lR _, lR _, lR _, lR _, lR _, lR _, trivial⟩ ⟨oS, oS, rfl, oS, oS, trivial⟩ rfl
       ·clear hy84
        subst hS88
        obtain ⟨y83_0, y83_1⟩ := y83
        replace h := of_let h
        obtain ⟨w89, hw89, h⟩ := h
        have hw89 : w89 = y83_0 := hw89
        subst hw89
        replace h := of_let h
        obtain ⟨w90, hw90, h⟩ := h
        have hw90 : w90 = y83_1 := hw90
        subst hw90
        replace h := of_req h
        obtain ⟨c92, h⟩ := h
        cbv
        replace h := of_bind h
        obtain ⟨y96, hr97, hN98⟩ := h
        refine loop_cut hr97 (fun x => (sparse 89 [(3, .c (.os 960 0 (LEN v4))), (6, .c (.os 1472 0 (LEN x.2))), (12, .c (.ptr 768 0)), (17, .c (.bs (LEN a0.fCells) 4 (row GD (encCell LEN GD) a0.fCells))), (18, .c (.v (.int .i64 (A.ofN (LEN a0.fCells))))), (19, .c (.v (.int .i64 v3))), (52, .c (.os 3328 0 (LEN y66))), (53, .c (.v (.int .i64 (A.ofN (LEN y66))))), (54, .c (.v (.int .i64 v68))), (62, .c (.os 3970 0 (LEN (GD v4 (A.nadd 0 (A.toN (GD y66 (A.nadd 0 (A.toN v68))).gcell)))))), (63, .c (.v (.int .i64 w89))), (64, .c (.v (.int .i64 x.1)))] [(960, .arr .rw [3970] (LEN v4) 1 (patchC (row GD (oncL LEN GD 4 (encRect)) v4) (A.nadd 0 (A.toN (GD y66 (A.nadd 0 (A.toN v68))).gcell)) [.os 3970 0 (LEN (GD v4 (A.nadd 0 (A.toN (GD y66 (A.nadd 0 (A.toN v68))).gcell))))])), (1472, .arr .rw [] (LEN x.2) 4 (row GD (encRect) x.2)), (768, .var [.v (.int .i64 (GD y66 (A.nadd 0 (A.toN v68))).gcell), .v (.int .i64 (GD y66 (A.nadd 0 (A.toN v68))).gplace.fOrientation), .v (.int .i64 (GD y66 (A.nadd 0 (A.toN v68))).gplace.fX), .v (.int .i64 (GD y66 (A.nadd 0 (A.toN v68))).gplace.fY)]), (3328, .arr .rw [] (LEN y66) 4 (row GD (encelement) y66)), (3970, .arr .rw [] (LEN (GD v4 (A.nadd 0 (A.toN (GD y66 (A.nadd 0 (A.toN v68))).gcell)))) 4 (row GD (encRect) (GD v4 (A.nadd 0 (A.toN (GD y66 (A.nadd 0 (A.toN v68))).gcell)))))])) ?_ (fun y e s => (fun (w : (List TRect)) => e = .exit 8 ∧ s.le (sparse 89 [(3, .c (.os 960 0 (LEN v4))), (6, .c (.os 1472 0 (LEN w))), (17, .c (.bs (LEN a0.fCells) 4 (row GD (encCell LEN GD) a0.fCells))), (18, .c (.v (.int .i64 (A.ofN (LEN a0.fCells))))), (19, .c (.v (.int .i64 v3))), (52, .c (.os 3328 0 (LEN y66))), (53, .c (.v (.int .i64 (A.ofN (LEN y66))))), (54, .c (.v (.int .i64 v68)))] [(960, .arr .rw [] (LEN v4) 1 (row GD (oncL LEN GD 4 (encRect)) v4)), (1472, .arr .rw [] (LEN w) 4 (row GD (encRect) w)), (3328, .arr .rw [] (LEN y66) 4 (row GD (encelement) y66))])) y) ?_ ?_
        ·clear hr97 hN98
         show St.le _ _
         exact le_sparse rfl ⟨lR _, lR _, lR _, lR _, lR _, lR _, lR _, lR _, lR _, lR _, lR _, lR _, trivial⟩ ⟨oS, oS, rfl, oS, oS, trivial⟩ rfl
        ·clear hr97 hN98
         intro x z102 h K100 hK101 hY99
         obtain ⟨x0_, x1_⟩ := x
         replace h := of_let h
         obtain ⟨v93, hv93, h⟩ := h
         have hv93 : v93 = x0_ := hv93
         subst hv93
         replace h := of_let h
         obtain ⟨v94, hv94, h⟩ := h
         have hv94 : v94 = x1_ := hv94
         subst hv94
         cbv
         refine fork (fun b132 => ?_) (fun b132 => ?_)
         ·replace h := of_br_t b132 h
          cbv
          replace h := of_bind h
          obtain ⟨y107, hy108, h⟩ := h
          obtain ⟨S111, hS112⟩ : ∃ S, S = (sparse 89 [(3, .c (.os 960 0 (LEN v4))), (6, .c (.os 1472 0 (LEN v94))), (12, .c (.ptr 768 0)), (14, .c (.ptr 896 0)), (17, .c (.bs (LEN a0.fCells) 4 (row GD (encCell LEN GD) a0.fCells))), (18, .c (.v (.int .i64 (A.ofN (LEN a0.fCells))))), (19, .c (.v (.int .i64 v3))), (52, .c (.os 3328 0 (LEN y66))), (53, .c (.v (.int .i64 (A.ofN (LEN y66))))), (54, .c (.v (.int .i64 v68))), (62, .c (.os 3970 0 (LEN (GD v4 (A.nadd 0 (A.toN (GD y66 (A.nadd 0 (A.toN v68))).gcell)))))), (63, .c (.v (.int .i64 w89))), (64, .c (.v (.int .i64 v93)))] [(960, .arr .rw [3970] (LEN v4) 1 (patchC (row GD (oncL LEN GD 4 (encRect)) v4) (A.nadd 0 (A.toN (GD y66 (A.nadd 0 (A.toN v68))).gcell)) [.os 3970 0 (LEN (GD v4 (A.nadd 0 (A.toN (GD y66 (A.nadd 0 (A.toN v68))).gcell))))])), (1472, .arr .rw [] (LEN v94) 4 (row GD (encRect) v94)), (768, .var [.v (.int .i64 (GD y66 (A.nadd 0 (A.toN v68))).gcell), .v (.int .i64 (GD y66 (A.nadd 0 (A.toN v68))).gplace.fOrientation), .v (.int .i64 (GD y66 (A.nadd 0 (A.toN v68))).gplace.fX), .v (.int .i64 (GD y66 (A.nadd 0 (A.toN v68))).gplace.fY)]), (896, .var [.v (.int .i64 y107.1), .v (.int .i64 y107.2.1), .v (.int .i64 y107.2.2.1), .v (.int .i64 y107.2.2.2)]), (3328, .arr .rw [] (LEN y66) 4 (row GD (encelement) y66)), (3970, .arr .rw [] (LEN (GD v4 (A.nadd 0 (A.toN (GD y66 (A.nadd 0 (A.toN v68))).gcell)))) 4 (row GD (encRect) (GD v4 (A.nadd 0 (A.toN (GD y66 (A.nadd 0 (A.toN v68))).gcell)))))]) := ⟨_, rfl⟩
          refine ⟨S111, ?_, ?_⟩
          ·clear h
           have h := hy108
           clear hy108
           cbv
           replace h := of_req h
           obtain ⟨c117, h⟩ := h
           refine ⟨⟨c117, trivial⟩, ?_⟩
           refine And.intro (by first | exact (by subst hA; exact idx_lt c117) | (refine And.intro (by subst hA; exact idx_lt c117) ?_; first | trivial | exact ⟨trivial, trivial⟩)) ?_
           injection h with h
           subst h
           subst hS112
           show St.le _ _
           exact le_sparse rfl ⟨lR _, lR _, lR _, lR _, lR _, lR _, lR _, lR _, lR _, lR _, lR _, lR _, lR _, trivial⟩ ⟨oS, oS, rfl, rfl, oS, oS, trivial⟩ rfl
          ·clear hy108
           subst hS112
           obtain ⟨y107_0, y107_1, y107_2, y107_3⟩ := y107
           replace h := of_let h
           obtain ⟨w113, hw113, h⟩ := h
           have hw113 : w113 = y107_0 := hw113
           subst hw113
           replace h := of_let h
           obtain ⟨w114, hw114, h⟩ := h
           have hw114 : w114 = y107_1 := hw114
           subst hw114
           replace h := of_let h
           obtain ⟨w115, hw115, h⟩ := h
           have hw115 : w115 = y107_2 := hw115
           subst hw115
           replace h := of_let h
           obtain ⟨w116, hw116, h⟩ := h
           have hw116 : w116 = y107_3 := hw116
           subst hw116
           cbv
           replace h := of_bind h
           obtain ⟨y118, hy119, h⟩ := h
           obtain ⟨S122, hS123⟩ : ∃ S, S = (sparse 89 [(3, .c (.os 960 0 (LEN v4))), (6, .c (.os 1472 0 (LEN y118))), (12, .c (.ptr 768 0)), (17, .c (.bs (LEN a0.fCells) 4 (row GD (encCell LEN GD) a0.fCells))), (18, .c (.v (.int .i64 (A.ofN (LEN a0.fCells))))), (19, .c (.v (.int .i64 v3))), (52, .c (.os 3328 0 (LEN y66))), (53, .c (.v (.int .i64 (A.ofN (LEN y66))))), (54, .c (.v (.int .i64 v68))), (62, .c (.os 3970 0 (LEN (GD v4 (A.nadd 0 (A.toN (GD y66 (A.nadd 0 (A.toN v68))).gcell)))))), (63, .c (.v (.int .i64 w89))), (64, .c (.v (.int .i64 v93)))] [(960, .arr .rw [3970] (LEN v4) 1 (patchC (row GD (oncL LEN GD 4 (encRect)) v4) (A.nadd 0 (A.toN (GD y66 (A.nadd 0 (A.toN v68))).gcell)) [.os 3970 0 (LEN (GD v4 (A.nadd 0 (A.toN (GD y66 (A.nadd 0 (A.toN v68))).gcell))))])), (1472, .arr .rw [] (LEN y118) 4 (row GD (encRect) y118)), (768, .var [.v (.int .i64 (GD y66 (A.nadd 0 (A.toN v68))).gcell), .v (.int .i64 (GD y66 (A.nadd 0 (A.toN v68))).gplace.fOrientation), .v (.int .i64 (GD y66 (A.nadd 0 (A.toN v68))).gplace.fX), .v (.int .i64 (GD y66 (A.nadd 0 (A.toN v68))).gplace.fY)]), (3328, .arr .rw [] (LEN y66) 4 (row GD (encelement) y66)), (3970, .arr .rw [] (LEN (GD v4 (A.nadd 0 (A.toN (GD y66 (A.nadd 0 (A.toN v68))).gcell)))) 4 (row GD (encRect) (GD v4 (A.nadd 0 (A.toN (GD y66 (A.nadd 0 (A.toN v68))).gcell)))))]) := ⟨_, rfl⟩
           refine ⟨S122, ?_, ?_⟩
           ·clear h
            have h := hy119
            clear hy119
            cbv
            replace h := of_bind h
            obtain ⟨y125, hy126, h⟩ := h
            refine ⟨{ args := [.agg [.v (.int .i64 (GD y66 (A.nadd 0 (A.toN v68))).gplace.fOrientation), .v (.int .i64 (GD y66 (A.nadd 0 (A.toN v68))).gplace.fX), .v (.int .i64 (GD y66 (A.nadd 0 (A.toN v68))).gplace.fY)], .agg [.v (.int .i64 w113), .v (.int .i64 w114), .v (.int .i64 w115), .v (.int .i64 w116)]], o0 := [], r := .agg [.v (.int .i64 y125.fX0), .v (.int .i64 y125.fY0), .v (.int .i64 y125.fX1), .v (.int .i64 y125.fY1)], o1 := [], fl := true, σ := [], τ := [] }, hf_impl_moveRect _ _ _ hy126, ⟨les_cons (lR _) (les_cons (lR _) (les_nil)), trivial, rfl, rfl, rfl, rfl, trivial, rfl⟩, ?_⟩
            cbv
            replace h := of_let h
            obtain ⟨l127, hl127, h⟩ := h
            have e128 : 1 = LEN l127 := by subst hl127 hLEN; rfl
            refine ⟨_, congrArg (fun n => AV.c (AC.os 4672 0 n)) e128, _, row GD (encRect) l127, e128, wkOf ?_, ?_⟩
            ·intro i hi j hj
             rw [← e128] at hi
             subst hl127
             subst hGD
             obtain rfl : i = 0 := (by omega) <;> obtain rfl | rfl | rfl | rfl : j = 0 ∨ j = 1 ∨ j = 2 ∨ j = 3 := (by omega)
             all_goals rfl
            cbv
            replace h := of_req h
            obtain ⟨c131, h⟩ := h
            replace h := of_let h
            obtain ⟨l129, hl129, h⟩ := h
            have e130 : A.nadd (LEN v94) (LEN l127) = LEN l129 := by subst hl129 hLEN hA; simp [std, len]
            refine ⟨c131, _, congrArg (fun n => AV.c (AC.os 1472 0 n)) e130, _, row GD (encRect) l129, e130, wkOf ?_, ?_⟩
            ·subst hGD hLEN hA
             exact app_os (off := 0) (pl_encRect) hl129 (Nat.le_refl _)
            cbv
            injection h with h
            subst h
            subst hS123
            show St.le _ _
            exact le_sparse rfl ⟨lR _, lR _, lR _, lR _, lR _, lR _, lR _, lR _, lR _, lR _, lR _, lR _, trivial⟩ ⟨oS, oS, rfl, oS, oS, trivial⟩ rfl
           ·clear hy119
            subst hS123
            replace h := of_let h
            obtain ⟨w124, hw124, h⟩ := h
            have hw124 : w124 = y118 := hw124
            subst hw124
            cbv
            injection h with h
            refine hK101 _ h.symm _ ?_
            exact le_sparse rfl ⟨lR _, lR _, lR _, lR _, lR _, lR _, lR _, lR _, lR _, lR _, lR _, lR _, trivial⟩ ⟨oS, oS, rfl, oS, oS, trivial⟩ rfl
         ·replace h := of_br_f b132 h
          cbv
          injection h with h
          refine hY99 _ h.symm _ _ (And.intro rfl ?_) (by intro hh; cases hh)
          refine St.le_trans (le_foldP 960 0 3970 rfl rfl rfl (by decide) (by subst hA; exact idx_lt c92) (by decide) rfl (fun _ _ => rfl)) ?_
          exact le_sparse rfl ⟨lR _, lR _, lR _, lR _, lR _, lR _, lR _, lR _, trivial⟩ ⟨⟨fun hw => hw, fun c hc => (by cases hc), .inr (fun i _ j _ z hz => (noref (rfl) hz).elim), rfl, rfl, (by subst hGD hLEN hA; exact patch_same (by intro j hj; match j, hj with | 0, _ => rfl | (j_ + 1), h_ => exact absurd h_ (by omega)))⟩, oS, oS, trivial⟩ rfl
        ·clear hr97
         have h := hN98
         clear hN98
         intro e105 s106 q104 hne
         replace h := of_let h
         obtain ⟨y96k0, hyk, h⟩ := h
         have hyk : y96k0 = y96 := hyk
         subst hyk
         obtain ⟨rfl, q104⟩ := q104
         replace h := of_let h
         obtain ⟨w133, hw133, h⟩ := h
         have hw133 : w133 = y96k0 := hw133
         subst hw133
         cbv
         refine ⟨_, q104, ?_⟩
         cbv
         injection h with h
         refine hK76 _ h.symm _ ?_
         exact le_sparse rfl ⟨lR _, lR _, lR _, lR _, lR _, lR _, lR _, lR _, trivial⟩ ⟨oS, oS, oS, trivial⟩ rfl
      ·replace h := of_br_f b134 h
       cbv
       injection h with h
       refine hY74 _ h.symm _ _ (And.intro rfl ?_) (by intro hh; cases hh)
       exact le_sparse rfl ⟨lR _, lR _, lR _, lR _, lR _, trivial⟩ ⟨oS, oS, trivial⟩ rfl
     ·clear hr72
      have h := hN73
      clear hN73
      intro e80 s81 q79 hne
      replace h := of_let h
      obtain ⟨y71k0, hyk, h⟩ := h
      have hyk : y71k0 = y71 := hyk
      subst hyk
      obtain ⟨rfl, q79⟩ := q79
      replace h := of_let h
      obtain ⟨w135, hw135, h⟩ := h
      have hw135 : w135 = y71k0 := hw135
      subst hw135
      cbv
      refine ⟨_, q79, ?_⟩
      cbv
      replace h := of_bind h
      obtain ⟨y136, hy137, h⟩ := h
      obtain ⟨S140, hS141⟩ : ∃ S, S = some (sparse 89 [(3, .c (.os 960 0 (LEN v4))), (6, .c (.os 5248 0 (LEN y136))), (17, .c (.bs (LEN a0.fCells) 4 (row GD (encCell LEN GD) a0.fCells))), (18, .c (.v (.int .i64 (A.ofN (LEN a0.fCells))))), (19, .c (.v (.int .i64 v3)))] [(960, .arr .rw [] (LEN v4) 1 (row GD (oncL LEN GD 4 (encRect)) v4)), (5248, .arr .rw [] (LEN y136) 4 (row GD (encRect) y136))]) := ⟨_, rfl⟩
      refine ⟨S140, ?_, ?_⟩
      ·clear h
       have h := hy137
       clear hy137
       cbv
       refine fork (fun b147 => ?_) (fun b147 => ?_)
       ·replace h := of_br_t b147 h
        cbv
        replace h := of_bind h
        obtain ⟨y143, hy144, h⟩ := h
        refine ⟨{ args := [.c (.bs (LEN w135) 4 (row GD (encRect) w135))], o0 := [], r := .agg [.v (.int .i64 y143.fX0), .v (.int .i64 y143.fY0), .v (.int .i64 y143.fX1), .v (.int .i64 y143.fY1)], o1 := [], fl := true, σ := [], τ := [] }, hf_impl_boxOf _ _ hy144, ⟨les_cons (give_os (pl_encRect) rfl rfl rfl) (les_nil), trivial, rfl, rfl, rfl, rfl, trivial, rfl⟩, ?_⟩
        cbv
        replace h := of_let h
        obtain ⟨l145, hl145, h⟩ := h
        have e146 : 1 = LEN l145 := by subst hl145 hLEN; rfl
        refine ⟨_, congrArg (fun n => AV.c (AC.os 5248 0 n)) e146, _, row GD (encRect) l145, e146, wkOf ?_, ?_⟩
        ·intro i hi j hj
         rw [← e146] at hi
         subst hl145
         subst hGD
         obtain rfl : i = 0 := (by omega) <;> obtain rfl | rfl | rfl | rfl : j = 0 ∨ j = 1 ∨ j = 2 ∨ j = 3 := (by omega)
         all_goals rfl
        cbv
        injection h with h
        subst h
        subst hS141
        show St.le _ _
        exact le_sparse rfl ⟨lR _, lR _, lR _, lR _, lR _, trivial⟩ ⟨oS, oS, trivial⟩ rfl
       ·replace h := of_br_f b147 h
        cbv
        injection h with h
        subst h
        subst hS141
        show St.le _ _
        refine St.le_trans (le_ren 1472 5248 (by decide) rfl) ?_
        exact le_sparse rfl ⟨lR _, lR _, lR _, lR _, lR _, trivial⟩ ⟨oS, oS, trivial⟩ rfl
      ·clear hy137
       subst hS141
       replace h := of_let h
       obtain ⟨w142, hw142, h⟩ := h
       have hw142 : w142 = y136 := hw142
       subst hw142
       cbv
       replace h := of_bind h
       obtain ⟨y148, hy149, h⟩ := h
       obtain ⟨S152, hS153⟩ : ∃ S, S = (sparse 89 [(3, .c (.os 960 0 (LEN y148))), (17, .c (.bs (LEN a0.fCells) 4 (row GD (encCell LEN GD) a0.fCells))), (18, .c (.v (.int .i64 (A.ofN (LEN a0.fCells))))), (19, .c (.v (.int .i64 v3)))] [(960, .arr .rw [] (LEN y148) 1 (row GD (oncL LEN GD 4 (encRect)) y148))]) := ⟨_, rfl⟩
       refine ⟨S152, ?_, ?_⟩
       ·clear h
        have h := hy149
        clear hy149
        cbv
        replace h := of_let h
        obtain ⟨l155, hl155, h⟩ := h
        have e156 : 1 = LEN l155 := by subst hl155 hLEN; rfl
        refine ⟨_, congrArg (fun n => AV.c (AC.os 5440 0 n)) e156, _, (patchC (fun _ _ => AC.junk) 0 [.os 5248 0 (LEN w142)]), e156, wkOf ?_, ?_⟩
        ·refine patch_one (by subst hl155 hLEN; rfl) ?_
         intro j hj
         match j, hj with | 0, _ => (rfl) | (j_ + 1), h_ => exact absurd h_ (by omega)
        cbv
        replace h := of_req h
        obtain ⟨c159, h⟩ := h
        replace h := of_let h
        obtain ⟨l157, hl157, h⟩ := h
        have e158 : A.nadd (LEN v4) (LEN l155) = LEN l157 := by subst hl157 hLEN hA; simp [std, len]
        refine ⟨c159, _, congrArg (fun n => AV.c (AC.os 960 0 n)) e158, _, (patchC (row GD (oncL LEN GD 4 (encRect)) v4) (LEN v4) [.os 5248 0 (LEN w142)]), e158, wkOf ?_, ?_⟩
        ·subst hLEN hA
         refine patch_joinG (by first | (rw [hl157]; simp [len]; done) | (rw [hl157]; simp [len]; omega) | (subst_vars; simp [len])) ?_
         intro j hj
         match j, hj with | 0, _ => (rfl) | (j_ + 1), h_ => exact absurd h_ (by omega)
        cbv
        rw [hl155] at hl157
        injection h with h
        subst h
        subst hS153
        show St.le _ _
        refine St.le_trans (le_foldP 960 0 5248 rfl rfl rfl (by decide) (by subst hLEN; exact app_lt hl157) (by decide) rfl (fun _ _ => rfl)) ?_
        exact le_sparse rfl ⟨lR _, lR _, lR _, lR _, trivial⟩ ⟨⟨fun hw => hw, fun c hc => (by cases hc), .inr (fun i _ j _ z hz => (noref (rfl) hz).elim), rfl, rfl, (by subst hGD hLEN hA; exact patch_app hl157 (Nat.le_refl _) (by intro j hj; match j, hj with | 0, _ => rfl | (j_ + 1), h_ => exact absurd h_ (by omega)))⟩, trivial⟩ rfl
       ·clear hy149
        subst hS153
        replace h := of_let h
        obtain ⟨w154, hw154, h⟩ := h
        have hw154 : w154 = y148 := hw154
        subst hw154
        cbv
        injection h with h
        refine hK11 _ h.symm _ ?_
        exact le_sparse rfl ⟨lR _, lR _, lR _, lR _, trivial⟩ ⟨oS, trivial⟩ rfl
  ·replace h := of_br_f b160 h
   cbv
   injection h with h
   refine hY9 _ h.symm _ _ (And.intro rfl ?_) (by intro hh; cases hh)
   exact le_sparse rfl ⟨lR _, trivial⟩ ⟨oS, trivial⟩ rfl
 ·clear hr7
  have h := hN8
  clear hN8
  intro e15 s16 q14 hne
  replace h := of_let h
  obtain ⟨y6k0, hyk, h⟩ := h
  have hyk : y6k0 = y6 := hyk
  subst hyk
  obtain ⟨rfl, q14⟩ := q14
  replace h := of_let h
  obtain ⟨w161, hw161, h⟩ := h
  have hw161 : w161 = y6k0 := hw161
  subst hw161
  cbv
  refine ⟨_, q14, ?_⟩
  cbv
  injection h with h
  subst h
  refine ⟨(sparse 89 [(2, .c (.os 64000 0 (LEN w161)))] [(64000, .arr .rw [] (LEN w161) 1 (row GD (oncL LEN GD 4 (encRect)) w161))]), ?_, ?_⟩
  ·refine St.le_trans (le_ren 960 64000 (by decide) rfl) ?_
   exact le_sparse rfl ⟨lR _, trivial⟩ ⟨oS, trivial⟩ rfl
  ·exact ⟨lR _, ⟨oS, trivial⟩, rfl⟩

/-- impl.common -/
noncomputable def F_impl_common (a0 : TRect) (a1 : TRect) : Option (TRect) :=
 some (TRect.mk (std.imax a0.fX0 a1.fX0) (std.imax a0.fY0 a1.fY0) (std.imin a0.fX1 a1.fX1) (std.imin a0.fY1 a1.fY1))
theorem run_impl_common (a0 : TRect) (a1 : TRect) (r : TRect) (h : F_impl_common a0 a1 = some r) : Fun Try.prog 84 [.agg [.v (.int .i64 a0.fX0), .v (.int .i64 a0.fY0), .v (.int .i64 a0.fX1), .v (.int .i64 a0.fY1)], .agg [.v (.int .i64 a1.fX0), .v (.int .i64 a1.fY0), .v (.int .i64 a1.fX1), .v (.int .i64 a1.fY1)]] [] (.agg [.v (.int .i64 r.fX0), .v (.int .i64 r.fY0), .v (.int .i64 r.fX1), .v (.int .i64 r.fY1)]) [] true := by
 refine Fun.of_wp (oneOf []) tok mixed Try.func84 (by kernel_rfl) rfl Try.ntmps84 rfl trivial (fun _ => ⟨(by simp [AV.flat, AV.flat1, AC.flat]), trivial⟩) ?_
 unfold F_impl_common at h
 generalize hLEN : @len = LEN at *
 generalize hGD : @gd = GD at *
 generalize hA : std = A at *
 generalize hP : Try.prog = P at *
 cbv
 injection h with h
 subst h
 refine ⟨(sparse 26 [(4, .c (.ptr 256 0))] [(256, .var [.v (.int .i64 (A.imax a0.fX0 a1.fX0)), .v (.int .i64 (A.imax a0.fY0 a1.fY0)), .v (.int .i64 (A.imin a0.fX1 a1.fX1)), .v (.int .i64 (A.imin a0.fY1 a1.fY1))])]), ?_, ?_⟩
 ·exact le_sparse rfl ⟨lR _, trivial⟩ ⟨rfl, trivial⟩ rfl
 ·exact ⟨lR _, trivial, rfl⟩

/-- impl.anywhere -/
noncomputable def F_impl_anywhere (a0 : TRect) (a1 : TRect) : Option (Bool) :=
 (F_impl_common a0 a1).bind fun y1 =>
 ((
    br (std.lt y1.fX0 y1.fX1)
    (some (std.lt y1.fY0 y1.fY1))
    (some false)
  ) : Option (Bool)).bind fun y3 =>
 letO y3 fun w9 =>
 some w9
theorem run_impl_anywhere (a0 : TRect) (a1 : TRect) (r : Bool) (h : F_impl_anywhere a0 a1 = some r) : Fun Try.prog 130 [.agg [.v (.int .i64 a0.fX0), .v (.int .i64 a0.fY0), .v (.int .i64 a0.fX1), .v (.int .i64 a0.fY1)], .agg [.v (.int .i64 a1.fX0), .v (.int .i64 a1.fY0), .v (.int .i64 a1.fX1), .v (.int .i64 a1.fY1)]] [] (.c (.v (.bool r))) [] true := by
 refine Fun.of_wp (oneOf [2]) tok mixed Try.func130 (by kernel_rfl) rfl Try.ntmps130 rfl trivial (fun _ => ⟨trivial, trivial⟩) ?_
 unfold F_impl_anywhere at h
 have hf_impl_common := @run_impl_common
 generalize hLEN : @len = LEN at *
 generalize hGD : @gd = GD at *
 generalize hA : std = A at *
 generalize hP : Try.prog = P at *
 cbv
 replace h := of_bind h
 obtain ⟨y1, hy2, h⟩ := h
 refine ⟨{ args := [.agg [.v (.int .i64 a0.fX0), .v (.int .i64 a0.fY0), .v (.int .i64 a0.fX1), .v (.int .i64 a0.fY1)], .agg [.v (.int .i64 a1.fX0), .v (.int .i64 a1.fY0), .v (.int .i64 a1.fX1), .v (.int .i64 a1.fY1)]], o0 := [], r := .agg [.v (.int .i64 y1.fX0), .v (.int .i64 y1.fY0), .v (.int .i64 y1.fX1), .v (.int .i64 y1.fY1)], o1 := [], fl := true, σ := [], τ := [] }, hf_impl_common _ _ _ hy2, ⟨les_cons (lR _) (les_cons (lR _) (les_nil)), trivial, rfl, rfl, rfl, rfl, trivial, rfl⟩, ?_⟩
 cbv
 replace h := of_bind h
 obtain ⟨y3, hy4, h⟩ := h
 obtain ⟨S7, hS8⟩ : ∃ S, S = (sparse 21 [(4, .c (.v (.bool y3)))] []) := ⟨_, rfl⟩
 refine ⟨S7, ?_, ?_⟩
 ·clear h
  have h := hy4
  clear hy4
  cbv
  refine fork (fun b10 => ?_) (fun b10 => ?_)
  ·replace h := of_br_t b10 h
   cbv
   injection h with h
   subst h
   subst hS8
   show St.le _ _
   exact le_sparse rfl ⟨lR _, trivial⟩ trivial rfl
  ·replace h := of_br_f b10 h
   cbv
   injection h with h
   subst h
   subst hS8
   show St.le _ _
   exact le_sparse rfl ⟨lR _, trivial⟩ trivial rfl
 ·clear hy4
  subst hS8
  replace h := of_let h
  obtain ⟨w9, hw9, h⟩ := h
  have hw9 : w9 = y3 := hw9
  subst hw9
  cbv
  injection h with h
  subst h
  refine ⟨(sparse 21 [(4, .c (.v (.bool w9)))] []), ?_, ?_⟩
  ·exact le_sparse rfl ⟨lR _, trivial⟩ trivial rfl
  ·exact ⟨lR _, trivial, rfl⟩

noncomputable def L_impl_visits_x8 (a0 : TLibrary) (a1 : List (List TRect)) (a2 : TRect) (a3 : TOccurrence) (F_REC_impl_visits : TLibrary → (List (List TRect)) → TRect → TOccurrence → Option (List TOccurrence)) (y4 : (List Telement)) : (Int × (List TOccurrence)) → Option ((Int × (List TOccurrence)) ⊕ (((List TOccurrence)))) := fun x8 =>
 letO x8.1 fun v6 =>
 letO x8.2 fun v7 =>
 br (std.lt v6 (std.ofN (len y4)))
 (req (std.inR v6 (len y4)) <|
 (F_impl_compose (gd y4 (std.nadd 0 (std.toN v6))).gplace a3.fPlace).bind fun y21 =>
 req (std.inR (gd y4 (std.nadd 0 (std.toN v6))).gcell (len a1)) <|
 ((
    br (std.lt 0 (std.ofN (len (gd a1 (std.toN (gd y4 (std.nadd 0 (std.toN v6))).gcell)))))
    (req (std.inR 0 (len (gd a1 (std.toN (gd y4 (std.nadd 0 (std.toN v6))).gcell)))) <|
    (F_impl_moveRect y21 (gd (gd a1 (std.toN (gd y4 (std.nadd 0 (std.toN v6))).gcell)) (std.toN 0))).bind fun y32 =>
    (F_impl_anywhere y32 a2).bind fun y34 =>
    some y34)
    (some false)
  ) : Option (Bool)).bind fun y24 =>
 letO y24 fun w30 =>
 ((
    br w30
    ((F_slices_Clone_Lint64_int64 a3.fPath).bind fun y44 =>
    letO ([v6] : List Int) fun l46 =>
    req (std.room (std.nadd (len y44) (len l46)) 8) <|
    letO (y44 ++ l46) fun l48 =>
    (F_REC_impl_visits (TLibrary.mk a0.fCells) a1 a2 (TOccurrence.mk (gd y4 (std.nadd 0 (std.toN v6))).gcell y21 l48)).bind fun y51 =>
    req (std.room (std.nadd (len v7) (len y51)) 56) <|
    letO (v7 ++ y51) fun l53 =>
    some l53)
    (some v7)
  ) : Option ((List TOccurrence))).bind fun y37 =>
 letO y37 fun w43 =>
 some (.inl (std.add .i64 v6 1, w43)))
 (some (.inr v7))
/-- impl.visits -/
noncomputable def FS_impl_visits (F_REC_impl_visits : TLibrary → (List (List TRect)) → TRect → TOccurrence → Option (List TOccurrence)) (a0 : TLibrary) (a1 : List (List TRect)) (a2 : TRect) (a3 : TOccurrence) : Option (List TOccurrence) :=
 letO ([a3] : List TOccurrence) fun l1 =>
 req (std.inR a3.fCell (len a0.fCells)) <|
 (F_impl_elements (gd a0.fCells (std.toN a3.fCell))).bind fun y4 =>
 (whileP (σ := Int × (List TOccurrence)) (ρ := ((List TOccurrence))) (L_impl_visits_x8 a0 a1 a2 a3 F_REC_impl_visits y4) (0, l1)).bind fun y9 =>
 letO y9 fun y9k0 =>
 letO y9k0 fun w58 =>
 some w58
theorem runS_impl_visits (F_REC_impl_visits : TLibrary → (List (List TRect)) → TRect → TOccurrence → Option (List TOccurrence)) (hf_REC_impl_visits : ∀ (a0 : TLibrary) (a1 : List (List TRect)) (a2 : TRect) (a3 : TOccurrence) (r : List TOccurrence), F_REC_impl_visits a0 a1 a2 a3 = some r → Fun Try.prog 128 [.agg [.bs (len a0.fCells) 4 (row gd (encCell len gd) a0.fCells)], .c (.bs (len a1) 1 (row gd (encL len gd 4 (encRect)) a1)), .agg [.v (.int .i64 a2.fX0), .v (.int .i64 a2.fY0), .v (.int .i64 a2.fX1), .v (.int .i64 a2.fY1)], .agg [.v (.int .i64 a3.fCell), .v (.int .i64 a3.fPlace.fOrientation), .v (.int .i64 a3.fPlace.fX), .v (.int .i64 a3.fPlace.fY), .bs (len a3.fPath) 1 (row gd (encI .i64) a3.fPath)]] [] (.c (.os 64000 0 (len r))) [(64000, .arr .rw [] (len r) 5 (row gd (encOccurrence len gd) r))] false) (a0 : TLibrary) (a1 : List (List TRect)) (a2 : TRect) (a3 : TOccurrence) (r : List TOccurrence) (h : FS_impl_visits F_REC_impl_visits a0 a1 a2 a3 = some r) : Fun Try.prog 128 [.agg [.bs (len a0.fCells) 4 (row gd (encCell len gd) a0.fCells)], .c (.bs (len a1) 1 (row gd (encL len gd 4 (encRect)) a1)), .agg [.v (.int .i64 a2.fX0), .v (.int .i64 a2.fY0), .v (.int .i64 a2.fX1), .v (.int .i64 a2.fY1)], .agg [.v (.int .i64 a3.fCell), .v (.int .i64 a3.fPlace.fOrientation), .v (.int .i64 a3.fPlace.fX), .v (.int .i64 a3.fPlace.fY), .bs (len a3.fPath) 1 (row gd (encI .i64) a3.fPath)]] [] (.c (.os 64000 0 (len r))) [(64000, .arr .rw [] (len r) 5 (row gd (encOccurrence len gd) r))] false := by
 refine Fun.of_wp (oneOf [7, 100051]) tok mixed Try.func128 (by kernel_rfl) rfl Try.ntmps128 rfl trivial (fun h => by cases h) ?_
 unfold FS_impl_visits at h
 unfold L_impl_visits_x8 at h
 have hf_impl_anywhere := @run_impl_anywhere
 have hf_impl_compose := @run_impl_compose
 have hf_impl_elements := @run_impl_elements
 have hf_impl_moveRect := @run_impl_moveRect
 have hf_slices_Clone_Lint64_int64 := @run_slices_Clone_Lint64_int64
 generalize hLEN : @len = LEN at *
 generalize hGD : @gd = GD at *
 generalize hA : std = A at *
 generalize hP : Try.prog = P at *
 cbv
 replace h := of_let h
 obtain ⟨l1, hl1, h⟩ := h
 have e2 : 1 = LEN l1 := by subst hl1 hLEN; rfl
 refine ⟨_, congrArg (fun n => AV.c (AC.os 1024 0 n)) e2, _, row GD (encOccurrence LEN GD) l1, e2, wkOf ?_, ?_⟩
 ·intro i hi j hj
  rw [← e2] at hi
  subst hl1
  subst hGD
  obtain rfl : i = 0 := (by omega) <;> obtain rfl | rfl | rfl | rfl | rfl : j = 0 ∨ j = 1 ∨ j = 2 ∨ j = 3 ∨ j = 4 := (by omega)
  all_goals rfl
 cbv
 replace h := of_req h
 obtain ⟨c3, h⟩ := h
 refine ⟨⟨c3, trivial⟩, ?_⟩
 replace h := of_bind h
 obtain ⟨y4, hy5, h⟩ := h
 refine ⟨{ args := [.agg [.v (.string (GD a0.fCells (A.toN a3.fCell)).fName), .bs (LEN (GD a0.fCells (A.toN a3.fCell)).fShapes) 5 (row GD (encShape) (GD a0.fCells (A.toN a3.fCell)).fShapes), .bs (LEN (GD a0.fCells (A.toN a3.fCell)).fLabels) 4 (row GD (encLabel) (GD a0.fCells (A.toN a3.fCell)).fLabels), .bs (LEN (GD a0.fCells (A.toN a3.fCell)).fInstances) 8 (row GD (encInstance) (GD a0.fCells (A.toN a3.fCell)).fInstances)]], o0 := [], r := .c (.os 64000 0 (LEN y4)), o1 := [(64000, .arr .rw [] (LEN y4) 4 (row GD (encelement) y4))], fl := true, σ := [], τ := [(64000, 1472)] }, hf_impl_elements _ _ hy5, ⟨les_cons (lR _) (les_nil), trivial, rfl, rfl, rfl, rfl, ⟨fun h => absurd (show (64000 : Nat) % 2 = 1 from h) (by decide), trivial⟩, rfl⟩, _, rfl, _, _, rfl, fun _ _ _ _ => .refl _, ?_⟩
 cbv
 replace h := of_bind h
 obtain ⟨y9, hr10, hN11⟩ := h
 refine loop_cut hr10 (fun x => (sparse 71 [(1, .c (.bs (LEN a1) 1 (row GD (encL LEN GD 4 (encRect)) a1))), (4, .c (.ptr 256 0)), (6, .c (.ptr 384 0)), (7, .c (.ptr 448 0)), (9, .c (.os 1024 0 (LEN x.2))), (23, .c (.os 1472 0 (LEN y4))), (24, .c (.v (.int .i64 (A.ofN (LEN y4))))), (25, .c (.v (.int .i64 x.1)))] [(256, .var [.bs (LEN a0.fCells) 4 (row GD (encCell LEN GD) a0.fCells)]), (384, .var [.v (.int .i64 a2.fX0), .v (.int .i64 a2.fY0), .v (.int .i64 a2.fX1), .v (.int .i64 a2.fY1)]), (448, .var [.v (.int .i64 a3.fCell), .v (.int .i64 a3.fPlace.fOrientation), .v (.int .i64 a3.fPlace.fX), .v (.int .i64 a3.fPlace.fY), .bs (LEN a3.fPath) 1 (row GD (encI .i64) a3.fPath)]), (1024, .arr .rw [] (LEN x.2) 5 (row GD (encOccurrence LEN GD) x.2)), (1472, .arr .rw [] (LEN y4) 4 (row GD (encelement) y4))])) ?_ (fun y e s => (fun (w : (List TOccurrence)) => e = .exit 0 ∧ s.le (sparse 71 [(9, .c (.os 1024 0 (LEN w)))] [(1024, .arr .rw [] (LEN w) 5 (row GD (encOccurrence LEN GD) w))])) y) ?_ ?_
 ·clear hr10 hN11
  show St.le _ _
  exact le_sparse rfl ⟨lR _, lR _, lR _, lR _, lR _, lR _, lR _, lR _, trivial⟩ ⟨rfl, rfl, rfl, oS, oS, trivial⟩ rfl
 ·clear hr10 hN11
  intro x z15 h K13 hK14 hY12
  obtain ⟨x0_, x1_⟩ := x
  replace h := of_let h
  obtain ⟨v6, hv6, h⟩ := h
  have hv6 : v6 = x0_ := hv6
  subst hv6
  replace h := of_let h
  obtain ⟨v7, hv7, h⟩ := h
  have hv7 : v7 = x1_ := hv7
  subst hv7
  cbv
  refine fork (fun b57 => ?_) (fun b57 => ?_)
  ·replace h := of_br_t b57 h
   cbv
   replace h := of_req h
   obtain ⟨c20, h⟩ := h
   refine ⟨⟨c20, trivial⟩, ?_⟩
   refine And.intro (by first | exact (by subst hA; exact idx_lt c20) | (refine And.intro (by subst hA; exact idx_lt c20) ?_; first | trivial | exact ⟨trivial, trivial⟩)) ?_
   replace h := of_bind h
   obtain ⟨y21, hy22, h⟩ := h
   refine ⟨{ args := [.agg [.v (.int .i64 (GD y4 (A.nadd 0 (A.toN v6))).gplace.fOrientation), .v (.int .i64 (GD y4 (A.nadd 0 (A.toN v6))).gplace.fX), .v (.int .i64 (GD y4 (A.nadd 0 (A.toN v6))).gplace.fY)], .agg [.v (.int .i64 a3.fPlace.fOrientation), .v (.int .i64 a3.fPlace.fX), .v (.int .i64 a3.fPlace.fY)]], o0 := [], r := .agg [.v (.int .i64 y21.fOrientation), .v (.int .i64 y21.fX), .v (.int .i64 y21.fY)], o1 := [], fl := true, σ := [], τ := [] }, hf_impl_compose _ _ _ hy22, ⟨les_cons (lR _) (les_cons (lR _) (les_nil)), trivial, rfl, rfl, rfl, rfl, trivial, rfl⟩, ?_⟩
   cbv
   replace h := of_req h
   obtain ⟨c23, h⟩ := h
   refine ⟨⟨c23, trivial⟩, ?_⟩
   replace h := of_bind h
   obtain ⟨y24, hy25, h⟩ := h
   obtain ⟨S28, hS29⟩ : ∃ S, S = (sparse 71 [(1, .c (.bs (LEN a1) 1 (row GD (encL LEN GD 4 (encRect)) a1))), (4, .c (.ptr 256 0)), (6, .c (.ptr 384 0)), (7, .c (.ptr 448 0)), (9, .c (.os 1024 0 (LEN v7))), (10, .c (.v (.int .i64 v6))), (11, .c (.ptr 704 0)), (12, .c (.ptr 768 0)), (23, .c (.os 1472 0 (LEN y4))), (24, .c (.v (.int .i64 (A.ofN (LEN y4))))), (25, .c (.v (.int .i64 v6))), (51, .c (.v (.bool y24)))] [(256, .var [.bs (LEN a0.fCells) 4 (row GD (encCell LEN GD) a0.fCells)]), (384, .var [.v (.int .i64 a2.fX0), .v (.int .i64 a2.fY0), .v (.int .i64 a2.fX1), .v (.int .i64 a2.fY1)]), (448, .var [.v (.int .i64 a3.fCell), .v (.int .i64 a3.fPlace.fOrientation), .v (.int .i64 a3.fPlace.fX), .v (.int .i64 a3.fPlace.fY), .bs (LEN a3.fPath) 1 (row GD (encI .i64) a3.fPath)]), (1024, .arr .rw [] (LEN v7) 5 (row GD (encOccurrence LEN GD) v7)), (704, .var [.v (.int .i64 (GD y4 (A.nadd 0 (A.toN v6))).gcell), .v (.int .i64 (GD y4 (A.nadd 0 (A.toN v6))).gplace.fOrientation), .v (.int .i64 (GD y4 (A.nadd 0 (A.toN v6))).gplace.fX), .v (.int .i64 (GD y4 (A.nadd 0 (A.toN v6))).gplace.fY)]), (768, .var [.v (.int .i64 y21.fOrientation), .v (.int .i64 y21.fX), .v (.int .i64 y21.fY)]), (1472, .arr .rw [] (LEN y4) 4 (row GD (encelement) y4))]) := ⟨_, rfl⟩
   refine ⟨S28, ?_, ?_⟩
   ·clear h
    have h := hy25
    clear hy25
    cbv
    refine fork (fun b36 => ?_) (fun b36 => ?_)
    ·replace h := of_br_t b36 h
     cbv
     replace h := of_req h
     obtain ⟨c31, h⟩ := h
     refine ⟨⟨c31, trivial⟩, ?_⟩
     replace h := of_bind h
     obtain ⟨y32, hy33, h⟩ := h
     refine ⟨{ args := [.agg [.v (.int .i64 y21.fOrientation), .v (.int .i64 y21.fX), .v (.int .i64 y21.fY)], .agg [.v (.int .i64 (GD (GD a1 (A.toN (GD y4 (A.nadd 0 (A.toN v6))).gcell)) (A.toN 0)).fX0), .v (.int .i64 (GD (GD a1 (A.toN (GD y4 (A.nadd 0 (A.toN v6))).gcell)) (A.toN 0)).fY0), .v (.int .i64 (GD (GD a1 (A.toN (GD y4 (A.nadd 0 (A.toN v6))).gcell)) (A.toN 0)).fX1), .v (.int .i64 (GD (GD a1 (A.toN (GD y4 (A.nadd 0 (A.toN v6))).gcell)) (A.toN 0)).fY1)]], o0 := [], r := .agg [.v (.int .i64 y32.fX0), .v (.int .i64 y32.fY0), .v (.int .i64 y32.fX1), .v (.int .i64 y32.fY1)], o1 := [], fl := true, σ := [], τ := [] }, hf_impl_moveRect _ _ _ hy33, ⟨les_cons (lR _) (les_cons (lR _) (les_nil)), trivial, rfl, rfl, rfl, rfl, trivial, rfl⟩, ?_⟩
     cbv
     replace h := of_bind h
     obtain ⟨y34, hy35, h⟩ := h
     refine ⟨{ args := [.agg [.v (.int .i64 y32.fX0), .v (.int .i64 y32.fY0), .v (.int .i64 y32.fX1), .v (.int .i64 y32.fY1)], .agg [.v (.int .i64 a2.fX0), .v (.int .i64 a2.fY0), .v (.int .i64 a2.fX1), .v (.int .i64 a2.fY1)]], o0 := [], r := .c (.v (.bool y34)), o1 := [], fl := true, σ := [], τ := [] }, hf_impl_anywhere _ _ _ hy35, ⟨les_cons (lR _) (les_cons (lR _) (les_nil)), trivial, rfl, rfl, rfl, rfl, trivial, rfl⟩, ?_⟩
     cbv
     injection h with h
     subst h
     subst hS29
     show St.le _ _
     exact le_sparse rfl ⟨lR _, lR _, lR _, lR _, lR _, lR _, lR _, lR _, lR _, lR _, lR _, lR _, trivial⟩ ⟨rfl, rfl, rfl, oS, rfl, rfl, oS, trivial⟩ rfl
    ·replace h := of_br_f b36 h
     cbv
     injection h with h
     subst h
     subst hS29
     show St.le _ _
     exact le_sparse rfl ⟨lR _, lR _, lR _, lR _, lR _, lR _, lR _, lR _, lR _, lR _, lR _, lR _, trivial⟩ ⟨rfl, rfl, rfl, oS, rfl, rfl, oS, trivial⟩ rfl
   ·clear hy25
    subst hS29
    replace h := of_let h
    obtain ⟨w30, hw30, h⟩ := h
    have hw30 : w30 = y24 := hw30
    subst hw30
    cbv
    replace h := of_bind h
    obtain ⟨y37, hy38, h⟩ := h
    obtain ⟨S41, hS42⟩ : ∃ S, S = some (sparse 71 [(1, .c (.bs (LEN a1) 1 (row GD (encL LEN GD 4 (encRect)) a1))), (4, .c (.ptr 256 0)), (6, .c (.ptr 384 0)), (7, .c (.ptr 448 0)), (9, .c (.os 1024 0 (LEN y37))), (23, .c (.os 1472 0 (LEN y4))), (24, .c (.v (.int .i64 (A.ofN (LEN y4))))), (25, .c (.v (.int .i64 v6)))] [(256, .var [.bs (LEN a0.fCells) 4 (row GD (encCell LEN GD) a0.fCells)]), (384, .var [.v (.int .i64 a2.fX0), .v (.int .i64 a2.fY0), .v (.int .i64 a2.fX1), .v (.int .i64 a2.fY1)]), (448, .var [.v (.int .i64 a3.fCell), .v (.int .i64 a3.fPlace.fOrientation), .v (.int .i64 a3.fPlace.fX), .v (.int .i64 a3.fPlace.fY), .bs (LEN a3.fPath) 1 (row GD (encI .i64) a3.fPath)]), (1024, .arr .rw [] (LEN y37) 5 (row GD (encOccurrence LEN GD) y37)), (1472, .arr .rw [] (LEN y4) 4 (row GD (encelement) y4))]) := ⟨_, rfl⟩
    refine ⟨S41, ?_, ?_⟩
    ·clear h
     have h := hy38
     clear hy38
     cbv
     refine fork (fun b56 => ?_) (fun b56 => ?_)
     ·replace h := of_br_t b56 h
      cbv
      replace h := of_bind h
      obtain ⟨y44, hy45, h⟩ := h
      refine ⟨{ args := [.c (.bs (LEN a3.fPath) 1 (row GD (encI .i64) a3.fPath))], o0 := [], r := .c (.os 64000 0 (LEN y44)), o1 := [(64000, .arr .rw [] (LEN y44) 1 (row GD (encI .i64) y44))], fl := true, σ := [], τ := [(64000, 3456)] }, hf_slices_Clone_Lint64_int64 _ _ hy45, ⟨les_cons (lR _) (les_nil), trivial, rfl, rfl, rfl, rfl, ⟨fun h => absurd (show (64000 : Nat) % 2 = 1 from h) (by decide), trivial⟩, rfl⟩, _, rfl, _, _, rfl, fun _ _ _ _ => .refl _, ?_⟩
      cbv
      replace h := of_let h
      obtain ⟨l46, hl46, h⟩ := h
      have e47 : 1 = LEN l46 := by subst hl46 hLEN; rfl
      refine ⟨_, congrArg (fun n => AV.c (AC.os 3584 0 n)) e47, _, row GD (encI .i64) l46, e47, wkOf ?_, ?_⟩
      ·intro i hi j hj
       rw [← e47] at hi
       subst hl46
       subst hGD
       obtain rfl : i = 0 := (by omega)
       all_goals obtain rfl : j = 0 := by omega
       all_goals rfl
      cbv
      replace h := of_req h
      obtain ⟨c50, h⟩ := h
      replace h := of_let h
      obtain ⟨l48, hl48, h⟩ := h
      have e49 : A.nadd (LEN y44) (LEN l46) = LEN l48 := by subst hl48 hLEN hA; simp [std, len]
      refine ⟨c50, _, congrArg (fun n => AV.c (AC.os 3456 0 n)) e49, _, row GD (encI .i64) l48, e49, wkOf ?_, ?_⟩
      ·subst hGD hLEN hA
       exact app_os (off := 0) (fun _ _ => rfl) hl48 (Nat.le_refl _)
      cbv
      replace h := of_bind h
      obtain ⟨y51, hy52, h⟩ := h
      refine ⟨{ args := [.agg [.bs (LEN a0.fCells) 4 (row GD (encCell LEN GD) a0.fCells)], .c (.bs (LEN a1) 1 (row GD (encL LEN GD 4 (encRect)) a1)), .agg [.v (.int .i64 a2.fX0), .v (.int .i64 a2.fY0), .v (.int .i64 a2.fX1), .v (.int .i64 a2.fY1)], .agg [.v (.int .i64 (GD y4 (A.nadd 0 (A.toN v6))).gcell), .v (.int .i64 y21.fOrientation), .v (.int .i64 y21.fX), .v (.int .i64 y21.fY), .bs (LEN l48) 1 (row GD (encI .i64) l48)]], o0 := [], r := .c (.os 64000 0 (LEN y51)), o1 := [(64000, .arr .rw [] (LEN y51) 5 (row GD (encOccurrence LEN GD) y51))], fl := false, σ := [], τ := [(64000, 4288)] }, hf_REC_impl_visits _ _ _ _ _ hy52, ⟨les_cons (lR _) (les_cons (lR _) (les_cons (lR _) (les_cons (le_agg ⟨lR _, lR _, lR _, lR _, give_os (fun _ _ => rfl) rfl rfl rfl, trivial⟩) (les_nil)))), trivial, rfl, rfl, rfl, rfl, ⟨fun h => absurd (show (64000 : Nat) % 2 = 1 from h) (by decide), trivial⟩, rfl⟩, _, rfl, _, _, rfl, fun _ _ _ _ => .refl _, _, _, rfl, fun _ _ _ _ => .refl _, ?_⟩
      cbv
      replace h := of_req h
      obtain ⟨c55, h⟩ := h
      replace h := of_let h
      obtain ⟨l53, hl53, h⟩ := h
      have e54 : A.nadd (LEN v7) (LEN y51) = LEN l53 := by subst hl53 hLEN hA; simp [std, len]
      refine ⟨c55, _, congrArg (fun n => AV.c (AC.os 1024 0 n)) e54, _, row GD (encOccurrence LEN GD) l53, e54, wkOf ?_, ?_⟩
      ·subst hGD hLEN hA
       exact app_os (off := 0) (pl_encOccurrence) hl53 (Nat.le_refl _)
      cbv
      injection h with h
      subst h
      subst hS42
      show St.le _ _
      exact le_sparse rfl ⟨lR _, lR _, lR _, lR _, lR _, lR _, lR _, lR _, trivial⟩ ⟨rfl, rfl, rfl, oS, oS, trivial⟩ rfl
     ·replace h := of_br_f b56 h
      cbv
      injection h with h
      subst h
      subst hS42
      show St.le _ _
      exact le_sparse rfl ⟨lR _, lR _, lR _, lR _, lR _, lR _, lR _, lR _, trivial⟩ ⟨rfl, rfl, rfl, oS, oS, trivial⟩ rfl
    ·clear hy38
     subst hS42
     replace h := of_let h
     obtain ⟨w43, hw43, h⟩ := h
     have hw43 : w43 = y37 := hw43
     subst hw43
     cbv
     injection h with h
     refine hK14 _ h.symm _ ?_
     exact le_sparse rfl ⟨lR _, lR _, lR _, lR _, lR _, lR _, lR _, lR _, trivial⟩ ⟨rfl, rfl, rfl, oS, oS, trivial⟩ rfl
  ·replace h := of_br_f b57 h
   cbv
   injection h with h
   refine hY12 _ h.symm _ _ (And.intro rfl ?_) (by intro hh; cases hh)
   exact le_sparse rfl ⟨lR _, trivial⟩ ⟨oS, trivial⟩ rfl
 ·clear hr10
  have h := hN11
  clear hN11
  intro e18 s19 q17 hne
  replace h := of_let h
  obtain ⟨y9k0, hyk, h⟩ := h
  have hyk : y9k0 = y9 := hyk
  subst hyk
  obtain ⟨rfl, q17⟩ := q17
  replace h := of_let h
  obtain ⟨w58, hw58, h⟩ := h
  have hw58 : w58 = y9k0 := hw58
  subst hw58
  cbv
  refine ⟨_, q17, ?_⟩
  cbv
  injection h with h
  subst h
  refine ⟨(sparse 71 [(8, .c (.os 64000 0 (LEN w58)))] [(64000, .arr .rw [] (LEN w58) 5 (row GD (encOccurrence LEN GD) w58))]), ?_, ?_⟩
  ·refine St.le_trans (le_ren 1024 64000 (by decide) rfl) ?_
   exact le_sparse rfl ⟨lR _, trivial⟩ ⟨oS, trivial⟩ rfl
  ·exact ⟨lR _, ⟨oS, trivial⟩, rfl⟩
/-- as deep as this -/
noncomputable def FR_impl_visits : Nat → TLibrary → (List (List TRect)) → TRect → TOccurrence → Option (List TOccurrence)
 | 0 => fun _ _ _ _ => none
 | k + 1 => FS_impl_visits (FR_impl_visits k)
theorem runR_impl_visits : ∀ (k : Nat) (a0 : TLibrary) (a1 : List (List TRect)) (a2 : TRect) (a3 : TOccurrence) (r : List TOccurrence), FR_impl_visits k a0 a1 a2 a3 = some r → Fun Try.prog 128 [.agg [.bs (len a0.fCells) 4 (row gd (encCell len gd) a0.fCells)], .c (.bs (len a1) 1 (row gd (encL len gd 4 (encRect)) a1)), .agg [.v (.int .i64 a2.fX0), .v (.int .i64 a2.fY0), .v (.int .i64 a2.fX1), .v (.int .i64 a2.fY1)], .agg [.v (.int .i64 a3.fCell), .v (.int .i64 a3.fPlace.fOrientation), .v (.int .i64 a3.fPlace.fX), .v (.int .i64 a3.fPlace.fY), .bs (len a3.fPath) 1 (row gd (encI .i64) a3.fPath)]] [] (.c (.os 64000 0 (len r))) [(64000, .arr .rw [] (len r) 5 (row gd (encOccurrence len gd) r))] false := by
 intro k
 induction k with
 | zero => intro a0 a1 a2 a3 r h; cases h
 | succ k ih => exact fun a0 a1 a2 a3 r h => runS_impl_visits (FR_impl_visits k) ih a0 a1 a2 a3 r h
/-- impl.visits -/
noncomputable def F_impl_visits (a0 : TLibrary) (a1 : List (List TRect)) (a2 : TRect) (a3 : TOccurrence) : Option (List TOccurrence) := FR_impl_visits 64 a0 a1 a2 a3
theorem run_impl_visits (a0 : TLibrary) (a1 : List (List TRect)) (a2 : TRect) (a3 : TOccurrence) (r : List TOccurrence) (h : F_impl_visits a0 a1 a2 a3 = some r) : Fun Try.prog 128 [.agg [.bs (len a0.fCells) 4 (row gd (encCell len gd) a0.fCells)], .c (.bs (len a1) 1 (row gd (encL len gd 4 (encRect)) a1)), .agg [.v (.int .i64 a2.fX0), .v (.int .i64 a2.fY0), .v (.int .i64 a2.fX1), .v (.int .i64 a2.fY1)], .agg [.v (.int .i64 a3.fCell), .v (.int .i64 a3.fPlace.fOrientation), .v (.int .i64 a3.fPlace.fX), .v (.int .i64 a3.fPlace.fY), .bs (len a3.fPath) 1 (row gd (encI .i64) a3.fPath)]] [] (.c (.os 64000 0 (len r))) [(64000, .arr .rw [] (len r) 5 (row gd (encOccurrence len gd) r))] false := runR_impl_visits 64 a0 a1 a2 a3 r h

/-- impl.visited -/
noncomputable def F_impl_visited (a0 : TLibrary) (a1 : Int) (a2 : TRect) : Option (List TOccurrence) :=
 (F_impl_contentBoxes (TLibrary.mk a0.fCells)).bind fun y1 =>
 (F_impl_visits (TLibrary.mk a0.fCells) y1 a2 (TOccurrence.mk a1 (TTransform.mk 0 0 0) ([] : List Int))).bind fun y3 =>
 some y3
theorem run_impl_visited (a0 : TLibrary) (a1 : Int) (a2 : TRect) (r : List TOccurrence) (h : F_impl_visited a0 a1 a2 = some r) : Fun Try.prog 66 [.agg [.bs (len a0.fCells) 4 (row gd (encCell len gd) a0.fCells)], .c (.v (.int .i64 a1)), .agg [.v (.int .i64 a2.fX0), .v (.int .i64 a2.fY0), .v (.int .i64 a2.fX1), .v (.int .i64 a2.fY1)]] [] (.c (.os 64000 0 (len r))) [(64000, .arr .rw [] (len r) 5 (row gd (encOccurrence len gd) r))] false := by
 refine Fun.of_wp (oneOf []) tok mixed Try.func66 (by kernel_rfl) rfl Try.ntmps66 rfl trivial (fun h => by cases h) ?_
 unfold F_impl_visited at h
 have hf_impl_contentBoxes := @run_impl_contentBoxes
 have hf_impl_visits := @run_impl_visits
 generalize hLEN : @len = LEN at *
 generalize hGD : @gd = GD at *
 generalize hA : std = A at *
 generalize hP : Try.prog = P at *
 cbv
 replace h := of_bind h
 obtain ⟨y1, hy2, h⟩ := h
 refine ⟨{ args := [.agg [.bs (LEN a0.fCells) 4 (row GD (encCell LEN GD) a0.fCells)]], o0 := [], r := .c (.os 64000 0 (LEN y1)), o1 := [(64000, .arr .rw [] (LEN y1) 1 (row GD (oncL LEN GD 4 (encRect)) y1))], fl := true, σ := [], τ := [(64000, 576)] }, hf_impl_contentBoxes _ _ hy2, ⟨les_cons (lR _) (les_nil), trivial, rfl, rfl, rfl, rfl, ⟨fun h => absurd (show (64000 : Nat) % 2 = 1 from h) (by decide), trivial⟩, rfl⟩, _, rfl, _, _, rfl, fun _ _ _ _ => .refl _, ?_⟩
 cbv
 replace h := of_bind h
 obtain ⟨y3, hy4, h⟩ := h
 refine ⟨{ args := [.agg [.bs (LEN a0.fCells) 4 (row GD (encCell LEN GD) a0.fCells)], .c (.bs (LEN y1) 1 (row GD (encL LEN GD 4 (encRect)) y1)), .agg [.v (.int .i64 a2.fX0), .v (.int .i64 a2.fY0), .v (.int .i64 a2.fX1), .v (.int .i64 a2.fY1)], .agg [.v (.int .i64 a1), .v (.int .i64 0), .v (.int .i64 0), .v (.int .i64 0), .bs (LEN ([] : List Int)) 1 (row GD (encI .i64) ([] : List Int))]], o0 := [], r := .c (.os 64000 0 (LEN y3)), o1 := [(64000, .arr .rw [] (LEN y3) 5 (row GD (encOccurrence LEN GD) y3))], fl := false, σ := [], τ := [(64000, 832)] }, hf_impl_visits _ _ _ _ _ hy4, ⟨les_cons (lR _) (les_cons (give_osD (fun _ _ => rfl) (fun _ _ => rfl) rfl rfl rfl) (les_cons (lR _) (les_cons (le_agg ⟨lR _, lR _, lR _, lR _, (by subst hLEN; exact le_nil_bs), trivial⟩) (les_nil)))), trivial, rfl, rfl, rfl, rfl, ⟨fun h => absurd (show (64000 : Nat) % 2 = 1 from h) (by decide), trivial⟩, rfl⟩, _, rfl, _, _, rfl, fun _ _ _ _ => .refl _, _, _, rfl, fun _ _ _ _ => .refl _, ?_⟩
 cbv
 injection h with h
 subst h
 refine ⟨(sparse 14 [(6, .c (.os 64000 0 (LEN y3)))] [(64000, .arr .rw [] (LEN y3) 5 (row GD (encOccurrence LEN GD) y3))]), ?_, ?_⟩
 ·refine St.le_trans (le_ren 832 64000 (by decide) rfl) ?_
  exact le_sparse rfl ⟨lR _, trivial⟩ ⟨oS, trivial⟩ rfl
 ·exact ⟨lR _, ⟨oS, trivial⟩, rfl⟩

noncomputable def L_impl_hits_x21 (a0 : TLibrary) (a1 : List TOccurrence) (a2 : Int) (a3 : TRect) (v3 : Int) : (Int × (List TWindowHit)) → Option ((Int × (List TWindowHit)) ⊕ (((List TWindowHit)))) := fun x21 =>
 letO x21.1 fun v19 =>
 letO x21.2 fun v20 =>
 br (std.lt v19 (std.ofN (len (gd a0.fCells (std.toN (gd a1 (std.toN v3)).fCell)).fShapes)))
 (req (std.inR v19 (len (gd a0.fCells (std.toN (gd a1 (std.toN v3)).fCell)).fShapes)) <|
 (F_impl_moveRect (gd a1 (std.toN v3)).fPlace (gd (gd a0.fCells (std.toN (gd a1 (std.toN v3)).fCell)).fShapes (std.toN v19)).fBox).bind fun y34 =>
 ((
    br (std.eq (gd (gd a0.fCells (std.toN (gd a1 (std.toN v3)).fCell)).fShapes (std.toN v19)).fLayer a2)
    ((F_impl_anywhere y34 a3).bind fun y43 =>
    some y43)
    (some false)
  ) : Option (Bool)).bind fun y36 =>
 letO y36 fun w42 =>
 ((
    br w42
    (((
       (F_slices_Clone_Lint64_int64 (gd a1 (std.toN v3)).fPath).bind fun y60 =>
       letO ([(TWindowHit.mk (gd a1 (std.toN v3)).fCell v19 a2 y34 y60)] : List TWindowHit) fun l62 =>
       req (std.room (std.nadd (len v20) (len l62)) 80) <|
       letO (v20 ++ l62) fun l64 =>
       some l64
     ) : Option ((List TWindowHit))).bind fun y53 =>
    letO y53 fun w59 =>
    some w59)
    (some v20)
  ) : Option ((List TWindowHit))).bind fun y46 =>
 letO y46 fun w52 =>
 some (.inl (std.add .i64 v19 1, w52)))
 (some (.inr v20))
noncomputable def L_impl_hits_x5 (a0 : TLibrary) (a1 : List TOccurrence) (a2 : Int) (a3 : TRect) : (Int × (List TWindowHit)) → Option ((Int × (List TWindowHit)) ⊕ (((List TWindowHit)))) := fun x5 =>
 letO x5.1 fun v3 =>
 letO x5.2 fun v4 =>
 br (std.lt v3 (std.ofN (len a1)))
 (req (std.inR v3 (len a1)) <|
 req (std.inR (gd a1 (std.toN v3)).fCell (len a0.fCells)) <|
 (whileP (σ := Int × (List TWindowHit)) (ρ := ((List TWindowHit))) (L_impl_hits_x21 a0 a1 a2 a3 v3) (0, v4)).bind fun y22 =>
 letO y22 fun y22k0 =>
 letO y22k0 fun w69 =>
 some (.inl (std.add .i64 v3 1, w69)))
 (some (.inr v4))
/-- impl.hits -/
noncomputable def F_impl_hits (a0 : TLibrary) (a1 : List TOccurrence) (a2 : Int) (a3 : TRect) : Option (List TWindowHit) :=
 letO ([] : List TWindowHit) fun l1 =>
 (whileP (σ := Int × (List TWindowHit)) (ρ := ((List TWindowHit))) (L_impl_hits_x5 a0 a1 a2 a3) (0, l1)).bind fun y6 =>
 letO y6 fun y6k0 =>
 letO y6k0 fun w71 =>
 some w71
theorem run_impl_hits (a0 : TLibrary) (a1 : List TOccurrence) (a2 : Int) (a3 : TRect) (r : List TWindowHit) (h : F_impl_hits a0 a1 a2 a3 = some r) : Fun Try.prog 67 [.agg [.bs (len a0.fCells) 4 (row gd (encCell len gd) a0.fCells)], .c (.bs (len a1) 5 (row gd (encOccurrence len gd) a1)), .c (.v (.int .i64 a2)), .agg [.v (.int .i64 a3.fX0), .v (.int .i64 a3.fY0), .v (.int .i64 a3.fX1), .v (.int .i64 a3.fY1)]] [] (.c (.os 64000 0 (len r))) [(64000, .arr .rw [] (len r) 8 (row gd (oncWindowHit len gd) r))] true := by
 refine Fun.of_wp (oneOf [9, 10, 100048]) tok mixed Try.func67 (by kernel_rfl) rfl Try.ntmps67 rfl trivial (fun _ => ⟨trivial, ⟨fun i _ j _ => fl_oncWindowHit _ _, trivial⟩⟩) ?_
 unfold F_impl_hits at h
 unfold L_impl_hits_x5 at h
 unfold L_impl_hits_x21 at h
 have hf_impl_anywhere := @run_impl_anywhere
 have hf_impl_moveRect := @run_impl_moveRect
 have hf_slices_Clone_Lint64_int64 := @run_slices_Clone_Lint64_int64
 generalize hLEN : @len = LEN at *
 generalize hGD : @gd = GD at *
 generalize hA : std = A at *
 generalize hP : Try.prog = P at *
 cbv
 replace h := of_let h
 obtain ⟨l1, hl1, h⟩ := h
 have e2 : 0 = LEN l1 := by subst hl1 hLEN; rfl
 refine ⟨_, congrArg (fun n => AV.c (AC.os 960 0 n)) e2, _, row GD (oncWindowHit LEN GD) l1, e2, wkOf ?_, ?_⟩
 ·intro i hi j hj
  rw [← e2] at hi
  subst hl1
  subst hGD
  omega
 cbv
 replace h := of_bind h
 obtain ⟨y6, hr7, hN8⟩ := h
 refine loop_cut hr7 (fun x => (sparse 64 [(2, .c (.v (.int .i64 a2))), (4, .c (.ptr 256 0)), (7, .c (.ptr 448 0)), (9, .c (.os 960 0 (LEN x.2))), (16, .c (.bs (LEN a1) 5 (row GD (encOccurrence LEN GD) a1))), (17, .c (.v (.int .i64 (A.ofN (LEN a1))))), (18, .c (.v (.int .i64 x.1)))] [(256, .var [.bs (LEN a0.fCells) 4 (row GD (encCell LEN GD) a0.fCells)]), (448, .var [.v (.int .i64 a3.fX0), .v (.int .i64 a3.fY0), .v (.int .i64 a3.fX1), .v (.int .i64 a3.fY1)]), (960, .arr .rw [] (LEN x.2) 8 (row GD (oncWindowHit LEN GD) x.2))])) ?_ (fun y e s => (fun (w : (List TWindowHit)) => e = .exit 0 ∧ s.le (sparse 64 [(9, .c (.os 960 0 (LEN w)))] [(960, .arr .rw [] (LEN w) 8 (row GD (oncWindowHit LEN GD) w))])) y) ?_ ?_
 ·clear hr7 hN8
  show St.le _ _
  exact le_sparse rfl ⟨lR _, lR _, lR _, lR _, lR _, lR _, lR _, trivial⟩ ⟨rfl, rfl, oS, trivial⟩ rfl
 ·clear hr7 hN8
  intro x z12 h K10 hK11 hY9
  obtain ⟨x0_, x1_⟩ := x
  replace h := of_let h
  obtain ⟨v3, hv3, h⟩ := h
  have hv3 : v3 = x0_ := hv3
  subst hv3
  replace h := of_let h
  obtain ⟨v4, hv4, h⟩ := h
  have hv4 : v4 = x1_ := hv4
  subst hv4
  cbv
  refine fork (fun b70 => ?_) (fun b70 => ?_)
  ·replace h := of_br_t b70 h
   cbv
   replace h := of_req h
   obtain ⟨c17, h⟩ := h
   refine ⟨⟨c17, trivial⟩, ?_⟩
   replace h := of_req h
   obtain ⟨c18, h⟩ := h
   refine ⟨⟨c18, trivial⟩, ?_⟩
   replace h := of_bind h
   obtain ⟨y22, hr23, hN24⟩ := h
   refine loop_cut hr23 (fun x => (sparse 64 [(2, .c (.v (.int .i64 a2))), (4, .c (.ptr 256 0)), (7, .c (.ptr 448 0)), (9, .c (.os 960 0 (LEN x.2))), (11, .c (.ptr 704 0)), (16, .c (.bs (LEN a1) 5 (row GD (encOccurrence LEN GD) a1))), (17, .c (.v (.int .i64 (A.ofN (LEN a1))))), (18, .c (.v (.int .i64 v3))), (28, .c (.bs (LEN (GD a0.fCells (A.toN (GD a1 (A.toN v3)).fCell)).fShapes) 5 (row GD (encShape) (GD a0.fCells (A.toN (GD a1 (A.toN v3)).fCell)).fShapes))), (29, .c (.v (.int .i64 (A.ofN (LEN (GD a0.fCells (A.toN (GD a1 (A.toN v3)).fCell)).fShapes))))), (30, .c (.v (.int .i64 x.1)))] [(256, .var [.bs (LEN a0.fCells) 4 (row GD (encCell LEN GD) a0.fCells)]), (448, .var [.v (.int .i64 a3.fX0), .v (.int .i64 a3.fY0), .v (.int .i64 a3.fX1), .v (.int .i64 a3.fY1)]), (960, .arr .rw [] (LEN x.2) 8 (row GD (oncWindowHit LEN GD) x.2)), (704, .var [.v (.int .i64 (GD a1 (A.toN v3)).fCell), .v (.int .i64 (GD a1 (A.toN v3)).fPlace.fOrientation), .v (.int .i64 (GD a1 (A.toN v3)).fPlace.fX), .v (.int .i64 (GD a1 (A.toN v3)).fPlace.fY), .bs (LEN (GD a1 (A.toN v3)).fPath) 1 (row GD (encI .i64) (GD a1 (A.toN v3)).fPath)])])) ?_ (fun y e s => (fun (w : (List TWindowHit)) => e = .exit 2 ∧ s.le (sparse 64 [(2, .c (.v (.int .i64 a2))), (4, .c (.ptr 256 0)), (7, .c (.ptr 448 0)), (9, .c (.os 960 0 (LEN w))), (16, .c (.bs (LEN a1) 5 (row GD (encOccurrence LEN GD) a1))), (17, .c (.v (.int .i64 (A.ofN (LEN a1))))), (18, .c (.v (.int .i64 v3)))] [(256, .var [.bs (LEN a0.fCells) 4 (row GD (encCell LEN GD) a0.fCells)]), (448, .var [.v (.int .i64 a3.fX0), .v (.int .i64 a3.fY0), .v (.int .i64 a3.fX1), .v (.int .i64 a3.fY1)]), (960, .arr .rw [] (LEN w) 8 (row GD (oncWindowHit LEN GD) w))])) y) ?_ ?_
   ·clear hr23 hN24
    show St.le _ _
    exact le_sparse rfl ⟨lR _, lR _, lR _, lR _, lR _, lR _, lR _, lR _, lR _, lR _, lR _, trivial⟩ ⟨rfl, rfl, oS, rfl, trivial⟩ rfl
   ·clear hr23 hN24
    intro x z28 h K26 hK27 hY25
    obtain ⟨x0_, x1_⟩ := x
    replace h := of_let h
    obtain ⟨v19, hv19, h⟩ := h
    have hv19 : v19 = x0_ := hv19
    subst hv19
    replace h := of_let h
    obtain ⟨v20, hv20, h⟩ := h
    have hv20 : v20 = x1_ := hv20
    subst hv20
    cbv
    refine fork (fun b68 => ?_) (fun b68 => ?_)
    ·replace h := of_br_t b68 h
     cbv
     replace h := of_req h
     obtain ⟨c33, h⟩ := h
     refine ⟨⟨c33, trivial⟩, ?_⟩
     replace h := of_bind h
     obtain ⟨y34, hy35, h⟩ := h
     refine ⟨{ args := [.agg [.v (.int .i64 (GD a1 (A.toN v3)).fPlace.fOrientation), .v (.int .i64 (GD a1 (A.toN v3)).fPlace.fX), .v (.int .i64 (GD a1 (A.toN v3)).fPlace.fY)], .agg [.v (.int .i64 (GD (GD a0.fCells (A.toN (GD a1 (A.toN v3)).fCell)).fShapes (A.toN v19)).fBox.fX0), .v (.int .i64 (GD (GD a0.fCells (A.toN (GD a1 (A.toN v3)).fCell)).fShapes (A.toN v19)).fBox.fY0), .v (.int .i64 (GD (GD a0.fCells (A.toN (GD a1 (A.toN v3)).fCell)).fShapes (A.toN v19)).fBox.fX1), .v (.int .i64 (GD (GD a0.fCells (A.toN (GD a1 (A.toN v3)).fCell)).fShapes (A.toN v19)).fBox.fY1)]], o0 := [], r := .agg [.v (.int .i64 y34.fX0), .v (.int .i64 y34.fY0), .v (.int .i64 y34.fX1), .v (.int .i64 y34.fY1)], o1 := [], fl := true, σ := [], τ := [] }, hf_impl_moveRect _ _ _ hy35, ⟨les_cons (lR _) (les_cons (lR _) (les_nil)), trivial, rfl, rfl, rfl, rfl, trivial, rfl⟩, ?_⟩
     cbv
     replace h := of_bind h
     obtain ⟨y36, hy37, h⟩ := h
     obtain ⟨S40, hS41⟩ : ∃ S, S = (sparse 64 [(2, .c (.v (.int .i64 a2))), (4, .c (.ptr 256 0)), (7, .c (.ptr 448 0)), (9, .c (.os 960 0 (LEN v20))), (11, .c (.ptr 704 0)), (12, .c (.v (.int .i64 v19))), (14, .c (.ptr 896 0)), (16, .c (.bs (LEN a1) 5 (row GD (encOccurrence LEN GD) a1))), (17, .c (.v (.int .i64 (A.ofN (LEN a1))))), (18, .c (.v (.int .i64 v3))), (28, .c (.bs (LEN (GD a0.fCells (A.toN (GD a1 (A.toN v3)).fCell)).fShapes) 5 (row GD (encShape) (GD a0.fCells (A.toN (GD a1 (A.toN v3)).fCell)).fShapes))), (29, .c (.v (.int .i64 (A.ofN (LEN (GD a0.fCells (A.toN (GD a1 (A.toN v3)).fCell)).fShapes))))), (30, .c (.v (.int .i64 v19))), (48, .c (.v (.bool y36)))] [(256, .var [.bs (LEN a0.fCells) 4 (row GD (encCell LEN GD) a0.fCells)]), (448, .var [.v (.int .i64 a3.fX0), .v (.int .i64 a3.fY0), .v (.int .i64 a3.fX1), .v (.int .i64 a3.fY1)]), (960, .arr .rw [] (LEN v20) 8 (row GD (oncWindowHit LEN GD) v20)), (704, .var [.v (.int .i64 (GD a1 (A.toN v3)).fCell), .v (.int .i64 (GD a1 (A.toN v3)).fPlace.fOrientation), .v (.int .i64 (GD a1 (A.toN v3)).fPlace.fX), .v (.int .i64 (GD a1 (A.toN v3)).fPlace.fY), .bs (LEN (GD a1 (A.toN v3)).fPath) 1 (row GD (encI .i64) (GD a1 (A.toN v3)).fPath)]), (896, .var [.v (.int .i64 y34.fX0), .v (.int .i64 y34.fY0), .v (.int .i64 y34.fX1), .v (.int .i64 y34.fY1)])]) := ⟨_, rfl⟩
     refine ⟨S40, ?_, ?_⟩
     ·clear h
      have h := hy37
      clear hy37
      cbv
      refine fork (fun b45 => ?_) (fun b45 => ?_)
      ·replace h := of_br_t b45 h
       cbv
       replace h := of_bind h
       obtain ⟨y43, hy44, h⟩ := h
       refine ⟨{ args := [.agg [.v (.int .i64 y34.fX0), .v (.int .i64 y34.fY0), .v (.int .i64 y34.fX1), .v (.int .i64 y34.fY1)], .agg [.v (.int .i64 a3.fX0), .v (.int .i64 a3.fY0), .v (.int .i64 a3.fX1), .v (.int .i64 a3.fY1)]], o0 := [], r := .c (.v (.bool y43)), o1 := [], fl := true, σ := [], τ := [] }, hf_impl_anywhere _ _ _ hy44, ⟨les_cons (lR _) (les_cons (lR _) (les_nil)), trivial, rfl, rfl, rfl, rfl, trivial, rfl⟩, ?_⟩
       cbv
       injection h with h
       subst h
       subst hS41
       show St.le _ _
       exact le_sparse rfl ⟨lR _, lR _, lR _, lR _, lR _, lR _, lR _, lR _, lR _, lR _, lR _, lR _, lR _, lR _, trivial⟩ ⟨rfl, rfl, oS, rfl, rfl, trivial⟩ rfl
      ·replace h := of_br_f b45 h
       cbv
       injection h with h
       subst h
       subst hS41
       show St.le _ _
       exact le_sparse rfl ⟨lR _, lR _, lR _, lR _, lR _, lR _, lR _, lR _, lR _, lR _, lR _, lR _, lR _, lR _, trivial⟩ ⟨rfl, rfl, oS, rfl, rfl, trivial⟩ rfl
     ·clear hy37
      subst hS41
      replace h := of_let h
      obtain ⟨w42, hw42, h⟩ := h
      have hw42 : w42 = y36 := hw42
      subst hw42
      cbv
      replace h := of_bind h
      obtain ⟨y46, hy47, h⟩ := h
      obtain ⟨S50, hS51⟩ : ∃ S, S = some (sparse 64 [(2, .c (.v (.int .i64 a2))), (4, .c (.ptr 256 0)), (7, .c (.ptr 448 0)), (9, .c (.os 960 0 (LEN y46))), (11, .c (.ptr 704 0)), (16, .c (.bs (LEN a1) 5 (row GD (encOccurrence LEN GD) a1))), (17, .c (.v (.int .i64 (A.ofN (LEN a1))))), (18, .c (.v (.int .i64 v3))), (28, .c (.bs (LEN (GD a0.fCells (A.toN (GD a1 (A.toN v3)).fCell)).fShapes) 5 (row GD (encShape) (GD a0.fCells (A.toN (GD a1 (A.toN v3)).fCell)).fShapes))), (29, .c (.v (.int .i64 (A.ofN (LEN (GD a0.fCells (A.toN (GD a1 (A.toN v3)).fCell)).fShapes))))), (30, .c (.v (.int .i64 v19)))] [(256, .var [.bs (LEN a0.fCells) 4 (row GD (encCell LEN GD) a0.fCells)]), (448, .var [.v (.int .i64 a3.fX0), .v (.int .i64 a3.fY0), .v (.int .i64 a3.fX1), .v (.int .i64 a3.fY1)]), (960, .arr .rw [] (LEN y46) 8 (row GD (oncWindowHit LEN GD) y46)), (704, .var [.v (.int .i64 (GD a1 (A.toN v3)).fCell), .v (.int .i64 (GD a1 (A.toN v3)).fPlace.fOrientation), .v (.int .i64 (GD a1 (A.toN v3)).fPlace.fX), .v (.int .i64 (GD a1 (A.toN v3)).fPlace.fY), .bs (LEN (GD a1 (A.toN v3)).fPath) 1 (row GD (encI .i64) (GD a1 (A.toN v3)).fPath)])]) := ⟨_, rfl⟩
      refine ⟨S50, ?_, ?_⟩
      ·clear h
       have h := hy47
       clear hy47
       cbv
       refine fork (fun b67 => ?_) (fun b67 => ?_)
       ·replace h := of_br_t b67 h
        cbv
        replace h := of_bind h
        obtain ⟨y53, hy54, h⟩ := h
        obtain ⟨S57, hS58⟩ : ∃ S, S = (sparse 64 [(2, .c (.v (.int .i64 a2))), (4, .c (.ptr 256 0)), (7, .c (.ptr 448 0)), (9, .c (.os 960 0 (LEN y53))), (11, .c (.ptr 704 0)), (16, .c (.bs (LEN a1) 5 (row GD (encOccurrence LEN GD) a1))), (17, .c (.v (.int .i64 (A.ofN (LEN a1))))), (18, .c (.v (.int .i64 v3))), (28, .c (.bs (LEN (GD a0.fCells (A.toN (GD a1 (A.toN v3)).fCell)).fShapes) 5 (row GD (encShape) (GD a0.fCells (A.toN (GD a1 (A.toN v3)).fCell)).fShapes))), (29, .c (.v (.int .i64 (A.ofN (LEN (GD a0.fCells (A.toN (GD a1 (A.toN v3)).fCell)).fShapes))))), (30, .c (.v (.int .i64 v19)))] [(256, .var [.bs (LEN a0.fCells) 4 (row GD (encCell LEN GD) a0.fCells)]), (448, .var [.v (.int .i64 a3.fX0), .v (.int .i64 a3.fY0), .v (.int .i64 a3.fX1), .v (.int .i64 a3.fY1)]), (960, .arr .rw [] (LEN y53) 8 (row GD (oncWindowHit LEN GD) y53)), (704, .var [.v (.int .i64 (GD a1 (A.toN v3)).fCell), .v (.int .i64 (GD a1 (A.toN v3)).fPlace.fOrientation), .v (.int .i64 (GD a1 (A.toN v3)).fPlace.fX), .v (.int .i64 (GD a1 (A.toN v3)).fPlace.fY), .bs (LEN (GD a1 (A.toN v3)).fPath) 1 (row GD (encI .i64) (GD a1 (A.toN v3)).fPath)])]) := ⟨_, rfl⟩
        refine ⟨S57, ?_, ?_⟩
        ·clear h
         have h := hy54
         clear hy54
         cbv
         replace h := of_bind h
         obtain ⟨y60, hy61, h⟩ := h
         refine ⟨{ args := [.c (.bs (LEN (GD a1 (A.toN v3)).fPath) 1 (row GD (encI .i64) (GD a1 (A.toN v3)).fPath))], o0 := [], r := .c (.os 64000 0 (LEN y60)), o1 := [(64000, .arr .rw [] (LEN y60) 1 (row GD (encI .i64) y60))], fl := true, σ := [], τ := [(64000, 3648)] }, hf_slices_Clone_Lint64_int64 _ _ hy61, ⟨les_cons (lR _) (les_nil), trivial, rfl, rfl, rfl, rfl, ⟨fun h => absurd (show (64000 : Nat) % 2 = 1 from h) (by decide), trivial⟩, rfl⟩, _, rfl, _, _, rfl, fun _ _ _ _ => .refl _, ?_⟩
         cbv
         replace h := of_let h
         obtain ⟨l62, hl62, h⟩ := h
         have e63 : 1 = LEN l62 := by subst hl62 hLEN; rfl
         refine ⟨_, congrArg (fun n => AV.c (AC.os 3776 0 n)) e63, _, (patchC (fun _ _ => AC.junk) 0 [.v (.int .i64 (GD a1 (A.toN v3)).fCell), .v (.int .i64 v19), .v (.int .i64 a2), .v (.int .i64 y34.fX0), .v (.int .i64 y34.fY0), .v (.int .i64 y34.fX1), .v (.int .i64 y34.fY1), .os 3648 0 (LEN y60)]), e63, wkOf ?_, ?_⟩
         ·refine patch_one (by subst hl62 hLEN; rfl) ?_
          intro j hj
          match j, hj with | 0, _ => (rfl) | 1, _ => (rfl) | 2, _ => (rfl) | 3, _ => (rfl) | 4, _ => (rfl) | 5, _ => (rfl) | 6, _ => (rfl) | 7, _ => (rfl) | (j_ + 8), h_ => exact absurd h_ (by omega)
         cbv
         replace h := of_req h
         obtain ⟨c66, h⟩ := h
         replace h := of_let h
         obtain ⟨l64, hl64, h⟩ := h
         have e65 : A.nadd (LEN v20) (LEN l62) = LEN l64 := by subst hl64 hLEN hA; simp [std, len]
         refine ⟨c66, _, congrArg (fun n => AV.c (AC.os 960 0 n)) e65, _, (patchC (row GD (oncWindowHit LEN GD) v20) (LEN v20) [.v (.int .i64 (GD a1 (A.toN v3)).fCell), .v (.int .i64 v19), .v (.int .i64 a2), .v (.int .i64 y34.fX0), .v (.int .i64 y34.fY0), .v (.int .i64 y34.fX1), .v (.int .i64 y34.fY1), .os 3648 0 (LEN y60)]), e65, wkOf ?_, ?_⟩
         ·subst hLEN hA
          refine patch_joinG (by first | (rw [hl64]; simp [len]; done) | (rw [hl64]; simp [len]; omega) | (subst_vars; simp [len])) ?_
          intro j hj
          match j, hj with | 0, _ => (rfl) | 1, _ => (rfl) | 2, _ => (rfl) | 3, _ => (rfl) | 4, _ => (rfl) | 5, _ => (rfl) | 6, _ => (rfl) | 7, _ => (rfl) | (j_ + 8), h_ => exact absurd h_ (by omega)
         cbv
         rw [hl62] at hl64
         injection h with h
         subst h
         subst hS58
         show St.le _ _
         refine St.le_trans (le_foldP 960 7 3648 rfl rfl rfl (by decide) (by subst hLEN; exact app_lt hl64) (by decide) rfl (fun _ _ => rf_oncWindowHit _ _)) ?_
         exact le_sparse rfl ⟨lR _, lR _, lR _, lR _, lR _, lR _, lR _, lR _, lR _, lR _, lR _, trivial⟩ ⟨rfl, rfl, ⟨fun hw => hw, fun c hc => (by cases hc), .inr (fun i _ j _ z hz => (noref (rf_oncWindowHit _ _) hz).elim), rfl, rfl, (by subst hGD hLEN hA; exact patch_app hl64 (Nat.le_refl _) (by intro j hj; match j, hj with | 0, _ => rfl | 1, _ => rfl | 2, _ => rfl | 3, _ => rfl | 4, _ => rfl | 5, _ => rfl | 6, _ => rfl | 7, _ => rfl | (j_ + 8), h_ => exact absurd h_ (by omega)))⟩, rfl, trivial⟩ rfl
        ·clear hy54
         subst hS58
         replace h := of_let h
         obtain ⟨w59, hw59, h⟩ := h
         have hw59 : w59 = y53 := hw59
         subst hw59
         cbv
         injection h with h
         subst h
         subst hS51
         show St.le _ _
         exact le_sparse rfl ⟨lR _, lR _, lR _, lR _, lR _, lR _, lR _, lR _, lR _, lR _, lR _, trivial⟩ ⟨rfl, rfl, oS, rfl, trivial⟩ rfl
       ·replace h := of_br_f b67 h
        cbv
        injection h with h
        subst h
        subst hS51
        show St.le _ _
        exact le_sparse rfl ⟨lR _, lR _, lR _, lR _, lR _, lR _, lR _, lR _, lR _, lR _, lR _, trivial⟩ ⟨rfl, rfl, oS, rfl, trivial⟩ rfl
      ·clear hy47
       subst hS51
       replace h := of_let h
       obtain ⟨w52, hw52, h⟩ := h
       have hw52 : w52 = y46 := hw52
       subst hw52
       cbv
       injection h with h
       refine hK27 _ h.symm _ ?_
       exact le_sparse rfl ⟨lR _, lR _, lR _, lR _, lR _, lR _, lR _, lR _, lR _, lR _, lR _, trivial⟩ ⟨rfl, rfl, oS, rfl, trivial⟩ rfl
    ·replace h := of_br_f b68 h
     cbv
     injection h with h
     refine hY25 _ h.symm _ _ (And.intro rfl ?_) (by intro hh; cases hh)
     exact le_sparse rfl ⟨lR _, lR _, lR _, lR _, lR _, lR _, lR _, trivial⟩ ⟨rfl, rfl, oS, trivial⟩ rfl
   ·clear hr23
    have h := hN24
    clear hN24
    intro e31 s32 q30 hne
    replace h := of_let h
    obtain ⟨y22k0, hyk, h⟩ := h
    have hyk : y22k0 = y22 := hyk
    subst hyk
    obtain ⟨rfl, q30⟩ := q30
    replace h := of_let h
    obtain ⟨w69, hw69, h⟩ := h
    have hw69 : w69 = y22k0 := hw69
    subst hw69
    cbv
    refine ⟨_, q30, ?_⟩
    cbv
    injection h with h
    refine hK11 _ h.symm _ ?_
    exact le_sparse rfl ⟨lR _, lR _, lR _, lR _, lR _, lR _, lR _, trivial⟩ ⟨rfl, rfl, oS, trivial⟩ rfl
  ·replace h := of_br_f b70 h
   cbv
   injection h with h
   refine hY9 _ h.symm _ _ (And.intro rfl ?_) (by intro hh; cases hh)
   exact le_sparse rfl ⟨lR _, trivial⟩ ⟨oS, trivial⟩ rfl
 ·clear hr7
  have h := hN8
  clear hN8
  intro e15 s16 q14 hne
  replace h := of_let h
  obtain ⟨y6k0, hyk, h⟩ := h
  have hyk : y6k0 = y6 := hyk
  subst hyk
  obtain ⟨rfl, q14⟩ := q14
  replace h := of_let h
  obtain ⟨w71, hw71, h⟩ := h
  have hw71 : w71 = y6k0 := hw71
  subst hw71
  cbv
  refine ⟨_, q14, ?_⟩
  cbv
  injection h with h
  subst h
  refine ⟨(sparse 64 [(8, .c (.os 64000 0 (LEN w71)))] [(64000, .arr .rw [] (LEN w71) 8 (row GD (oncWindowHit LEN GD) w71))]), ?_, ?_⟩
  ·refine St.le_trans (le_ren 960 64000 (by decide) rfl) ?_
   exact le_sparse rfl ⟨lR _, trivial⟩ ⟨oS, trivial⟩ rfl
  ·exact ⟨lR _, ⟨oS, trivial⟩, rfl⟩
end Go.Proofs.Ytlenieingkfjaaa.AM
