/-
  What the functions that the law reaches compute, and that they do. No condition.
-/
import Derived.Test.YtmdlnjeppemipaaAmDX
import Derived.Test.YtmdlnjeppemipaaAmE
namespace Go.Proofs.Ytmdlnjeppemipaa.AM
open Go Go.Proofs Go.RowKit
set_option linter.unusedVariables false
set_option linter.unusedSimpArgs false
set_option maxRecDepth 100000

noncomputable def L_impl_instanceBox_x19 (a0 : TInstance) (a1 : TRect) (v3 : Int) : (Int × (List TRect)) → Option ((Int × (List TRect)) ⊕ (((List TRect)))) := fun x19 =>
  letO x19.1 fun v17 =>
  letO x19.2 fun v18 =>
  br (std.lt v17 a0.fColumns)
  ((F_impl_elementPlace a0 v17 v3).bind fun y31 =>
  (F_impl_moveRect y31 a1).bind fun y33 =>
  letO ([y33] : List TRect) fun l35 =>
  req (std.room (std.nadd (len v18) (len l35)) 32) <|
  letO (v18 ++ l35) fun l37 =>
  some (.inl (std.add .i64 v17 1, l37)))
  (some (.inr v18))
noncomputable def L_impl_instanceBox_x5 (a0 : TInstance) (a1 : TRect) : (Int × (List TRect)) → Option ((Int × (List TRect)) ⊕ (((List TRect)))) := fun x5 =>
  letO x5.1 fun v3 =>
  letO x5.2 fun v4 =>
  br (std.lt v3 a0.fRows)
  ((whileP (σ := Int × (List TRect)) (ρ := ((List TRect))) (L_impl_instanceBox_x19 a0 a1 v3) (0, v4)).bind fun y20 =>
  letO y20 fun y20k0 =>
  letO y20k0 fun w41 =>
  some (.inl (std.add .i64 v3 1, w41)))
  (some (.inr v4))
/-- impl.instanceBox -/
noncomputable def F_impl_instanceBox (a0 : TInstance) (a1 : TRect) : Option (TRect) :=
  letO ([] : List TRect) fun l1 =>
  (whileP (σ := Int × (List TRect)) (ρ := ((List TRect))) (L_impl_instanceBox_x5 a0 a1) (0, l1)).bind fun y6 =>
  letO y6 fun y6k0 =>
  letO y6k0 fun w43 =>
  (F_impl_boxOf w43).bind fun y44 =>
  some y44
theorem run_impl_instanceBox (a0 : TInstance) (a1 : TRect) (r : TRect) (h : F_impl_instanceBox a0 a1 = some r) : Fun Try.prog 62 [.agg [.v (.int .i64 a0.fCell), .v (.int .i64 a0.fPlace.fOrientation), .v (.int .i64 a0.fPlace.fX), .v (.int .i64 a0.fPlace.fY), .v (.int .i64 a0.fColumns), .v (.int .i64 a0.fRows), .v (.int .i64 a0.fStepX), .v (.int .i64 a0.fStepY)], .agg [.v (.int .i64 a1.fX0), .v (.int .i64 a1.fY0), .v (.int .i64 a1.fX1), .v (.int .i64 a1.fY1)]] [] (.agg [.v (.int .i64 r.fX0), .v (.int .i64 r.fY0), .v (.int .i64 r.fX1), .v (.int .i64 r.fY1)]) [] true := by
  refine Fun.of_wp (oneOf []) tok mixed Try.func62 (by kernel_rfl) rfl Try.ntmps62 rfl trivial (fun _ => ⟨(by simp [AV.flat, AV.flat1, AC.flat]), trivial⟩) ?_
  unfold F_impl_instanceBox at h
  unfold L_impl_instanceBox_x5 at h
  unfold L_impl_instanceBox_x19 at h
  have hf_impl_boxOf := @run_impl_boxOf
  have hf_impl_elementPlace := @run_impl_elementPlace
  have hf_impl_moveRect := @run_impl_moveRect
  generalize hLEN : @len = LEN at *
  generalize hGD : @gd = GD at *
  generalize hA : std = A at *
  generalize hP : Try.prog = P at *
  cbv
  replace h := of_let h
  obtain ⟨l1, hl1, h⟩ := h
  have e2 : 0 = LEN l1 := by subst hl1 hLEN; rfl
  refine ⟨_, congrArg (fun n => AV.c (AC.os 512 0 n)) e2, _, row GD (encRect) l1, e2, ?_, ?_⟩
  · intro i hi j hj
    rw [← e2] at hi
    subst hl1
    subst hGD
    omega
  cbv
  replace h := of_bind h
  obtain ⟨y6, hr7, hN8⟩ := h
  refine loop_cut hr7 (fun x => (sparse 32 [(2, .c (.ptr 128 0)), (3, .c (.ptr 192 0)), (4, .c (.ptr 256 0)), (5, .c (.os 512 0 (LEN x.2))), (10, .c (.v (.int .i64 a0.fRows))), (11, .c (.v (.int .i64 x.1)))] [(128, .var [.v (.int .i64 a0.fCell), .v (.int .i64 a0.fPlace.fOrientation), .v (.int .i64 a0.fPlace.fX), .v (.int .i64 a0.fPlace.fY), .v (.int .i64 a0.fColumns), .v (.int .i64 a0.fRows), .v (.int .i64 a0.fStepX), .v (.int .i64 a0.fStepY)]), (192, .var [.v (.int .i64 a1.fX0), .v (.int .i64 a1.fY0), .v (.int .i64 a1.fX1), .v (.int .i64 a1.fY1)]), (256, .var [.v (.int .i64 0), .v (.int .i64 0), .v (.int .i64 0), .v (.int .i64 0)]), (512, .arr .rw [] (LEN x.2) 4 (row GD (encRect) x.2))])) ?_ (fun y e s => (fun (w : (List TRect)) => e = .exit 0 ∧ s.le (sparse 32 [(4, .c (.ptr 256 0)), (5, .c (.os 512 0 (LEN w)))] [(256, .var [.v (.int .i64 0), .v (.int .i64 0), .v (.int .i64 0), .v (.int .i64 0)]), (512, .arr .rw [] (LEN w) 4 (row GD (encRect) w))])) y) ?_ ?_
  · clear hr7 hN8
    show St.le _ _
    exact le_sparse rfl ⟨AV.le_refl _, AV.le_refl _, AV.le_refl _, AV.le_refl _, AV.le_refl _, AV.le_refl _, trivial⟩ ⟨rfl, rfl, rfl, ⟨fun hw => hw, fun c hc => (by cases hc), .inl rfl, rfl, rfl, fun i hi j hj => rfl⟩, trivial⟩ rfl
  · clear hr7 hN8
    intro x z12 h K10 hK11 hY9
    obtain ⟨x0_, x1_⟩ := x
    replace h := of_let h
    obtain ⟨v3, hv3, h⟩ := h
    have hv3 : v3 = x0_ := hv3
    subst hv3
    replace h := of_let h
    obtain ⟨v4, hv4, h⟩ := h
    have hv4 : v4 = x1_ := hv4
    subst hv4
    cbv
    refine fork (fun b42 => ?_) (fun b42 => ?_)
    · replace h := of_br_t b42 h
      cbv
      replace h := of_bind h
      obtain ⟨y20, hr21, hN22⟩ := h
      refine loop_cut hr21 (fun x => (sparse 32 [(2, .c (.ptr 128 0)), (3, .c (.ptr 192 0)), (4, .c (.ptr 256 0)), (5, .c (.os 512 0 (LEN x.2))), (6, .c (.v (.int .i64 v3))), (10, .c (.v (.int .i64 a0.fRows))), (11, .c (.v (.int .i64 v3))), (15, .c (.v (.int .i64 a0.fColumns))), (16, .c (.v (.int .i64 x.1)))] [(128, .var [.v (.int .i64 a0.fCell), .v (.int .i64 a0.fPlace.fOrientation), .v (.int .i64 a0.fPlace.fX), .v (.int .i64 a0.fPlace.fY), .v (.int .i64 a0.fColumns), .v (.int .i64 a0.fRows), .v (.int .i64 a0.fStepX), .v (.int .i64 a0.fStepY)]), (192, .var [.v (.int .i64 a1.fX0), .v (.int .i64 a1.fY0), .v (.int .i64 a1.fX1), .v (.int .i64 a1.fY1)]), (256, .var [.v (.int .i64 0), .v (.int .i64 0), .v (.int .i64 0), .v (.int .i64 0)]), (512, .arr .rw [] (LEN x.2) 4 (row GD (encRect) x.2))])) ?_ (fun y e s => (fun (w : (List TRect)) => e = .exit 2 ∧ s.le (sparse 32 [(2, .c (.ptr 128 0)), (3, .c (.ptr 192 0)), (4, .c (.ptr 256 0)), (5, .c (.os 512 0 (LEN w))), (10, .c (.v (.int .i64 a0.fRows))), (11, .c (.v (.int .i64 v3)))] [(128, .var [.v (.int .i64 a0.fCell), .v (.int .i64 a0.fPlace.fOrientation), .v (.int .i64 a0.fPlace.fX), .v (.int .i64 a0.fPlace.fY), .v (.int .i64 a0.fColumns), .v (.int .i64 a0.fRows), .v (.int .i64 a0.fStepX), .v (.int .i64 a0.fStepY)]), (192, .var [.v (.int .i64 a1.fX0), .v (.int .i64 a1.fY0), .v (.int .i64 a1.fX1), .v (.int .i64 a1.fY1)]), (256, .var [.v (.int .i64 0), .v (.int .i64 0), .v (.int .i64 0), .v (.int .i64 0)]), (512, .arr .rw [] (LEN w) 4 (row GD (encRect) w))])) y) ?_ ?_
      · clear hr21 hN22
        show St.le _ _
        exact le_sparse rfl ⟨AV.le_refl _, AV.le_refl _, AV.le_refl _, AV.le_refl _, AV.le_refl _, AV.le_refl _, AV.le_refl _, AV.le_refl _, AV.le_refl _, trivial⟩ ⟨rfl, rfl, rfl, ⟨fun hw => hw, fun c hc => (by cases hc), .inl rfl, rfl, rfl, fun i hi j hj => rfl⟩, trivial⟩ rfl
      · clear hr21 hN22
        intro x z26 h K24 hK25 hY23
        obtain ⟨x0_, x1_⟩ := x
        replace h := of_let h
        obtain ⟨v17, hv17, h⟩ := h
        have hv17 : v17 = x0_ := hv17
        subst hv17
        replace h := of_let h
        obtain ⟨v18, hv18, h⟩ := h
        have hv18 : v18 = x1_ := hv18
        subst hv18
        cbv
        refine fork (fun b40 => ?_) (fun b40 => ?_)
        · replace h := of_br_t b40 h
          cbv
          replace h := of_bind h
          obtain ⟨y31, hy32, h⟩ := h
          refine ⟨{ args := [.agg [.v (.int .i64 a0.fCell), .v (.int .i64 a0.fPlace.fOrientation), .v (.int .i64 a0.fPlace.fX), .v (.int .i64 a0.fPlace.fY), .v (.int .i64 a0.fColumns), .v (.int .i64 a0.fRows), .v (.int .i64 a0.fStepX), .v (.int .i64 a0.fStepY)], .c (.v (.int .i64 v17)), .c (.v (.int .i64 v3))], o0 := [], r := .agg [.v (.int .i64 y31.fOrientation), .v (.int .i64 y31.fX), .v (.int .i64 y31.fY)], o1 := [], fl := true, σ := [], τ := [] }, hf_impl_elementPlace _ _ _ _ hy32, ⟨les_cons (AV.le_refl _) (les_cons (AV.le_refl _) (les_cons (AV.le_refl _) (les_nil))), trivial, rfl, rfl, rfl, rfl, trivial, rfl⟩, ?_⟩
          cbv
          replace h := of_bind h
          obtain ⟨y33, hy34, h⟩ := h
          refine ⟨{ args := [.agg [.v (.int .i64 y31.fOrientation), .v (.int .i64 y31.fX), .v (.int .i64 y31.fY)], .agg [.v (.int .i64 a1.fX0), .v (.int .i64 a1.fY0), .v (.int .i64 a1.fX1), .v (.int .i64 a1.fY1)]], o0 := [], r := .agg [.v (.int .i64 y33.fX0), .v (.int .i64 y33.fY0), .v (.int .i64 y33.fX1), .v (.int .i64 y33.fY1)], o1 := [], fl := true, σ := [], τ := [] }, hf_impl_moveRect _ _ _ hy34, ⟨les_cons (AV.le_refl _) (les_cons (AV.le_refl _) (les_nil)), trivial, rfl, rfl, rfl, rfl, trivial, rfl⟩, ?_⟩
          cbv
          replace h := of_let h
          obtain ⟨l35, hl35, h⟩ := h
          have e36 : 1 = LEN l35 := by subst hl35 hLEN; rfl
          refine ⟨_, congrArg (fun n => AV.c (AC.os 1664 0 n)) e36, _, row GD (encRect) l35, e36, ?_, ?_⟩
          · intro i hi j hj
            rw [← e36] at hi
            subst hl35
            subst hGD
            obtain rfl : i = 0 := (by omega) <;> obtain rfl | rfl | rfl | rfl : j = 0 ∨ j = 1 ∨ j = 2 ∨ j = 3 := (by omega)
            all_goals rfl
          cbv
          replace h := of_req h
          obtain ⟨c39, h⟩ := h
          replace h := of_let h
          obtain ⟨l37, hl37, h⟩ := h
          have e38 : A.nadd (LEN v18) (LEN l35) = LEN l37 := by subst hl37 hLEN hA; simp [std, len]
          refine ⟨c39, _, congrArg (fun n => AV.c (AC.os 512 0 n)) e38, _, row GD (encRect) l37, e38, ?_, ?_⟩
          · subst hGD hLEN hA
            exact app_os (off := 0) (pl_encRect) hl37 (Nat.le_refl _)
          cbv
          injection h with h
          refine hK25 _ h.symm _ ?_
          exact le_sparse rfl ⟨AV.le_refl _, AV.le_refl _, AV.le_refl _, AV.le_refl _, AV.le_refl _, AV.le_refl _, AV.le_refl _, AV.le_refl _, AV.le_refl _, trivial⟩ ⟨rfl, rfl, rfl, ⟨fun hw => hw, fun c hc => (by cases hc), .inl rfl, rfl, rfl, fun i hi j hj => rfl⟩, trivial⟩ rfl
        · replace h := of_br_f b40 h
          cbv
          injection h with h
          refine hY23 _ h.symm _ _ (And.intro rfl ?_) (by intro hh; cases hh)
          exact le_sparse rfl ⟨AV.le_refl _, AV.le_refl _, AV.le_refl _, AV.le_refl _, AV.le_refl _, AV.le_refl _, trivial⟩ ⟨rfl, rfl, rfl, ⟨fun hw => hw, fun c hc => (by cases hc), .inl rfl, rfl, rfl, fun i hi j hj => rfl⟩, trivial⟩ rfl
      · clear hr21
        have h := hN22
        clear hN22
        intro e29 s30 q28 hne
        replace h := of_let h
        obtain ⟨y20k0, hyk, h⟩ := h
        have hyk : y20k0 = y20 := hyk
        subst hyk
        obtain ⟨rfl, q28⟩ := q28
        replace h := of_let h
        obtain ⟨w41, hw41, h⟩ := h
        have hw41 : w41 = y20k0 := hw41
        subst hw41
        cbv
        refine ⟨_, q28, ?_⟩
        cbv
        injection h with h
        refine hK11 _ h.symm _ ?_
        exact le_sparse rfl ⟨AV.le_refl _, AV.le_refl _, AV.le_refl _, AV.le_refl _, AV.le_refl _, AV.le_refl _, trivial⟩ ⟨rfl, rfl, rfl, ⟨fun hw => hw, fun c hc => (by cases hc), .inl rfl, rfl, rfl, fun i hi j hj => rfl⟩, trivial⟩ rfl
    · replace h := of_br_f b42 h
      cbv
      injection h with h
      refine hY9 _ h.symm _ _ (And.intro rfl ?_) (by intro hh; cases hh)
      exact le_sparse rfl ⟨AV.le_refl _, AV.le_refl _, trivial⟩ ⟨rfl, ⟨fun hw => hw, fun c hc => (by cases hc), .inl rfl, rfl, rfl, fun i hi j hj => rfl⟩, trivial⟩ rfl
  · clear hr7
    have h := hN8
    clear hN8
    intro e15 s16 q14 hne
    replace h := of_let h
    obtain ⟨y6k0, hyk, h⟩ := h
    have hyk : y6k0 = y6 := hyk
    subst hyk
    obtain ⟨rfl, q14⟩ := q14
    replace h := of_let h
    obtain ⟨w43, hw43, h⟩ := h
    have hw43 : w43 = y6k0 := hw43
    subst hw43
    cbv
    refine ⟨_, q14, ?_⟩
    cbv
    replace h := of_bind h
    obtain ⟨y44, hy45, h⟩ := h
    refine ⟨{ args := [.c (.bs (LEN w43) 4 (row GD (encRect) w43))], o0 := [], r := .agg [.v (.int .i64 y44.fX0), .v (.int .i64 y44.fY0), .v (.int .i64 y44.fX1), .v (.int .i64 y44.fY1)], o1 := [], fl := true, σ := [], τ := [] }, hf_impl_boxOf _ _ hy45, ⟨les_cons (give_os (pl_encRect) rfl rfl rfl) (les_nil), trivial, rfl, rfl, rfl, rfl, trivial, rfl⟩, ?_⟩
    cbv
    injection h with h
    subst h
    refine ⟨(sparse 32 [(4, .c (.ptr 256 0))] [(256, .var [.v (.int .i64 y44.fX0), .v (.int .i64 y44.fY0), .v (.int .i64 y44.fX1), .v (.int .i64 y44.fY1)])]), ?_, ?_⟩
    · exact le_sparse rfl ⟨AV.le_refl _, trivial⟩ ⟨rfl, trivial⟩ rfl
    · exact ⟨AV.le_refl _, trivial, rfl⟩

/-- impl.common -/
noncomputable def F_impl_common (a0 : TRect) (a1 : TRect) : Option (TRect) :=
  some (TRect.mk (std.imax a0.fX0 a1.fX0) (std.imax a0.fY0 a1.fY0) (std.imin a0.fX1 a1.fX1) (std.imin a0.fY1 a1.fY1))
theorem run_impl_common (a0 : TRect) (a1 : TRect) (r : TRect) (h : F_impl_common a0 a1 = some r) : Fun Try.prog 107 [.agg [.v (.int .i64 a0.fX0), .v (.int .i64 a0.fY0), .v (.int .i64 a0.fX1), .v (.int .i64 a0.fY1)], .agg [.v (.int .i64 a1.fX0), .v (.int .i64 a1.fY0), .v (.int .i64 a1.fX1), .v (.int .i64 a1.fY1)]] [] (.agg [.v (.int .i64 r.fX0), .v (.int .i64 r.fY0), .v (.int .i64 r.fX1), .v (.int .i64 r.fY1)]) [] true := by
  refine Fun.of_wp (oneOf []) tok mixed Try.func107 (by kernel_rfl) rfl Try.ntmps107 rfl trivial (fun _ => ⟨(by simp [AV.flat, AV.flat1, AC.flat]), trivial⟩) ?_
  unfold F_impl_common at h
  generalize hLEN : @len = LEN at *
  generalize hGD : @gd = GD at *
  generalize hA : std = A at *
  generalize hP : Try.prog = P at *
  cbv
  injection h with h
  subst h
  refine ⟨(sparse 26 [(4, .c (.ptr 256 0))] [(256, .var [.v (.int .i64 (A.imax a0.fX0 a1.fX0)), .v (.int .i64 (A.imax a0.fY0 a1.fY0)), .v (.int .i64 (A.imin a0.fX1 a1.fX1)), .v (.int .i64 (A.imin a0.fY1 a1.fY1))])]), ?_, ?_⟩
  · exact le_sparse rfl ⟨AV.le_refl _, trivial⟩ ⟨rfl, trivial⟩ rfl
  · exact ⟨AV.le_refl _, trivial, rfl⟩

/-- impl.anywhere -/
noncomputable def F_impl_anywhere (a0 : TRect) (a1 : TRect) : Option (Bool) :=
  (F_impl_common a0 a1).bind fun y1 =>
  ((
        br (std.lt y1.fX0 y1.fX1)
        (some (std.lt y1.fY0 y1.fY1))
        (some false)
    ) : Option (Bool)).bind fun y3 =>
  letO y3 fun w9 =>
  some w9
theorem run_impl_anywhere (a0 : TRect) (a1 : TRect) (r : Bool) (h : F_impl_anywhere a0 a1 = some r) : Fun Try.prog 67 [.agg [.v (.int .i64 a0.fX0), .v (.int .i64 a0.fY0), .v (.int .i64 a0.fX1), .v (.int .i64 a0.fY1)], .agg [.v (.int .i64 a1.fX0), .v (.int .i64 a1.fY0), .v (.int .i64 a1.fX1), .v (.int .i64 a1.fY1)]] [] (.c (.v (.bool r))) [] true := by
  refine Fun.of_wp (oneOf [2]) tok mixed Try.func67 (by kernel_rfl) rfl Try.ntmps67 rfl trivial (fun _ => ⟨trivial, trivial⟩) ?_
  unfold F_impl_anywhere at h
  have hf_impl_common := @run_impl_common
  generalize hLEN : @len = LEN at *
  generalize hGD : @gd = GD at *
  generalize hA : std = A at *
  generalize hP : Try.prog = P at *
  cbv
  replace h := of_bind h
  obtain ⟨y1, hy2, h⟩ := h
  refine ⟨{ args := [.agg [.v (.int .i64 a0.fX0), .v (.int .i64 a0.fY0), .v (.int .i64 a0.fX1), .v (.int .i64 a0.fY1)], .agg [.v (.int .i64 a1.fX0), .v (.int .i64 a1.fY0), .v (.int .i64 a1.fX1), .v (.int .i64 a1.fY1)]], o0 := [], r := .agg [.v (.int .i64 y1.fX0), .v (.int .i64 y1.fY0), .v (.int .i64 y1.fX1), .v (.int .i64 y1.fY1)], o1 := [], fl := true, σ := [], τ := [] }, hf_impl_common _ _ _ hy2, ⟨les_cons (AV.le_refl _) (les_cons (AV.le_refl _) (les_nil)), trivial, rfl, rfl, rfl, rfl, trivial, rfl⟩, ?_⟩
  cbv
  replace h := of_bind h
  obtain ⟨y3, hy4, h⟩ := h
  obtain ⟨S7, hS8⟩ : ∃ S, S = (sparse 21 [(4, .c (.v (.bool y3)))] []) := ⟨_, rfl⟩
  refine ⟨S7, ?_, ?_⟩
  · clear h
    have h := hy4
    clear hy4
    cbv
    refine fork (fun b10 => ?_) (fun b10 => ?_)
    · replace h := of_br_t b10 h
      cbv
      injection h with h
      subst h
      subst hS8
      show St.le _ _
      exact le_sparse rfl ⟨AV.le_refl _, trivial⟩ trivial rfl
    · replace h := of_br_f b10 h
      cbv
      injection h with h
      subst h
      subst hS8
      show St.le _ _
      exact le_sparse rfl ⟨AV.le_refl _, trivial⟩ trivial rfl
  · clear hy4
    subst hS8
    replace h := of_let h
    obtain ⟨w9, hw9, h⟩ := h
    have hw9 : w9 = y3 := hw9
    subst hw9
    cbv
    injection h with h
    subst h
    refine ⟨(sparse 21 [(4, .c (.v (.bool w9)))] []), ?_, ?_⟩
    · exact le_sparse rfl ⟨AV.le_refl _, trivial⟩ trivial rfl
    · exact ⟨AV.le_refl _, trivial, rfl⟩

noncomputable def L_impl_InstancesTouching_x21 (a0 : TLibrary) (a1 : Int) (a2 : TRect) (y13 : (List (List TRect))) : (Int × (List (List TRect)) × (List Int)) → Option ((Int × (List (List TRect)) × (List Int)) ⊕ (((List Int)))) := fun x21 =>
  letO x21.1 fun v18 =>
  letO x21.2.1 fun v19 =>
  letO x21.2.2 fun v20 =>
  br (std.lt v18 (std.ofN (len (gd a0.fCells (std.toN a1)).fInstances)))
  (req (std.inR v18 (len (gd a0.fCells (std.toN a1)).fInstances)) <|
  ((
        req (std.inR (gd (gd a0.fCells (std.toN a1)).fInstances (std.toN v18)).fCell (len y13)) <|
        some ()
    ) : Option (Unit)).bind fun y34 =>
  req (std.inR (gd (gd a0.fCells (std.toN a1)).fInstances (std.toN v18)).fCell (len y13)) <|
  ((
        br (std.lt 0 (std.ofN (len (gd v19 (std.nadd 0 (std.toN (gd (gd a0.fCells (std.toN a1)).fInstances (std.toN v18)).fCell))))))
        (req (std.inR 0 (len (gd v19 (std.nadd 0 (std.toN (gd (gd a0.fCells (std.toN a1)).fInstances (std.toN v18)).fCell))))) <|
        (F_impl_instanceBox (gd (gd a0.fCells (std.toN a1)).fInstances (std.toN v18)) (gd (gd v19 (std.nadd 0 (std.toN (gd (gd a0.fCells (std.toN a1)).fInstances (std.toN v18)).fCell))) (std.nadd 0 (std.toN 0)))).bind fun y51 =>
        (F_impl_anywhere y51 a2).bind fun y53 =>
        some (y53, v19))
        (some (false, v19))
    ) : Option (Bool × (List (List TRect)))).bind fun y42 =>
  letO y42.1 fun w48 =>
  letO y42.2 fun w49 =>
  ((
        br w48
        (letO ([v18] : List Int) fun l63 =>
        req (std.room (std.nadd (len v20) (len l63)) 8) <|
        letO (v20 ++ l63) fun l65 =>
        some l65)
        (some v20)
    ) : Option ((List Int))).bind fun y56 =>
  letO y56 fun w62 =>
  some (.inl (std.add .i64 v18 1, w49, w62)))
  (some (.inr v20))
/-- impl.InstancesTouching -/
noncomputable def F_impl_InstancesTouching (a0 : TLibrary) (a1 : Int) (a2 : TRect) : Option (List Int) :=
  ((
        (F_impl_hasCell (TLibrary.mk a0.fCells) a1).bind fun y8 =>
        br (!(y8))
        (some true)
        ((F_impl_IsValidRect a2).bind fun y10 =>
        some (!(y10)))
    ) : Option (Bool)).bind fun y1 =>
  letO y1 fun w7 =>
  br w7
  (some ([] : List Int))
  ((F_impl_contentBoxes (TLibrary.mk a0.fCells)).bind fun y13 =>
  letO ([] : List Int) fun l15 =>
  req (std.inR a1 (len a0.fCells)) <|
  (whileP (σ := Int × (List (List TRect)) × (List Int)) (ρ := ((List Int))) (L_impl_InstancesTouching_x21 a0 a1 a2 y13) (0, y13, l15)).bind fun y22 =>
  letO y22 fun y22k0 =>
  letO y22k0 fun w70 =>
  some w70)
theorem run_impl_InstancesTouching (a0 : TLibrary) (a1 : Int) (a2 : TRect) (r : List Int) (h : F_impl_InstancesTouching a0 a1 a2 = some r) : Fun Try.prog 28 [.agg [.bs (len a0.fCells) 4 (row gd (encCell len gd) a0.fCells)], .c (.v (.int .i64 a1)), .agg [.v (.int .i64 a2.fX0), .v (.int .i64 a2.fY0), .v (.int .i64 a2.fX1), .v (.int .i64 a2.fY1)]] [] (.c (.os 64000 0 (len r))) [(64000, .arr .rw [] (len r) 1 (row gd (encI .i64) r))] true := by
  refine Fun.of_wp (oneOf [1, 7, 8, 100052]) tok mixed Try.func28 (by kernel_rfl) rfl Try.ntmps28 rfl trivial (fun _ => ⟨trivial, ⟨fun i _ j _ => val_flat (rfl), trivial⟩⟩) ?_
  unfold F_impl_InstancesTouching at h
  unfold L_impl_InstancesTouching_x21 at h
  have hf_impl_IsValidRect := @run_impl_IsValidRect
  have hf_impl_anywhere := @run_impl_anywhere
  have hf_impl_contentBoxes := @run_impl_contentBoxes
  have hf_impl_hasCell := @run_impl_hasCell
  have hf_impl_instanceBox := @run_impl_instanceBox
  generalize hLEN : @len = LEN at *
  generalize hGD : @gd = GD at *
  generalize hA : std = A at *
  generalize hP : Try.prog = P at *
  cbv
  replace h := of_bind h
  obtain ⟨y1, hy2, h⟩ := h
  obtain ⟨S5, hS6⟩ : ∃ S, S = (sparse 59 [(1, .c (.v (.int .i64 a1))), (3, .c (.ptr 192 0)), (5, .c (.ptr 320 0)), (20, .c (.v (.bool y1)))] [(192, .var [.bs (LEN a0.fCells) 4 (row GD (encCell LEN GD) a0.fCells)]), (320, .var [.v (.int .i64 a2.fX0), .v (.int .i64 a2.fY0), .v (.int .i64 a2.fX1), .v (.int .i64 a2.fY1)])]) := ⟨_, rfl⟩
  refine ⟨S5, ?_, ?_⟩
  · clear h
    have h := hy2
    clear hy2
    cbv
    replace h := of_bind h
    obtain ⟨y8, hy9, h⟩ := h
    refine ⟨{ args := [.agg [.bs (LEN a0.fCells) 4 (row GD (encCell LEN GD) a0.fCells)], .c (.v (.int .i64 a1))], o0 := [], r := .c (.v (.bool y8)), o1 := [], fl := true, σ := [], τ := [] }, hf_impl_hasCell _ _ _ hy9, ⟨les_cons (AV.le_refl _) (les_cons (AV.le_refl _) (les_nil)), trivial, rfl, rfl, rfl, rfl, trivial, rfl⟩, ?_⟩
    cbv
    refine fork (fun b12 => ?_) (fun b12 => ?_)
    · replace h := of_br_t b12 h
      cbv
      injection h with h
      subst h
      subst hS6
      show St.le _ _
      exact le_sparse rfl ⟨AV.le_refl _, AV.le_refl _, AV.le_refl _, AV.le_refl _, trivial⟩ ⟨rfl, rfl, trivial⟩ rfl
    · replace h := of_br_f b12 h
      cbv
      replace h := of_bind h
      obtain ⟨y10, hy11, h⟩ := h
      refine ⟨{ args := [.agg [.v (.int .i64 a2.fX0), .v (.int .i64 a2.fY0), .v (.int .i64 a2.fX1), .v (.int .i64 a2.fY1)]], o0 := [], r := .c (.v (.bool y10)), o1 := [], fl := true, σ := [], τ := [] }, hf_impl_IsValidRect _ _ hy11, ⟨les_cons (AV.le_refl _) (les_nil), trivial, rfl, rfl, rfl, rfl, trivial, rfl⟩, ?_⟩
      cbv
      injection h with h
      subst h
      subst hS6
      show St.le _ _
      exact le_sparse rfl ⟨AV.le_refl _, AV.le_refl _, AV.le_refl _, AV.le_refl _, trivial⟩ ⟨rfl, rfl, trivial⟩ rfl
  · clear hy2
    subst hS6
    replace h := of_let h
    obtain ⟨w7, hw7, h⟩ := h
    have hw7 : w7 = y1 := hw7
    subst hw7
    cbv
    refine fork (fun b71 => ?_) (fun b71 => ?_)
    · replace h := of_br_t b71 h
      cbv
      injection h with h
      subst h
      refine ⟨(sparse 59 [(6, .c (.os 64000 0 (LEN ([] : List Int))))] [(64000, .arr .rw [] (LEN ([] : List Int)) 1 (row GD (encI .i64) ([] : List Int)))]), ?_, ?_⟩
      · refine St.le_trans (le_nilT 6 64000 1 (row GD (encI .i64) ([] : List Int)) (by decide) rfl) ?_
        subst hLEN
        exact le_sparse rfl ⟨AV.le_refl _, trivial⟩ ⟨⟨fun hw => hw, fun c hc => (by cases hc), .inl rfl, rfl, rfl, fun i hi j hj => rfl⟩, trivial⟩ rfl
      · subst hLEN
        exact ⟨AV.le_refl _, ⟨⟨fun hw => hw, fun c hc => (by cases hc), .inl rfl, rfl, rfl, fun i hi j hj => rfl⟩, trivial⟩, rfl⟩
    · replace h := of_br_f b71 h
      cbv
      replace h := of_bind h
      obtain ⟨y13, hy14, h⟩ := h
      refine ⟨{ args := [.agg [.bs (LEN a0.fCells) 4 (row GD (encCell LEN GD) a0.fCells)]], o0 := [], r := .c (.os 64000 0 (LEN y13)), o1 := [(64000, .arr .rw [] (LEN y13) 1 (row GD (oncL LEN GD 4 (encRect)) y13))], fl := true, σ := [], τ := [(64000, 1408)] }, hf_impl_contentBoxes _ _ hy14, ⟨les_cons (AV.le_refl _) (les_nil), trivial, rfl, rfl, rfl, rfl, ⟨fun h => absurd (show (64000 : Nat) % 2 = 1 from h) (by decide), trivial⟩, rfl⟩, _, rfl, _, _, rfl, fun _ _ _ _ => rfl, ?_⟩
      cbv
      replace h := of_let h
      obtain ⟨l15, hl15, h⟩ := h
      have e16 : 0 = LEN l15 := by subst hl15 hLEN; rfl
      refine ⟨_, congrArg (fun n => AV.c (AC.os 1472 0 n)) e16, _, row GD (encI .i64) l15, e16, ?_, ?_⟩
      · intro i hi j hj
        rw [← e16] at hi
        subst hl15
        subst hGD
        omega
      cbv
      replace h := of_req h
      obtain ⟨c17, h⟩ := h
      refine ⟨⟨c17, trivial⟩, ?_⟩
      replace h := of_bind h
      obtain ⟨y22, hr23, hN24⟩ := h
      refine loop_cut hr23 (fun x => (sparse 59 [(5, .c (.ptr 320 0)), (7, .c (.os 1408 0 (LEN y13))), (8, .c (.os 1472 0 (LEN x.2.2))), (29, .c (.bs (LEN (GD a0.fCells (A.toN a1)).fInstances) 8 (row GD (encInstance) (GD a0.fCells (A.toN a1)).fInstances))), (30, .c (.v (.int .i64 (A.ofN (LEN (GD a0.fCells (A.toN a1)).fInstances))))), (31, .c (.v (.int .i64 x.1)))] [(320, .var [.v (.int .i64 a2.fX0), .v (.int .i64 a2.fY0), .v (.int .i64 a2.fX1), .v (.int .i64 a2.fY1)]), (1408, .arr .rw [] (LEN y13) 1 (row GD (oncL LEN GD 4 (encRect)) x.2.1)), (1472, .arr .rw [] (LEN x.2.2) 1 (row GD (encI .i64) x.2.2))])) ?_ (fun y e s => (fun (w : (List Int)) => e = .exit 0 ∧ s.le (sparse 59 [(8, .c (.os 1472 0 (LEN w)))] [(1472, .arr .rw [] (LEN w) 1 (row GD (encI .i64) w))])) y) ?_ ?_
      · clear hr23 hN24
        show St.le _ _
        exact le_sparse rfl ⟨AV.le_refl _, AV.le_refl _, AV.le_refl _, AV.le_refl _, AV.le_refl _, AV.le_refl _, trivial⟩ ⟨rfl, ⟨fun hw => hw, fun c hc => (by cases hc), .inl rfl, rfl, rfl, fun i hi j hj => rfl⟩, ⟨fun hw => hw, fun c hc => (by cases hc), .inl rfl, rfl, rfl, fun i hi j hj => rfl⟩, trivial⟩ rfl
      · clear hr23 hN24
        intro x z28 h K26 hK27 hY25
        obtain ⟨x0_, x1_, x2_⟩ := x
        replace h := of_let h
        obtain ⟨v18, hv18, h⟩ := h
        have hv18 : v18 = x0_ := hv18
        subst hv18
        replace h := of_let h
        obtain ⟨v19, hv19, h⟩ := h
        have hv19 : v19 = x1_ := hv19
        subst hv19
        replace h := of_let h
        obtain ⟨v20, hv20, h⟩ := h
        have hv20 : v20 = x2_ := hv20
        subst hv20
        cbv
        refine fork (fun b69 => ?_) (fun b69 => ?_)
        · replace h := of_br_t b69 h
          cbv
          replace h := of_req h
          obtain ⟨c33, h⟩ := h
          refine ⟨⟨c33, trivial⟩, ?_⟩
          replace h := of_bind h
          obtain ⟨y34, hy35, h⟩ := h
          obtain ⟨S38, hS39⟩ : ∃ S, S = (sparse 59 [(5, .c (.ptr 320 0)), (7, .c (.os 1408 0 (LEN y13))), (8, .c (.os 1472 0 (LEN v20))), (9, .c (.v (.int .i64 v18))), (10, .c (.ptr 640 0)), (11, .c (.os 2562 0 (LEN (GD v19 (A.nadd 0 (A.toN (GD (GD a0.fCells (A.toN a1)).fInstances (A.toN v18)).fCell)))))), (29, .c (.bs (LEN (GD a0.fCells (A.toN a1)).fInstances) 8 (row GD (encInstance) (GD a0.fCells (A.toN a1)).fInstances))), (30, .c (.v (.int .i64 (A.ofN (LEN (GD a0.fCells (A.toN a1)).fInstances))))), (31, .c (.v (.int .i64 v18)))] [(320, .var [.v (.int .i64 a2.fX0), .v (.int .i64 a2.fY0), .v (.int .i64 a2.fX1), .v (.int .i64 a2.fY1)]), (1408, .arr .rw [2562] (LEN y13) 1 (patchC (row GD (oncL LEN GD 4 (encRect)) v19) (A.nadd 0 (A.toN (GD (GD a0.fCells (A.toN a1)).fInstances (A.toN v18)).fCell)) [.os 2562 0 (LEN (GD v19 (A.nadd 0 (A.toN (GD (GD a0.fCells (A.toN a1)).fInstances (A.toN v18)).fCell))))])), (1472, .arr .rw [] (LEN v20) 1 (row GD (encI .i64) v20)), (640, .var [.v (.int .i64 (GD (GD a0.fCells (A.toN a1)).fInstances (A.toN v18)).fCell), .v (.int .i64 (GD (GD a0.fCells (A.toN a1)).fInstances (A.toN v18)).fPlace.fOrientation), .v (.int .i64 (GD (GD a0.fCells (A.toN a1)).fInstances (A.toN v18)).fPlace.fX), .v (.int .i64 (GD (GD a0.fCells (A.toN a1)).fInstances (A.toN v18)).fPlace.fY), .v (.int .i64 (GD (GD a0.fCells (A.toN a1)).fInstances (A.toN v18)).fColumns), .v (.int .i64 (GD (GD a0.fCells (A.toN a1)).fInstances (A.toN v18)).fRows), .v (.int .i64 (GD (GD a0.fCells (A.toN a1)).fInstances (A.toN v18)).fStepX), .v (.int .i64 (GD (GD a0.fCells (A.toN a1)).fInstances (A.toN v18)).fStepY)]), (2562, .arr .rw [] (LEN (GD v19 (A.nadd 0 (A.toN (GD (GD a0.fCells (A.toN a1)).fInstances (A.toN v18)).fCell)))) 4 (row GD (encRect) (GD v19 (A.nadd 0 (A.toN (GD (GD a0.fCells (A.toN a1)).fInstances (A.toN v18)).fCell)))))]) := ⟨_, rfl⟩
          refine ⟨S38, ?_, ?_⟩
          · clear h
            have h := hy35
            clear hy35
            cbv
            replace h := of_req h
            obtain ⟨c40, h⟩ := h
            refine ⟨⟨c40, trivial⟩, ?_⟩
            refine And.intro (by first | exact (by subst hA; exact idx_lt c40) | (refine And.intro (by subst hA; exact idx_lt c40) ?_; first | trivial | exact ⟨trivial, trivial⟩)) ?_
            refine ⟨_, rfl, _, (patchC (row GD (oncL LEN GD 4 (encRect)) v19) (A.nadd 0 (A.toN (GD (GD a0.fCells (A.toN a1)).fInstances (A.toN v18)).fCell)) [.os 2562 0 (LEN (GD v19 (A.nadd 0 (A.toN (GD (GD a0.fCells (A.toN a1)).fInstances (A.toN v18)).fCell))))]), rfl, ?_, ?_⟩
            · refine patch_of ?_
              intro j hj
              match j, hj with | 0, _ => (rfl) | (j_ + 1), h_ => exact absurd h_ (by omega)
            refine ⟨_, row GD (encRect) (GD v19 (A.nadd 0 (A.toN (GD (GD a0.fCells (A.toN a1)).fInstances (A.toN v18)).fCell))), rfl, ?_, ?_⟩
            · exact fun i _ j _ => plain_cp (pl_encRect _ _)
            cbv
            injection h with h
            subst h
            subst hS39
            show St.le _ _
            exact le_sparse rfl ⟨AV.le_refl _, AV.le_refl _, AV.le_refl _, AV.le_refl _, AV.le_refl _, AV.le_refl _, AV.le_refl _, AV.le_refl _, AV.le_refl _, trivial⟩ ⟨rfl, ⟨fun hw => hw, fun c hc => (by cases hc), .inl rfl, rfl, rfl, fun i hi j hj => rfl⟩, ⟨fun hw => hw, fun c hc => (by cases hc), .inl rfl, rfl, rfl, fun i hi j hj => rfl⟩, rfl, ⟨fun hw => hw, fun c hc => (by cases hc), .inl rfl, rfl, rfl, fun i hi j hj => rfl⟩, trivial⟩ rfl
          · clear hy35
            subst hS39
            replace h := of_req h
            obtain ⟨c41, h⟩ := h
            cbv
            replace h := of_bind h
            obtain ⟨y42, hy43, h⟩ := h
            obtain ⟨S46, hS47⟩ : ∃ S, S = (sparse 59 [(5, .c (.ptr 320 0)), (7, .c (.os 1408 0 (LEN y13))), (8, .c (.os 1472 0 (LEN v20))), (9, .c (.v (.int .i64 v18))), (29, .c (.bs (LEN (GD a0.fCells (A.toN a1)).fInstances) 8 (row GD (encInstance) (GD a0.fCells (A.toN a1)).fInstances))), (30, .c (.v (.int .i64 (A.ofN (LEN (GD a0.fCells (A.toN a1)).fInstances))))), (31, .c (.v (.int .i64 v18))), (52, .c (.v (.bool y42.1)))] [(320, .var [.v (.int .i64 a2.fX0), .v (.int .i64 a2.fY0), .v (.int .i64 a2.fX1), .v (.int .i64 a2.fY1)]), (1408, .arr .rw [] (LEN y13) 1 (row GD (oncL LEN GD 4 (encRect)) y42.2)), (1472, .arr .rw [] (LEN v20) 1 (row GD (encI .i64) v20))]) := ⟨_, rfl⟩
            refine ⟨S46, ?_, ?_⟩
            · clear h
              have h := hy43
              clear hy43
              cbv
              refine fork (fun b55 => ?_) (fun b55 => ?_)
              · replace h := of_br_t b55 h
                cbv
                replace h := of_req h
                obtain ⟨c50, h⟩ := h
                refine ⟨⟨c50, trivial⟩, ?_⟩
                refine And.intro (by first | exact (by subst hA; exact idx_lt c50) | (refine And.intro (by subst hA; exact idx_lt c50) ?_; first | trivial | exact ⟨trivial, trivial⟩)) ?_
                replace h := of_bind h
                obtain ⟨y51, hy52, h⟩ := h
                refine ⟨{ args := [.agg [.v (.int .i64 (GD (GD a0.fCells (A.toN a1)).fInstances (A.toN v18)).fCell), .v (.int .i64 (GD (GD a0.fCells (A.toN a1)).fInstances (A.toN v18)).fPlace.fOrientation), .v (.int .i64 (GD (GD a0.fCells (A.toN a1)).fInstances (A.toN v18)).fPlace.fX), .v (.int .i64 (GD (GD a0.fCells (A.toN a1)).fInstances (A.toN v18)).fPlace.fY), .v (.int .i64 (GD (GD a0.fCells (A.toN a1)).fInstances (A.toN v18)).fColumns), .v (.int .i64 (GD (GD a0.fCells (A.toN a1)).fInstances (A.toN v18)).fRows), .v (.int .i64 (GD (GD a0.fCells (A.toN a1)).fInstances (A.toN v18)).fStepX), .v (.int .i64 (GD (GD a0.fCells (A.toN a1)).fInstances (A.toN v18)).fStepY)], .agg [.v (.int .i64 (GD (GD v19 (A.nadd 0 (A.toN (GD (GD a0.fCells (A.toN a1)).fInstances (A.toN v18)).fCell))) (A.nadd 0 (A.toN 0))).fX0), .v (.int .i64 (GD (GD v19 (A.nadd 0 (A.toN (GD (GD a0.fCells (A.toN a1)).fInstances (A.toN v18)).fCell))) (A.nadd 0 (A.toN 0))).fY0), .v (.int .i64 (GD (GD v19 (A.nadd 0 (A.toN (GD (GD a0.fCells (A.toN a1)).fInstances (A.toN v18)).fCell))) (A.nadd 0 (A.toN 0))).fX1), .v (.int .i64 (GD (GD v19 (A.nadd 0 (A.toN (GD (GD a0.fCells (A.toN a1)).fInstances (A.toN v18)).fCell))) (A.nadd 0 (A.toN 0))).fY1)]], o0 := [], r := .agg [.v (.int .i64 y51.fX0), .v (.int .i64 y51.fY0), .v (.int .i64 y51.fX1), .v (.int .i64 y51.fY1)], o1 := [], fl := true, σ := [], τ := [] }, hf_impl_instanceBox _ _ _ hy52, ⟨les_cons (AV.le_refl _) (les_cons (AV.le_refl _) (les_nil)), trivial, rfl, rfl, rfl, rfl, trivial, rfl⟩, ?_⟩
                cbv
                replace h := of_bind h
                obtain ⟨y53, hy54, h⟩ := h
                refine ⟨{ args := [.agg [.v (.int .i64 y51.fX0), .v (.int .i64 y51.fY0), .v (.int .i64 y51.fX1), .v (.int .i64 y51.fY1)], .agg [.v (.int .i64 a2.fX0), .v (.int .i64 a2.fY0), .v (.int .i64 a2.fX1), .v (.int .i64 a2.fY1)]], o0 := [], r := .c (.v (.bool y53)), o1 := [], fl := true, σ := [], τ := [] }, hf_impl_anywhere _ _ _ hy54, ⟨les_cons (AV.le_refl _) (les_cons (AV.le_refl _) (les_nil)), trivial, rfl, rfl, rfl, rfl, trivial, rfl⟩, ?_⟩
                cbv
                injection h with h
                subst h
                subst hS47
                show St.le _ _
                refine St.le_trans (le_foldP 1408 0 2562 rfl rfl rfl (by decide) (by subst hA; exact idx_lt c41) (by decide) rfl (fun _ _ => rfl)) ?_
                exact le_sparse rfl ⟨AV.le_refl _, AV.le_refl _, AV.le_refl _, AV.le_refl _, AV.le_refl _, AV.le_refl _, AV.le_refl _, AV.le_refl _, trivial⟩ ⟨rfl, ⟨fun hw => hw, fun c hc => (by cases hc), .inr (fun i _ j _ z hz => (noref (rfl) hz).elim), rfl, rfl, (by subst hGD hLEN hA; exact patch_same (by intro j hj; match j, hj with | 0, _ => rfl | (j_ + 1), h_ => exact absurd h_ (by omega)))⟩, ⟨fun hw => hw, fun c hc => (by cases hc), .inl rfl, rfl, rfl, fun i hi j hj => rfl⟩, trivial⟩ rfl
              · replace h := of_br_f b55 h
                cbv
                injection h with h
                subst h
                subst hS47
                show St.le _ _
                refine St.le_trans (le_foldP 1408 0 2562 rfl rfl rfl (by decide) (by subst hA; exact idx_lt c41) (by decide) rfl (fun _ _ => rfl)) ?_
                exact le_sparse rfl ⟨AV.le_refl _, AV.le_refl _, AV.le_refl _, AV.le_refl _, AV.le_refl _, AV.le_refl _, AV.le_refl _, AV.le_refl _, trivial⟩ ⟨rfl, ⟨fun hw => hw, fun c hc => (by cases hc), .inr (fun i _ j _ z hz => (noref (rfl) hz).elim), rfl, rfl, (by subst hGD hLEN hA; exact patch_same (by intro j hj; match j, hj with | 0, _ => rfl | (j_ + 1), h_ => exact absurd h_ (by omega)))⟩, ⟨fun hw => hw, fun c hc => (by cases hc), .inl rfl, rfl, rfl, fun i hi j hj => rfl⟩, trivial⟩ rfl
            · clear hy43
              subst hS47
              obtain ⟨y42_0, y42_1⟩ := y42
              replace h := of_let h
              obtain ⟨w48, hw48, h⟩ := h
              have hw48 : w48 = y42_0 := hw48
              subst hw48
              replace h := of_let h
              obtain ⟨w49, hw49, h⟩ := h
              have hw49 : w49 = y42_1 := hw49
              subst hw49
              cbv
              replace h := of_bind h
              obtain ⟨y56, hy57, h⟩ := h
              obtain ⟨S60, hS61⟩ : ∃ S, S = some (sparse 59 [(5, .c (.ptr 320 0)), (7, .c (.os 1408 0 (LEN y13))), (8, .c (.os 1472 0 (LEN y56))), (29, .c (.bs (LEN (GD a0.fCells (A.toN a1)).fInstances) 8 (row GD (encInstance) (GD a0.fCells (A.toN a1)).fInstances))), (30, .c (.v (.int .i64 (A.ofN (LEN (GD a0.fCells (A.toN a1)).fInstances))))), (31, .c (.v (.int .i64 v18)))] [(320, .var [.v (.int .i64 a2.fX0), .v (.int .i64 a2.fY0), .v (.int .i64 a2.fX1), .v (.int .i64 a2.fY1)]), (1408, .arr .rw [] (LEN y13) 1 (row GD (oncL LEN GD 4 (encRect)) w49)), (1472, .arr .rw [] (LEN y56) 1 (row GD (encI .i64) y56))]) := ⟨_, rfl⟩
              refine ⟨S60, ?_, ?_⟩
              · clear h
                have h := hy57
                clear hy57
                cbv
                refine fork (fun b68 => ?_) (fun b68 => ?_)
                · replace h := of_br_t b68 h
                  cbv
                  replace h := of_let h
                  obtain ⟨l63, hl63, h⟩ := h
                  have e64 : 1 = LEN l63 := by subst hl63 hLEN; rfl
                  refine ⟨_, congrArg (fun n => AV.c (AC.os 3520 0 n)) e64, _, row GD (encI .i64) l63, e64, ?_, ?_⟩
                  · intro i hi j hj
                    rw [← e64] at hi
                    subst hl63
                    subst hGD
                    obtain rfl : i = 0 := (by omega)
                    all_goals obtain rfl : j = 0 := by omega
                    all_goals rfl
                  cbv
                  replace h := of_req h
                  obtain ⟨c67, h⟩ := h
                  replace h := of_let h
                  obtain ⟨l65, hl65, h⟩ := h
                  have e66 : A.nadd (LEN v20) (LEN l63) = LEN l65 := by subst hl65 hLEN hA; simp [std, len]
                  refine ⟨c67, _, congrArg (fun n => AV.c (AC.os 1472 0 n)) e66, _, row GD (encI .i64) l65, e66, ?_, ?_⟩
                  · subst hGD hLEN hA
                    exact app_os (off := 0) (fun _ _ => rfl) hl65 (Nat.le_refl _)
                  cbv
                  injection h with h
                  subst h
                  subst hS61
                  show St.le _ _
                  exact le_sparse rfl ⟨AV.le_refl _, AV.le_refl _, AV.le_refl _, AV.le_refl _, AV.le_refl _, AV.le_refl _, trivial⟩ ⟨rfl, ⟨fun hw => hw, fun c hc => (by cases hc), .inl rfl, rfl, rfl, fun i hi j hj => rfl⟩, ⟨fun hw => hw, fun c hc => (by cases hc), .inl rfl, rfl, rfl, fun i hi j hj => rfl⟩, trivial⟩ rfl
                · replace h := of_br_f b68 h
                  cbv
                  injection h with h
                  subst h
                  subst hS61
                  show St.le _ _
                  exact le_sparse rfl ⟨AV.le_refl _, AV.le_refl _, AV.le_refl _, AV.le_refl _, AV.le_refl _, AV.le_refl _, trivial⟩ ⟨rfl, ⟨fun hw => hw, fun c hc => (by cases hc), .inl rfl, rfl, rfl, fun i hi j hj => rfl⟩, ⟨fun hw => hw, fun c hc => (by cases hc), .inl rfl, rfl, rfl, fun i hi j hj => rfl⟩, trivial⟩ rfl
              · clear hy57
                subst hS61
                replace h := of_let h
                obtain ⟨w62, hw62, h⟩ := h
                have hw62 : w62 = y56 := hw62
                subst hw62
                cbv
                injection h with h
                refine hK27 _ h.symm _ ?_
                exact le_sparse rfl ⟨AV.le_refl _, AV.le_refl _, AV.le_refl _, AV.le_refl _, AV.le_refl _, AV.le_refl _, trivial⟩ ⟨rfl, ⟨fun hw => hw, fun c hc => (by cases hc), .inl rfl, rfl, rfl, fun i hi j hj => rfl⟩, ⟨fun hw => hw, fun c hc => (by cases hc), .inl rfl, rfl, rfl, fun i hi j hj => rfl⟩, trivial⟩ rfl
        · replace h := of_br_f b69 h
          cbv
          injection h with h
          refine hY25 _ h.symm _ _ (And.intro rfl ?_) (by intro hh; cases hh)
          exact le_sparse rfl ⟨AV.le_refl _, trivial⟩ ⟨⟨fun hw => hw, fun c hc => (by cases hc), .inl rfl, rfl, rfl, fun i hi j hj => rfl⟩, trivial⟩ rfl
      · clear hr23
        have h := hN24
        clear hN24
        intro e31 s32 q30 hne
        replace h := of_let h
        obtain ⟨y22k0, hyk, h⟩ := h
        have hyk : y22k0 = y22 := hyk
        subst hyk
        obtain ⟨rfl, q30⟩ := q30
        replace h := of_let h
        obtain ⟨w70, hw70, h⟩ := h
        have hw70 : w70 = y22k0 := hw70
        subst hw70
        cbv
        refine ⟨_, q30, ?_⟩
        cbv
        injection h with h
        subst h
        refine ⟨(sparse 59 [(6, .c (.os 64000 0 (LEN w70)))] [(64000, .arr .rw [] (LEN w70) 1 (row GD (encI .i64) w70))]), ?_, ?_⟩
        · refine St.le_trans (le_ren 1472 64000 (by decide) rfl) ?_
          exact le_sparse rfl ⟨AV.le_refl _, trivial⟩ ⟨⟨fun hw => hw, fun c hc => (by cases hc), .inl rfl, rfl, rfl, fun i hi j hj => rfl⟩, trivial⟩ rfl
        · exact ⟨AV.le_refl _, ⟨⟨fun hw => hw, fun c hc => (by cases hc), .inl rfl, rfl, rfl, fun i hi j hj => rfl⟩, trivial⟩, rfl⟩

noncomputable def L_laws_eqInt64S_x2 (a0 : List Int) (a1 : List Int) : (Int) → Option ((Int) ⊕ ((Unit) ⊕ (Unit))) := fun x2 =>
  letO x2 fun v1 =>
  br (std.lt v1 (std.ofN (len a0)))
  (req (std.inR v1 (len a0)) <|
  req (std.inR v1 (len a1)) <|
  br (std.not (std.eq (gd a0 (std.toN v1)) (gd a1 (std.toN v1))))
  (some (.inr (.inl ())))
  (some (.inl (std.add .i64 v1 1))))
  (some (.inr (.inr ())))
/-- laws.eqInt64S -/
noncomputable def F_laws_eqInt64S (a0 : List Int) (a1 : List Int) : Option (Bool) :=
  br (std.not (std.eq (std.ofN (len a0)) (std.ofN (len a1))))
  (some false)
  ((whileP (σ := Int) (ρ := (Unit) ⊕ (Unit)) (L_laws_eqInt64S_x2 a0 a1) 0).bind fun y3 =>
  (match y3 with
    | .inl y3k0 => (
        some false)
    | .inr y3m0 =>
        some true))
theorem run_laws_eqInt64S (a0 : List Int) (a1 : List Int) (r : Bool) (h : F_laws_eqInt64S a0 a1 = some r) : Fun Try.prog 29 [.c (.bs (len a0) 1 (row gd (encI .i64) a0)), .c (.bs (len a1) 1 (row gd (encI .i64) a1))] [] (.c (.v (.bool r))) [] true := by
  refine Fun.of_wp (oneOf []) tok mixed Try.func29 (by kernel_rfl) rfl Try.ntmps29 rfl trivial (fun _ => ⟨trivial, trivial⟩) ?_
  unfold F_laws_eqInt64S at h
  unfold L_laws_eqInt64S_x2 at h
  generalize hLEN : @len = LEN at *
  generalize hGD : @gd = GD at *
  generalize hA : std = A at *
  generalize hP : Try.prog = P at *
  cbv
  refine fork (fun b18 => ?_) (fun b18 => ?_)
  · replace h := of_br_t b18 h
    cbv
    injection h with h
    subst h
    refine ⟨(sparse 26 [(4, .c (.v (.bool false)))] []), ?_, ?_⟩
    · exact le_sparse rfl ⟨AV.le_refl _, trivial⟩ trivial rfl
    · exact ⟨AV.le_refl _, trivial, rfl⟩
  · replace h := of_br_f b18 h
    cbv
    replace h := of_bind h
    obtain ⟨y3, hr4, hN5⟩ := h
    refine loop_cut hr4 (fun x => (sparse 26 [(0, .c (.bs (LEN a0) 1 (row GD (encI .i64) a0))), (1, .c (.bs (LEN a1) 1 (row GD (encI .i64) a1))), (5, .c (.v (.int .i64 x)))] [])) ?_ (fun y e s => (match y with | .inl w => e = .ret ∧ s.le (sparse 26 [(4, .c (.v (.bool false)))] []) | .inr w0 => (fun (w : Unit) => e = .exit 0 ∧ s.le (sparse 26 [] [])) w0)) ?_ ?_
    · clear hr4 hN5
      show St.le _ _
      exact le_sparse rfl ⟨AV.le_refl _, AV.le_refl _, AV.le_refl _, trivial⟩ trivial rfl
    · clear hr4 hN5
      intro x z9 h K7 hK8 hY6
      replace h := of_let h
      obtain ⟨v1, hv1, h⟩ := h
      have hv1 : v1 = x := hv1
      subst hv1
      cbv
      refine fork (fun b17 => ?_) (fun b17 => ?_)
      · replace h := of_br_t b17 h
        cbv
        replace h := of_req h
        obtain ⟨c14, h⟩ := h
        refine ⟨⟨c14, trivial⟩, ?_⟩
        replace h := of_req h
        obtain ⟨c15, h⟩ := h
        refine ⟨⟨c15, trivial⟩, ?_⟩
        refine fork (fun b16 => ?_) (fun b16 => ?_)
        · replace h := of_br_t b16 h
          cbv
          injection h with h
          refine hY6 _ h.symm _ _ (And.intro rfl ?_) (by intro hh; cases hh)
          exact le_sparse rfl ⟨AV.le_refl _, trivial⟩ trivial rfl
        · replace h := of_br_f b16 h
          cbv
          injection h with h
          refine hK8 _ h.symm _ ?_
          exact le_sparse rfl ⟨AV.le_refl _, AV.le_refl _, AV.le_refl _, trivial⟩ trivial rfl
      · replace h := of_br_f b17 h
        cbv
        injection h with h
        refine hY6 _ h.symm _ _ (And.intro rfl ?_) (by intro hh; cases hh)
        exact le_sparse rfl trivial trivial rfl
    · clear hr4
      have h := hN5
      clear hN5
      intro e12 s13 q11 hne
      rcases y3 with y3k0 | y3m0
      · replace h := h
        obtain ⟨rfl, q11⟩ := q11
        cbv
        injection h with h
        subst h
        refine ⟨(sparse 26 [(4, .c (.v (.bool false)))] []), ?_, ?_⟩
        · refine St.le_trans q11 ?_
          exact le_sparse rfl ⟨AV.le_refl _, trivial⟩ trivial rfl
        · exact ⟨AV.le_refl _, trivial, rfl⟩
      · obtain ⟨rfl, q11⟩ := q11
        cbv
        refine ⟨_, q11, ?_⟩
        cbv
        injection h with h
        subst h
        refine ⟨(sparse 26 [(4, .c (.v (.bool true)))] []), ?_, ?_⟩
        · exact le_sparse rfl ⟨AV.le_refl _, trivial⟩ trivial rfl
        · exact ⟨AV.le_refl _, trivial, rfl⟩

/-- laws.eqRect -/
noncomputable def F_laws_eqRect (a0 : TRect) (a1 : TRect) : Option (Bool) :=
  br (std.not (std.eq a0.fX0 a1.fX0))
  (some false)
  (br (std.not (std.eq a0.fY0 a1.fY0))
  (some false)
  (br (std.not (std.eq a0.fX1 a1.fX1))
  (some false)
  (br (std.not (std.eq a0.fY1 a1.fY1))
  (some false)
  (some true))))
theorem run_laws_eqRect (a0 : TRect) (a1 : TRect) (r : Bool) (h : F_laws_eqRect a0 a1 = some r) : Fun Try.prog 21 [.agg [.v (.int .i64 a0.fX0), .v (.int .i64 a0.fY0), .v (.int .i64 a0.fX1), .v (.int .i64 a0.fY1)], .agg [.v (.int .i64 a1.fX0), .v (.int .i64 a1.fY0), .v (.int .i64 a1.fX1), .v (.int .i64 a1.fY1)]] [] (.c (.v (.bool r))) [] true := by
  refine Fun.of_wp (oneOf []) tok mixed Try.func21 (by kernel_rfl) rfl Try.ntmps21 rfl trivial (fun _ => ⟨trivial, trivial⟩) ?_
  unfold F_laws_eqRect at h
  generalize hLEN : @len = LEN at *
  generalize hGD : @gd = GD at *
  generalize hA : std = A at *
  generalize hP : Try.prog = P at *
  cbv
  refine fork (fun b4 => ?_) (fun b4 => ?_)
  · replace h := of_br_t b4 h
    cbv
    injection h with h
    subst h
    refine ⟨(sparse 25 [(4, .c (.v (.bool false)))] []), ?_, ?_⟩
    · exact le_sparse rfl ⟨AV.le_refl _, trivial⟩ trivial rfl
    · exact ⟨AV.le_refl _, trivial, rfl⟩
  · replace h := of_br_f b4 h
    cbv
    refine fork (fun b3 => ?_) (fun b3 => ?_)
    · replace h := of_br_t b3 h
      cbv
      injection h with h
      subst h
      refine ⟨(sparse 25 [(4, .c (.v (.bool false)))] []), ?_, ?_⟩
      · exact le_sparse rfl ⟨AV.le_refl _, trivial⟩ trivial rfl
      · exact ⟨AV.le_refl _, trivial, rfl⟩
    · replace h := of_br_f b3 h
      cbv
      refine fork (fun b2 => ?_) (fun b2 => ?_)
      · replace h := of_br_t b2 h
        cbv
        injection h with h
        subst h
        refine ⟨(sparse 25 [(4, .c (.v (.bool false)))] []), ?_, ?_⟩
        · exact le_sparse rfl ⟨AV.le_refl _, trivial⟩ trivial rfl
        · exact ⟨AV.le_refl _, trivial, rfl⟩
      · replace h := of_br_f b2 h
        cbv
        refine fork (fun b1 => ?_) (fun b1 => ?_)
        · replace h := of_br_t b1 h
          cbv
          injection h with h
          subst h
          refine ⟨(sparse 25 [(4, .c (.v (.bool false)))] []), ?_, ?_⟩
          · exact le_sparse rfl ⟨AV.le_refl _, trivial⟩ trivial rfl
          · exact ⟨AV.le_refl _, trivial, rfl⟩
        · replace h := of_br_f b1 h
          cbv
          injection h with h
          subst h
          refine ⟨(sparse 25 [(4, .c (.v (.bool true)))] []), ?_, ?_⟩
          · exact le_sparse rfl ⟨AV.le_refl _, trivial⟩ trivial rfl
          · exact ⟨AV.le_refl _, trivial, rfl⟩
/-- laws.eqShape -/
noncomputable def F_laws_eqShape (a0 : TShape) (a1 : TShape) : Option (Bool) :=
  br (std.not (std.eq a0.fLayer a1.fLayer))
  (some false)
  ((F_laws_eqRect a0.fBox a1.fBox).bind fun y1 =>
  br (!(y1))
  (some false)
  (some true))
theorem run_laws_eqShape (a0 : TShape) (a1 : TShape) (r : Bool) (h : F_laws_eqShape a0 a1 = some r) : Fun Try.prog 77 [.agg [.v (.int .i64 a0.fLayer), .v (.int .i64 a0.fBox.fX0), .v (.int .i64 a0.fBox.fY0), .v (.int .i64 a0.fBox.fX1), .v (.int .i64 a0.fBox.fY1)], .agg [.v (.int .i64 a1.fLayer), .v (.int .i64 a1.fBox.fX0), .v (.int .i64 a1.fBox.fY0), .v (.int .i64 a1.fBox.fX1), .v (.int .i64 a1.fBox.fY1)]] [] (.c (.v (.bool r))) [] true := by
  refine Fun.of_wp (oneOf []) tok mixed Try.func77 (by kernel_rfl) rfl Try.ntmps77 rfl trivial (fun _ => ⟨trivial, trivial⟩) ?_
  unfold F_laws_eqShape at h
  have hf_laws_eqRect := @run_laws_eqRect
  generalize hLEN : @len = LEN at *
  generalize hGD : @gd = GD at *
  generalize hA : std = A at *
  generalize hP : Try.prog = P at *
  cbv
  refine fork (fun b4 => ?_) (fun b4 => ?_)
  · replace h := of_br_t b4 h
    cbv
    injection h with h
    subst h
    refine ⟨(sparse 16 [(4, .c (.v (.bool false)))] []), ?_, ?_⟩
    · exact le_sparse rfl ⟨AV.le_refl _, trivial⟩ trivial rfl
    · exact ⟨AV.le_refl _, trivial, rfl⟩
  · replace h := of_br_f b4 h
    cbv
    replace h := of_bind h
    obtain ⟨y1, hy2, h⟩ := h
    refine ⟨{ args := [.agg [.v (.int .i64 a0.fBox.fX0), .v (.int .i64 a0.fBox.fY0), .v (.int .i64 a0.fBox.fX1), .v (.int .i64 a0.fBox.fY1)], .agg [.v (.int .i64 a1.fBox.fX0), .v (.int .i64 a1.fBox.fY0), .v (.int .i64 a1.fBox.fX1), .v (.int .i64 a1.fBox.fY1)]], o0 := [], r := .c (.v (.bool y1)), o1 := [], fl := true, σ := [], τ := [] }, hf_laws_eqRect _ _ _ hy2, ⟨les_cons (AV.le_refl _) (les_cons (AV.le_refl _) (les_nil)), trivial, rfl, rfl, rfl, rfl, trivial, rfl⟩, ?_⟩
    cbv
    refine fork (fun b3 => ?_) (fun b3 => ?_)
    · replace h := of_br_t b3 h
      cbv
      injection h with h
      subst h
      refine ⟨(sparse 16 [(4, .c (.v (.bool false)))] []), ?_, ?_⟩
      · exact le_sparse rfl ⟨AV.le_refl _, trivial⟩ trivial rfl
      · exact ⟨AV.le_refl _, trivial, rfl⟩
    · replace h := of_br_f b3 h
      cbv
      injection h with h
      subst h
      refine ⟨(sparse 16 [(4, .c (.v (.bool true)))] []), ?_, ?_⟩
      · exact le_sparse rfl ⟨AV.le_refl _, trivial⟩ trivial rfl
      · exact ⟨AV.le_refl _, trivial, rfl⟩

noncomputable def L_laws_eqShapeS_x2 (a0 : List TShape) (a1 : List TShape) : (Int) → Option ((Int) ⊕ ((Unit) ⊕ (Unit))) := fun x2 =>
  letO x2 fun v1 =>
  br (std.lt v1 (std.ofN (len a0)))
  (req (std.inR v1 (len a0)) <|
  req (std.inR v1 (len a1)) <|
  (F_laws_eqShape (gd a0 (std.toN v1)) (gd a1 (std.toN v1))).bind fun y16 =>
  br (!(y16))
  (some (.inr (.inl ())))
  (some (.inl (std.add .i64 v1 1))))
  (some (.inr (.inr ())))
/-- laws.eqShapeS -/
noncomputable def F_laws_eqShapeS (a0 : List TShape) (a1 : List TShape) : Option (Bool) :=
  br (std.not (std.eq (std.ofN (len a0)) (std.ofN (len a1))))
  (some false)
  ((whileP (σ := Int) (ρ := (Unit) ⊕ (Unit)) (L_laws_eqShapeS_x2 a0 a1) 0).bind fun y3 =>
  (match y3 with
    | .inl y3k0 => (
        some false)
    | .inr y3m0 =>
        some true))
theorem run_laws_eqShapeS (a0 : List TShape) (a1 : List TShape) (r : Bool) (h : F_laws_eqShapeS a0 a1 = some r) : Fun Try.prog 151 [.c (.bs (len a0) 5 (row gd (encShape) a0)), .c (.bs (len a1) 5 (row gd (encShape) a1))] [] (.c (.v (.bool r))) [] true := by
  refine Fun.of_wp (oneOf []) tok mixed Try.func151 (by kernel_rfl) rfl Try.ntmps151 rfl trivial (fun _ => ⟨trivial, trivial⟩) ?_
  unfold F_laws_eqShapeS at h
  unfold L_laws_eqShapeS_x2 at h
  have hf_laws_eqShape := @run_laws_eqShape
  generalize hLEN : @len = LEN at *
  generalize hGD : @gd = GD at *
  generalize hA : std = A at *
  generalize hP : Try.prog = P at *
  cbv
  refine fork (fun b20 => ?_) (fun b20 => ?_)
  · replace h := of_br_t b20 h
    cbv
    injection h with h
    subst h
    refine ⟨(sparse 27 [(4, .c (.v (.bool false)))] []), ?_, ?_⟩
    · exact le_sparse rfl ⟨AV.le_refl _, trivial⟩ trivial rfl
    · exact ⟨AV.le_refl _, trivial, rfl⟩
  · replace h := of_br_f b20 h
    cbv
    replace h := of_bind h
    obtain ⟨y3, hr4, hN5⟩ := h
    refine loop_cut hr4 (fun x => (sparse 27 [(0, .c (.bs (LEN a0) 5 (row GD (encShape) a0))), (1, .c (.bs (LEN a1) 5 (row GD (encShape) a1))), (5, .c (.v (.int .i64 x)))] [])) ?_ (fun y e s => (match y with | .inl w => e = .ret ∧ s.le (sparse 27 [(4, .c (.v (.bool false)))] []) | .inr w0 => (fun (w : Unit) => e = .exit 0 ∧ s.le (sparse 27 [] [])) w0)) ?_ ?_
    · clear hr4 hN5
      show St.le _ _
      exact le_sparse rfl ⟨AV.le_refl _, AV.le_refl _, AV.le_refl _, trivial⟩ trivial rfl
    · clear hr4 hN5
      intro x z9 h K7 hK8 hY6
      replace h := of_let h
      obtain ⟨v1, hv1, h⟩ := h
      have hv1 : v1 = x := hv1
      subst hv1
      cbv
      refine fork (fun b19 => ?_) (fun b19 => ?_)
      · replace h := of_br_t b19 h
        cbv
        replace h := of_req h
        obtain ⟨c14, h⟩ := h
        refine ⟨⟨c14, trivial⟩, ?_⟩
        replace h := of_req h
        obtain ⟨c15, h⟩ := h
        refine ⟨⟨c15, trivial⟩, ?_⟩
        replace h := of_bind h
        obtain ⟨y16, hy17, h⟩ := h
        refine ⟨{ args := [.agg [.v (.int .i64 (GD a0 (A.toN v1)).fLayer), .v (.int .i64 (GD a0 (A.toN v1)).fBox.fX0), .v (.int .i64 (GD a0 (A.toN v1)).fBox.fY0), .v (.int .i64 (GD a0 (A.toN v1)).fBox.fX1), .v (.int .i64 (GD a0 (A.toN v1)).fBox.fY1)], .agg [.v (.int .i64 (GD a1 (A.toN v1)).fLayer), .v (.int .i64 (GD a1 (A.toN v1)).fBox.fX0), .v (.int .i64 (GD a1 (A.toN v1)).fBox.fY0), .v (.int .i64 (GD a1 (A.toN v1)).fBox.fX1), .v (.int .i64 (GD a1 (A.toN v1)).fBox.fY1)]], o0 := [], r := .c (.v (.bool y16)), o1 := [], fl := true, σ := [], τ := [] }, hf_laws_eqShape _ _ _ hy17, ⟨les_cons (AV.le_refl _) (les_cons (AV.le_refl _) (les_nil)), trivial, rfl, rfl, rfl, rfl, trivial, rfl⟩, ?_⟩
        cbv
        refine fork (fun b18 => ?_) (fun b18 => ?_)
        · replace h := of_br_t b18 h
          cbv
          injection h with h
          refine hY6 _ h.symm _ _ (And.intro rfl ?_) (by intro hh; cases hh)
          exact le_sparse rfl ⟨AV.le_refl _, trivial⟩ trivial rfl
        · replace h := of_br_f b18 h
          cbv
          injection h with h
          refine hK8 _ h.symm _ ?_
          exact le_sparse rfl ⟨AV.le_refl _, AV.le_refl _, AV.le_refl _, trivial⟩ trivial rfl
      · replace h := of_br_f b19 h
        cbv
        injection h with h
        refine hY6 _ h.symm _ _ (And.intro rfl ?_) (by intro hh; cases hh)
        exact le_sparse rfl trivial trivial rfl
    · clear hr4
      have h := hN5
      clear hN5
      intro e12 s13 q11 hne
      rcases y3 with y3k0 | y3m0
      · replace h := h
        obtain ⟨rfl, q11⟩ := q11
        cbv
        injection h with h
        subst h
        refine ⟨(sparse 27 [(4, .c (.v (.bool false)))] []), ?_, ?_⟩
        · refine St.le_trans q11 ?_
          exact le_sparse rfl ⟨AV.le_refl _, trivial⟩ trivial rfl
        · exact ⟨AV.le_refl _, trivial, rfl⟩
      · obtain ⟨rfl, q11⟩ := q11
        cbv
        refine ⟨_, q11, ?_⟩
        cbv
        injection h with h
        subst h
        refine ⟨(sparse 27 [(4, .c (.v (.bool true)))] []), ?_, ?_⟩
        · exact le_sparse rfl ⟨AV.le_refl _, trivial⟩ trivial rfl
        · exact ⟨AV.le_refl _, trivial, rfl⟩

/-- laws.eqPoint -/
noncomputable def F_laws_eqPoint (a0 : TPoint) (a1 : TPoint) : Option (Bool) :=
  br (std.not (std.eq a0.fX a1.fX))
  (some false)
  (br (std.not (std.eq a0.fY a1.fY))
  (some false)
  (some true))
theorem run_laws_eqPoint (a0 : TPoint) (a1 : TPoint) (r : Bool) (h : F_laws_eqPoint a0 a1 = some r) : Fun Try.prog 122 [.agg [.v (.int .i64 a0.fX), .v (.int .i64 a0.fY)], .agg [.v (.int .i64 a1.fX), .v (.int .i64 a1.fY)]] [] (.c (.v (.bool r))) [] true := by
  refine Fun.of_wp (oneOf []) tok mixed Try.func122 (by kernel_rfl) rfl Try.ntmps122 rfl trivial (fun _ => ⟨trivial, trivial⟩) ?_
  unfold F_laws_eqPoint at h
  generalize hLEN : @len = LEN at *
  generalize hGD : @gd = GD at *
  generalize hA : std = A at *
  generalize hP : Try.prog = P at *
  cbv
  refine fork (fun b2 => ?_) (fun b2 => ?_)
  · replace h := of_br_t b2 h
    cbv
    injection h with h
    subst h
    refine ⟨(sparse 15 [(4, .c (.v (.bool false)))] []), ?_, ?_⟩
    · exact le_sparse rfl ⟨AV.le_refl _, trivial⟩ trivial rfl
    · exact ⟨AV.le_refl _, trivial, rfl⟩
  · replace h := of_br_f b2 h
    cbv
    refine fork (fun b1 => ?_) (fun b1 => ?_)
    · replace h := of_br_t b1 h
      cbv
      injection h with h
      subst h
      refine ⟨(sparse 15 [(4, .c (.v (.bool false)))] []), ?_, ?_⟩
      · exact le_sparse rfl ⟨AV.le_refl _, trivial⟩ trivial rfl
      · exact ⟨AV.le_refl _, trivial, rfl⟩
    · replace h := of_br_f b1 h
      cbv
      injection h with h
      subst h
      refine ⟨(sparse 15 [(4, .c (.v (.bool true)))] []), ?_, ?_⟩
      · exact le_sparse rfl ⟨AV.le_refl _, trivial⟩ trivial rfl
      · exact ⟨AV.le_refl _, trivial, rfl⟩

/-- laws.eqLabel -/
noncomputable def F_laws_eqLabel (a0 : TLabel) (a1 : TLabel) : Option (Bool) :=
  br (std.not (std.eq a0.fLayer a1.fLayer))
  (some false)
  ((F_laws_eqPoint a0.fAt a1.fAt).bind fun y1 =>
  br (!(y1))
  (some false)
  (br (std.not (std.seq a0.fName a1.fName))
  (some false)
  (some true)))
theorem run_laws_eqLabel (a0 : TLabel) (a1 : TLabel) (r : Bool) (h : F_laws_eqLabel a0 a1 = some r) : Fun Try.prog 78 [.agg [.v (.int .i64 a0.fLayer), .v (.int .i64 a0.fAt.fX), .v (.int .i64 a0.fAt.fY), .v (.string a0.fName)], .agg [.v (.int .i64 a1.fLayer), .v (.int .i64 a1.fAt.fX), .v (.int .i64 a1.fAt.fY), .v (.string a1.fName)]] [] (.c (.v (.bool r))) [] true := by
  refine Fun.of_wp (oneOf []) tok mixed Try.func78 (by kernel_rfl) rfl Try.ntmps78 rfl trivial (fun _ => ⟨trivial, trivial⟩) ?_
  unfold F_laws_eqLabel at h
  have hf_laws_eqPoint := @run_laws_eqPoint
  generalize hLEN : @len = LEN at *
  generalize hGD : @gd = GD at *
  generalize hA : std = A at *
  generalize hP : Try.prog = P at *
  cbv
  refine fork (fun b5 => ?_) (fun b5 => ?_)
  · replace h := of_br_t b5 h
    cbv
    injection h with h
    subst h
    refine ⟨(sparse 21 [(4, .c (.v (.bool false)))] []), ?_, ?_⟩
    · exact le_sparse rfl ⟨AV.le_refl _, trivial⟩ trivial rfl
    · exact ⟨AV.le_refl _, trivial, rfl⟩
  · replace h := of_br_f b5 h
    cbv
    replace h := of_bind h
    obtain ⟨y1, hy2, h⟩ := h
    refine ⟨{ args := [.agg [.v (.int .i64 a0.fAt.fX), .v (.int .i64 a0.fAt.fY)], .agg [.v (.int .i64 a1.fAt.fX), .v (.int .i64 a1.fAt.fY)]], o0 := [], r := .c (.v (.bool y1)), o1 := [], fl := true, σ := [], τ := [] }, hf_laws_eqPoint _ _ _ hy2, ⟨les_cons (AV.le_refl _) (les_cons (AV.le_refl _) (les_nil)), trivial, rfl, rfl, rfl, rfl, trivial, rfl⟩, ?_⟩
    cbv
    refine fork (fun b4 => ?_) (fun b4 => ?_)
    · replace h := of_br_t b4 h
      cbv
      injection h with h
      subst h
      refine ⟨(sparse 21 [(4, .c (.v (.bool false)))] []), ?_, ?_⟩
      · exact le_sparse rfl ⟨AV.le_refl _, trivial⟩ trivial rfl
      · exact ⟨AV.le_refl _, trivial, rfl⟩
    · replace h := of_br_f b4 h
      cbv
      refine fork (fun b3 => ?_) (fun b3 => ?_)
      · replace h := of_br_t b3 h
        cbv
        injection h with h
        subst h
        refine ⟨(sparse 21 [(4, .c (.v (.bool false)))] []), ?_, ?_⟩
        · exact le_sparse rfl ⟨AV.le_refl _, trivial⟩ trivial rfl
        · exact ⟨AV.le_refl _, trivial, rfl⟩
      · replace h := of_br_f b3 h
        cbv
        injection h with h
        subst h
        refine ⟨(sparse 21 [(4, .c (.v (.bool true)))] []), ?_, ?_⟩
        · exact le_sparse rfl ⟨AV.le_refl _, trivial⟩ trivial rfl
        · exact ⟨AV.le_refl _, trivial, rfl⟩

noncomputable def L_laws_eqLabelS_x2 (a0 : List TLabel) (a1 : List TLabel) : (Int) → Option ((Int) ⊕ ((Unit) ⊕ (Unit))) := fun x2 =>
  letO x2 fun v1 =>
  br (std.lt v1 (std.ofN (len a0)))
  (req (std.inR v1 (len a0)) <|
  req (std.inR v1 (len a1)) <|
  (F_laws_eqLabel (gd a0 (std.toN v1)) (gd a1 (std.toN v1))).bind fun y16 =>
  br (!(y16))
  (some (.inr (.inl ())))
  (some (.inl (std.add .i64 v1 1))))
  (some (.inr (.inr ())))
/-- laws.eqLabelS -/
noncomputable def F_laws_eqLabelS (a0 : List TLabel) (a1 : List TLabel) : Option (Bool) :=
  br (std.not (std.eq (std.ofN (len a0)) (std.ofN (len a1))))
  (some false)
  ((whileP (σ := Int) (ρ := (Unit) ⊕ (Unit)) (L_laws_eqLabelS_x2 a0 a1) 0).bind fun y3 =>
  (match y3 with
    | .inl y3k0 => (
        some false)
    | .inr y3m0 =>
        some true))
theorem run_laws_eqLabelS (a0 : List TLabel) (a1 : List TLabel) (r : Bool) (h : F_laws_eqLabelS a0 a1 = some r) : Fun Try.prog 152 [.c (.bs (len a0) 4 (row gd (encLabel) a0)), .c (.bs (len a1) 4 (row gd (encLabel) a1))] [] (.c (.v (.bool r))) [] true := by
  refine Fun.of_wp (oneOf []) tok mixed Try.func152 (by kernel_rfl) rfl Try.ntmps152 rfl trivial (fun _ => ⟨trivial, trivial⟩) ?_
  unfold F_laws_eqLabelS at h
  unfold L_laws_eqLabelS_x2 at h
  have hf_laws_eqLabel := @run_laws_eqLabel
  generalize hLEN : @len = LEN at *
  generalize hGD : @gd = GD at *
  generalize hA : std = A at *
  generalize hP : Try.prog = P at *
  cbv
  refine fork (fun b20 => ?_) (fun b20 => ?_)
  · replace h := of_br_t b20 h
    cbv
    injection h with h
    subst h
    refine ⟨(sparse 27 [(4, .c (.v (.bool false)))] []), ?_, ?_⟩
    · exact le_sparse rfl ⟨AV.le_refl _, trivial⟩ trivial rfl
    · exact ⟨AV.le_refl _, trivial, rfl⟩
  · replace h := of_br_f b20 h
    cbv
    replace h := of_bind h
    obtain ⟨y3, hr4, hN5⟩ := h
    refine loop_cut hr4 (fun x => (sparse 27 [(0, .c (.bs (LEN a0) 4 (row GD (encLabel) a0))), (1, .c (.bs (LEN a1) 4 (row GD (encLabel) a1))), (5, .c (.v (.int .i64 x)))] [])) ?_ (fun y e s => (match y with | .inl w => e = .ret ∧ s.le (sparse 27 [(4, .c (.v (.bool false)))] []) | .inr w0 => (fun (w : Unit) => e = .exit 0 ∧ s.le (sparse 27 [] [])) w0)) ?_ ?_
    · clear hr4 hN5
      show St.le _ _
      exact le_sparse rfl ⟨AV.le_refl _, AV.le_refl _, AV.le_refl _, trivial⟩ trivial rfl
    · clear hr4 hN5
      intro x z9 h K7 hK8 hY6
      replace h := of_let h
      obtain ⟨v1, hv1, h⟩ := h
      have hv1 : v1 = x := hv1
      subst hv1
      cbv
      refine fork (fun b19 => ?_) (fun b19 => ?_)
      · replace h := of_br_t b19 h
        cbv
        replace h := of_req h
        obtain ⟨c14, h⟩ := h
        refine ⟨⟨c14, trivial⟩, ?_⟩
        replace h := of_req h
        obtain ⟨c15, h⟩ := h
        refine ⟨⟨c15, trivial⟩, ?_⟩
        replace h := of_bind h
        obtain ⟨y16, hy17, h⟩ := h
        refine ⟨{ args := [.agg [.v (.int .i64 (GD a0 (A.toN v1)).fLayer), .v (.int .i64 (GD a0 (A.toN v1)).fAt.fX), .v (.int .i64 (GD a0 (A.toN v1)).fAt.fY), .v (.string (GD a0 (A.toN v1)).fName)], .agg [.v (.int .i64 (GD a1 (A.toN v1)).fLayer), .v (.int .i64 (GD a1 (A.toN v1)).fAt.fX), .v (.int .i64 (GD a1 (A.toN v1)).fAt.fY), .v (.string (GD a1 (A.toN v1)).fName)]], o0 := [], r := .c (.v (.bool y16)), o1 := [], fl := true, σ := [], τ := [] }, hf_laws_eqLabel _ _ _ hy17, ⟨les_cons (AV.le_refl _) (les_cons (AV.le_refl _) (les_nil)), trivial, rfl, rfl, rfl, rfl, trivial, rfl⟩, ?_⟩
        cbv
        refine fork (fun b18 => ?_) (fun b18 => ?_)
        · replace h := of_br_t b18 h
          cbv
          injection h with h
          refine hY6 _ h.symm _ _ (And.intro rfl ?_) (by intro hh; cases hh)
          exact le_sparse rfl ⟨AV.le_refl _, trivial⟩ trivial rfl
        · replace h := of_br_f b18 h
          cbv
          injection h with h
          refine hK8 _ h.symm _ ?_
          exact le_sparse rfl ⟨AV.le_refl _, AV.le_refl _, AV.le_refl _, trivial⟩ trivial rfl
      · replace h := of_br_f b19 h
        cbv
        injection h with h
        refine hY6 _ h.symm _ _ (And.intro rfl ?_) (by intro hh; cases hh)
        exact le_sparse rfl trivial trivial rfl
    · clear hr4
      have h := hN5
      clear hN5
      intro e12 s13 q11 hne
      rcases y3 with y3k0 | y3m0
      · replace h := h
        obtain ⟨rfl, q11⟩ := q11
        cbv
        injection h with h
        subst h
        refine ⟨(sparse 27 [(4, .c (.v (.bool false)))] []), ?_, ?_⟩
        · refine St.le_trans q11 ?_
          exact le_sparse rfl ⟨AV.le_refl _, trivial⟩ trivial rfl
        · exact ⟨AV.le_refl _, trivial, rfl⟩
      · obtain ⟨rfl, q11⟩ := q11
        cbv
        refine ⟨_, q11, ?_⟩
        cbv
        injection h with h
        subst h
        refine ⟨(sparse 27 [(4, .c (.v (.bool true)))] []), ?_, ?_⟩
        · exact le_sparse rfl ⟨AV.le_refl _, trivial⟩ trivial rfl
        · exact ⟨AV.le_refl _, trivial, rfl⟩

/-- laws.eqTransform -/
noncomputable def F_laws_eqTransform (a0 : TTransform) (a1 : TTransform) : Option (Bool) :=
  br (std.not (std.eq a0.fOrientation a1.fOrientation))
  (some false)
  (br (std.not (std.eq a0.fX a1.fX))
  (some false)
  (br (std.not (std.eq a0.fY a1.fY))
  (some false)
  (some true)))
theorem run_laws_eqTransform (a0 : TTransform) (a1 : TTransform) (r : Bool) (h : F_laws_eqTransform a0 a1 = some r) : Fun Try.prog 123 [.agg [.v (.int .i64 a0.fOrientation), .v (.int .i64 a0.fX), .v (.int .i64 a0.fY)], .agg [.v (.int .i64 a1.fOrientation), .v (.int .i64 a1.fX), .v (.int .i64 a1.fY)]] [] (.c (.v (.bool r))) [] true := by
  refine Fun.of_wp (oneOf []) tok mixed Try.func123 (by kernel_rfl) rfl Try.ntmps123 rfl trivial (fun _ => ⟨trivial, trivial⟩) ?_
  unfold F_laws_eqTransform at h
  generalize hLEN : @len = LEN at *
  generalize hGD : @gd = GD at *
  generalize hA : std = A at *
  generalize hP : Try.prog = P at *
  cbv
  refine fork (fun b3 => ?_) (fun b3 => ?_)
  · replace h := of_br_t b3 h
    cbv
    injection h with h
    subst h
    refine ⟨(sparse 20 [(4, .c (.v (.bool false)))] []), ?_, ?_⟩
    · exact le_sparse rfl ⟨AV.le_refl _, trivial⟩ trivial rfl
    · exact ⟨AV.le_refl _, trivial, rfl⟩
  · replace h := of_br_f b3 h
    cbv
    refine fork (fun b2 => ?_) (fun b2 => ?_)
    · replace h := of_br_t b2 h
      cbv
      injection h with h
      subst h
      refine ⟨(sparse 20 [(4, .c (.v (.bool false)))] []), ?_, ?_⟩
      · exact le_sparse rfl ⟨AV.le_refl _, trivial⟩ trivial rfl
      · exact ⟨AV.le_refl _, trivial, rfl⟩
    · replace h := of_br_f b2 h
      cbv
      refine fork (fun b1 => ?_) (fun b1 => ?_)
      · replace h := of_br_t b1 h
        cbv
        injection h with h
        subst h
        refine ⟨(sparse 20 [(4, .c (.v (.bool false)))] []), ?_, ?_⟩
        · exact le_sparse rfl ⟨AV.le_refl _, trivial⟩ trivial rfl
        · exact ⟨AV.le_refl _, trivial, rfl⟩
      · replace h := of_br_f b1 h
        cbv
        injection h with h
        subst h
        refine ⟨(sparse 20 [(4, .c (.v (.bool true)))] []), ?_, ?_⟩
        · exact le_sparse rfl ⟨AV.le_refl _, trivial⟩ trivial rfl
        · exact ⟨AV.le_refl _, trivial, rfl⟩
/-- laws.eqInstance -/
noncomputable def F_laws_eqInstance (a0 : TInstance) (a1 : TInstance) : Option (Bool) :=
  br (std.not (std.eq a0.fCell a1.fCell))
  (some false)
  ((F_laws_eqTransform a0.fPlace a1.fPlace).bind fun y1 =>
  br (!(y1))
  (some false)
  (br (std.not (std.eq a0.fColumns a1.fColumns))
  (some false)
  (br (std.not (std.eq a0.fRows a1.fRows))
  (some false)
  (br (std.not (std.eq a0.fStepX a1.fStepX))
  (some false)
  (br (std.not (std.eq a0.fStepY a1.fStepY))
  (some false)
  (some true))))))
theorem run_laws_eqInstance (a0 : TInstance) (a1 : TInstance) (r : Bool) (h : F_laws_eqInstance a0 a1 = some r) : Fun Try.prog 79 [.agg [.v (.int .i64 a0.fCell), .v (.int .i64 a0.fPlace.fOrientation), .v (.int .i64 a0.fPlace.fX), .v (.int .i64 a0.fPlace.fY), .v (.int .i64 a0.fColumns), .v (.int .i64 a0.fRows), .v (.int .i64 a0.fStepX), .v (.int .i64 a0.fStepY)], .agg [.v (.int .i64 a1.fCell), .v (.int .i64 a1.fPlace.fOrientation), .v (.int .i64 a1.fPlace.fX), .v (.int .i64 a1.fPlace.fY), .v (.int .i64 a1.fColumns), .v (.int .i64 a1.fRows), .v (.int .i64 a1.fStepX), .v (.int .i64 a1.fStepY)]] [] (.c (.v (.bool r))) [] true := by
  refine Fun.of_wp (oneOf []) tok mixed Try.func79 (by kernel_rfl) rfl Try.ntmps79 rfl trivial (fun _ => ⟨trivial, trivial⟩) ?_
  unfold F_laws_eqInstance at h
  have hf_laws_eqTransform := @run_laws_eqTransform
  generalize hLEN : @len = LEN at *
  generalize hGD : @gd = GD at *
  generalize hA : std = A at *
  generalize hP : Try.prog = P at *
  cbv
  refine fork (fun b8 => ?_) (fun b8 => ?_)
  · replace h := of_br_t b8 h
    cbv
    injection h with h
    subst h
    refine ⟨(sparse 36 [(4, .c (.v (.bool false)))] []), ?_, ?_⟩
    · exact le_sparse rfl ⟨AV.le_refl _, trivial⟩ trivial rfl
    · exact ⟨AV.le_refl _, trivial, rfl⟩
  · replace h := of_br_f b8 h
    cbv
    replace h := of_bind h
    obtain ⟨y1, hy2, h⟩ := h
    refine ⟨{ args := [.agg [.v (.int .i64 a0.fPlace.fOrientation), .v (.int .i64 a0.fPlace.fX), .v (.int .i64 a0.fPlace.fY)], .agg [.v (.int .i64 a1.fPlace.fOrientation), .v (.int .i64 a1.fPlace.fX), .v (.int .i64 a1.fPlace.fY)]], o0 := [], r := .c (.v (.bool y1)), o1 := [], fl := true, σ := [], τ := [] }, hf_laws_eqTransform _ _ _ hy2, ⟨les_cons (AV.le_refl _) (les_cons (AV.le_refl _) (les_nil)), trivial, rfl, rfl, rfl, rfl, trivial, rfl⟩, ?_⟩
    cbv
    refine fork (fun b7 => ?_) (fun b7 => ?_)
    · replace h := of_br_t b7 h
      cbv
      injection h with h
      subst h
      refine ⟨(sparse 36 [(4, .c (.v (.bool false)))] []), ?_, ?_⟩
      · exact le_sparse rfl ⟨AV.le_refl _, trivial⟩ trivial rfl
      · exact ⟨AV.le_refl _, trivial, rfl⟩
    · replace h := of_br_f b7 h
      cbv
      refine fork (fun b6 => ?_) (fun b6 => ?_)
      · replace h := of_br_t b6 h
        cbv
        injection h with h
        subst h
        refine ⟨(sparse 36 [(4, .c (.v (.bool false)))] []), ?_, ?_⟩
        · exact le_sparse rfl ⟨AV.le_refl _, trivial⟩ trivial rfl
        · exact ⟨AV.le_refl _, trivial, rfl⟩
      · replace h := of_br_f b6 h
        cbv
        refine fork (fun b5 => ?_) (fun b5 => ?_)
        · replace h := of_br_t b5 h
          cbv
          injection h with h
          subst h
          refine ⟨(sparse 36 [(4, .c (.v (.bool false)))] []), ?_, ?_⟩
          · exact le_sparse rfl ⟨AV.le_refl _, trivial⟩ trivial rfl
          · exact ⟨AV.le_refl _, trivial, rfl⟩
        · replace h := of_br_f b5 h
          cbv
          refine fork (fun b4 => ?_) (fun b4 => ?_)
          · replace h := of_br_t b4 h
            cbv
            injection h with h
            subst h
            refine ⟨(sparse 36 [(4, .c (.v (.bool false)))] []), ?_, ?_⟩
            · exact le_sparse rfl ⟨AV.le_refl _, trivial⟩ trivial rfl
            · exact ⟨AV.le_refl _, trivial, rfl⟩
          · replace h := of_br_f b4 h
            cbv
            refine fork (fun b3 => ?_) (fun b3 => ?_)
            · replace h := of_br_t b3 h
              cbv
              injection h with h
              subst h
              refine ⟨(sparse 36 [(4, .c (.v (.bool false)))] []), ?_, ?_⟩
              · exact le_sparse rfl ⟨AV.le_refl _, trivial⟩ trivial rfl
              · exact ⟨AV.le_refl _, trivial, rfl⟩
            · replace h := of_br_f b3 h
              cbv
              injection h with h
              subst h
              refine ⟨(sparse 36 [(4, .c (.v (.bool true)))] []), ?_, ?_⟩
              · exact le_sparse rfl ⟨AV.le_refl _, trivial⟩ trivial rfl
              · exact ⟨AV.le_refl _, trivial, rfl⟩

noncomputable def L_laws_eqInstanceS_x2 (a0 : List TInstance) (a1 : List TInstance) : (Int) → Option ((Int) ⊕ ((Unit) ⊕ (Unit))) := fun x2 =>
  letO x2 fun v1 =>
  br (std.lt v1 (std.ofN (len a0)))
  (req (std.inR v1 (len a0)) <|
  req (std.inR v1 (len a1)) <|
  (F_laws_eqInstance (gd a0 (std.toN v1)) (gd a1 (std.toN v1))).bind fun y16 =>
  br (!(y16))
  (some (.inr (.inl ())))
  (some (.inl (std.add .i64 v1 1))))
  (some (.inr (.inr ())))
/-- laws.eqInstanceS -/
noncomputable def F_laws_eqInstanceS (a0 : List TInstance) (a1 : List TInstance) : Option (Bool) :=
  br (std.not (std.eq (std.ofN (len a0)) (std.ofN (len a1))))
  (some false)
  ((whileP (σ := Int) (ρ := (Unit) ⊕ (Unit)) (L_laws_eqInstanceS_x2 a0 a1) 0).bind fun y3 =>
  (match y3 with
    | .inl y3k0 => (
        some false)
    | .inr y3m0 =>
        some true))
theorem run_laws_eqInstanceS (a0 : List TInstance) (a1 : List TInstance) (r : Bool) (h : F_laws_eqInstanceS a0 a1 = some r) : Fun Try.prog 153 [.c (.bs (len a0) 8 (row gd (encInstance) a0)), .c (.bs (len a1) 8 (row gd (encInstance) a1))] [] (.c (.v (.bool r))) [] true := by
  refine Fun.of_wp (oneOf []) tok mixed Try.func153 (by kernel_rfl) rfl Try.ntmps153 rfl trivial (fun _ => ⟨trivial, trivial⟩) ?_
  unfold F_laws_eqInstanceS at h
  unfold L_laws_eqInstanceS_x2 at h
  have hf_laws_eqInstance := @run_laws_eqInstance
  generalize hLEN : @len = LEN at *
  generalize hGD : @gd = GD at *
  generalize hA : std = A at *
  generalize hP : Try.prog = P at *
  cbv
  refine fork (fun b20 => ?_) (fun b20 => ?_)
  · replace h := of_br_t b20 h
    cbv
    injection h with h
    subst h
    refine ⟨(sparse 27 [(4, .c (.v (.bool false)))] []), ?_, ?_⟩
    · exact le_sparse rfl ⟨AV.le_refl _, trivial⟩ trivial rfl
    · exact ⟨AV.le_refl _, trivial, rfl⟩
  · replace h := of_br_f b20 h
    cbv
    replace h := of_bind h
    obtain ⟨y3, hr4, hN5⟩ := h
    refine loop_cut hr4 (fun x => (sparse 27 [(0, .c (.bs (LEN a0) 8 (row GD (encInstance) a0))), (1, .c (.bs (LEN a1) 8 (row GD (encInstance) a1))), (5, .c (.v (.int .i64 x)))] [])) ?_ (fun y e s => (match y with | .inl w => e = .ret ∧ s.le (sparse 27 [(4, .c (.v (.bool false)))] []) | .inr w0 => (fun (w : Unit) => e = .exit 0 ∧ s.le (sparse 27 [] [])) w0)) ?_ ?_
    · clear hr4 hN5
      show St.le _ _
      exact le_sparse rfl ⟨AV.le_refl _, AV.le_refl _, AV.le_refl _, trivial⟩ trivial rfl
    · clear hr4 hN5
      intro x z9 h K7 hK8 hY6
      replace h := of_let h
      obtain ⟨v1, hv1, h⟩ := h
      have hv1 : v1 = x := hv1
      subst hv1
      cbv
      refine fork (fun b19 => ?_) (fun b19 => ?_)
      · replace h := of_br_t b19 h
        cbv
        replace h := of_req h
        obtain ⟨c14, h⟩ := h
        refine ⟨⟨c14, trivial⟩, ?_⟩
        replace h := of_req h
        obtain ⟨c15, h⟩ := h
        refine ⟨⟨c15, trivial⟩, ?_⟩
        replace h := of_bind h
        obtain ⟨y16, hy17, h⟩ := h
        refine ⟨{ args := [.agg [.v (.int .i64 (GD a0 (A.toN v1)).fCell), .v (.int .i64 (GD a0 (A.toN v1)).fPlace.fOrientation), .v (.int .i64 (GD a0 (A.toN v1)).fPlace.fX), .v (.int .i64 (GD a0 (A.toN v1)).fPlace.fY), .v (.int .i64 (GD a0 (A.toN v1)).fColumns), .v (.int .i64 (GD a0 (A.toN v1)).fRows), .v (.int .i64 (GD a0 (A.toN v1)).fStepX), .v (.int .i64 (GD a0 (A.toN v1)).fStepY)], .agg [.v (.int .i64 (GD a1 (A.toN v1)).fCell), .v (.int .i64 (GD a1 (A.toN v1)).fPlace.fOrientation), .v (.int .i64 (GD a1 (A.toN v1)).fPlace.fX), .v (.int .i64 (GD a1 (A.toN v1)).fPlace.fY), .v (.int .i64 (GD a1 (A.toN v1)).fColumns), .v (.int .i64 (GD a1 (A.toN v1)).fRows), .v (.int .i64 (GD a1 (A.toN v1)).fStepX), .v (.int .i64 (GD a1 (A.toN v1)).fStepY)]], o0 := [], r := .c (.v (.bool y16)), o1 := [], fl := true, σ := [], τ := [] }, hf_laws_eqInstance _ _ _ hy17, ⟨les_cons (AV.le_refl _) (les_cons (AV.le_refl _) (les_nil)), trivial, rfl, rfl, rfl, rfl, trivial, rfl⟩, ?_⟩
        cbv
        refine fork (fun b18 => ?_) (fun b18 => ?_)
        · replace h := of_br_t b18 h
          cbv
          injection h with h
          refine hY6 _ h.symm _ _ (And.intro rfl ?_) (by intro hh; cases hh)
          exact le_sparse rfl ⟨AV.le_refl _, trivial⟩ trivial rfl
        · replace h := of_br_f b18 h
          cbv
          injection h with h
          refine hK8 _ h.symm _ ?_
          exact le_sparse rfl ⟨AV.le_refl _, AV.le_refl _, AV.le_refl _, trivial⟩ trivial rfl
      · replace h := of_br_f b19 h
        cbv
        injection h with h
        refine hY6 _ h.symm _ _ (And.intro rfl ?_) (by intro hh; cases hh)
        exact le_sparse rfl trivial trivial rfl
    · clear hr4
      have h := hN5
      clear hN5
      intro e12 s13 q11 hne
      rcases y3 with y3k0 | y3m0
      · replace h := h
        obtain ⟨rfl, q11⟩ := q11
        cbv
        injection h with h
        subst h
        refine ⟨(sparse 27 [(4, .c (.v (.bool false)))] []), ?_, ?_⟩
        · refine St.le_trans q11 ?_
          exact le_sparse rfl ⟨AV.le_refl _, trivial⟩ trivial rfl
        · exact ⟨AV.le_refl _, trivial, rfl⟩
      · obtain ⟨rfl, q11⟩ := q11
        cbv
        refine ⟨_, q11, ?_⟩
        cbv
        injection h with h
        subst h
        refine ⟨(sparse 27 [(4, .c (.v (.bool true)))] []), ?_, ?_⟩
        · exact le_sparse rfl ⟨AV.le_refl _, trivial⟩ trivial rfl
        · exact ⟨AV.le_refl _, trivial, rfl⟩

/-- laws.eqCell -/
noncomputable def F_laws_eqCell (a0 : TCell) (a1 : TCell) : Option (Bool) :=
  br (std.not (std.seq a0.fName a1.fName))
  (some false)
  ((F_laws_eqShapeS a0.fShapes a1.fShapes).bind fun y1 =>
  br (!(y1))
  (some false)
  ((F_laws_eqLabelS a0.fLabels a1.fLabels).bind fun y3 =>
  br (!(y3))
  (some false)
  ((F_laws_eqInstanceS a0.fInstances a1.fInstances).bind fun y5 =>
  br (!(y5))
  (some false)
  (some true))))
theorem run_laws_eqCell (a0 : TCell) (a1 : TCell) (r : Bool) (h : F_laws_eqCell a0 a1 = some r) : Fun Try.prog 102 [.agg [.v (.string a0.fName), .bs (len a0.fShapes) 5 (row gd (encShape) a0.fShapes), .bs (len a0.fLabels) 4 (row gd (encLabel) a0.fLabels), .bs (len a0.fInstances) 8 (row gd (encInstance) a0.fInstances)], .agg [.v (.string a1.fName), .bs (len a1.fShapes) 5 (row gd (encShape) a1.fShapes), .bs (len a1.fLabels) 4 (row gd (encLabel) a1.fLabels), .bs (len a1.fInstances) 8 (row gd (encInstance) a1.fInstances)]] [] (.c (.v (.bool r))) [] true := by
  refine Fun.of_wp (oneOf []) tok mixed Try.func102 (by kernel_rfl) rfl Try.ntmps102 rfl trivial (fun _ => ⟨trivial, trivial⟩) ?_
  unfold F_laws_eqCell at h
  have hf_laws_eqInstanceS := @run_laws_eqInstanceS
  have hf_laws_eqLabelS := @run_laws_eqLabelS
  have hf_laws_eqShapeS := @run_laws_eqShapeS
  generalize hLEN : @len = LEN at *
  generalize hGD : @gd = GD at *
  generalize hA : std = A at *
  generalize hP : Try.prog = P at *
  cbv
  refine fork (fun b10 => ?_) (fun b10 => ?_)
  · replace h := of_br_t b10 h
    cbv
    injection h with h
    subst h
    refine ⟨(sparse 28 [(4, .c (.v (.bool false)))] []), ?_, ?_⟩
    · exact le_sparse rfl ⟨AV.le_refl _, trivial⟩ trivial rfl
    · exact ⟨AV.le_refl _, trivial, rfl⟩
  · replace h := of_br_f b10 h
    cbv
    replace h := of_bind h
    obtain ⟨y1, hy2, h⟩ := h
    refine ⟨{ args := [.c (.bs (LEN a0.fShapes) 5 (row GD (encShape) a0.fShapes)), .c (.bs (LEN a1.fShapes) 5 (row GD (encShape) a1.fShapes))], o0 := [], r := .c (.v (.bool y1)), o1 := [], fl := true, σ := [], τ := [] }, hf_laws_eqShapeS _ _ _ hy2, ⟨les_cons (AV.le_refl _) (les_cons (AV.le_refl _) (les_nil)), trivial, rfl, rfl, rfl, rfl, trivial, rfl⟩, ?_⟩
    cbv
    refine fork (fun b9 => ?_) (fun b9 => ?_)
    · replace h := of_br_t b9 h
      cbv
      injection h with h
      subst h
      refine ⟨(sparse 28 [(4, .c (.v (.bool false)))] []), ?_, ?_⟩
      · exact le_sparse rfl ⟨AV.le_refl _, trivial⟩ trivial rfl
      · exact ⟨AV.le_refl _, trivial, rfl⟩
    · replace h := of_br_f b9 h
      cbv
      replace h := of_bind h
      obtain ⟨y3, hy4, h⟩ := h
      refine ⟨{ args := [.c (.bs (LEN a0.fLabels) 4 (row GD (encLabel) a0.fLabels)), .c (.bs (LEN a1.fLabels) 4 (row GD (encLabel) a1.fLabels))], o0 := [], r := .c (.v (.bool y3)), o1 := [], fl := true, σ := [], τ := [] }, hf_laws_eqLabelS _ _ _ hy4, ⟨les_cons (AV.le_refl _) (les_cons (AV.le_refl _) (les_nil)), trivial, rfl, rfl, rfl, rfl, trivial, rfl⟩, ?_⟩
      cbv
      refine fork (fun b8 => ?_) (fun b8 => ?_)
      · replace h := of_br_t b8 h
        cbv
        injection h with h
        subst h
        refine ⟨(sparse 28 [(4, .c (.v (.bool false)))] []), ?_, ?_⟩
        · exact le_sparse rfl ⟨AV.le_refl _, trivial⟩ trivial rfl
        · exact ⟨AV.le_refl _, trivial, rfl⟩
      · replace h := of_br_f b8 h
        cbv
        replace h := of_bind h
        obtain ⟨y5, hy6, h⟩ := h
        refine ⟨{ args := [.c (.bs (LEN a0.fInstances) 8 (row GD (encInstance) a0.fInstances)), .c (.bs (LEN a1.fInstances) 8 (row GD (encInstance) a1.fInstances))], o0 := [], r := .c (.v (.bool y5)), o1 := [], fl := true, σ := [], τ := [] }, hf_laws_eqInstanceS _ _ _ hy6, ⟨les_cons (AV.le_refl _) (les_cons (AV.le_refl _) (les_nil)), trivial, rfl, rfl, rfl, rfl, trivial, rfl⟩, ?_⟩
        cbv
        refine fork (fun b7 => ?_) (fun b7 => ?_)
        · replace h := of_br_t b7 h
          cbv
          injection h with h
          subst h
          refine ⟨(sparse 28 [(4, .c (.v (.bool false)))] []), ?_, ?_⟩
          · exact le_sparse rfl ⟨AV.le_refl _, trivial⟩ trivial rfl
          · exact ⟨AV.le_refl _, trivial, rfl⟩
        · replace h := of_br_f b7 h
          cbv
          injection h with h
          subst h
          refine ⟨(sparse 28 [(4, .c (.v (.bool true)))] []), ?_, ?_⟩
          · exact le_sparse rfl ⟨AV.le_refl _, trivial⟩ trivial rfl
          · exact ⟨AV.le_refl _, trivial, rfl⟩

noncomputable def L_laws_eqCellS_x2 (a0 : List TCell) (a1 : List TCell) : (Int) → Option ((Int) ⊕ ((Unit) ⊕ (Unit))) := fun x2 =>
  letO x2 fun v1 =>
  br (std.lt v1 (std.ofN (len a0)))
  (req (std.inR v1 (len a0)) <|
  req (std.inR v1 (len a1)) <|
  (F_laws_eqCell (gd a0 (std.toN v1)) (gd a1 (std.toN v1))).bind fun y16 =>
  br (!(y16))
  (some (.inr (.inl ())))
  (some (.inl (std.add .i64 v1 1))))
  (some (.inr (.inr ())))
/-- laws.eqCellS -/
noncomputable def F_laws_eqCellS (a0 : List TCell) (a1 : List TCell) : Option (Bool) :=
  br (std.not (std.eq (std.ofN (len a0)) (std.ofN (len a1))))
  (some false)
  ((whileP (σ := Int) (ρ := (Unit) ⊕ (Unit)) (L_laws_eqCellS_x2 a0 a1) 0).bind fun y3 =>
  (match y3 with
    | .inl y3k0 => (
        some false)
    | .inr y3m0 =>
        some true))
theorem run_laws_eqCellS (a0 : List TCell) (a1 : List TCell) (r : Bool) (h : F_laws_eqCellS a0 a1 = some r) : Fun Try.prog 58 [.c (.bs (len a0) 4 (row gd (encCell len gd) a0)), .c (.bs (len a1) 4 (row gd (encCell len gd) a1))] [] (.c (.v (.bool r))) [] true := by
  refine Fun.of_wp (oneOf []) tok mixed Try.func58 (by kernel_rfl) rfl Try.ntmps58 rfl trivial (fun _ => ⟨trivial, trivial⟩) ?_
  unfold F_laws_eqCellS at h
  unfold L_laws_eqCellS_x2 at h
  have hf_laws_eqCell := @run_laws_eqCell
  generalize hLEN : @len = LEN at *
  generalize hGD : @gd = GD at *
  generalize hA : std = A at *
  generalize hP : Try.prog = P at *
  cbv
  refine fork (fun b20 => ?_) (fun b20 => ?_)
  · replace h := of_br_t b20 h
    cbv
    injection h with h
    subst h
    refine ⟨(sparse 27 [(4, .c (.v (.bool false)))] []), ?_, ?_⟩
    · exact le_sparse rfl ⟨AV.le_refl _, trivial⟩ trivial rfl
    · exact ⟨AV.le_refl _, trivial, rfl⟩
  · replace h := of_br_f b20 h
    cbv
    replace h := of_bind h
    obtain ⟨y3, hr4, hN5⟩ := h
    refine loop_cut hr4 (fun x => (sparse 27 [(0, .c (.bs (LEN a0) 4 (row GD (encCell LEN GD) a0))), (1, .c (.bs (LEN a1) 4 (row GD (encCell LEN GD) a1))), (5, .c (.v (.int .i64 x)))] [])) ?_ (fun y e s => (match y with | .inl w => e = .ret ∧ s.le (sparse 27 [(4, .c (.v (.bool false)))] []) | .inr w0 => (fun (w : Unit) => e = .exit 0 ∧ s.le (sparse 27 [] [])) w0)) ?_ ?_
    · clear hr4 hN5
      show St.le _ _
      exact le_sparse rfl ⟨AV.le_refl _, AV.le_refl _, AV.le_refl _, trivial⟩ trivial rfl
    · clear hr4 hN5
      intro x z9 h K7 hK8 hY6
      replace h := of_let h
      obtain ⟨v1, hv1, h⟩ := h
      have hv1 : v1 = x := hv1
      subst hv1
      cbv
      refine fork (fun b19 => ?_) (fun b19 => ?_)
      · replace h := of_br_t b19 h
        cbv
        replace h := of_req h
        obtain ⟨c14, h⟩ := h
        refine ⟨⟨c14, trivial⟩, ?_⟩
        replace h := of_req h
        obtain ⟨c15, h⟩ := h
        refine ⟨⟨c15, trivial⟩, ?_⟩
        replace h := of_bind h
        obtain ⟨y16, hy17, h⟩ := h
        refine ⟨{ args := [.agg [.v (.string (GD a0 (A.toN v1)).fName), .bs (LEN (GD a0 (A.toN v1)).fShapes) 5 (row GD (encShape) (GD a0 (A.toN v1)).fShapes), .bs (LEN (GD a0 (A.toN v1)).fLabels) 4 (row GD (encLabel) (GD a0 (A.toN v1)).fLabels), .bs (LEN (GD a0 (A.toN v1)).fInstances) 8 (row GD (encInstance) (GD a0 (A.toN v1)).fInstances)], .agg [.v (.string (GD a1 (A.toN v1)).fName), .bs (LEN (GD a1 (A.toN v1)).fShapes) 5 (row GD (encShape) (GD a1 (A.toN v1)).fShapes), .bs (LEN (GD a1 (A.toN v1)).fLabels) 4 (row GD (encLabel) (GD a1 (A.toN v1)).fLabels), .bs (LEN (GD a1 (A.toN v1)).fInstances) 8 (row GD (encInstance) (GD a1 (A.toN v1)).fInstances)]], o0 := [], r := .c (.v (.bool y16)), o1 := [], fl := true, σ := [], τ := [] }, hf_laws_eqCell _ _ _ hy17, ⟨les_cons (AV.le_refl _) (les_cons (AV.le_refl _) (les_nil)), trivial, rfl, rfl, rfl, rfl, trivial, rfl⟩, ?_⟩
        cbv
        refine fork (fun b18 => ?_) (fun b18 => ?_)
        · replace h := of_br_t b18 h
          cbv
          injection h with h
          refine hY6 _ h.symm _ _ (And.intro rfl ?_) (by intro hh; cases hh)
          exact le_sparse rfl ⟨AV.le_refl _, trivial⟩ trivial rfl
        · replace h := of_br_f b18 h
          cbv
          injection h with h
          refine hK8 _ h.symm _ ?_
          exact le_sparse rfl ⟨AV.le_refl _, AV.le_refl _, AV.le_refl _, trivial⟩ trivial rfl
      · replace h := of_br_f b19 h
        cbv
        injection h with h
        refine hY6 _ h.symm _ _ (And.intro rfl ?_) (by intro hh; cases hh)
        exact le_sparse rfl trivial trivial rfl
    · clear hr4
      have h := hN5
      clear hN5
      intro e12 s13 q11 hne
      rcases y3 with y3k0 | y3m0
      · replace h := h
        obtain ⟨rfl, q11⟩ := q11
        cbv
        injection h with h
        subst h
        refine ⟨(sparse 27 [(4, .c (.v (.bool false)))] []), ?_, ?_⟩
        · refine St.le_trans q11 ?_
          exact le_sparse rfl ⟨AV.le_refl _, trivial⟩ trivial rfl
        · exact ⟨AV.le_refl _, trivial, rfl⟩
      · obtain ⟨rfl, q11⟩ := q11
        cbv
        refine ⟨_, q11, ?_⟩
        cbv
        injection h with h
        subst h
        refine ⟨(sparse 27 [(4, .c (.v (.bool true)))] []), ?_, ?_⟩
        · exact le_sparse rfl ⟨AV.le_refl _, trivial⟩ trivial rfl
        · exact ⟨AV.le_refl _, trivial, rfl⟩

/-- laws.eqLibrary -/
noncomputable def F_laws_eqLibrary (a0 : TLibrary) (a1 : TLibrary) : Option (Bool) :=
  (F_laws_eqCellS a0.fCells a1.fCells).bind fun y1 =>
  br (!(y1))
  (some false)
  (some true)
theorem run_laws_eqLibrary (a0 : TLibrary) (a1 : TLibrary) (r : Bool) (h : F_laws_eqLibrary a0 a1 = some r) : Fun Try.prog 22 [.agg [.bs (len a0.fCells) 4 (row gd (encCell len gd) a0.fCells)], .agg [.bs (len a1.fCells) 4 (row gd (encCell len gd) a1.fCells)]] [] (.c (.v (.bool r))) [] true := by
  refine Fun.of_wp (oneOf []) tok mixed Try.func22 (by kernel_rfl) rfl Try.ntmps22 rfl trivial (fun _ => ⟨trivial, trivial⟩) ?_
  unfold F_laws_eqLibrary at h
  have hf_laws_eqCellS := @run_laws_eqCellS
  generalize hLEN : @len = LEN at *
  generalize hGD : @gd = GD at *
  generalize hA : std = A at *
  generalize hP : Try.prog = P at *
  cbv
  replace h := of_bind h
  obtain ⟨y1, hy2, h⟩ := h
  refine ⟨{ args := [.c (.bs (LEN a0.fCells) 4 (row GD (encCell LEN GD) a0.fCells)), .c (.bs (LEN a1.fCells) 4 (row GD (encCell LEN GD) a1.fCells))], o0 := [], r := .c (.v (.bool y1)), o1 := [], fl := true, σ := [], τ := [] }, hf_laws_eqCellS _ _ _ hy2, ⟨les_cons (AV.le_refl _) (les_cons (AV.le_refl _) (les_nil)), trivial, rfl, rfl, rfl, rfl, trivial, rfl⟩, ?_⟩
  cbv
  refine fork (fun b3 => ?_) (fun b3 => ?_)
  · replace h := of_br_t b3 h
    cbv
    injection h with h
    subst h
    refine ⟨(sparse 11 [(4, .c (.v (.bool false)))] []), ?_, ?_⟩
    · exact le_sparse rfl ⟨AV.le_refl _, trivial⟩ trivial rfl
    · exact ⟨AV.le_refl _, trivial, rfl⟩
  · replace h := of_br_f b3 h
    cbv
    injection h with h
    subst h
    refine ⟨(sparse 11 [(4, .c (.v (.bool true)))] []), ?_, ?_⟩
    · exact le_sparse rfl ⟨AV.le_refl _, trivial⟩ trivial rfl
    · exact ⟨AV.le_refl _, trivial, rfl⟩

noncomputable def L_laws_markText_x3  : (Int × ByteArray) → Option ((Int × ByteArray) ⊕ ((ByteArray))) := fun x3 =>
  letO x3.1 fun v1 =>
  letO x3.2 fun v2 =>
  br (std.lt 0 v1)
  (req (std.nz 10) <|
  letO ([std.conv .u8 (std.add .i64 48 (std.rem v1 10))] : List Int) fun l16 =>
  req (std.room (std.nadd (std.slen (std.ofBytes (len l16) (fun i => gd l16 (0 + i)))) (std.slen v2)) 1) <|
  req (std.nz 10) <|
  some (.inl (std.quo .i64 v1 10, std.scat (std.ofBytes (len l16) (fun i => gd l16 (0 + i))) v2)))
  (some (.inr v2))
/-- laws.markText -/
noncomputable def F_laws_markText (a0 : Int) : Option (ByteArray) :=
  br (std.le a0 0)
  (some (ByteArray.mk #[109, 48]))
  ((whileP (σ := Int × ByteArray) (ρ := (ByteArray)) L_laws_markText_x3 (a0, (ByteArray.mk #[]))).bind fun y4 =>
  letO y4 fun y4k0 =>
  letO y4k0 fun w21 =>
  req (std.room (std.nadd (std.slen (ByteArray.mk #[109])) (std.slen w21)) 1) <|
  some (std.scat (ByteArray.mk #[109]) w21))
theorem run_laws_markText (a0 : Int) (r : ByteArray) (h : F_laws_markText a0 = some r) : Fun Try.prog 108 [.c (.v (.int .i64 a0))] [] (.c (.v (.string r))) [] true := by
  refine Fun.of_wp (oneOf []) tok mixed Try.func108 (by kernel_rfl) rfl Try.ntmps108 rfl trivial (fun _ => ⟨trivial, trivial⟩) ?_
  unfold F_laws_markText at h
  unfold L_laws_markText_x3 at h
  generalize hLEN : @len = LEN at *
  generalize hGD : @gd = GD at *
  generalize hA : std = A at *
  generalize hP : Try.prog = P at *
  cbv
  refine fork (fun b23 => ?_) (fun b23 => ?_)
  · replace h := of_br_t b23 h
    cbv
    injection h with h
    subst h
    refine ⟨(sparse 20 [(2, .c (.v (.string (ByteArray.mk #[109, 48]))))] []), ?_, ?_⟩
    · exact le_sparse rfl ⟨AV.le_refl _, trivial⟩ trivial rfl
    · exact ⟨AV.le_refl _, trivial, rfl⟩
  · replace h := of_br_f b23 h
    cbv
    replace h := of_bind h
    obtain ⟨y4, hr5, hN6⟩ := h
    refine loop_cut hr5 (fun x => (sparse 20 [(0, .c (.v (.int .i64 x.1))), (3, .c (.v (.string x.2)))] [])) ?_ (fun y e s => (fun (w : ByteArray) => e = .exit 0 ∧ s.le (sparse 20 [(3, .c (.v (.string w)))] [])) y) ?_ ?_
    · clear hr5 hN6
      show St.le _ _
      exact le_sparse rfl ⟨AV.le_refl _, AV.le_refl _, trivial⟩ trivial rfl
    · clear hr5 hN6
      intro x z10 h K8 hK9 hY7
      obtain ⟨x0_, x1_⟩ := x
      replace h := of_let h
      obtain ⟨v1, hv1, h⟩ := h
      have hv1 : v1 = x0_ := hv1
      subst hv1
      replace h := of_let h
      obtain ⟨v2, hv2, h⟩ := h
      have hv2 : v2 = x1_ := hv2
      subst hv2
      cbv
      refine fork (fun b20 => ?_) (fun b20 => ?_)
      · replace h := of_br_t b20 h
        cbv
        replace h := of_req h
        obtain ⟨c15, h⟩ := h
        refine ⟨c15, ?_⟩
        replace h := of_let h
        obtain ⟨l16, hl16, h⟩ := h
        have e17 : 1 = LEN l16 := by subst hl16 hLEN; rfl
        refine ⟨_, congrArg (fun n => AV.c (AC.os 768 0 n)) e17, _, row GD (encI .u8) l16, e17, ?_, ?_⟩
        · intro i hi j hj
          rw [← e17] at hi
          subst hl16
          subst hGD
          obtain rfl : i = 0 := (by omega)
          all_goals obtain rfl : j = 0 := by omega
          all_goals rfl
        cbv
        refine ⟨fun _ _ => rfl, ?_⟩
        replace h := of_req h
        obtain ⟨c18, h⟩ := h
        refine ⟨c18, ?_⟩
        replace h := of_req h
        obtain ⟨c19, h⟩ := h
        refine ⟨c19, ?_⟩
        injection h with h
        refine hK9 _ h.symm _ ?_
        exact le_sparse rfl ⟨AV.le_refl _, AV.le_refl _, trivial⟩ trivial rfl
      · replace h := of_br_f b20 h
        cbv
        injection h with h
        refine hY7 _ h.symm _ _ (And.intro rfl ?_) (by intro hh; cases hh)
        exact le_sparse rfl ⟨AV.le_refl _, trivial⟩ trivial rfl
    · clear hr5
      have h := hN6
      clear hN6
      intro e13 s14 q12 hne
      replace h := of_let h
      obtain ⟨y4k0, hyk, h⟩ := h
      have hyk : y4k0 = y4 := hyk
      subst hyk
      obtain ⟨rfl, q12⟩ := q12
      replace h := of_let h
      obtain ⟨w21, hw21, h⟩ := h
      have hw21 : w21 = y4k0 := hw21
      subst hw21
      cbv
      refine ⟨_, q12, ?_⟩
      cbv
      replace h := of_req h
      obtain ⟨c22, h⟩ := h
      refine ⟨c22, ?_⟩
      injection h with h
      subst h
      refine ⟨(sparse 20 [(2, .c (.v (.string (A.scat (ByteArray.mk #[109]) w21))))] []), ?_, ?_⟩
      · exact le_sparse rfl ⟨AV.le_refl _, trivial⟩ trivial rfl
      · exact ⟨AV.le_refl _, trivial, rfl⟩
noncomputable def L_laws_markShapeS_mob_x4 (a0 : List TShape) : (Int × Int × (List TShape)) → Option ((Int × Int × (List TShape)) ⊕ ((Int × (List TShape)))) := fun x4 =>
  letO x4.1 fun v1 =>
  letO x4.2.1 fun v2 =>
  letO x4.2.2 fun v3 =>
  br (std.lt v2 (std.ofN (len a0)))
  (req (std.inR v2 (len a0)) <|
  req (len a0 = len v3) <|
  letO (List.set v3 (std.nadd 0 (std.toN v2)) (TShape.mk v1 (gd v3 (std.nadd 0 (std.toN v2))).fBox)) fun l17 =>
  req (std.inR v2 (len a0)) <|
  req (len a0 = len l17) <|
  letO (List.set l17 (std.nadd 0 (std.toN v2)) (TShape.mk (gd l17 (std.nadd 0 (std.toN v2))).fLayer (TRect.mk (std.add .i64 v1 1) (gd l17 (std.nadd 0 (std.toN v2))).fBox.fY0 (gd l17 (std.nadd 0 (std.toN v2))).fBox.fX1 (gd l17 (std.nadd 0 (std.toN v2))).fBox.fY1))) fun l19 =>
  req (std.inR v2 (len a0)) <|
  req (len a0 = len l19) <|
  letO (List.set l19 (std.nadd 0 (std.toN v2)) (TShape.mk (gd l19 (std.nadd 0 (std.toN v2))).fLayer (TRect.mk (gd l19 (std.nadd 0 (std.toN v2))).fBox.fX0 (std.add .i64 (std.add .i64 v1 1) 1) (gd l19 (std.nadd 0 (std.toN v2))).fBox.fX1 (gd l19 (std.nadd 0 (std.toN v2))).fBox.fY1))) fun l21 =>
  req (std.inR v2 (len a0)) <|
  req (len a0 = len l21) <|
  letO (List.set l21 (std.nadd 0 (std.toN v2)) (TShape.mk (gd l21 (std.nadd 0 (std.toN v2))).fLayer (TRect.mk (gd l21 (std.nadd 0 (std.toN v2))).fBox.fX0 (gd l21 (std.nadd 0 (std.toN v2))).fBox.fY0 (std.add .i64 (std.add .i64 (std.add .i64 v1 1) 1) 1) (gd l21 (std.nadd 0 (std.toN v2))).fBox.fY1))) fun l23 =>
  req (std.inR v2 (len a0)) <|
  req (len a0 = len l23) <|
  letO (List.set l23 (std.nadd 0 (std.toN v2)) (TShape.mk (gd l23 (std.nadd 0 (std.toN v2))).fLayer (TRect.mk (gd l23 (std.nadd 0 (std.toN v2))).fBox.fX0 (gd l23 (std.nadd 0 (std.toN v2))).fBox.fY0 (gd l23 (std.nadd 0 (std.toN v2))).fBox.fX1 (std.add .i64 (std.add .i64 (std.add .i64 (std.add .i64 v1 1) 1) 1) 1)))) fun l25 =>
  some (.inl (std.add .i64 (std.add .i64 (std.add .i64 (std.add .i64 (std.add .i64 v1 1) 1) 1) 1) 1, std.add .i64 v2 1, l25)))
  (some (.inr (v1, v3)))
/-- laws.markShapeS -/
noncomputable def F_laws_markShapeS_mob (a0 : List TShape) (a1 : Int) : Option (Int × (List TShape)) :=
  (whileP (σ := Int × Int × (List TShape)) (ρ := (Int × (List TShape))) (L_laws_markShapeS_mob_x4 a0) (a1, 0, a0)).bind fun y5 =>
  letO y5 fun y5k0 =>
  letO y5k0.1 fun w32 =>
  letO y5k0.2 fun w33 =>
  req (len a0 = len w33) <|
  some (w32, w33)
theorem run_laws_markShapeS_mob (a0 : List TShape) (a1 : Int) (r : Int × (List TShape)) (h : F_laws_markShapeS_mob a0 a1 = some r) : Fun Try.prog 109 [.c (.os 5 0 (len a0)), .c (.v (.int .i64 a1))] [(5, .arr .rw [] (len a0) 5 (row gd (encShape) a0))] (.c (.v (.int .i64 r.1))) [(5, .arr .rw [] (len r.2) 5 (row gd (encShape) r.2))] true := by
  refine Fun.of_wp (oneOf []) tok mixed Try.func109 (by kernel_rfl) rfl Try.ntmps109 rfl ⟨fun i _ j _ k hk => (noref (plain_nil (pl_encShape _ _)) hk).elim, trivial⟩ (fun _ => ⟨trivial, ⟨fun i _ j _ => val_flat (vl_encShape _ _), trivial⟩⟩) ?_
  unfold F_laws_markShapeS_mob at h
  unfold L_laws_markShapeS_mob_x4 at h
  generalize hLEN : @len = LEN at *
  generalize hGD : @gd = GD at *
  generalize hA : std = A at *
  generalize hP : Try.prog = P at *
  cbv
  replace h := of_bind h
  obtain ⟨y5, hr6, hN7⟩ := h
  refine loop_cut hr6 (fun x => (sparse 52 [(0, .c (.os 5 0 (LEN a0))), (1, .c (.v (.int .i64 x.1))), (5, .c (.v (.int .i64 x.2.1)))] [(5, .arr .rw [] (LEN a0) 5 (row GD (encShape) x.2.2))])) ?_ (fun y e s => (fun (w : Int × (List TShape)) => e = .exit 0 ∧ s.le (sparse 52 [(1, .c (.v (.int .i64 w.1)))] [(5, .arr .rw [] (LEN a0) 5 (row GD (encShape) w.2))])) y) ?_ ?_
  · clear hr6 hN7
    show St.le _ _
    exact le_sparse rfl ⟨AV.le_refl _, AV.le_refl _, AV.le_refl _, trivial⟩ ⟨⟨fun hw => hw, fun c hc => (by cases hc), .inl rfl, rfl, rfl, fun i hi j hj => rfl⟩, trivial⟩ rfl
  · clear hr6 hN7
    intro x z11 h K9 hK10 hY8
    obtain ⟨x0_, x1_, x2_⟩ := x
    replace h := of_let h
    obtain ⟨v1, hv1, h⟩ := h
    have hv1 : v1 = x0_ := hv1
    subst hv1
    replace h := of_let h
    obtain ⟨v2, hv2, h⟩ := h
    have hv2 : v2 = x1_ := hv2
    subst hv2
    replace h := of_let h
    obtain ⟨v3, hv3, h⟩ := h
    have hv3 : v3 = x2_ := hv3
    subst hv3
    cbv
    refine fork (fun b31 => ?_) (fun b31 => ?_)
    · replace h := of_br_t b31 h
      cbv
      replace h := of_req h
      obtain ⟨c16, h⟩ := h
      refine ⟨⟨c16, trivial⟩, ?_⟩
      replace h := of_req h
      obtain ⟨c30, h⟩ := h
      replace h := of_let h
      obtain ⟨l17, hl17, h⟩ := h
      refine And.intro (by first | exact (by subst hA; exact idx_lt c16) | (refine And.intro (by subst hA; exact idx_lt c16) ?_; first | trivial | exact ⟨trivial, trivial⟩)) ?_
      refine ⟨_, rfl, _, row GD (encShape) l17, rfl, ?_, ?_⟩
      · subst hGD hLEN hA
        rw [c30] at c16
        refine upd_set hl17 (idx_lt c16) ?_ ?_
        · intro b hb hh
          match b, hb, hh with | 0, _, hh => exact rfl | 1, _, hh => exact (absurd hh (show ¬ (0 ≤ 1 ∧ 1 < 0 + 1) from by decide)) | 2, _, hh => exact (absurd hh (show ¬ (0 ≤ 2 ∧ 2 < 0 + 1) from by decide)) | 3, _, hh => exact (absurd hh (show ¬ (0 ≤ 3 ∧ 3 < 0 + 1) from by decide)) | 4, _, hh => exact (absurd hh (show ¬ (0 ≤ 4 ∧ 4 < 0 + 1) from by decide)) | (b_ + 5), h_, _ => exact absurd h_ (by omega)
        · intro b hb hh
          match b, hb, hh with | 0, _, hh => exact (absurd (show 0 ≤ 0 ∧ 0 < 0 + 1 from by decide) hh) | 1, _, hh => exact rfl | 2, _, hh => exact rfl | 3, _, hh => exact rfl | 4, _, hh => exact rfl | (b_ + 5), h_, _ => exact absurd h_ (by omega)
      cbv
      replace h := of_req h
      obtain ⟨c18, h⟩ := h
      refine ⟨⟨c18, trivial⟩, ?_⟩
      replace h := of_req h
      obtain ⟨c29, h⟩ := h
      replace h := of_let h
      obtain ⟨l19, hl19, h⟩ := h
      refine And.intro (by first | exact (by subst hA; exact idx_lt c18) | (refine And.intro (by subst hA; exact idx_lt c18) ?_; first | trivial | exact ⟨trivial, trivial⟩)) ?_
      refine ⟨_, rfl, _, row GD (encShape) l19, rfl, ?_, ?_⟩
      · subst hGD hLEN hA
        rw [c29] at c18
        refine upd_set hl19 (idx_lt c18) ?_ ?_
        · intro b hb hh
          match b, hb, hh with | 0, _, hh => exact (absurd hh (show ¬ (1 ≤ 0 ∧ 0 < 1 + 1) from by decide)) | 1, _, hh => exact rfl | 2, _, hh => exact (absurd hh (show ¬ (1 ≤ 2 ∧ 2 < 1 + 1) from by decide)) | 3, _, hh => exact (absurd hh (show ¬ (1 ≤ 3 ∧ 3 < 1 + 1) from by decide)) | 4, _, hh => exact (absurd hh (show ¬ (1 ≤ 4 ∧ 4 < 1 + 1) from by decide)) | (b_ + 5), h_, _ => exact absurd h_ (by omega)
        · intro b hb hh
          match b, hb, hh with | 0, _, hh => exact rfl | 1, _, hh => exact (absurd (show 1 ≤ 1 ∧ 1 < 1 + 1 from by decide) hh) | 2, _, hh => exact rfl | 3, _, hh => exact rfl | 4, _, hh => exact rfl | (b_ + 5), h_, _ => exact absurd h_ (by omega)
      cbv
      replace h := of_req h
      obtain ⟨c20, h⟩ := h
      refine ⟨⟨c20, trivial⟩, ?_⟩
      replace h := of_req h
      obtain ⟨c28, h⟩ := h
      replace h := of_let h
      obtain ⟨l21, hl21, h⟩ := h
      refine And.intro (by first | exact (by subst hA; exact idx_lt c20) | (refine And.intro (by subst hA; exact idx_lt c20) ?_; first | trivial | exact ⟨trivial, trivial⟩)) ?_
      refine ⟨_, rfl, _, row GD (encShape) l21, rfl, ?_, ?_⟩
      · subst hGD hLEN hA
        rw [c28] at c20
        refine upd_set hl21 (idx_lt c20) ?_ ?_
        · intro b hb hh
          match b, hb, hh with | 0, _, hh => exact (absurd hh (show ¬ (2 ≤ 0 ∧ 0 < 2 + 1) from by decide)) | 1, _, hh => exact (absurd hh (show ¬ (2 ≤ 1 ∧ 1 < 2 + 1) from by decide)) | 2, _, hh => exact rfl | 3, _, hh => exact (absurd hh (show ¬ (2 ≤ 3 ∧ 3 < 2 + 1) from by decide)) | 4, _, hh => exact (absurd hh (show ¬ (2 ≤ 4 ∧ 4 < 2 + 1) from by decide)) | (b_ + 5), h_, _ => exact absurd h_ (by omega)
        · intro b hb hh
          match b, hb, hh with | 0, _, hh => exact rfl | 1, _, hh => exact rfl | 2, _, hh => exact (absurd (show 2 ≤ 2 ∧ 2 < 2 + 1 from by decide) hh) | 3, _, hh => exact rfl | 4, _, hh => exact rfl | (b_ + 5), h_, _ => exact absurd h_ (by omega)
      cbv
      replace h := of_req h
      obtain ⟨c22, h⟩ := h
      refine ⟨⟨c22, trivial⟩, ?_⟩
      replace h := of_req h
      obtain ⟨c27, h⟩ := h
      replace h := of_let h
      obtain ⟨l23, hl23, h⟩ := h
      refine And.intro (by first | exact (by subst hA; exact idx_lt c22) | (refine And.intro (by subst hA; exact idx_lt c22) ?_; first | trivial | exact ⟨trivial, trivial⟩)) ?_
      refine ⟨_, rfl, _, row GD (encShape) l23, rfl, ?_, ?_⟩
      · subst hGD hLEN hA
        rw [c27] at c22
        refine upd_set hl23 (idx_lt c22) ?_ ?_
        · intro b hb hh
          match b, hb, hh with | 0, _, hh => exact (absurd hh (show ¬ (3 ≤ 0 ∧ 0 < 3 + 1) from by decide)) | 1, _, hh => exact (absurd hh (show ¬ (3 ≤ 1 ∧ 1 < 3 + 1) from by decide)) | 2, _, hh => exact (absurd hh (show ¬ (3 ≤ 2 ∧ 2 < 3 + 1) from by decide)) | 3, _, hh => exact rfl | 4, _, hh => exact (absurd hh (show ¬ (3 ≤ 4 ∧ 4 < 3 + 1) from by decide)) | (b_ + 5), h_, _ => exact absurd h_ (by omega)
        · intro b hb hh
          match b, hb, hh with | 0, _, hh => exact rfl | 1, _, hh => exact rfl | 2, _, hh => exact rfl | 3, _, hh => exact (absurd (show 3 ≤ 3 ∧ 3 < 3 + 1 from by decide) hh) | 4, _, hh => exact rfl | (b_ + 5), h_, _ => exact absurd h_ (by omega)
      cbv
      replace h := of_req h
      obtain ⟨c24, h⟩ := h
      refine ⟨⟨c24, trivial⟩, ?_⟩
      replace h := of_req h
      obtain ⟨c26, h⟩ := h
      replace h := of_let h
      obtain ⟨l25, hl25, h⟩ := h
      refine And.intro (by first | exact (by subst hA; exact idx_lt c24) | (refine And.intro (by subst hA; exact idx_lt c24) ?_; first | trivial | exact ⟨trivial, trivial⟩)) ?_
      refine ⟨_, rfl, _, row GD (encShape) l25, rfl, ?_, ?_⟩
      · subst hGD hLEN hA
        rw [c26] at c24
        refine upd_set hl25 (idx_lt c24) ?_ ?_
        · intro b hb hh
          match b, hb, hh with | 0, _, hh => exact (absurd hh (show ¬ (4 ≤ 0 ∧ 0 < 4 + 1) from by decide)) | 1, _, hh => exact (absurd hh (show ¬ (4 ≤ 1 ∧ 1 < 4 + 1) from by decide)) | 2, _, hh => exact (absurd hh (show ¬ (4 ≤ 2 ∧ 2 < 4 + 1) from by decide)) | 3, _, hh => exact (absurd hh (show ¬ (4 ≤ 3 ∧ 3 < 4 + 1) from by decide)) | 4, _, hh => exact rfl | (b_ + 5), h_, _ => exact absurd h_ (by omega)
        · intro b hb hh
          match b, hb, hh with | 0, _, hh => exact rfl | 1, _, hh => exact rfl | 2, _, hh => exact rfl | 3, _, hh => exact rfl | 4, _, hh => exact (absurd (show 4 ≤ 4 ∧ 4 < 4 + 1 from by decide) hh) | (b_ + 5), h_, _ => exact absurd h_ (by omega)
      cbv
      injection h with h
      refine hK10 _ h.symm _ ?_
      exact le_sparse rfl ⟨AV.le_refl _, AV.le_refl _, AV.le_refl _, trivial⟩ ⟨⟨fun hw => hw, fun c hc => (by cases hc), .inl rfl, rfl, rfl, fun i hi j hj => rfl⟩, trivial⟩ rfl
    · replace h := of_br_f b31 h
      cbv
      injection h with h
      refine hY8 _ h.symm _ _ (And.intro rfl ?_) (by intro hh; cases hh)
      exact le_sparse rfl ⟨AV.le_refl _, trivial⟩ ⟨⟨fun hw => hw, fun c hc => (by cases hc), .inl rfl, rfl, rfl, fun i hi j hj => rfl⟩, trivial⟩ rfl
  · clear hr6
    have h := hN7
    clear hN7
    intro e14 s15 q13 hne
    replace h := of_let h
    obtain ⟨y5k0, hyk, h⟩ := h
    have hyk : y5k0 = y5 := hyk
    subst hyk
    obtain ⟨rfl, q13⟩ := q13
    obtain ⟨y5k0_0, y5k0_1⟩ := y5k0
    replace h := of_let h
    obtain ⟨w32, hw32, h⟩ := h
    have hw32 : w32 = y5k0_0 := hw32
    subst hw32
    replace h := of_let h
    obtain ⟨w33, hw33, h⟩ := h
    have hw33 : w33 = y5k0_1 := hw33
    subst hw33
    cbv
    refine ⟨_, q13, ?_⟩
    cbv
    replace h := of_req h
    obtain ⟨c34, h⟩ := h
    injection h with h
    subst h
    refine ⟨(sparse 52 [(4, .c (.v (.int .i64 w32)))] [(5, .arr .rw [] (LEN w33) 5 (row GD (encShape) w33))]), ?_, ?_⟩
    · rw [c34]
      exact le_sparse rfl ⟨AV.le_refl _, trivial⟩ ⟨⟨fun hw => hw, fun c hc => (by cases hc), .inl rfl, rfl, rfl, fun i hi j hj => rfl⟩, trivial⟩ rfl
    · exact ⟨AV.le_refl _, ⟨⟨fun hw => hw, fun c hc => (by cases hc), .inl rfl, rfl, rfl, fun i hi j hj => rfl⟩, trivial⟩, rfl⟩

noncomputable def L_laws_markLabelS_mob_x4 (a0 : List TLabel) : (Int × Int × (List TLabel)) → Option ((Int × Int × (List TLabel)) ⊕ ((Int × (List TLabel)))) := fun x4 =>
  letO x4.1 fun v1 =>
  letO x4.2.1 fun v2 =>
  letO x4.2.2 fun v3 =>
  br (std.lt v2 (std.ofN (len a0)))
  (req (std.inR v2 (len a0)) <|
  req (len a0 = len v3) <|
  letO (List.set v3 (std.nadd 0 (std.toN v2)) (TLabel.mk v1 (gd v3 (std.nadd 0 (std.toN v2))).fAt (gd v3 (std.nadd 0 (std.toN v2))).fName)) fun l17 =>
  req (std.inR v2 (len a0)) <|
  req (len a0 = len l17) <|
  letO (List.set l17 (std.nadd 0 (std.toN v2)) (TLabel.mk (gd l17 (std.nadd 0 (std.toN v2))).fLayer (TPoint.mk (std.add .i64 v1 1) (gd l17 (std.nadd 0 (std.toN v2))).fAt.fY) (gd l17 (std.nadd 0 (std.toN v2))).fName)) fun l19 =>
  req (std.inR v2 (len a0)) <|
  req (len a0 = len l19) <|
  letO (List.set l19 (std.nadd 0 (std.toN v2)) (TLabel.mk (gd l19 (std.nadd 0 (std.toN v2))).fLayer (TPoint.mk (gd l19 (std.nadd 0 (std.toN v2))).fAt.fX (std.add .i64 (std.add .i64 v1 1) 1)) (gd l19 (std.nadd 0 (std.toN v2))).fName)) fun l21 =>
  (F_laws_markText (std.add .i64 (std.add .i64 (std.add .i64 v1 1) 1) 1)).bind fun y22 =>
  req (std.inR v2 (len a0)) <|
  req (len a0 = len l21) <|
  letO (List.set l21 (std.nadd 0 (std.toN v2)) (TLabel.mk (gd l21 (std.nadd 0 (std.toN v2))).fLayer (gd l21 (std.nadd 0 (std.toN v2))).fAt y22)) fun l25 =>
  some (.inl (std.add .i64 (std.add .i64 (std.add .i64 (std.add .i64 v1 1) 1) 1) 1, std.add .i64 v2 1, l25)))
  (some (.inr (v1, v3)))
/-- laws.markLabelS -/
noncomputable def F_laws_markLabelS_mob (a0 : List TLabel) (a1 : Int) : Option (Int × (List TLabel)) :=
  (whileP (σ := Int × Int × (List TLabel)) (ρ := (Int × (List TLabel))) (L_laws_markLabelS_mob_x4 a0) (a1, 0, a0)).bind fun y5 =>
  letO y5 fun y5k0 =>
  letO y5k0.1 fun w31 =>
  letO y5k0.2 fun w32 =>
  req (len a0 = len w32) <|
  some (w31, w32)
theorem run_laws_markLabelS_mob (a0 : List TLabel) (a1 : Int) (r : Int × (List TLabel)) (h : F_laws_markLabelS_mob a0 a1 = some r) : Fun Try.prog 110 [.c (.os 5 0 (len a0)), .c (.v (.int .i64 a1))] [(5, .arr .rw [] (len a0) 4 (row gd (encLabel) a0))] (.c (.v (.int .i64 r.1))) [(5, .arr .rw [] (len r.2) 4 (row gd (encLabel) r.2))] true := by
  refine Fun.of_wp (oneOf []) tok mixed Try.func110 (by kernel_rfl) rfl Try.ntmps110 rfl ⟨fun i _ j _ k hk => (noref (plain_nil (pl_encLabel _ _)) hk).elim, trivial⟩ (fun _ => ⟨trivial, ⟨fun i _ j _ => val_flat (vl_encLabel _ _), trivial⟩⟩) ?_
  unfold F_laws_markLabelS_mob at h
  unfold L_laws_markLabelS_mob_x4 at h
  have hf_laws_markText := @run_laws_markText
  generalize hLEN : @len = LEN at *
  generalize hGD : @gd = GD at *
  generalize hA : std = A at *
  generalize hP : Try.prog = P at *
  cbv
  replace h := of_bind h
  obtain ⟨y5, hr6, hN7⟩ := h
  refine loop_cut hr6 (fun x => (sparse 44 [(0, .c (.os 5 0 (LEN a0))), (1, .c (.v (.int .i64 x.1))), (5, .c (.v (.int .i64 x.2.1)))] [(5, .arr .rw [] (LEN a0) 4 (row GD (encLabel) x.2.2))])) ?_ (fun y e s => (fun (w : Int × (List TLabel)) => e = .exit 0 ∧ s.le (sparse 44 [(1, .c (.v (.int .i64 w.1)))] [(5, .arr .rw [] (LEN a0) 4 (row GD (encLabel) w.2))])) y) ?_ ?_
  · clear hr6 hN7
    show St.le _ _
    exact le_sparse rfl ⟨AV.le_refl _, AV.le_refl _, AV.le_refl _, trivial⟩ ⟨⟨fun hw => hw, fun c hc => (by cases hc), .inl rfl, rfl, rfl, fun i hi j hj => rfl⟩, trivial⟩ rfl
  · clear hr6 hN7
    intro x z11 h K9 hK10 hY8
    obtain ⟨x0_, x1_, x2_⟩ := x
    replace h := of_let h
    obtain ⟨v1, hv1, h⟩ := h
    have hv1 : v1 = x0_ := hv1
    subst hv1
    replace h := of_let h
    obtain ⟨v2, hv2, h⟩ := h
    have hv2 : v2 = x1_ := hv2
    subst hv2
    replace h := of_let h
    obtain ⟨v3, hv3, h⟩ := h
    have hv3 : v3 = x2_ := hv3
    subst hv3
    cbv
    refine fork (fun b30 => ?_) (fun b30 => ?_)
    · replace h := of_br_t b30 h
      cbv
      replace h := of_req h
      obtain ⟨c16, h⟩ := h
      refine ⟨⟨c16, trivial⟩, ?_⟩
      replace h := of_req h
      obtain ⟨c29, h⟩ := h
      replace h := of_let h
      obtain ⟨l17, hl17, h⟩ := h
      refine And.intro (by first | exact (by subst hA; exact idx_lt c16) | (refine And.intro (by subst hA; exact idx_lt c16) ?_; first | trivial | exact ⟨trivial, trivial⟩)) ?_
      refine ⟨_, rfl, _, row GD (encLabel) l17, rfl, ?_, ?_⟩
      · subst hGD hLEN hA
        rw [c29] at c16
        refine upd_set hl17 (idx_lt c16) ?_ ?_
        · intro b hb hh
          match b, hb, hh with | 0, _, hh => exact rfl | 1, _, hh => exact (absurd hh (show ¬ (0 ≤ 1 ∧ 1 < 0 + 1) from by decide)) | 2, _, hh => exact (absurd hh (show ¬ (0 ≤ 2 ∧ 2 < 0 + 1) from by decide)) | 3, _, hh => exact (absurd hh (show ¬ (0 ≤ 3 ∧ 3 < 0 + 1) from by decide)) | (b_ + 4), h_, _ => exact absurd h_ (by omega)
        · intro b hb hh
          match b, hb, hh with | 0, _, hh => exact (absurd (show 0 ≤ 0 ∧ 0 < 0 + 1 from by decide) hh) | 1, _, hh => exact rfl | 2, _, hh => exact rfl | 3, _, hh => exact rfl | (b_ + 4), h_, _ => exact absurd h_ (by omega)
      cbv
      replace h := of_req h
      obtain ⟨c18, h⟩ := h
      refine ⟨⟨c18, trivial⟩, ?_⟩
      replace h := of_req h
      obtain ⟨c28, h⟩ := h
      replace h := of_let h
      obtain ⟨l19, hl19, h⟩ := h
      refine And.intro (by first | exact (by subst hA; exact idx_lt c18) | (refine And.intro (by subst hA; exact idx_lt c18) ?_; first | trivial | exact ⟨trivial, trivial⟩)) ?_
      refine ⟨_, rfl, _, row GD (encLabel) l19, rfl, ?_, ?_⟩
      · subst hGD hLEN hA
        rw [c28] at c18
        refine upd_set hl19 (idx_lt c18) ?_ ?_
        · intro b hb hh
          match b, hb, hh with | 0, _, hh => exact (absurd hh (show ¬ (1 ≤ 0 ∧ 0 < 1 + 1) from by decide)) | 1, _, hh => exact rfl | 2, _, hh => exact (absurd hh (show ¬ (1 ≤ 2 ∧ 2 < 1 + 1) from by decide)) | 3, _, hh => exact (absurd hh (show ¬ (1 ≤ 3 ∧ 3 < 1 + 1) from by decide)) | (b_ + 4), h_, _ => exact absurd h_ (by omega)
        · intro b hb hh
          match b, hb, hh with | 0, _, hh => exact rfl | 1, _, hh => exact (absurd (show 1 ≤ 1 ∧ 1 < 1 + 1 from by decide) hh) | 2, _, hh => exact rfl | 3, _, hh => exact rfl | (b_ + 4), h_, _ => exact absurd h_ (by omega)
      cbv
      replace h := of_req h
      obtain ⟨c20, h⟩ := h
      refine ⟨⟨c20, trivial⟩, ?_⟩
      replace h := of_req h
      obtain ⟨c27, h⟩ := h
      replace h := of_let h
      obtain ⟨l21, hl21, h⟩ := h
      refine And.intro (by first | exact (by subst hA; exact idx_lt c20) | (refine And.intro (by subst hA; exact idx_lt c20) ?_; first | trivial | exact ⟨trivial, trivial⟩)) ?_
      refine ⟨_, rfl, _, row GD (encLabel) l21, rfl, ?_, ?_⟩
      · subst hGD hLEN hA
        rw [c27] at c20
        refine upd_set hl21 (idx_lt c20) ?_ ?_
        · intro b hb hh
          match b, hb, hh with | 0, _, hh => exact (absurd hh (show ¬ (2 ≤ 0 ∧ 0 < 2 + 1) from by decide)) | 1, _, hh => exact (absurd hh (show ¬ (2 ≤ 1 ∧ 1 < 2 + 1) from by decide)) | 2, _, hh => exact rfl | 3, _, hh => exact (absurd hh (show ¬ (2 ≤ 3 ∧ 3 < 2 + 1) from by decide)) | (b_ + 4), h_, _ => exact absurd h_ (by omega)
        · intro b hb hh
          match b, hb, hh with | 0, _, hh => exact rfl | 1, _, hh => exact rfl | 2, _, hh => exact (absurd (show 2 ≤ 2 ∧ 2 < 2 + 1 from by decide) hh) | 3, _, hh => exact rfl | (b_ + 4), h_, _ => exact absurd h_ (by omega)
      cbv
      replace h := of_bind h
      obtain ⟨y22, hy23, h⟩ := h
      refine ⟨{ args := [.c (.v (.int .i64 (A.add .i64 (A.add .i64 (A.add .i64 v1 1) 1) 1)))], o0 := [], r := .c (.v (.string y22)), o1 := [], fl := true, σ := [], τ := [] }, hf_laws_markText _ _ hy23, ⟨les_cons (AV.le_refl _) (les_nil), trivial, rfl, rfl, rfl, rfl, trivial, rfl⟩, ?_⟩
      cbv
      replace h := of_req h
      obtain ⟨c24, h⟩ := h
      refine ⟨⟨c24, trivial⟩, ?_⟩
      replace h := of_req h
      obtain ⟨c26, h⟩ := h
      replace h := of_let h
      obtain ⟨l25, hl25, h⟩ := h
      refine And.intro (by first | exact (by subst hA; exact idx_lt c24) | (refine And.intro (by subst hA; exact idx_lt c24) ?_; first | trivial | exact ⟨trivial, trivial⟩)) ?_
      refine ⟨_, rfl, _, row GD (encLabel) l25, rfl, ?_, ?_⟩
      · subst hGD hLEN hA
        rw [c26] at c24
        refine upd_set hl25 (idx_lt c24) ?_ ?_
        · intro b hb hh
          match b, hb, hh with | 0, _, hh => exact (absurd hh (show ¬ (3 ≤ 0 ∧ 0 < 3 + 1) from by decide)) | 1, _, hh => exact (absurd hh (show ¬ (3 ≤ 1 ∧ 1 < 3 + 1) from by decide)) | 2, _, hh => exact (absurd hh (show ¬ (3 ≤ 2 ∧ 2 < 3 + 1) from by decide)) | 3, _, hh => exact rfl | (b_ + 4), h_, _ => exact absurd h_ (by omega)
        · intro b hb hh
          match b, hb, hh with | 0, _, hh => exact rfl | 1, _, hh => exact rfl | 2, _, hh => exact rfl | 3, _, hh => exact (absurd (show 3 ≤ 3 ∧ 3 < 3 + 1 from by decide) hh) | (b_ + 4), h_, _ => exact absurd h_ (by omega)
      cbv
      injection h with h
      refine hK10 _ h.symm _ ?_
      exact le_sparse rfl ⟨AV.le_refl _, AV.le_refl _, AV.le_refl _, trivial⟩ ⟨⟨fun hw => hw, fun c hc => (by cases hc), .inl rfl, rfl, rfl, fun i hi j hj => rfl⟩, trivial⟩ rfl
    · replace h := of_br_f b30 h
      cbv
      injection h with h
      refine hY8 _ h.symm _ _ (And.intro rfl ?_) (by intro hh; cases hh)
      exact le_sparse rfl ⟨AV.le_refl _, trivial⟩ ⟨⟨fun hw => hw, fun c hc => (by cases hc), .inl rfl, rfl, rfl, fun i hi j hj => rfl⟩, trivial⟩ rfl
  · clear hr6
    have h := hN7
    clear hN7
    intro e14 s15 q13 hne
    replace h := of_let h
    obtain ⟨y5k0, hyk, h⟩ := h
    have hyk : y5k0 = y5 := hyk
    subst hyk
    obtain ⟨rfl, q13⟩ := q13
    obtain ⟨y5k0_0, y5k0_1⟩ := y5k0
    replace h := of_let h
    obtain ⟨w31, hw31, h⟩ := h
    have hw31 : w31 = y5k0_0 := hw31
    subst hw31
    replace h := of_let h
    obtain ⟨w32, hw32, h⟩ := h
    have hw32 : w32 = y5k0_1 := hw32
    subst hw32
    cbv
    refine ⟨_, q13, ?_⟩
    cbv
    replace h := of_req h
    obtain ⟨c33, h⟩ := h
    injection h with h
    subst h
    refine ⟨(sparse 44 [(4, .c (.v (.int .i64 w31)))] [(5, .arr .rw [] (LEN w32) 4 (row GD (encLabel) w32))]), ?_, ?_⟩
    · rw [c33]
      exact le_sparse rfl ⟨AV.le_refl _, trivial⟩ ⟨⟨fun hw => hw, fun c hc => (by cases hc), .inl rfl, rfl, rfl, fun i hi j hj => rfl⟩, trivial⟩ rfl
    · exact ⟨AV.le_refl _, ⟨⟨fun hw => hw, fun c hc => (by cases hc), .inl rfl, rfl, rfl, fun i hi j hj => rfl⟩, trivial⟩, rfl⟩

noncomputable def L_laws_markInstanceS_mob_x4 (a0 : List TInstance) : (Int × Int × (List TInstance)) → Option ((Int × Int × (List TInstance)) ⊕ ((Int × (List TInstance)))) := fun x4 =>
  letO x4.1 fun v1 =>
  letO x4.2.1 fun v2 =>
  letO x4.2.2 fun v3 =>
  br (std.lt v2 (std.ofN (len a0)))
  (req (std.inR v2 (len a0)) <|
  req (len a0 = len v3) <|
  letO (List.set v3 (std.nadd 0 (std.toN v2)) (TInstance.mk v1 (gd v3 (std.nadd 0 (std.toN v2))).fPlace (gd v3 (std.nadd 0 (std.toN v2))).fColumns (gd v3 (std.nadd 0 (std.toN v2))).fRows (gd v3 (std.nadd 0 (std.toN v2))).fStepX (gd v3 (std.nadd 0 (std.toN v2))).fStepY)) fun l17 =>
  req (std.inR v2 (len a0)) <|
  req (len a0 = len l17) <|
  letO (List.set l17 (std.nadd 0 (std.toN v2)) (TInstance.mk (gd l17 (std.nadd 0 (std.toN v2))).fCell (TTransform.mk (std.add .i64 v1 1) (gd l17 (std.nadd 0 (std.toN v2))).fPlace.fX (gd l17 (std.nadd 0 (std.toN v2))).fPlace.fY) (gd l17 (std.nadd 0 (std.toN v2))).fColumns (gd l17 (std.nadd 0 (std.toN v2))).fRows (gd l17 (std.nadd 0 (std.toN v2))).fStepX (gd l17 (std.nadd 0 (std.toN v2))).fStepY)) fun l19 =>
  req (std.inR v2 (len a0)) <|
  req (len a0 = len l19) <|
  letO (List.set l19 (std.nadd 0 (std.toN v2)) (TInstance.mk (gd l19 (std.nadd 0 (std.toN v2))).fCell (TTransform.mk (gd l19 (std.nadd 0 (std.toN v2))).fPlace.fOrientation (std.add .i64 (std.add .i64 v1 1) 1) (gd l19 (std.nadd 0 (std.toN v2))).fPlace.fY) (gd l19 (std.nadd 0 (std.toN v2))).fColumns (gd l19 (std.nadd 0 (std.toN v2))).fRows (gd l19 (std.nadd 0 (std.toN v2))).fStepX (gd l19 (std.nadd 0 (std.toN v2))).fStepY)) fun l21 =>
  req (std.inR v2 (len a0)) <|
  req (len a0 = len l21) <|
  letO (List.set l21 (std.nadd 0 (std.toN v2)) (TInstance.mk (gd l21 (std.nadd 0 (std.toN v2))).fCell (TTransform.mk (gd l21 (std.nadd 0 (std.toN v2))).fPlace.fOrientation (gd l21 (std.nadd 0 (std.toN v2))).fPlace.fX (std.add .i64 (std.add .i64 (std.add .i64 v1 1) 1) 1)) (gd l21 (std.nadd 0 (std.toN v2))).fColumns (gd l21 (std.nadd 0 (std.toN v2))).fRows (gd l21 (std.nadd 0 (std.toN v2))).fStepX (gd l21 (std.nadd 0 (std.toN v2))).fStepY)) fun l23 =>
  req (std.inR v2 (len a0)) <|
  req (len a0 = len l23) <|
  letO (List.set l23 (std.nadd 0 (std.toN v2)) (TInstance.mk (gd l23 (std.nadd 0 (std.toN v2))).fCell (gd l23 (std.nadd 0 (std.toN v2))).fPlace (std.add .i64 (std.add .i64 (std.add .i64 (std.add .i64 v1 1) 1) 1) 1) (gd l23 (std.nadd 0 (std.toN v2))).fRows (gd l23 (std.nadd 0 (std.toN v2))).fStepX (gd l23 (std.nadd 0 (std.toN v2))).fStepY)) fun l25 =>
  req (std.inR v2 (len a0)) <|
  req (len a0 = len l25) <|
  letO (List.set l25 (std.nadd 0 (std.toN v2)) (TInstance.mk (gd l25 (std.nadd 0 (std.toN v2))).fCell (gd l25 (std.nadd 0 (std.toN v2))).fPlace (gd l25 (std.nadd 0 (std.toN v2))).fColumns (std.add .i64 (std.add .i64 (std.add .i64 (std.add .i64 (std.add .i64 v1 1) 1) 1) 1) 1) (gd l25 (std.nadd 0 (std.toN v2))).fStepX (gd l25 (std.nadd 0 (std.toN v2))).fStepY)) fun l27 =>
  req (std.inR v2 (len a0)) <|
  req (len a0 = len l27) <|
  letO (List.set l27 (std.nadd 0 (std.toN v2)) (TInstance.mk (gd l27 (std.nadd 0 (std.toN v2))).fCell (gd l27 (std.nadd 0 (std.toN v2))).fPlace (gd l27 (std.nadd 0 (std.toN v2))).fColumns (gd l27 (std.nadd 0 (std.toN v2))).fRows (std.add .i64 (std.add .i64 (std.add .i64 (std.add .i64 (std.add .i64 (std.add .i64 v1 1) 1) 1) 1) 1) 1) (gd l27 (std.nadd 0 (std.toN v2))).fStepY)) fun l29 =>
  req (std.inR v2 (len a0)) <|
  req (len a0 = len l29) <|
  letO (List.set l29 (std.nadd 0 (std.toN v2)) (TInstance.mk (gd l29 (std.nadd 0 (std.toN v2))).fCell (gd l29 (std.nadd 0 (std.toN v2))).fPlace (gd l29 (std.nadd 0 (std.toN v2))).fColumns (gd l29 (std.nadd 0 (std.toN v2))).fRows (gd l29 (std.nadd 0 (std.toN v2))).fStepX (std.add .i64 (std.add .i64 (std.add .i64 (std.add .i64 (std.add .i64 (std.add .i64 (std.add .i64 v1 1) 1) 1) 1) 1) 1) 1))) fun l31 =>
  some (.inl (std.add .i64 (std.add .i64 (std.add .i64 (std.add .i64 (std.add .i64 (std.add .i64 (std.add .i64 (std.add .i64 v1 1) 1) 1) 1) 1) 1) 1) 1, std.add .i64 v2 1, l31)))
  (some (.inr (v1, v3)))
/-- laws.markInstanceS -/
noncomputable def F_laws_markInstanceS_mob (a0 : List TInstance) (a1 : Int) : Option (Int × (List TInstance)) :=
  (whileP (σ := Int × Int × (List TInstance)) (ρ := (Int × (List TInstance))) (L_laws_markInstanceS_mob_x4 a0) (a1, 0, a0)).bind fun y5 =>
  letO y5 fun y5k0 =>
  letO y5k0.1 fun w41 =>
  letO y5k0.2 fun w42 =>
  req (len a0 = len w42) <|
  some (w41, w42)
theorem run_laws_markInstanceS_mob (a0 : List TInstance) (a1 : Int) (r : Int × (List TInstance)) (h : F_laws_markInstanceS_mob a0 a1 = some r) : Fun Try.prog 111 [.c (.os 5 0 (len a0)), .c (.v (.int .i64 a1))] [(5, .arr .rw [] (len a0) 8 (row gd (encInstance) a0))] (.c (.v (.int .i64 r.1))) [(5, .arr .rw [] (len r.2) 8 (row gd (encInstance) r.2))] true := by
  refine Fun.of_wp (oneOf []) tok mixed Try.func111 (by kernel_rfl) rfl Try.ntmps111 rfl ⟨fun i _ j _ k hk => (noref (plain_nil (pl_encInstance _ _)) hk).elim, trivial⟩ (fun _ => ⟨trivial, ⟨fun i _ j _ => val_flat (vl_encInstance _ _), trivial⟩⟩) ?_
  unfold F_laws_markInstanceS_mob at h
  unfold L_laws_markInstanceS_mob_x4 at h
  generalize hLEN : @len = LEN at *
  generalize hGD : @gd = GD at *
  generalize hA : std = A at *
  generalize hP : Try.prog = P at *
  cbv
  replace h := of_bind h
  obtain ⟨y5, hr6, hN7⟩ := h
  refine loop_cut hr6 (fun x => (sparse 72 [(0, .c (.os 5 0 (LEN a0))), (1, .c (.v (.int .i64 x.1))), (5, .c (.v (.int .i64 x.2.1)))] [(5, .arr .rw [] (LEN a0) 8 (row GD (encInstance) x.2.2))])) ?_ (fun y e s => (fun (w : Int × (List TInstance)) => e = .exit 0 ∧ s.le (sparse 72 [(1, .c (.v (.int .i64 w.1)))] [(5, .arr .rw [] (LEN a0) 8 (row GD (encInstance) w.2))])) y) ?_ ?_
  · clear hr6 hN7
    show St.le _ _
    exact le_sparse rfl ⟨AV.le_refl _, AV.le_refl _, AV.le_refl _, trivial⟩ ⟨⟨fun hw => hw, fun c hc => (by cases hc), .inl rfl, rfl, rfl, fun i hi j hj => rfl⟩, trivial⟩ rfl
  · clear hr6 hN7
    intro x z11 h K9 hK10 hY8
    obtain ⟨x0_, x1_, x2_⟩ := x
    replace h := of_let h
    obtain ⟨v1, hv1, h⟩ := h
    have hv1 : v1 = x0_ := hv1
    subst hv1
    replace h := of_let h
    obtain ⟨v2, hv2, h⟩ := h
    have hv2 : v2 = x1_ := hv2
    subst hv2
    replace h := of_let h
    obtain ⟨v3, hv3, h⟩ := h
    have hv3 : v3 = x2_ := hv3
    subst hv3
    cbv
    refine fork (fun b40 => ?_) (fun b40 => ?_)
    · replace h := of_br_t b40 h
      cbv
      replace h := of_req h
      obtain ⟨c16, h⟩ := h
      refine ⟨⟨c16, trivial⟩, ?_⟩
      replace h := of_req h
      obtain ⟨c39, h⟩ := h
      replace h := of_let h
      obtain ⟨l17, hl17, h⟩ := h
      refine And.intro (by first | exact (by subst hA; exact idx_lt c16) | (refine And.intro (by subst hA; exact idx_lt c16) ?_; first | trivial | exact ⟨trivial, trivial⟩)) ?_
      refine ⟨_, rfl, _, row GD (encInstance) l17, rfl, ?_, ?_⟩
      · subst hGD hLEN hA
        rw [c39] at c16
        refine upd_set hl17 (idx_lt c16) ?_ ?_
        · intro b hb hh
          match b, hb, hh with | 0, _, hh => exact rfl | 1, _, hh => exact (absurd hh (show ¬ (0 ≤ 1 ∧ 1 < 0 + 1) from by decide)) | 2, _, hh => exact (absurd hh (show ¬ (0 ≤ 2 ∧ 2 < 0 + 1) from by decide)) | 3, _, hh => exact (absurd hh (show ¬ (0 ≤ 3 ∧ 3 < 0 + 1) from by decide)) | 4, _, hh => exact (absurd hh (show ¬ (0 ≤ 4 ∧ 4 < 0 + 1) from by decide)) | 5, _, hh => exact (absurd hh (show ¬ (0 ≤ 5 ∧ 5 < 0 + 1) from by decide)) | 6, _, hh => exact (absurd hh (show ¬ (0 ≤ 6 ∧ 6 < 0 + 1) from by decide)) | 7, _, hh => exact (absurd hh (show ¬ (0 ≤ 7 ∧ 7 < 0 + 1) from by decide)) | (b_ + 8), h_, _ => exact absurd h_ (by omega)
        · intro b hb hh
          match b, hb, hh with | 0, _, hh => exact (absurd (show 0 ≤ 0 ∧ 0 < 0 + 1 from by decide) hh) | 1, _, hh => exact rfl | 2, _, hh => exact rfl | 3, _, hh => exact rfl | 4, _, hh => exact rfl | 5, _, hh => exact rfl | 6, _, hh => exact rfl | 7, _, hh => exact rfl | (b_ + 8), h_, _ => exact absurd h_ (by omega)
      cbv
      replace h := of_req h
      obtain ⟨c18, h⟩ := h
      refine ⟨⟨c18, trivial⟩, ?_⟩
      replace h := of_req h
      obtain ⟨c38, h⟩ := h
      replace h := of_let h
      obtain ⟨l19, hl19, h⟩ := h
      refine And.intro (by first | exact (by subst hA; exact idx_lt c18) | (refine And.intro (by subst hA; exact idx_lt c18) ?_; first | trivial | exact ⟨trivial, trivial⟩)) ?_
      refine ⟨_, rfl, _, row GD (encInstance) l19, rfl, ?_, ?_⟩
      · subst hGD hLEN hA
        rw [c38] at c18
        refine upd_set hl19 (idx_lt c18) ?_ ?_
        · intro b hb hh
          match b, hb, hh with | 0, _, hh => exact (absurd hh (show ¬ (1 ≤ 0 ∧ 0 < 1 + 1) from by decide)) | 1, _, hh => exact rfl | 2, _, hh => exact (absurd hh (show ¬ (1 ≤ 2 ∧ 2 < 1 + 1) from by decide)) | 3, _, hh => exact (absurd hh (show ¬ (1 ≤ 3 ∧ 3 < 1 + 1) from by decide)) | 4, _, hh => exact (absurd hh (show ¬ (1 ≤ 4 ∧ 4 < 1 + 1) from by decide)) | 5, _, hh => exact (absurd hh (show ¬ (1 ≤ 5 ∧ 5 < 1 + 1) from by decide)) | 6, _, hh => exact (absurd hh (show ¬ (1 ≤ 6 ∧ 6 < 1 + 1) from by decide)) | 7, _, hh => exact (absurd hh (show ¬ (1 ≤ 7 ∧ 7 < 1 + 1) from by decide)) | (b_ + 8), h_, _ => exact absurd h_ (by omega)
        · intro b hb hh
          match b, hb, hh with | 0, _, hh => exact rfl | 1, _, hh => exact (absurd (show 1 ≤ 1 ∧ 1 < 1 + 1 from by decide) hh) | 2, _, hh => exact rfl | 3, _, hh => exact rfl | 4, _, hh => exact rfl | 5, _, hh => exact rfl | 6, _, hh => exact rfl | 7, _, hh => exact rfl | (b_ + 8), h_, _ => exact absurd h_ (by omega)
      cbv
      replace h := of_req h
      obtain ⟨c20, h⟩ := h
      refine ⟨⟨c20, trivial⟩, ?_⟩
      replace h := of_req h
      obtain ⟨c37, h⟩ := h
      replace h := of_let h
      obtain ⟨l21, hl21, h⟩ := h
      refine And.intro (by first | exact (by subst hA; exact idx_lt c20) | (refine And.intro (by subst hA; exact idx_lt c20) ?_; first | trivial | exact ⟨trivial, trivial⟩)) ?_
      refine ⟨_, rfl, _, row GD (encInstance) l21, rfl, ?_, ?_⟩
      · subst hGD hLEN hA
        rw [c37] at c20
        refine upd_set hl21 (idx_lt c20) ?_ ?_
        · intro b hb hh
          match b, hb, hh with | 0, _, hh => exact (absurd hh (show ¬ (2 ≤ 0 ∧ 0 < 2 + 1) from by decide)) | 1, _, hh => exact (absurd hh (show ¬ (2 ≤ 1 ∧ 1 < 2 + 1) from by decide)) | 2, _, hh => exact rfl | 3, _, hh => exact (absurd hh (show ¬ (2 ≤ 3 ∧ 3 < 2 + 1) from by decide)) | 4, _, hh => exact (absurd hh (show ¬ (2 ≤ 4 ∧ 4 < 2 + 1) from by decide)) | 5, _, hh => exact (absurd hh (show ¬ (2 ≤ 5 ∧ 5 < 2 + 1) from by decide)) | 6, _, hh => exact (absurd hh (show ¬ (2 ≤ 6 ∧ 6 < 2 + 1) from by decide)) | 7, _, hh => exact (absurd hh (show ¬ (2 ≤ 7 ∧ 7 < 2 + 1) from by decide)) | (b_ + 8), h_, _ => exact absurd h_ (by omega)
        · intro b hb hh
          match b, hb, hh with | 0, _, hh => exact rfl | 1, _, hh => exact rfl | 2, _, hh => exact (absurd (show 2 ≤ 2 ∧ 2 < 2 + 1 from by decide) hh) | 3, _, hh => exact rfl | 4, _, hh => exact rfl | 5, _, hh => exact rfl | 6, _, hh => exact rfl | 7, _, hh => exact rfl | (b_ + 8), h_, _ => exact absurd h_ (by omega)
      cbv
      replace h := of_req h
      obtain ⟨c22, h⟩ := h
      refine ⟨⟨c22, trivial⟩, ?_⟩
      replace h := of_req h
      obtain ⟨c36, h⟩ := h
      replace h := of_let h
      obtain ⟨l23, hl23, h⟩ := h
      refine And.intro (by first | exact (by subst hA; exact idx_lt c22) | (refine And.intro (by subst hA; exact idx_lt c22) ?_; first | trivial | exact ⟨trivial, trivial⟩)) ?_
      refine ⟨_, rfl, _, row GD (encInstance) l23, rfl, ?_, ?_⟩
      · subst hGD hLEN hA
        rw [c36] at c22
        refine upd_set hl23 (idx_lt c22) ?_ ?_
        · intro b hb hh
          match b, hb, hh with | 0, _, hh => exact (absurd hh (show ¬ (3 ≤ 0 ∧ 0 < 3 + 1) from by decide)) | 1, _, hh => exact (absurd hh (show ¬ (3 ≤ 1 ∧ 1 < 3 + 1) from by decide)) | 2, _, hh => exact (absurd hh (show ¬ (3 ≤ 2 ∧ 2 < 3 + 1) from by decide)) | 3, _, hh => exact rfl | 4, _, hh => exact (absurd hh (show ¬ (3 ≤ 4 ∧ 4 < 3 + 1) from by decide)) | 5, _, hh => exact (absurd hh (show ¬ (3 ≤ 5 ∧ 5 < 3 + 1) from by decide)) | 6, _, hh => exact (absurd hh (show ¬ (3 ≤ 6 ∧ 6 < 3 + 1) from by decide)) | 7, _, hh => exact (absurd hh (show ¬ (3 ≤ 7 ∧ 7 < 3 + 1) from by decide)) | (b_ + 8), h_, _ => exact absurd h_ (by omega)
        · intro b hb hh
          match b, hb, hh with | 0, _, hh => exact rfl | 1, _, hh => exact rfl | 2, _, hh => exact rfl | 3, _, hh => exact (absurd (show 3 ≤ 3 ∧ 3 < 3 + 1 from by decide) hh) | 4, _, hh => exact rfl | 5, _, hh => exact rfl | 6, _, hh => exact rfl | 7, _, hh => exact rfl | (b_ + 8), h_, _ => exact absurd h_ (by omega)
      cbv
      replace h := of_req h
      obtain ⟨c24, h⟩ := h
      refine ⟨⟨c24, trivial⟩, ?_⟩
      replace h := of_req h
      obtain ⟨c35, h⟩ := h
      replace h := of_let h
      obtain ⟨l25, hl25, h⟩ := h
      refine And.intro (by first | exact (by subst hA; exact idx_lt c24) | (refine And.intro (by subst hA; exact idx_lt c24) ?_; first | trivial | exact ⟨trivial, trivial⟩)) ?_
      refine ⟨_, rfl, _, row GD (encInstance) l25, rfl, ?_, ?_⟩
      · subst hGD hLEN hA
        rw [c35] at c24
        refine upd_set hl25 (idx_lt c24) ?_ ?_
        · intro b hb hh
          match b, hb, hh with | 0, _, hh => exact (absurd hh (show ¬ (4 ≤ 0 ∧ 0 < 4 + 1) from by decide)) | 1, _, hh => exact (absurd hh (show ¬ (4 ≤ 1 ∧ 1 < 4 + 1) from by decide)) | 2, _, hh => exact (absurd hh (show ¬ (4 ≤ 2 ∧ 2 < 4 + 1) from by decide)) | 3, _, hh => exact (absurd hh (show ¬ (4 ≤ 3 ∧ 3 < 4 + 1) from by decide)) | 4, _, hh => exact rfl | 5, _, hh => exact (absurd hh (show ¬ (4 ≤ 5 ∧ 5 < 4 + 1) from by decide)) | 6, _, hh => exact (absurd hh (show ¬ (4 ≤ 6 ∧ 6 < 4 + 1) from by decide)) | 7, _, hh => exact (absurd hh (show ¬ (4 ≤ 7 ∧ 7 < 4 + 1) from by decide)) | (b_ + 8), h_, _ => exact absurd h_ (by omega)
        · intro b hb hh
          match b, hb, hh with | 0, _, hh => exact rfl | 1, _, hh => exact rfl | 2, _, hh => exact rfl | 3, _, hh => exact rfl | 4, _, hh => exact (absurd (show 4 ≤ 4 ∧ 4 < 4 + 1 from by decide) hh) | 5, _, hh => exact rfl | 6, _, hh => exact rfl | 7, _, hh => exact rfl | (b_ + 8), h_, _ => exact absurd h_ (by omega)
      cbv
      replace h := of_req h
      obtain ⟨c26, h⟩ := h
      refine ⟨⟨c26, trivial⟩, ?_⟩
      replace h := of_req h
      obtain ⟨c34, h⟩ := h
      replace h := of_let h
      obtain ⟨l27, hl27, h⟩ := h
      refine And.intro (by first | exact (by subst hA; exact idx_lt c26) | (refine And.intro (by subst hA; exact idx_lt c26) ?_; first | trivial | exact ⟨trivial, trivial⟩)) ?_
      refine ⟨_, rfl, _, row GD (encInstance) l27, rfl, ?_, ?_⟩
      · subst hGD hLEN hA
        rw [c34] at c26
        refine upd_set hl27 (idx_lt c26) ?_ ?_
        · intro b hb hh
          match b, hb, hh with | 0, _, hh => exact (absurd hh (show ¬ (5 ≤ 0 ∧ 0 < 5 + 1) from by decide)) | 1, _, hh => exact (absurd hh (show ¬ (5 ≤ 1 ∧ 1 < 5 + 1) from by decide)) | 2, _, hh => exact (absurd hh (show ¬ (5 ≤ 2 ∧ 2 < 5 + 1) from by decide)) | 3, _, hh => exact (absurd hh (show ¬ (5 ≤ 3 ∧ 3 < 5 + 1) from by decide)) | 4, _, hh => exact (absurd hh (show ¬ (5 ≤ 4 ∧ 4 < 5 + 1) from by decide)) | 5, _, hh => exact rfl | 6, _, hh => exact (absurd hh (show ¬ (5 ≤ 6 ∧ 6 < 5 + 1) from by decide)) | 7, _, hh => exact (absurd hh (show ¬ (5 ≤ 7 ∧ 7 < 5 + 1) from by decide)) | (b_ + 8), h_, _ => exact absurd h_ (by omega)
        · intro b hb hh
          match b, hb, hh with | 0, _, hh => exact rfl | 1, _, hh => exact rfl | 2, _, hh => exact rfl | 3, _, hh => exact rfl | 4, _, hh => exact rfl | 5, _, hh => exact (absurd (show 5 ≤ 5 ∧ 5 < 5 + 1 from by decide) hh) | 6, _, hh => exact rfl | 7, _, hh => exact rfl | (b_ + 8), h_, _ => exact absurd h_ (by omega)
      cbv
      replace h := of_req h
      obtain ⟨c28, h⟩ := h
      refine ⟨⟨c28, trivial⟩, ?_⟩
      replace h := of_req h
      obtain ⟨c33, h⟩ := h
      replace h := of_let h
      obtain ⟨l29, hl29, h⟩ := h
      refine And.intro (by first | exact (by subst hA; exact idx_lt c28) | (refine And.intro (by subst hA; exact idx_lt c28) ?_; first | trivial | exact ⟨trivial, trivial⟩)) ?_
      refine ⟨_, rfl, _, row GD (encInstance) l29, rfl, ?_, ?_⟩
      · subst hGD hLEN hA
        rw [c33] at c28
        refine upd_set hl29 (idx_lt c28) ?_ ?_
        · intro b hb hh
          match b, hb, hh with | 0, _, hh => exact (absurd hh (show ¬ (6 ≤ 0 ∧ 0 < 6 + 1) from by decide)) | 1, _, hh => exact (absurd hh (show ¬ (6 ≤ 1 ∧ 1 < 6 + 1) from by decide)) | 2, _, hh => exact (absurd hh (show ¬ (6 ≤ 2 ∧ 2 < 6 + 1) from by decide)) | 3, _, hh => exact (absurd hh (show ¬ (6 ≤ 3 ∧ 3 < 6 + 1) from by decide)) | 4, _, hh => exact (absurd hh (show ¬ (6 ≤ 4 ∧ 4 < 6 + 1) from by decide)) | 5, _, hh => exact (absurd hh (show ¬ (6 ≤ 5 ∧ 5 < 6 + 1) from by decide)) | 6, _, hh => exact rfl | 7, _, hh => exact (absurd hh (show ¬ (6 ≤ 7 ∧ 7 < 6 + 1) from by decide)) | (b_ + 8), h_, _ => exact absurd h_ (by omega)
        · intro b hb hh
          match b, hb, hh with | 0, _, hh => exact rfl | 1, _, hh => exact rfl | 2, _, hh => exact rfl | 3, _, hh => exact rfl | 4, _, hh => exact rfl | 5, _, hh => exact rfl | 6, _, hh => exact (absurd (show 6 ≤ 6 ∧ 6 < 6 + 1 from by decide) hh) | 7, _, hh => exact rfl | (b_ + 8), h_, _ => exact absurd h_ (by omega)
      cbv
      replace h := of_req h
      obtain ⟨c30, h⟩ := h
      refine ⟨⟨c30, trivial⟩, ?_⟩
      replace h := of_req h
      obtain ⟨c32, h⟩ := h
      replace h := of_let h
      obtain ⟨l31, hl31, h⟩ := h
      refine And.intro (by first | exact (by subst hA; exact idx_lt c30) | (refine And.intro (by subst hA; exact idx_lt c30) ?_; first | trivial | exact ⟨trivial, trivial⟩)) ?_
      refine ⟨_, rfl, _, row GD (encInstance) l31, rfl, ?_, ?_⟩
      · subst hGD hLEN hA
        rw [c32] at c30
        refine upd_set hl31 (idx_lt c30) ?_ ?_
        · intro b hb hh
          match b, hb, hh with | 0, _, hh => exact (absurd hh (show ¬ (7 ≤ 0 ∧ 0 < 7 + 1) from by decide)) | 1, _, hh => exact (absurd hh (show ¬ (7 ≤ 1 ∧ 1 < 7 + 1) from by decide)) | 2, _, hh => exact (absurd hh (show ¬ (7 ≤ 2 ∧ 2 < 7 + 1) from by decide)) | 3, _, hh => exact (absurd hh (show ¬ (7 ≤ 3 ∧ 3 < 7 + 1) from by decide)) | 4, _, hh => exact (absurd hh (show ¬ (7 ≤ 4 ∧ 4 < 7 + 1) from by decide)) | 5, _, hh => exact (absurd hh (show ¬ (7 ≤ 5 ∧ 5 < 7 + 1) from by decide)) | 6, _, hh => exact (absurd hh (show ¬ (7 ≤ 6 ∧ 6 < 7 + 1) from by decide)) | 7, _, hh => exact rfl | (b_ + 8), h_, _ => exact absurd h_ (by omega)
        · intro b hb hh
          match b, hb, hh with | 0, _, hh => exact rfl | 1, _, hh => exact rfl | 2, _, hh => exact rfl | 3, _, hh => exact rfl | 4, _, hh => exact rfl | 5, _, hh => exact rfl | 6, _, hh => exact rfl | 7, _, hh => exact (absurd (show 7 ≤ 7 ∧ 7 < 7 + 1 from by decide) hh) | (b_ + 8), h_, _ => exact absurd h_ (by omega)
      cbv
      injection h with h
      refine hK10 _ h.symm _ ?_
      exact le_sparse rfl ⟨AV.le_refl _, AV.le_refl _, AV.le_refl _, trivial⟩ ⟨⟨fun hw => hw, fun c hc => (by cases hc), .inl rfl, rfl, rfl, fun i hi j hj => rfl⟩, trivial⟩ rfl
    · replace h := of_br_f b40 h
      cbv
      injection h with h
      refine hY8 _ h.symm _ _ (And.intro rfl ?_) (by intro hh; cases hh)
      exact le_sparse rfl ⟨AV.le_refl _, trivial⟩ ⟨⟨fun hw => hw, fun c hc => (by cases hc), .inl rfl, rfl, rfl, fun i hi j hj => rfl⟩, trivial⟩ rfl
  · clear hr6
    have h := hN7
    clear hN7
    intro e14 s15 q13 hne
    replace h := of_let h
    obtain ⟨y5k0, hyk, h⟩ := h
    have hyk : y5k0 = y5 := hyk
    subst hyk
    obtain ⟨rfl, q13⟩ := q13
    obtain ⟨y5k0_0, y5k0_1⟩ := y5k0
    replace h := of_let h
    obtain ⟨w41, hw41, h⟩ := h
    have hw41 : w41 = y5k0_0 := hw41
    subst hw41
    replace h := of_let h
    obtain ⟨w42, hw42, h⟩ := h
    have hw42 : w42 = y5k0_1 := hw42
    subst hw42
    cbv
    refine ⟨_, q13, ?_⟩
    cbv
    replace h := of_req h
    obtain ⟨c43, h⟩ := h
    injection h with h
    subst h
    refine ⟨(sparse 72 [(4, .c (.v (.int .i64 w41)))] [(5, .arr .rw [] (LEN w42) 8 (row GD (encInstance) w42))]), ?_, ?_⟩
    · rw [c43]
      exact le_sparse rfl ⟨AV.le_refl _, trivial⟩ ⟨⟨fun hw => hw, fun c hc => (by cases hc), .inl rfl, rfl, rfl, fun i hi j hj => rfl⟩, trivial⟩ rfl
    · exact ⟨AV.le_refl _, ⟨⟨fun hw => hw, fun c hc => (by cases hc), .inl rfl, rfl, rfl, fun i hi j hj => rfl⟩, trivial⟩, rfl⟩

noncomputable def L_laws_markCellS_mob_x4 (a0 : List TCell) : (Int × Int × (List TCell)) → Option ((Int × Int × (List TCell)) ⊕ ((Int × (List TCell)))) := fun x4 =>
  letO x4.1 fun v1 =>
  letO x4.2.1 fun v2 =>
  letO x4.2.2 fun v3 =>
  br (std.lt v2 (std.ofN (len a0)))
  (((
        (F_laws_markText v1).bind fun y23 =>
        req (std.inR v2 (len a0)) <|
        req (len a0 = len v3) <|
        letO (List.set v3 (std.nadd 0 (std.toN v2)) (TCell.mk y23 (gd v3 (std.nadd 0 (std.toN v2))).fShapes (gd v3 (std.nadd 0 (std.toN v2))).fLabels (gd v3 (std.nadd 0 (std.toN v2))).fInstances)) fun l26 =>
        some l26
    ) : Option ((List TCell))).bind fun y16 =>
  letO y16 fun w22 =>
  ((
        req (std.inR v2 (len a0)) <|
        (F_laws_markShapeS_mob (gd w22 (std.nadd 0 (std.toN v2))).fShapes (std.add .i64 v1 1)).bind fun y37 =>
        req (len y37.2 = len (gd w22 (std.nadd 0 (std.toN v2))).fShapes) <|
        req (len a0 = len w22) <|
        letO (List.set w22 (std.nadd 0 (std.toN v2)) (TCell.mk (gd w22 (std.nadd 0 (std.toN v2))).fName y37.2 (gd w22 (std.nadd 0 (std.toN v2))).fLabels (gd w22 (std.nadd 0 (std.toN v2))).fInstances)) fun l39 =>
        some (y37.1, l39)
    ) : Option (Int × (List TCell))).bind fun y28 =>
  letO y28.1 fun w34 =>
  letO y28.2 fun w35 =>
  ((
        req (std.inR v2 (len a0)) <|
        (F_laws_markLabelS_mob (gd w35 (std.nadd 0 (std.toN v2))).fLabels w34).bind fun y51 =>
        req (len y51.2 = len (gd w35 (std.nadd 0 (std.toN v2))).fLabels) <|
        req (len a0 = len w35) <|
        letO (List.set w35 (std.nadd 0 (std.toN v2)) (TCell.mk (gd w35 (std.nadd 0 (std.toN v2))).fName (gd w35 (std.nadd 0 (std.toN v2))).fShapes y51.2 (gd w35 (std.nadd 0 (std.toN v2))).fInstances)) fun l53 =>
        some (y51.1, l53)
    ) : Option (Int × (List TCell))).bind fun y42 =>
  letO y42.1 fun w48 =>
  letO y42.2 fun w49 =>
  ((
        req (std.inR v2 (len a0)) <|
        (F_laws_markInstanceS_mob (gd w49 (std.nadd 0 (std.toN v2))).fInstances w48).bind fun y65 =>
        req (len y65.2 = len (gd w49 (std.nadd 0 (std.toN v2))).fInstances) <|
        req (len a0 = len w49) <|
        letO (List.set w49 (std.nadd 0 (std.toN v2)) (TCell.mk (gd w49 (std.nadd 0 (std.toN v2))).fName (gd w49 (std.nadd 0 (std.toN v2))).fShapes (gd w49 (std.nadd 0 (std.toN v2))).fLabels y65.2)) fun l67 =>
        some (y65.1, l67)
    ) : Option (Int × (List TCell))).bind fun y56 =>
  letO y56.1 fun w62 =>
  letO y56.2 fun w63 =>
  some (.inl (w62, std.add .i64 v2 1, w63)))
  (some (.inr (v1, v3)))
/-- laws.markCellS -/
noncomputable def F_laws_markCellS_mob (a0 : List TCell) (a1 : Int) : Option (Int × (List TCell)) :=
  (whileP (σ := Int × Int × (List TCell)) (ρ := (Int × (List TCell))) (L_laws_markCellS_mob_x4 a0) (a1, 0, a0)).bind fun y5 =>
  letO y5 fun y5k0 =>
  letO y5k0.1 fun w71 =>
  letO y5k0.2 fun w72 =>
  req (len a0 = len w72) <|
  some (w71, w72)
theorem run_laws_markCellS_mob (a0 : List TCell) (a1 : Int) (r : Int × (List TCell)) (h : F_laws_markCellS_mob a0 a1 = some r) : Fun Try.prog 68 [.c (.os 5 0 (len a0)), .c (.v (.int .i64 a1))] [(5, .arr .rw [] (len a0) 4 (row gd (oncCell len gd) a0))] (.c (.v (.int .i64 r.1))) [(5, .arr .rw [] (len r.2) 4 (row gd (oncCell len gd) r.2))] true := by
  refine Fun.of_wp (oneOf [4, 6, 7, 8]) tok mixed Try.func68 (by kernel_rfl) rfl Try.ntmps68 rfl ⟨fun i _ j _ k hk => (noref (rf_oncCell _ _) hk).elim, trivial⟩ (fun _ => ⟨trivial, ⟨fun i _ j _ => fl_oncCell _ _, trivial⟩⟩) ?_
  unfold F_laws_markCellS_mob at h
  unfold L_laws_markCellS_mob_x4 at h
  have hf_laws_markInstanceS_mob := @run_laws_markInstanceS_mob
  have hf_laws_markLabelS_mob := @run_laws_markLabelS_mob
  have hf_laws_markShapeS_mob := @run_laws_markShapeS_mob
  have hf_laws_markText := @run_laws_markText
  generalize hLEN : @len = LEN at *
  generalize hGD : @gd = GD at *
  generalize hA : std = A at *
  generalize hP : Try.prog = P at *
  cbv
  replace h := of_bind h
  obtain ⟨y5, hr6, hN7⟩ := h
  refine loop_cut hr6 (fun x => (sparse 42 [(0, .c (.os 5 0 (LEN a0))), (1, .c (.v (.int .i64 x.1))), (5, .c (.v (.int .i64 x.2.1)))] [(5, .arr .rw [] (LEN a0) 4 (row GD (oncCell LEN GD) x.2.2))])) ?_ (fun y e s => (fun (w : Int × (List TCell)) => e = .exit 0 ∧ s.le (sparse 42 [(1, .c (.v (.int .i64 w.1)))] [(5, .arr .rw [] (LEN a0) 4 (row GD (oncCell LEN GD) w.2))])) y) ?_ ?_
  · clear hr6 hN7
    show St.le _ _
    exact le_sparse rfl ⟨AV.le_refl _, AV.le_refl _, AV.le_refl _, trivial⟩ ⟨⟨fun hw => hw, fun c hc => (by cases hc), .inl rfl, rfl, rfl, fun i hi j hj => rfl⟩, trivial⟩ rfl
  · clear hr6 hN7
    intro x z11 h K9 hK10 hY8
    obtain ⟨x0_, x1_, x2_⟩ := x
    replace h := of_let h
    obtain ⟨v1, hv1, h⟩ := h
    have hv1 : v1 = x0_ := hv1
    subst hv1
    replace h := of_let h
    obtain ⟨v2, hv2, h⟩ := h
    have hv2 : v2 = x1_ := hv2
    subst hv2
    replace h := of_let h
    obtain ⟨v3, hv3, h⟩ := h
    have hv3 : v3 = x2_ := hv3
    subst hv3
    cbv
    refine fork (fun b70 => ?_) (fun b70 => ?_)
    · replace h := of_br_t b70 h
      cbv
      replace h := of_bind h
      obtain ⟨y16, hy17, h⟩ := h
      obtain ⟨S20, hS21⟩ : ∃ S, S = (sparse 42 [(0, .c (.os 5 0 (LEN a0))), (1, .c (.v (.int .i64 v1))), (5, .c (.v (.int .i64 v2)))] [(5, .arr .rw [] (LEN a0) 4 (row GD (oncCell LEN GD) y16))]) := ⟨_, rfl⟩
      refine ⟨S20, ?_, ?_⟩
      · clear h
        have h := hy17
        clear hy17
        cbv
        replace h := of_bind h
        obtain ⟨y23, hy24, h⟩ := h
        refine ⟨{ args := [.c (.v (.int .i64 v1))], o0 := [], r := .c (.v (.string y23)), o1 := [], fl := true, σ := [], τ := [] }, hf_laws_markText _ _ hy24, ⟨les_cons (AV.le_refl _) (les_nil), trivial, rfl, rfl, rfl, rfl, trivial, rfl⟩, ?_⟩
        cbv
        replace h := of_req h
        obtain ⟨c25, h⟩ := h
        refine ⟨⟨c25, trivial⟩, ?_⟩
        refine And.intro (by first | exact (by subst hA; exact idx_lt c25) | (refine And.intro (by subst hA; exact idx_lt c25) ?_; first | trivial | exact ⟨trivial, trivial⟩)) ?_
        refine ⟨_, rfl, _, (patchC (row GD (oncCell LEN GD) v3) (A.nadd 0 (A.toN v2)) [.v (.string y23), .ow (LEN (GD v3 (A.nadd 0 (A.toN v2))).fShapes) 5 (row GD (encShape) (GD v3 (A.nadd 0 (A.toN v2))).fShapes), .ow (LEN (GD v3 (A.nadd 0 (A.toN v2))).fLabels) 4 (row GD (encLabel) (GD v3 (A.nadd 0 (A.toN v2))).fLabels), .ow (LEN (GD v3 (A.nadd 0 (A.toN v2))).fInstances) 8 (row GD (encInstance) (GD v3 (A.nadd 0 (A.toN v2))).fInstances)]), rfl, ?_, ?_⟩
        · refine patch_of ?_
          intro j hj
          match j, hj with | 0, _ => (rfl) | 1, _ => (rfl) | 2, _ => (rfl) | 3, _ => (rfl) | (j_ + 4), h_ => exact absurd h_ (by omega)
        cbv
        replace h := of_req h
        obtain ⟨c27, h⟩ := h
        replace h := of_let h
        obtain ⟨l26, hl26, h⟩ := h
        injection h with h
        subst h
        subst hS21
        show St.le _ _
        exact le_sparse rfl ⟨AV.le_refl _, AV.le_refl _, AV.le_refl _, trivial⟩ ⟨⟨fun hw => hw, fun c hc => (by cases hc), .inr (fun i _ j _ z hz => (noref (rf_oncCell _ _) hz).elim), rfl, rfl, (by subst hGD hLEN hA; exact patch_set hl26 (idx_lt (by rw [← c27]; exact c25)) (by intro j hj; match j, hj with | 0, _ => rfl | 1, _ => rfl | 2, _ => rfl | 3, _ => rfl | (j_ + 4), h_ => exact absurd h_ (by omega)))⟩, trivial⟩ rfl
      · clear hy17
        subst hS21
        replace h := of_let h
        obtain ⟨w22, hw22, h⟩ := h
        have hw22 : w22 = y16 := hw22
        subst hw22
        cbv
        replace h := of_bind h
        obtain ⟨y28, hy29, h⟩ := h
        obtain ⟨S32, hS33⟩ : ∃ S, S = (sparse 42 [(0, .c (.os 5 0 (LEN a0))), (1, .c (.v (.int .i64 y28.1))), (5, .c (.v (.int .i64 v2)))] [(5, .arr .rw [] (LEN a0) 4 (row GD (oncCell LEN GD) y28.2))]) := ⟨_, rfl⟩
        refine ⟨S32, ?_, ?_⟩
        · clear h
          have h := hy29
          clear hy29
          cbv
          replace h := of_req h
          obtain ⟨c36, h⟩ := h
          refine ⟨⟨c36, trivial⟩, ?_⟩
          refine And.intro (by first | exact (by subst hA; exact idx_lt c36) | (refine And.intro (by subst hA; exact idx_lt c36) ?_; first | trivial | exact ⟨trivial, trivial⟩)) ?_
          refine ⟨_, rfl, _, (patchC (row GD (oncCell LEN GD) w22) (A.nadd 0 (A.toN v2)) [.v (.string (GD w22 (A.nadd 0 (A.toN v2))).fName), .os 1538 0 (LEN (GD w22 (A.nadd 0 (A.toN v2))).fShapes), .ow (LEN (GD w22 (A.nadd 0 (A.toN v2))).fLabels) 4 (row GD (encLabel) (GD w22 (A.nadd 0 (A.toN v2))).fLabels), .ow (LEN (GD w22 (A.nadd 0 (A.toN v2))).fInstances) 8 (row GD (encInstance) (GD w22 (A.nadd 0 (A.toN v2))).fInstances)]), rfl, ?_, ?_⟩
          · refine patch_of ?_
            intro j hj
            match j, hj with | 0, _ => (rfl) | 1, _ => (rfl) | 2, _ => (rfl) | 3, _ => (rfl) | (j_ + 4), h_ => exact absurd h_ (by omega)
          refine ⟨_, row GD (encShape) (GD w22 (A.nadd 0 (A.toN v2))).fShapes, rfl, ?_, ?_⟩
          · exact fun i _ j _ => plain_cp (pl_encShape _ _)
          cbv
          replace h := of_bind h
          obtain ⟨y37, hy38, h⟩ := h
          replace h := of_req h
          obtain ⟨c41, h⟩ := h
          refine ⟨{ args := [.c (.os 5 0 (LEN (GD w22 (A.nadd 0 (A.toN v2))).fShapes)), .c (.v (.int .i64 (A.add .i64 v1 1)))], o0 := [(5, .arr .rw [] (LEN (GD w22 (A.nadd 0 (A.toN v2))).fShapes) 5 (row GD (encShape) (GD w22 (A.nadd 0 (A.toN v2))).fShapes))], r := .c (.v (.int .i64 y37.1)), o1 := [(5, .arr .rw [] (LEN y37.2) 5 (row GD (encShape) y37.2))], fl := true, σ := [(5, 1538)], τ := [(5, 1538)] }, hf_laws_markShapeS_mob _ _ _ hy38, ⟨les_cons (AV.le_refl _) (les_cons (AV.le_refl _) (les_nil)), ⟨⟨fun hw => hw, fun c hc => (by cases hc), .inl rfl, rfl, rfl, fun i hi j hj => rfl⟩, trivial⟩, rfl, rfl, rfl, rfl, ⟨fun _ => ⟨c41.symm, rfl, fun c h => h⟩, trivial⟩, rfl⟩, _, rfl, LEN (GD w22 (A.nadd 0 (A.toN v2))).fShapes, _, c41, fun _ _ _ _ => rfl, ?_⟩
          cbv
          replace h := of_req h
          obtain ⟨c40, h⟩ := h
          replace h := of_let h
          obtain ⟨l39, hl39, h⟩ := h
          injection h with h
          subst h
          subst hS33
          show St.le _ _
          refine St.le_trans (le_foldP 5 1 1538 rfl rfl rfl (by decide) (by subst hA; exact idx_lt c36) (by decide) rfl (fun _ _ => rf_oncCell _ _)) ?_
          exact le_sparse rfl ⟨AV.le_refl _, AV.le_refl _, AV.le_refl _, trivial⟩ ⟨⟨fun hw => hw, fun c hc => (by cases hc), .inr (fun i _ j _ z hz => (noref (rf_oncCell _ _) hz).elim), rfl, rfl, (by subst hGD hLEN hA; exact patch_set hl39 (idx_lt (by rw [← c40]; exact c36)) (by intro j hj; match j, hj with | 0, _ => rfl | 1, _ => exact (by first | rfl | exact congrArg (fun n => AC.ow n _ _) (Eq.symm (by assumption))) | 2, _ => rfl | 3, _ => rfl | (j_ + 4), h_ => exact absurd h_ (by omega)))⟩, trivial⟩ rfl
        · clear hy29
          subst hS33
          obtain ⟨y28_0, y28_1⟩ := y28
          replace h := of_let h
          obtain ⟨w34, hw34, h⟩ := h
          have hw34 : w34 = y28_0 := hw34
          subst hw34
          replace h := of_let h
          obtain ⟨w35, hw35, h⟩ := h
          have hw35 : w35 = y28_1 := hw35
          subst hw35
          cbv
          replace h := of_bind h
          obtain ⟨y42, hy43, h⟩ := h
          obtain ⟨S46, hS47⟩ : ∃ S, S = (sparse 42 [(0, .c (.os 5 0 (LEN a0))), (1, .c (.v (.int .i64 y42.1))), (5, .c (.v (.int .i64 v2)))] [(5, .arr .rw [] (LEN a0) 4 (row GD (oncCell LEN GD) y42.2))]) := ⟨_, rfl⟩
          refine ⟨S46, ?_, ?_⟩
          · clear h
            have h := hy43
            clear hy43
            cbv
            replace h := of_req h
            obtain ⟨c50, h⟩ := h
            refine ⟨⟨c50, trivial⟩, ?_⟩
            refine And.intro (by first | exact (by subst hA; exact idx_lt c50) | (refine And.intro (by subst hA; exact idx_lt c50) ?_; first | trivial | exact ⟨trivial, trivial⟩)) ?_
            refine ⟨_, rfl, _, (patchC (row GD (oncCell LEN GD) w35) (A.nadd 0 (A.toN v2)) [.v (.string (GD w35 (A.nadd 0 (A.toN v2))).fName), .ow (LEN (GD w35 (A.nadd 0 (A.toN v2))).fShapes) 5 (row GD (encShape) (GD w35 (A.nadd 0 (A.toN v2))).fShapes), .os 1986 0 (LEN (GD w35 (A.nadd 0 (A.toN v2))).fLabels), .ow (LEN (GD w35 (A.nadd 0 (A.toN v2))).fInstances) 8 (row GD (encInstance) (GD w35 (A.nadd 0 (A.toN v2))).fInstances)]), rfl, ?_, ?_⟩
            · refine patch_of ?_
              intro j hj
              match j, hj with | 0, _ => (rfl) | 1, _ => (rfl) | 2, _ => (rfl) | 3, _ => (rfl) | (j_ + 4), h_ => exact absurd h_ (by omega)
            refine ⟨_, row GD (encLabel) (GD w35 (A.nadd 0 (A.toN v2))).fLabels, rfl, ?_, ?_⟩
            · exact fun i _ j _ => plain_cp (pl_encLabel _ _)
            cbv
            replace h := of_bind h
            obtain ⟨y51, hy52, h⟩ := h
            replace h := of_req h
            obtain ⟨c55, h⟩ := h
            refine ⟨{ args := [.c (.os 5 0 (LEN (GD w35 (A.nadd 0 (A.toN v2))).fLabels)), .c (.v (.int .i64 w34))], o0 := [(5, .arr .rw [] (LEN (GD w35 (A.nadd 0 (A.toN v2))).fLabels) 4 (row GD (encLabel) (GD w35 (A.nadd 0 (A.toN v2))).fLabels))], r := .c (.v (.int .i64 y51.1)), o1 := [(5, .arr .rw [] (LEN y51.2) 4 (row GD (encLabel) y51.2))], fl := true, σ := [(5, 1986)], τ := [(5, 1986)] }, hf_laws_markLabelS_mob _ _ _ hy52, ⟨les_cons (AV.le_refl _) (les_cons (AV.le_refl _) (les_nil)), ⟨⟨fun hw => hw, fun c hc => (by cases hc), .inl rfl, rfl, rfl, fun i hi j hj => rfl⟩, trivial⟩, rfl, rfl, rfl, rfl, ⟨fun _ => ⟨c55.symm, rfl, fun c h => h⟩, trivial⟩, rfl⟩, _, rfl, LEN (GD w35 (A.nadd 0 (A.toN v2))).fLabels, _, c55, fun _ _ _ _ => rfl, ?_⟩
            cbv
            replace h := of_req h
            obtain ⟨c54, h⟩ := h
            replace h := of_let h
            obtain ⟨l53, hl53, h⟩ := h
            injection h with h
            subst h
            subst hS47
            show St.le _ _
            refine St.le_trans (le_foldP 5 2 1986 rfl rfl rfl (by decide) (by subst hA; exact idx_lt c50) (by decide) rfl (fun _ _ => rf_oncCell _ _)) ?_
            exact le_sparse rfl ⟨AV.le_refl _, AV.le_refl _, AV.le_refl _, trivial⟩ ⟨⟨fun hw => hw, fun c hc => (by cases hc), .inr (fun i _ j _ z hz => (noref (rf_oncCell _ _) hz).elim), rfl, rfl, (by subst hGD hLEN hA; exact patch_set hl53 (idx_lt (by rw [← c54]; exact c50)) (by intro j hj; match j, hj with | 0, _ => rfl | 1, _ => rfl | 2, _ => exact (by first | rfl | exact congrArg (fun n => AC.ow n _ _) (Eq.symm (by assumption))) | 3, _ => rfl | (j_ + 4), h_ => exact absurd h_ (by omega)))⟩, trivial⟩ rfl
          · clear hy43
            subst hS47
            obtain ⟨y42_0, y42_1⟩ := y42
            replace h := of_let h
            obtain ⟨w48, hw48, h⟩ := h
            have hw48 : w48 = y42_0 := hw48
            subst hw48
            replace h := of_let h
            obtain ⟨w49, hw49, h⟩ := h
            have hw49 : w49 = y42_1 := hw49
            subst hw49
            cbv
            replace h := of_bind h
            obtain ⟨y56, hy57, h⟩ := h
            obtain ⟨S60, hS61⟩ : ∃ S, S = (sparse 42 [(0, .c (.os 5 0 (LEN a0))), (1, .c (.v (.int .i64 y56.1))), (5, .c (.v (.int .i64 v2)))] [(5, .arr .rw [] (LEN a0) 4 (row GD (oncCell LEN GD) y56.2))]) := ⟨_, rfl⟩
            refine ⟨S60, ?_, ?_⟩
            · clear h
              have h := hy57
              clear hy57
              cbv
              replace h := of_req h
              obtain ⟨c64, h⟩ := h
              refine ⟨⟨c64, trivial⟩, ?_⟩
              refine And.intro (by first | exact (by subst hA; exact idx_lt c64) | (refine And.intro (by subst hA; exact idx_lt c64) ?_; first | trivial | exact ⟨trivial, trivial⟩)) ?_
              refine ⟨_, rfl, _, (patchC (row GD (oncCell LEN GD) w49) (A.nadd 0 (A.toN v2)) [.v (.string (GD w49 (A.nadd 0 (A.toN v2))).fName), .ow (LEN (GD w49 (A.nadd 0 (A.toN v2))).fShapes) 5 (row GD (encShape) (GD w49 (A.nadd 0 (A.toN v2))).fShapes), .ow (LEN (GD w49 (A.nadd 0 (A.toN v2))).fLabels) 4 (row GD (encLabel) (GD w49 (A.nadd 0 (A.toN v2))).fLabels), .os 2434 0 (LEN (GD w49 (A.nadd 0 (A.toN v2))).fInstances)]), rfl, ?_, ?_⟩
              · refine patch_of ?_
                intro j hj
                match j, hj with | 0, _ => (rfl) | 1, _ => (rfl) | 2, _ => (rfl) | 3, _ => (rfl) | (j_ + 4), h_ => exact absurd h_ (by omega)
              refine ⟨_, row GD (encInstance) (GD w49 (A.nadd 0 (A.toN v2))).fInstances, rfl, ?_, ?_⟩
              · exact fun i _ j _ => plain_cp (pl_encInstance _ _)
              cbv
              replace h := of_bind h
              obtain ⟨y65, hy66, h⟩ := h
              replace h := of_req h
              obtain ⟨c69, h⟩ := h
              refine ⟨{ args := [.c (.os 5 0 (LEN (GD w49 (A.nadd 0 (A.toN v2))).fInstances)), .c (.v (.int .i64 w48))], o0 := [(5, .arr .rw [] (LEN (GD w49 (A.nadd 0 (A.toN v2))).fInstances) 8 (row GD (encInstance) (GD w49 (A.nadd 0 (A.toN v2))).fInstances))], r := .c (.v (.int .i64 y65.1)), o1 := [(5, .arr .rw [] (LEN y65.2) 8 (row GD (encInstance) y65.2))], fl := true, σ := [(5, 2434)], τ := [(5, 2434)] }, hf_laws_markInstanceS_mob _ _ _ hy66, ⟨les_cons (AV.le_refl _) (les_cons (AV.le_refl _) (les_nil)), ⟨⟨fun hw => hw, fun c hc => (by cases hc), .inl rfl, rfl, rfl, fun i hi j hj => rfl⟩, trivial⟩, rfl, rfl, rfl, rfl, ⟨fun _ => ⟨c69.symm, rfl, fun c h => h⟩, trivial⟩, rfl⟩, _, rfl, LEN (GD w49 (A.nadd 0 (A.toN v2))).fInstances, _, c69, fun _ _ _ _ => rfl, ?_⟩
              cbv
              replace h := of_req h
              obtain ⟨c68, h⟩ := h
              replace h := of_let h
              obtain ⟨l67, hl67, h⟩ := h
              injection h with h
              subst h
              subst hS61
              show St.le _ _
              refine St.le_trans (le_foldP 5 3 2434 rfl rfl rfl (by decide) (by subst hA; exact idx_lt c64) (by decide) rfl (fun _ _ => rf_oncCell _ _)) ?_
              exact le_sparse rfl ⟨AV.le_refl _, AV.le_refl _, AV.le_refl _, trivial⟩ ⟨⟨fun hw => hw, fun c hc => (by cases hc), .inr (fun i _ j _ z hz => (noref (rf_oncCell _ _) hz).elim), rfl, rfl, (by subst hGD hLEN hA; exact patch_set hl67 (idx_lt (by rw [← c68]; exact c64)) (by intro j hj; match j, hj with | 0, _ => rfl | 1, _ => rfl | 2, _ => rfl | 3, _ => exact (by first | rfl | exact congrArg (fun n => AC.ow n _ _) (Eq.symm (by assumption))) | (j_ + 4), h_ => exact absurd h_ (by omega)))⟩, trivial⟩ rfl
            · clear hy57
              subst hS61
              obtain ⟨y56_0, y56_1⟩ := y56
              replace h := of_let h
              obtain ⟨w62, hw62, h⟩ := h
              have hw62 : w62 = y56_0 := hw62
              subst hw62
              replace h := of_let h
              obtain ⟨w63, hw63, h⟩ := h
              have hw63 : w63 = y56_1 := hw63
              subst hw63
              cbv
              injection h with h
              refine hK10 _ h.symm _ ?_
              exact le_sparse rfl ⟨AV.le_refl _, AV.le_refl _, AV.le_refl _, trivial⟩ ⟨⟨fun hw => hw, fun c hc => (by cases hc), .inl rfl, rfl, rfl, fun i hi j hj => rfl⟩, trivial⟩ rfl
    · replace h := of_br_f b70 h
      cbv
      injection h with h
      refine hY8 _ h.symm _ _ (And.intro rfl ?_) (by intro hh; cases hh)
      exact le_sparse rfl ⟨AV.le_refl _, trivial⟩ ⟨⟨fun hw => hw, fun c hc => (by cases hc), .inl rfl, rfl, rfl, fun i hi j hj => rfl⟩, trivial⟩ rfl
  · clear hr6
    have h := hN7
    clear hN7
    intro e14 s15 q13 hne
    replace h := of_let h
    obtain ⟨y5k0, hyk, h⟩ := h
    have hyk : y5k0 = y5 := hyk
    subst hyk
    obtain ⟨rfl, q13⟩ := q13
    obtain ⟨y5k0_0, y5k0_1⟩ := y5k0
    replace h := of_let h
    obtain ⟨w71, hw71, h⟩ := h
    have hw71 : w71 = y5k0_0 := hw71
    subst hw71
    replace h := of_let h
    obtain ⟨w72, hw72, h⟩ := h
    have hw72 : w72 = y5k0_1 := hw72
    subst hw72
    cbv
    refine ⟨_, q13, ?_⟩
    cbv
    replace h := of_req h
    obtain ⟨c73, h⟩ := h
    injection h with h
    subst h
    refine ⟨(sparse 42 [(4, .c (.v (.int .i64 w71)))] [(5, .arr .rw [] (LEN w72) 4 (row GD (oncCell LEN GD) w72))]), ?_, ?_⟩
    · rw [c73]
      exact le_sparse rfl ⟨AV.le_refl _, trivial⟩ ⟨⟨fun hw => hw, fun c hc => (by cases hc), .inl rfl, rfl, rfl, fun i hi j hj => rfl⟩, trivial⟩ rfl
    · exact ⟨AV.le_refl _, ⟨⟨fun hw => hw, fun c hc => (by cases hc), .inl rfl, rfl, rfl, fun i hi j hj => rfl⟩, trivial⟩, rfl⟩

/-- laws.markLibrary -/
noncomputable def F_laws_markLibrary_mob (a0 : TLibrary) (a1 : Int) : Option (Int × (List TCell)) :=
  (F_laws_markCellS_mob a0.fCells a1).bind fun y1 =>
  req (len y1.2 = len a0.fCells) <|
  req (len a0.fCells = len y1.2) <|
  some (y1.1, y1.2)
theorem run_laws_markLibrary_mob (a0 : TLibrary) (a1 : Int) (r : Int × (List TCell)) (h : F_laws_markLibrary_mob a0 a1 = some r) : Fun Try.prog 30 [.agg [.os 5 0 (len a0.fCells)], .c (.v (.int .i64 a1))] [(5, .arr .rw [] (len a0.fCells) 4 (row gd (oncCell len gd) a0.fCells))] (.c (.v (.int .i64 r.1))) [(5, .arr .rw [] (len r.2) 4 (row gd (oncCell len gd) r.2))] true := by
  refine Fun.of_wp (oneOf []) tok mixed Try.func30 (by kernel_rfl) rfl Try.ntmps30 rfl ⟨fun i _ j _ k hk => (noref (rf_oncCell _ _) hk).elim, trivial⟩ (fun _ => ⟨trivial, ⟨fun i _ j _ => fl_oncCell _ _, trivial⟩⟩) ?_
  unfold F_laws_markLibrary_mob at h
  have hf_laws_markCellS_mob := @run_laws_markCellS_mob
  generalize hLEN : @len = LEN at *
  generalize hGD : @gd = GD at *
  generalize hA : std = A at *
  generalize hP : Try.prog = P at *
  cbv
  replace h := of_bind h
  obtain ⟨y1, hy2, h⟩ := h
  replace h := of_req h
  obtain ⟨c4, h⟩ := h
  refine ⟨{ args := [.c (.os 5 0 (LEN a0.fCells)), .c (.v (.int .i64 a1))], o0 := [(5, .arr .rw [] (LEN a0.fCells) 4 (row GD (oncCell LEN GD) a0.fCells))], r := .c (.v (.int .i64 y1.1)), o1 := [(5, .arr .rw [] (LEN y1.2) 4 (row GD (oncCell LEN GD) y1.2))], fl := true, σ := [(5, 5)], τ := [(5, 5)] }, hf_laws_markCellS_mob _ _ _ hy2, ⟨les_cons (AV.le_refl _) (les_cons (AV.le_refl _) (les_nil)), ⟨⟨fun hw => hw, fun c hc => (by cases hc), .inl rfl, rfl, rfl, fun i hi j hj => rfl⟩, trivial⟩, rfl, rfl, rfl, rfl, ⟨fun _ => ⟨c4.symm, rfl, fun c h => h⟩, trivial⟩, rfl⟩, _, rfl, LEN a0.fCells, _, c4, fun _ _ _ _ => rfl, ?_⟩
  cbv
  replace h := of_req h
  obtain ⟨c3, h⟩ := h
  injection h with h
  subst h
  refine ⟨(sparse 10 [(4, .c (.v (.int .i64 y1.1)))] [(5, .arr .rw [] (LEN y1.2) 4 (row GD (oncCell LEN GD) y1.2))]), ?_, ?_⟩
  · rw [c3]
    exact le_sparse rfl ⟨AV.le_refl _, trivial⟩ ⟨⟨fun hw => hw, fun c hc => (by cases hc), .inl rfl, rfl, rfl, fun i hi j hj => rfl⟩, trivial⟩ rfl
  · exact ⟨AV.le_refl _, ⟨⟨fun hw => hw, fun c hc => (by cases hc), .inl rfl, rfl, rfl, fun i hi j hj => rfl⟩, trivial⟩, rfl⟩

noncomputable def L_laws_markInt64S_mob_x4 (a0 : List Int) : (Int × Int × (List Int)) → Option ((Int × Int × (List Int)) ⊕ ((Int × (List Int)))) := fun x4 =>
  letO x4.1 fun v1 =>
  letO x4.2.1 fun v2 =>
  letO x4.2.2 fun v3 =>
  br (std.lt v2 (std.ofN (len a0)))
  (req (std.inR v2 (len a0)) <|
  req (len a0 = len v3) <|
  letO (List.set v3 (std.nadd 0 (std.toN v2)) v1) fun l17 =>
  some (.inl (std.add .i64 v1 1, std.add .i64 v2 1, l17)))
  (some (.inr (v1, v3)))
/-- laws.markInt64S -/
noncomputable def F_laws_markInt64S_mob (a0 : List Int) (a1 : Int) : Option (Int × (List Int)) :=
  (whileP (σ := Int × Int × (List Int)) (ρ := (Int × (List Int))) (L_laws_markInt64S_mob_x4 a0) (a1, 0, a0)).bind fun y5 =>
  letO y5 fun y5k0 =>
  letO y5k0.1 fun w20 =>
  letO y5k0.2 fun w21 =>
  req (len a0 = len w21) <|
  some (w20, w21)
theorem run_laws_markInt64S_mob (a0 : List Int) (a1 : Int) (r : Int × (List Int)) (h : F_laws_markInt64S_mob a0 a1 = some r) : Fun Try.prog 31 [.c (.os 5 0 (len a0)), .c (.v (.int .i64 a1))] [(5, .arr .rw [] (len a0) 1 (row gd (encI .i64) a0))] (.c (.v (.int .i64 r.1))) [(5, .arr .rw [] (len r.2) 1 (row gd (encI .i64) r.2))] true := by
  refine Fun.of_wp (oneOf []) tok mixed Try.func31 (by kernel_rfl) rfl Try.ntmps31 rfl ⟨fun i _ j _ k hk => (noref (plain_nil (rfl)) hk).elim, trivial⟩ (fun _ => ⟨trivial, ⟨fun i _ j _ => val_flat (rfl), trivial⟩⟩) ?_
  unfold F_laws_markInt64S_mob at h
  unfold L_laws_markInt64S_mob_x4 at h
  generalize hLEN : @len = LEN at *
  generalize hGD : @gd = GD at *
  generalize hA : std = A at *
  generalize hP : Try.prog = P at *
  cbv
  replace h := of_bind h
  obtain ⟨y5, hr6, hN7⟩ := h
  refine loop_cut hr6 (fun x => (sparse 19 [(0, .c (.os 5 0 (LEN a0))), (1, .c (.v (.int .i64 x.1))), (5, .c (.v (.int .i64 x.2.1)))] [(5, .arr .rw [] (LEN a0) 1 (row GD (encI .i64) x.2.2))])) ?_ (fun y e s => (fun (w : Int × (List Int)) => e = .exit 0 ∧ s.le (sparse 19 [(1, .c (.v (.int .i64 w.1)))] [(5, .arr .rw [] (LEN a0) 1 (row GD (encI .i64) w.2))])) y) ?_ ?_
  · clear hr6 hN7
    show St.le _ _
    exact le_sparse rfl ⟨AV.le_refl _, AV.le_refl _, AV.le_refl _, trivial⟩ ⟨⟨fun hw => hw, fun c hc => (by cases hc), .inl rfl, rfl, rfl, fun i hi j hj => rfl⟩, trivial⟩ rfl
  · clear hr6 hN7
    intro x z11 h K9 hK10 hY8
    obtain ⟨x0_, x1_, x2_⟩ := x
    replace h := of_let h
    obtain ⟨v1, hv1, h⟩ := h
    have hv1 : v1 = x0_ := hv1
    subst hv1
    replace h := of_let h
    obtain ⟨v2, hv2, h⟩ := h
    have hv2 : v2 = x1_ := hv2
    subst hv2
    replace h := of_let h
    obtain ⟨v3, hv3, h⟩ := h
    have hv3 : v3 = x2_ := hv3
    subst hv3
    cbv
    refine fork (fun b19 => ?_) (fun b19 => ?_)
    · replace h := of_br_t b19 h
      cbv
      replace h := of_req h
      obtain ⟨c16, h⟩ := h
      refine ⟨⟨c16, trivial⟩, ?_⟩
      replace h := of_req h
      obtain ⟨c18, h⟩ := h
      replace h := of_let h
      obtain ⟨l17, hl17, h⟩ := h
      refine And.intro (by first | exact (by subst hA; exact idx_lt c16) | (refine And.intro (by subst hA; exact idx_lt c16) ?_; first | trivial | exact ⟨trivial, trivial⟩)) ?_
      refine ⟨_, rfl, _, row GD (encI .i64) l17, rfl, ?_, ?_⟩
      · subst hGD hLEN hA
        rw [c18] at c16
        refine upd_set hl17 (idx_lt c16) ?_ ?_
        · intro b hb hh
          match b, hb, hh with | 0, _, hh => exact rfl | (b_ + 1), h_, _ => exact absurd h_ (by omega)
        · intro b hb hh
          match b, hb, hh with | 0, _, hh => exact (absurd (show 0 ≤ 0 ∧ 0 < 0 + 1 from by decide) hh) | (b_ + 1), h_, _ => exact absurd h_ (by omega)
      cbv
      injection h with h
      refine hK10 _ h.symm _ ?_
      exact le_sparse rfl ⟨AV.le_refl _, AV.le_refl _, AV.le_refl _, trivial⟩ ⟨⟨fun hw => hw, fun c hc => (by cases hc), .inl rfl, rfl, rfl, fun i hi j hj => rfl⟩, trivial⟩ rfl
    · replace h := of_br_f b19 h
      cbv
      injection h with h
      refine hY8 _ h.symm _ _ (And.intro rfl ?_) (by intro hh; cases hh)
      exact le_sparse rfl ⟨AV.le_refl _, trivial⟩ ⟨⟨fun hw => hw, fun c hc => (by cases hc), .inl rfl, rfl, rfl, fun i hi j hj => rfl⟩, trivial⟩ rfl
  · clear hr6
    have h := hN7
    clear hN7
    intro e14 s15 q13 hne
    replace h := of_let h
    obtain ⟨y5k0, hyk, h⟩ := h
    have hyk : y5k0 = y5 := hyk
    subst hyk
    obtain ⟨rfl, q13⟩ := q13
    obtain ⟨y5k0_0, y5k0_1⟩ := y5k0
    replace h := of_let h
    obtain ⟨w20, hw20, h⟩ := h
    have hw20 : w20 = y5k0_0 := hw20
    subst hw20
    replace h := of_let h
    obtain ⟨w21, hw21, h⟩ := h
    have hw21 : w21 = y5k0_1 := hw21
    subst hw21
    cbv
    refine ⟨_, q13, ?_⟩
    cbv
    replace h := of_req h
    obtain ⟨c22, h⟩ := h
    injection h with h
    subst h
    refine ⟨(sparse 19 [(4, .c (.v (.int .i64 w20)))] [(5, .arr .rw [] (LEN w21) 1 (row GD (encI .i64) w21))]), ?_, ?_⟩
    · rw [c22]
      exact le_sparse rfl ⟨AV.le_refl _, trivial⟩ ⟨⟨fun hw => hw, fun c hc => (by cases hc), .inl rfl, rfl, rfl, fun i hi j hj => rfl⟩, trivial⟩ rfl
    · exact ⟨AV.le_refl _, ⟨⟨fun hw => hw, fun c hc => (by cases hc), .inl rfl, rfl, rfl, fun i hi j hj => rfl⟩, trivial⟩, rfl⟩
noncomputable def L_laws_heldInt64S_x3 (a0 : List Int) : (Int × Int) → Option ((Int × Int) ⊕ ((Int) ⊕ (Int))) := fun x3 =>
  letO x3.1 fun v1 =>
  letO x3.2 fun v2 =>
  br (std.lt v2 (std.ofN (len a0)))
  (req (std.inR v2 (len a0)) <|
  br (std.not (std.eq (gd a0 (std.toN v2)) v1))
  (some (.inr (.inl (-1))))
  (some (.inl (std.add .i64 v1 1, std.add .i64 v2 1))))
  (some (.inr (.inr v1)))
/-- laws.heldInt64S -/
noncomputable def F_laws_heldInt64S (a0 : List Int) (a1 : Int) : Option (Int) :=
  (whileP (σ := Int × Int) (ρ := (Int) ⊕ (Int)) (L_laws_heldInt64S_x3 a0) (a1, 0)).bind fun y4 =>
  (match y4 with
    | .inl y4k0 => (
        letO y4k0 fun w18 =>
        some w18)
    | .inr y4m0 =>
        letO y4m0 fun y4k1 =>
        letO y4k1 fun w19 =>
        some w19)
theorem run_laws_heldInt64S (a0 : List Int) (a1 : Int) (r : Int) (h : F_laws_heldInt64S a0 a1 = some r) : Fun Try.prog 32 [.c (.bs (len a0) 1 (row gd (encI .i64) a0)), .c (.v (.int .i64 a1))] [] (.c (.v (.int .i64 r))) [] true := by
  refine Fun.of_wp (oneOf []) tok mixed Try.func32 (by kernel_rfl) rfl Try.ntmps32 rfl trivial (fun _ => ⟨trivial, trivial⟩) ?_
  unfold F_laws_heldInt64S at h
  unfold L_laws_heldInt64S_x3 at h
  generalize hLEN : @len = LEN at *
  generalize hGD : @gd = GD at *
  generalize hA : std = A at *
  generalize hP : Try.prog = P at *
  cbv
  replace h := of_bind h
  obtain ⟨y4, hr5, hN6⟩ := h
  refine loop_cut hr5 (fun x => (sparse 21 [(0, .c (.bs (LEN a0) 1 (row GD (encI .i64) a0))), (1, .c (.v (.int .i64 x.1))), (5, .c (.v (.int .i64 x.2)))] [])) ?_ (fun y e s => (match y with | .inl w => e = .ret ∧ s.le (sparse 21 [(4, .c (.v (.int .i64 w)))] []) | .inr w0 => (fun (w : Int) => e = .exit 0 ∧ s.le (sparse 21 [(1, .c (.v (.int .i64 w)))] [])) w0)) ?_ ?_
  · clear hr5 hN6
    show St.le _ _
    exact le_sparse rfl ⟨AV.le_refl _, AV.le_refl _, AV.le_refl _, trivial⟩ trivial rfl
  · clear hr5 hN6
    intro x z10 h K8 hK9 hY7
    obtain ⟨x0_, x1_⟩ := x
    replace h := of_let h
    obtain ⟨v1, hv1, h⟩ := h
    have hv1 : v1 = x0_ := hv1
    subst hv1
    replace h := of_let h
    obtain ⟨v2, hv2, h⟩ := h
    have hv2 : v2 = x1_ := hv2
    subst hv2
    cbv
    refine fork (fun b17 => ?_) (fun b17 => ?_)
    · replace h := of_br_t b17 h
      cbv
      replace h := of_req h
      obtain ⟨c15, h⟩ := h
      refine ⟨⟨c15, trivial⟩, ?_⟩
      refine fork (fun b16 => ?_) (fun b16 => ?_)
      · replace h := of_br_t b16 h
        cbv
        injection h with h
        refine hY7 _ h.symm _ _ (And.intro rfl ?_) (by intro hh; cases hh)
        exact le_sparse rfl ⟨AV.le_refl _, trivial⟩ trivial rfl
      · replace h := of_br_f b16 h
        cbv
        injection h with h
        refine hK9 _ h.symm _ ?_
        exact le_sparse rfl ⟨AV.le_refl _, AV.le_refl _, AV.le_refl _, trivial⟩ trivial rfl
    · replace h := of_br_f b17 h
      cbv
      injection h with h
      refine hY7 _ h.symm _ _ (And.intro rfl ?_) (by intro hh; cases hh)
      exact le_sparse rfl ⟨AV.le_refl _, trivial⟩ trivial rfl
  · clear hr5
    have h := hN6
    clear hN6
    intro e13 s14 q12 hne
    rcases y4 with y4k0 | y4m0
    · replace h := h
      obtain ⟨rfl, q12⟩ := q12
      replace h := of_let h
      obtain ⟨w18, hw18, h⟩ := h
      have hw18 : w18 = y4k0 := hw18
      subst hw18
      cbv
      injection h with h
      subst h
      refine ⟨(sparse 21 [(4, .c (.v (.int .i64 w18)))] []), ?_, ?_⟩
      · refine St.le_trans q12 ?_
        exact le_sparse rfl ⟨AV.le_refl _, trivial⟩ trivial rfl
      · exact ⟨AV.le_refl _, trivial, rfl⟩
    · replace h := of_let h
      obtain ⟨y4k1, hyk, h⟩ := h
      have hyk : y4k1 = y4m0 := hyk
      subst hyk
      obtain ⟨rfl, q12⟩ := q12
      replace h := of_let h
      obtain ⟨w19, hw19, h⟩ := h
      have hw19 : w19 = y4k1 := hw19
      subst hw19
      cbv
      refine ⟨_, q12, ?_⟩
      cbv
      injection h with h
      subst h
      refine ⟨(sparse 21 [(4, .c (.v (.int .i64 w19)))] []), ?_, ?_⟩
      · exact le_sparse rfl ⟨AV.le_refl _, trivial⟩ trivial rfl
      · exact ⟨AV.le_refl _, trivial, rfl⟩

/-- laws.FnExactInstancesTouching -/
noncomputable def F_laws_FnExactInstancesTouching (a0 : TLibrary) (a1 : Int) (a2 : TRect) : Option (Bool) :=
  (F_laws_szLibrary a0 1048576).bind fun y1 =>
  br (std.lt y1 0)
  (some true)
  ((F_laws_toLibrary a0).bind fun y3 =>
  (F_laws_toRect a2).bind fun y5 =>
  (F_spec_InstancesTouching y3 a1 y5).bind fun y7 =>
  (F_laws_toLibrary a0).bind fun y9 =>
  (F_laws_toRect a2).bind fun y11 =>
  (F_impl_InstancesTouching y9 a1 y11).bind fun y13 =>
  (F_laws_eqInt64S y13 y7).bind fun y15 =>
  br (!(y15))
  (some false)
  ((F_laws_toLibrary a0).bind fun y17 =>
  (F_laws_eqLibrary y9 y17).bind fun y19 =>
  br (!(y19))
  (some false)
  ((F_laws_markLibrary_mob y9 1).bind fun y21 =>
  req (len y21.2 = len y9.fCells) <|
  ((
        br (std.lt y21.1 0)
        (some true)
        ((F_laws_eqInt64S y13 y7).bind fun y30 =>
        some (!(y30)))
    ) : Option (Bool)).bind fun y23 =>
  letO y23 fun w29 =>
  br w29
  (some false)
  ((F_laws_markInt64S_mob y13 1).bind fun y33 =>
  req (len y33.2 = len y13) <|
  (F_laws_heldInt64S y33.2 1).bind fun y35 =>
  req (len y13 = len y33.2) <|
  br (std.lt y35 0)
  (some false)
  (br (std.not (std.eq y35 y33.1))
  (some false)
  ((F_laws_toLibrary a0).bind fun y37 =>
  (F_laws_toRect a2).bind fun y39 =>
  (F_impl_InstancesTouching y37 a1 y39).bind fun y41 =>
  (F_laws_eqInt64S y41 y7).bind fun y43 =>
  br (!(y43))
  (some false)
  ((F_laws_heldInt64S y33.2 1).bind fun y45 =>
  req (len y13 = len y33.2) <|
  br (std.lt y45 0)
  (some false)
  (br (std.not (std.eq y45 y33.1))
  (some false)
  (some true)))))))))
theorem run_laws_FnExactInstancesTouching (a0 : TLibrary) (a1 : Int) (a2 : TRect) (r : Bool) (h : F_laws_FnExactInstancesTouching a0 a1 a2 = some r) : Fun Try.prog 7 [.agg [.bs (len a0.fCells) 4 (row gd (encCell len gd) a0.fCells)], .c (.v (.int .i64 a1)), .agg [.v (.int .i64 a2.fX0), .v (.int .i64 a2.fY0), .v (.int .i64 a2.fX1), .v (.int .i64 a2.fY1)]] [] (.c (.v (.bool r))) [] true := by
  refine Fun.of_wp (oneOf [14]) tok mixed Try.func7 (by kernel_rfl) rfl Try.ntmps7 rfl trivial (fun _ => ⟨trivial, trivial⟩) ?_
  unfold F_laws_FnExactInstancesTouching at h
  have hf_impl_InstancesTouching := @run_impl_InstancesTouching
  have hf_laws_eqInt64S := @run_laws_eqInt64S
  have hf_laws_eqLibrary := @run_laws_eqLibrary
  have hf_laws_heldInt64S := @run_laws_heldInt64S
  have hf_laws_markInt64S_mob := @run_laws_markInt64S_mob
  have hf_laws_markLibrary_mob := @run_laws_markLibrary_mob
  have hf_laws_szLibrary := @run_laws_szLibrary
  have hf_laws_toLibrary := @run_laws_toLibrary
  have hf_laws_toRect := @run_laws_toRect
  have hf_spec_InstancesTouching := @run_spec_InstancesTouching
  generalize hLEN : @len = LEN at *
  generalize hGD : @gd = GD at *
  generalize hA : std = A at *
  generalize hP : Try.prog = P at *
  cbv
  replace h := of_bind h
  obtain ⟨y1, hy2, h⟩ := h
  refine ⟨{ args := [.agg [.bs (LEN a0.fCells) 4 (row GD (encCell LEN GD) a0.fCells)], .c (.v (.int .i64 1048576))], o0 := [], r := .c (.v (.int .i64 y1)), o1 := [], fl := true, σ := [], τ := [] }, hf_laws_szLibrary _ _ _ hy2, ⟨les_cons (AV.le_refl _) (les_cons (AV.le_refl _) (les_nil)), trivial, rfl, rfl, rfl, rfl, trivial, rfl⟩, ?_⟩
  cbv
  refine fork (fun b59 => ?_) (fun b59 => ?_)
  · replace h := of_br_t b59 h
    cbv
    injection h with h
    subst h
    refine ⟨(sparse 82 [(6, .c (.v (.bool true)))] []), ?_, ?_⟩
    · exact le_sparse rfl ⟨AV.le_refl _, trivial⟩ trivial rfl
    · exact ⟨AV.le_refl _, trivial, rfl⟩
  · replace h := of_br_f b59 h
    cbv
    replace h := of_bind h
    obtain ⟨y3, hy4, h⟩ := h
    refine ⟨{ args := [.agg [.bs (LEN a0.fCells) 4 (row GD (encCell LEN GD) a0.fCells)]], o0 := [], r := .agg [.os 64000 0 (LEN y3.fCells)], o1 := [(64000, .arr .rw [] (LEN y3.fCells) 4 (row GD (oncCell LEN GD) y3.fCells))], fl := true, σ := [], τ := [(64000, 1344)] }, hf_laws_toLibrary _ _ hy4, ⟨les_cons (AV.le_refl _) (les_nil), trivial, rfl, rfl, rfl, rfl, ⟨fun h => absurd (show (64000 : Nat) % 2 = 1 from h) (by decide), trivial⟩, rfl⟩, _, rfl, _, _, rfl, fun _ _ _ _ => rfl, ?_⟩
    cbv
    replace h := of_bind h
    obtain ⟨y5, hy6, h⟩ := h
    refine ⟨{ args := [.agg [.v (.int .i64 a2.fX0), .v (.int .i64 a2.fY0), .v (.int .i64 a2.fX1), .v (.int .i64 a2.fY1)]], o0 := [], r := .agg [.v (.int .i64 y5.fX0), .v (.int .i64 y5.fY0), .v (.int .i64 y5.fX1), .v (.int .i64 y5.fY1)], o1 := [], fl := true, σ := [], τ := [] }, hf_laws_toRect _ _ hy6, ⟨les_cons (AV.le_refl _) (les_nil), trivial, rfl, rfl, rfl, rfl, trivial, rfl⟩, ?_⟩
    cbv
    replace h := of_bind h
    obtain ⟨y7, hy8, h⟩ := h
    refine ⟨{ args := [.agg [.bs (LEN y3.fCells) 4 (row GD (encCell LEN GD) y3.fCells)], .c (.v (.int .i64 a1)), .agg [.v (.int .i64 y5.fX0), .v (.int .i64 y5.fY0), .v (.int .i64 y5.fX1), .v (.int .i64 y5.fY1)]], o0 := [], r := .c (.os 64000 0 (LEN y7)), o1 := [(64000, .arr .rw [] (LEN y7) 1 (row GD (encI .i64) y7))], fl := true, σ := [], τ := [(64000, 1600)] }, hf_spec_InstancesTouching _ _ _ _ hy8, ⟨les_cons (le_agg ⟨give_osD (rf_oncCell) (ln_oncCell) rfl rfl rfl, trivial⟩) (les_cons (AV.le_refl _) (les_cons (AV.le_refl _) (les_nil))), trivial, rfl, rfl, rfl, rfl, ⟨fun h => absurd (show (64000 : Nat) % 2 = 1 from h) (by decide), trivial⟩, rfl⟩, _, rfl, _, _, rfl, fun _ _ _ _ => rfl, ?_⟩
    cbv
    replace h := of_bind h
    obtain ⟨y9, hy10, h⟩ := h
    refine ⟨{ args := [.agg [.bs (LEN a0.fCells) 4 (row GD (encCell LEN GD) a0.fCells)]], o0 := [], r := .agg [.os 64000 0 (LEN y9.fCells)], o1 := [(64000, .arr .rw [] (LEN y9.fCells) 4 (row GD (oncCell LEN GD) y9.fCells))], fl := true, σ := [], τ := [(64000, 1728)] }, hf_laws_toLibrary _ _ hy10, ⟨les_cons (AV.le_refl _) (les_nil), trivial, rfl, rfl, rfl, rfl, ⟨fun h => absurd (show (64000 : Nat) % 2 = 1 from h) (by decide), trivial⟩, rfl⟩, _, rfl, _, _, rfl, fun _ _ _ _ => rfl, ?_⟩
    cbv
    replace h := of_bind h
    obtain ⟨y11, hy12, h⟩ := h
    refine ⟨{ args := [.agg [.v (.int .i64 a2.fX0), .v (.int .i64 a2.fY0), .v (.int .i64 a2.fX1), .v (.int .i64 a2.fY1)]], o0 := [], r := .agg [.v (.int .i64 y11.fX0), .v (.int .i64 y11.fY0), .v (.int .i64 y11.fX1), .v (.int .i64 y11.fY1)], o1 := [], fl := true, σ := [], τ := [] }, hf_laws_toRect _ _ hy12, ⟨les_cons (AV.le_refl _) (les_nil), trivial, rfl, rfl, rfl, rfl, trivial, rfl⟩, ?_⟩
    cbv
    replace h := of_bind h
    obtain ⟨y13, hy14, h⟩ := h
    refine ⟨{ args := [.agg [.bs (LEN y9.fCells) 4 (row GD (encCell LEN GD) y9.fCells)], .c (.v (.int .i64 a1)), .agg [.v (.int .i64 y11.fX0), .v (.int .i64 y11.fY0), .v (.int .i64 y11.fX1), .v (.int .i64 y11.fY1)]], o0 := [], r := .c (.os 64000 0 (LEN y13)), o1 := [(64000, .arr .rw [] (LEN y13) 1 (row GD (encI .i64) y13))], fl := true, σ := [], τ := [(64000, 2048)] }, hf_impl_InstancesTouching _ _ _ _ hy14, ⟨les_cons (le_agg ⟨give_osD (rf_oncCell) (ln_oncCell) rfl rfl rfl, trivial⟩) (les_cons (AV.le_refl _) (les_cons (AV.le_refl _) (les_nil))), trivial, rfl, rfl, rfl, rfl, ⟨fun h => absurd (show (64000 : Nat) % 2 = 1 from h) (by decide), trivial⟩, rfl⟩, _, rfl, _, _, rfl, fun _ _ _ _ => rfl, ?_⟩
    cbv
    replace h := of_bind h
    obtain ⟨y15, hy16, h⟩ := h
    refine ⟨{ args := [.c (.bs (LEN y13) 1 (row GD (encI .i64) y13)), .c (.bs (LEN y7) 1 (row GD (encI .i64) y7))], o0 := [], r := .c (.v (.bool y15)), o1 := [], fl := true, σ := [], τ := [] }, hf_laws_eqInt64S _ _ _ hy16, ⟨les_cons (give_os (fun _ _ => rfl) rfl rfl rfl) (les_cons (give_os (fun _ _ => rfl) rfl rfl rfl) (les_nil)), trivial, rfl, rfl, rfl, rfl, trivial, rfl⟩, ?_⟩
    cbv
    refine fork (fun b58 => ?_) (fun b58 => ?_)
    · replace h := of_br_t b58 h
      cbv
      injection h with h
      subst h
      refine ⟨(sparse 82 [(6, .c (.v (.bool false)))] []), ?_, ?_⟩
      · exact le_sparse rfl ⟨AV.le_refl _, trivial⟩ trivial rfl
      · exact ⟨AV.le_refl _, trivial, rfl⟩
    · replace h := of_br_f b58 h
      cbv
      replace h := of_bind h
      obtain ⟨y17, hy18, h⟩ := h
      refine ⟨{ args := [.agg [.bs (LEN a0.fCells) 4 (row GD (encCell LEN GD) a0.fCells)]], o0 := [], r := .agg [.os 64000 0 (LEN y17.fCells)], o1 := [(64000, .arr .rw [] (LEN y17.fCells) 4 (row GD (oncCell LEN GD) y17.fCells))], fl := true, σ := [], τ := [(64000, 2496)] }, hf_laws_toLibrary _ _ hy18, ⟨les_cons (AV.le_refl _) (les_nil), trivial, rfl, rfl, rfl, rfl, ⟨fun h => absurd (show (64000 : Nat) % 2 = 1 from h) (by decide), trivial⟩, rfl⟩, _, rfl, _, _, rfl, fun _ _ _ _ => rfl, ?_⟩
      cbv
      replace h := of_bind h
      obtain ⟨y19, hy20, h⟩ := h
      refine ⟨{ args := [.agg [.bs (LEN y9.fCells) 4 (row GD (encCell LEN GD) y9.fCells)], .agg [.bs (LEN y17.fCells) 4 (row GD (encCell LEN GD) y17.fCells)]], o0 := [], r := .c (.v (.bool y19)), o1 := [], fl := true, σ := [], τ := [] }, hf_laws_eqLibrary _ _ _ hy20, ⟨les_cons (le_agg ⟨give_osD (rf_oncCell) (ln_oncCell) rfl rfl rfl, trivial⟩) (les_cons (le_agg ⟨give_osD (rf_oncCell) (ln_oncCell) rfl rfl rfl, trivial⟩) (les_nil)), trivial, rfl, rfl, rfl, rfl, trivial, rfl⟩, ?_⟩
      cbv
      refine fork (fun b57 => ?_) (fun b57 => ?_)
      · replace h := of_br_t b57 h
        cbv
        injection h with h
        subst h
        refine ⟨(sparse 82 [(6, .c (.v (.bool false)))] []), ?_, ?_⟩
        · exact le_sparse rfl ⟨AV.le_refl _, trivial⟩ trivial rfl
        · exact ⟨AV.le_refl _, trivial, rfl⟩
      · replace h := of_br_f b57 h
        cbv
        replace h := of_bind h
        obtain ⟨y21, hy22, h⟩ := h
        replace h := of_req h
        obtain ⟨c56, h⟩ := h
        refine ⟨{ args := [.agg [.os 5 0 (LEN y9.fCells)], .c (.v (.int .i64 1))], o0 := [(5, .arr .rw [] (LEN y9.fCells) 4 (row GD (oncCell LEN GD) y9.fCells))], r := .c (.v (.int .i64 y21.1)), o1 := [(5, .arr .rw [] (LEN y21.2) 4 (row GD (oncCell LEN GD) y21.2))], fl := true, σ := [(5, 1728)], τ := [(5, 1728)] }, hf_laws_markLibrary_mob _ _ _ hy22, ⟨les_cons (AV.le_refl _) (les_cons (AV.le_refl _) (les_nil)), ⟨⟨fun hw => hw, fun c hc => (by cases hc), .inl rfl, rfl, rfl, fun i hi j hj => rfl⟩, trivial⟩, rfl, rfl, rfl, rfl, ⟨fun _ => ⟨c56.symm, rfl, fun c h => h⟩, trivial⟩, rfl⟩, _, rfl, LEN y9.fCells, _, c56, fun _ _ _ _ => rfl, ?_⟩
        cbv
        replace h := of_bind h
        obtain ⟨y23, hy24, h⟩ := h
        obtain ⟨S27, hS28⟩ : ∃ S, S = (sparse 82 [(1, .c (.v (.int .i64 a1))), (3, .c (.ptr 192 0)), (5, .c (.ptr 320 0)), (8, .c (.os 1600 0 (LEN y7))), (10, .c (.os 2048 0 (LEN y13))), (52, .c (.v (.bool y23)))] [(192, .var [.bs (LEN a0.fCells) 4 (row GD (encCell LEN GD) a0.fCells)]), (320, .var [.v (.int .i64 a2.fX0), .v (.int .i64 a2.fY0), .v (.int .i64 a2.fX1), .v (.int .i64 a2.fY1)]), (1600, .arr .rw [] (LEN y7) 1 (row GD (encI .i64) y7)), (2048, .arr .rw [] (LEN y13) 1 (row GD (encI .i64) y13))]) := ⟨_, rfl⟩
        refine ⟨S27, ?_, ?_⟩
        · clear h
          have h := hy24
          clear hy24
          cbv
          refine fork (fun b32 => ?_) (fun b32 => ?_)
          · replace h := of_br_t b32 h
            cbv
            injection h with h
            subst h
            subst hS28
            show St.le _ _
            exact le_sparse rfl ⟨AV.le_refl _, AV.le_refl _, AV.le_refl _, AV.le_refl _, AV.le_refl _, AV.le_refl _, trivial⟩ ⟨rfl, rfl, ⟨fun hw => hw, fun c hc => (by cases hc), .inl rfl, rfl, rfl, fun i hi j hj => rfl⟩, ⟨fun hw => hw, fun c hc => (by cases hc), .inl rfl, rfl, rfl, fun i hi j hj => rfl⟩, trivial⟩ rfl
          · replace h := of_br_f b32 h
            cbv
            replace h := of_bind h
            obtain ⟨y30, hy31, h⟩ := h
            refine ⟨{ args := [.c (.bs (LEN y13) 1 (row GD (encI .i64) y13)), .c (.bs (LEN y7) 1 (row GD (encI .i64) y7))], o0 := [], r := .c (.v (.bool y30)), o1 := [], fl := true, σ := [], τ := [] }, hf_laws_eqInt64S _ _ _ hy31, ⟨les_cons (give_os (fun _ _ => rfl) rfl rfl rfl) (les_cons (give_os (fun _ _ => rfl) rfl rfl rfl) (les_nil)), trivial, rfl, rfl, rfl, rfl, trivial, rfl⟩, ?_⟩
            cbv
            injection h with h
            subst h
            subst hS28
            show St.le _ _
            exact le_sparse rfl ⟨AV.le_refl _, AV.le_refl _, AV.le_refl _, AV.le_refl _, AV.le_refl _, AV.le_refl _, trivial⟩ ⟨rfl, rfl, ⟨fun hw => hw, fun c hc => (by cases hc), .inl rfl, rfl, rfl, fun i hi j hj => rfl⟩, ⟨fun hw => hw, fun c hc => (by cases hc), .inl rfl, rfl, rfl, fun i hi j hj => rfl⟩, trivial⟩ rfl
        · clear hy24
          subst hS28
          replace h := of_let h
          obtain ⟨w29, hw29, h⟩ := h
          have hw29 : w29 = y23 := hw29
          subst hw29
          cbv
          refine fork (fun b55 => ?_) (fun b55 => ?_)
          · replace h := of_br_t b55 h
            cbv
            injection h with h
            subst h
            refine ⟨(sparse 82 [(6, .c (.v (.bool false)))] []), ?_, ?_⟩
            · exact le_sparse rfl ⟨AV.le_refl _, trivial⟩ trivial rfl
            · exact ⟨AV.le_refl _, trivial, rfl⟩
          · replace h := of_br_f b55 h
            cbv
            replace h := of_bind h
            obtain ⟨y33, hy34, h⟩ := h
            replace h := of_req h
            obtain ⟨c54, h⟩ := h
            refine ⟨{ args := [.c (.os 5 0 (LEN y13)), .c (.v (.int .i64 1))], o0 := [(5, .arr .rw [] (LEN y13) 1 (row GD (encI .i64) y13))], r := .c (.v (.int .i64 y33.1)), o1 := [(5, .arr .rw [] (LEN y33.2) 1 (row GD (encI .i64) y33.2))], fl := true, σ := [(5, 2048)], τ := [(5, 2048)] }, hf_laws_markInt64S_mob _ _ _ hy34, ⟨les_cons (AV.le_refl _) (les_cons (AV.le_refl _) (les_nil)), ⟨⟨fun hw => hw, fun c hc => (by cases hc), .inl rfl, rfl, rfl, fun i hi j hj => rfl⟩, trivial⟩, rfl, rfl, rfl, rfl, ⟨fun _ => ⟨c54.symm, rfl, fun c h => h⟩, trivial⟩, rfl⟩, _, rfl, LEN y13, _, c54, fun _ _ _ _ => rfl, ?_⟩
            cbv
            replace h := of_bind h
            obtain ⟨y35, hy36, h⟩ := h
            replace h := of_req h
            obtain ⟨c53, h⟩ := h
            refine ⟨{ args := [.c (.bs (LEN y33.2) 1 (row GD (encI .i64) y33.2)), .c (.v (.int .i64 1))], o0 := [], r := .c (.v (.int .i64 y35)), o1 := [], fl := true, σ := [], τ := [] }, hf_laws_heldInt64S _ _ _ hy36, ⟨les_cons (give_os (fun _ _ => rfl) rfl rfl c53) (les_cons (AV.le_refl _) (les_nil)), trivial, rfl, rfl, rfl, rfl, trivial, rfl⟩, ?_⟩
            cbv
            refine fork (fun b52 => ?_) (fun b52 => ?_)
            · replace h := of_br_t b52 h
              cbv
              injection h with h
              subst h
              refine ⟨(sparse 82 [(6, .c (.v (.bool false)))] []), ?_, ?_⟩
              · exact le_sparse rfl ⟨AV.le_refl _, trivial⟩ trivial rfl
              · exact ⟨AV.le_refl _, trivial, rfl⟩
            · replace h := of_br_f b52 h
              cbv
              refine fork (fun b51 => ?_) (fun b51 => ?_)
              · replace h := of_br_t b51 h
                cbv
                injection h with h
                subst h
                refine ⟨(sparse 82 [(6, .c (.v (.bool false)))] []), ?_, ?_⟩
                · exact le_sparse rfl ⟨AV.le_refl _, trivial⟩ trivial rfl
                · exact ⟨AV.le_refl _, trivial, rfl⟩
              · replace h := of_br_f b51 h
                cbv
                replace h := of_bind h
                obtain ⟨y37, hy38, h⟩ := h
                refine ⟨{ args := [.agg [.bs (LEN a0.fCells) 4 (row GD (encCell LEN GD) a0.fCells)]], o0 := [], r := .agg [.os 64000 0 (LEN y37.fCells)], o1 := [(64000, .arr .rw [] (LEN y37.fCells) 4 (row GD (oncCell LEN GD) y37.fCells))], fl := true, σ := [], τ := [(64000, 4160)] }, hf_laws_toLibrary _ _ hy38, ⟨les_cons (AV.le_refl _) (les_nil), trivial, rfl, rfl, rfl, rfl, ⟨fun h => absurd (show (64000 : Nat) % 2 = 1 from h) (by decide), trivial⟩, rfl⟩, _, rfl, _, _, rfl, fun _ _ _ _ => rfl, ?_⟩
                cbv
                replace h := of_bind h
                obtain ⟨y39, hy40, h⟩ := h
                refine ⟨{ args := [.agg [.v (.int .i64 a2.fX0), .v (.int .i64 a2.fY0), .v (.int .i64 a2.fX1), .v (.int .i64 a2.fY1)]], o0 := [], r := .agg [.v (.int .i64 y39.fX0), .v (.int .i64 y39.fY0), .v (.int .i64 y39.fX1), .v (.int .i64 y39.fY1)], o1 := [], fl := true, σ := [], τ := [] }, hf_laws_toRect _ _ hy40, ⟨les_cons (AV.le_refl _) (les_nil), trivial, rfl, rfl, rfl, rfl, trivial, rfl⟩, ?_⟩
                cbv
                replace h := of_bind h
                obtain ⟨y41, hy42, h⟩ := h
                refine ⟨{ args := [.agg [.bs (LEN y37.fCells) 4 (row GD (encCell LEN GD) y37.fCells)], .c (.v (.int .i64 a1)), .agg [.v (.int .i64 y39.fX0), .v (.int .i64 y39.fY0), .v (.int .i64 y39.fX1), .v (.int .i64 y39.fY1)]], o0 := [], r := .c (.os 64000 0 (LEN y41)), o1 := [(64000, .arr .rw [] (LEN y41) 1 (row GD (encI .i64) y41))], fl := true, σ := [], τ := [(64000, 4416)] }, hf_impl_InstancesTouching _ _ _ _ hy42, ⟨les_cons (le_agg ⟨give_osD (rf_oncCell) (ln_oncCell) rfl rfl rfl, trivial⟩) (les_cons (AV.le_refl _) (les_cons (AV.le_refl _) (les_nil))), trivial, rfl, rfl, rfl, rfl, ⟨fun h => absurd (show (64000 : Nat) % 2 = 1 from h) (by decide), trivial⟩, rfl⟩, _, rfl, _, _, rfl, fun _ _ _ _ => rfl, ?_⟩
                cbv
                replace h := of_bind h
                obtain ⟨y43, hy44, h⟩ := h
                refine ⟨{ args := [.c (.bs (LEN y41) 1 (row GD (encI .i64) y41)), .c (.bs (LEN y7) 1 (row GD (encI .i64) y7))], o0 := [], r := .c (.v (.bool y43)), o1 := [], fl := true, σ := [], τ := [] }, hf_laws_eqInt64S _ _ _ hy44, ⟨les_cons (give_os (fun _ _ => rfl) rfl rfl rfl) (les_cons (give_os (fun _ _ => rfl) rfl rfl rfl) (les_nil)), trivial, rfl, rfl, rfl, rfl, trivial, rfl⟩, ?_⟩
                cbv
                refine fork (fun b50 => ?_) (fun b50 => ?_)
                · replace h := of_br_t b50 h
                  cbv
                  injection h with h
                  subst h
                  refine ⟨(sparse 82 [(6, .c (.v (.bool false)))] []), ?_, ?_⟩
                  · exact le_sparse rfl ⟨AV.le_refl _, trivial⟩ trivial rfl
                  · exact ⟨AV.le_refl _, trivial, rfl⟩
                · replace h := of_br_f b50 h
                  cbv
                  replace h := of_bind h
                  obtain ⟨y45, hy46, h⟩ := h
                  replace h := of_req h
                  obtain ⟨c49, h⟩ := h
                  refine ⟨{ args := [.c (.bs (LEN y33.2) 1 (row GD (encI .i64) y33.2)), .c (.v (.int .i64 1))], o0 := [], r := .c (.v (.int .i64 y45)), o1 := [], fl := true, σ := [], τ := [] }, hf_laws_heldInt64S _ _ _ hy46, ⟨les_cons (give_os (fun _ _ => rfl) rfl rfl c49) (les_cons (AV.le_refl _) (les_nil)), trivial, rfl, rfl, rfl, rfl, trivial, rfl⟩, ?_⟩
                  cbv
                  refine fork (fun b48 => ?_) (fun b48 => ?_)
                  · replace h := of_br_t b48 h
                    cbv
                    injection h with h
                    subst h
                    refine ⟨(sparse 82 [(6, .c (.v (.bool false)))] []), ?_, ?_⟩
                    · exact le_sparse rfl ⟨AV.le_refl _, trivial⟩ trivial rfl
                    · exact ⟨AV.le_refl _, trivial, rfl⟩
                  · replace h := of_br_f b48 h
                    cbv
                    refine fork (fun b47 => ?_) (fun b47 => ?_)
                    · replace h := of_br_t b47 h
                      cbv
                      injection h with h
                      subst h
                      refine ⟨(sparse 82 [(6, .c (.v (.bool false)))] []), ?_, ?_⟩
                      · exact le_sparse rfl ⟨AV.le_refl _, trivial⟩ trivial rfl
                      · exact ⟨AV.le_refl _, trivial, rfl⟩
                    · replace h := of_br_f b47 h
                      cbv
                      injection h with h
                      subst h
                      refine ⟨(sparse 82 [(6, .c (.v (.bool true)))] []), ?_, ?_⟩
                      · exact le_sparse rfl ⟨AV.le_refl _, trivial⟩ trivial rfl
                      · exact ⟨AV.le_refl _, trivial, rfl⟩
theorem op_9 (d : Nat) : Opens T (d + 1) 9 (clS) (wfS) := op_str (show T 9 = some d9 from rfl) rfl
theorem op_2 (d : Nat) : Opens T (d + 1) 2 (clI .i64) (wfI .i64) := op_int .i64 (show T 2 = some d2 from rfl) rfl
def clRect (e : TRect) : List AC := clI .i64 e.fX0 ++ (clI .i64 e.fY0 ++ (clI .i64 e.fX1 ++ (clI .i64 e.fY1 ++ ([]))))
def wfRect (e : TRect) : Prop := wfI .i64 e.fX0 ∧ wfI .i64 e.fY0 ∧ wfI .i64 e.fX1 ∧ wfI .i64 e.fY1
theorem op_46 (d : Nat) : Opens T (d + 2) 46 (clRect) (wfRect) := by
  intro cs hs
  obtain ⟨a0, b0, rfl, h0, a1, b1, rfl, h1, a2, b2, rfl, h2, a3, b3, rfl, h3, rfl⟩ := hs
  obtain ⟨e0, w0, r0⟩ := op_2 (d + 0) a0 h0
  obtain ⟨e1, w1, r1⟩ := op_2 (d + 0) a1 h1
  obtain ⟨e2, w2, r2⟩ := op_2 (d + 0) a2 h2
  obtain ⟨e3, w3, r3⟩ := op_2 (d + 0) a3 h3
  exact ⟨TRect.mk e0 e1 e2 e3, ⟨w0, w1, w2, w3⟩, rlist_app r0 (rlist_app r1 (rlist_app r2 (rlist_app r3 (trivial))))⟩
def clShape (e : TShape) : List AC := clI .i64 e.fLayer ++ (clRect e.fBox ++ ([]))
def wfShape (e : TShape) : Prop := wfI .i64 e.fLayer ∧ wfRect e.fBox
theorem op_55 (d : Nat) : Opens T (d + 3) 55 (clShape) (wfShape) := by
  intro cs hs
  obtain ⟨a0, b0, rfl, h0, a1, b1, rfl, h1, rfl⟩ := hs
  obtain ⟨e0, w0, r0⟩ := op_2 (d + 1) a0 h0
  obtain ⟨e1, w1, r1⟩ := op_46 (d + 0) a1 h1
  exact ⟨TShape.mk e0 e1, ⟨w0, w1⟩, rlist_app r0 (rlist_app r1 (trivial))⟩
theorem op_138 (d : Nat) : Opens T (d + 4) 138 (clL 5 (encShape)) (wfL wfShape) := op_slice (e := 55) (sz := 5) (show T 138 = some d138 from rfl) rfl (show T 55 = some d55 from rfl) rfl (fun x j hj => by match j, hj with | 0, _ => rfl | 1, _ => rfl | 2, _ => rfl | 3, _ => rfl | 4, _ => rfl | (j_ + 5), h_ => exact absurd h_ (by omega)) (op_55 d)
def clPoint (e : TPoint) : List AC := clI .i64 e.fX ++ (clI .i64 e.fY ++ ([]))
def wfPoint (e : TPoint) : Prop := wfI .i64 e.fX ∧ wfI .i64 e.fY
theorem op_57 (d : Nat) : Opens T (d + 2) 57 (clPoint) (wfPoint) := by
  intro cs hs
  obtain ⟨a0, b0, rfl, h0, a1, b1, rfl, h1, rfl⟩ := hs
  obtain ⟨e0, w0, r0⟩ := op_2 (d + 0) a0 h0
  obtain ⟨e1, w1, r1⟩ := op_2 (d + 0) a1 h1
  exact ⟨TPoint.mk e0 e1, ⟨w0, w1⟩, rlist_app r0 (rlist_app r1 (trivial))⟩
def clLabel (e : TLabel) : List AC := clI .i64 e.fLayer ++ (clPoint e.fAt ++ (clS e.fName ++ ([])))
def wfLabel (e : TLabel) : Prop := wfI .i64 e.fLayer ∧ wfPoint e.fAt ∧ wfS e.fName
theorem op_59 (d : Nat) : Opens T (d + 3) 59 (clLabel) (wfLabel) := by
  intro cs hs
  obtain ⟨a0, b0, rfl, h0, a1, b1, rfl, h1, a2, b2, rfl, h2, rfl⟩ := hs
  obtain ⟨e0, w0, r0⟩ := op_2 (d + 1) a0 h0
  obtain ⟨e1, w1, r1⟩ := op_57 (d + 0) a1 h1
  obtain ⟨e2, w2, r2⟩ := op_9 (d + 1) a2 h2
  exact ⟨TLabel.mk e0 e1 e2, ⟨w0, w1, w2⟩, rlist_app r0 (rlist_app r1 (rlist_app r2 (trivial)))⟩
theorem op_139 (d : Nat) : Opens T (d + 4) 139 (clL 4 (encLabel)) (wfL wfLabel) := op_slice (e := 59) (sz := 4) (show T 139 = some d139 from rfl) rfl (show T 59 = some d59 from rfl) rfl (fun x j hj => by match j, hj with | 0, _ => rfl | 1, _ => rfl | 2, _ => rfl | 3, _ => rfl | (j_ + 4), h_ => exact absurd h_ (by omega)) (op_59 d)
def clTransform (e : TTransform) : List AC := clI .i64 e.fOrientation ++ (clI .i64 e.fX ++ (clI .i64 e.fY ++ ([])))
def wfTransform (e : TTransform) : Prop := wfI .i64 e.fOrientation ∧ wfI .i64 e.fX ∧ wfI .i64 e.fY
theorem op_61 (d : Nat) : Opens T (d + 2) 61 (clTransform) (wfTransform) := by
  intro cs hs
  obtain ⟨a0, b0, rfl, h0, a1, b1, rfl, h1, a2, b2, rfl, h2, rfl⟩ := hs
  obtain ⟨e0, w0, r0⟩ := op_2 (d + 0) a0 h0
  obtain ⟨e1, w1, r1⟩ := op_2 (d + 0) a1 h1
  obtain ⟨e2, w2, r2⟩ := op_2 (d + 0) a2 h2
  exact ⟨TTransform.mk e0 e1 e2, ⟨w0, w1, w2⟩, rlist_app r0 (rlist_app r1 (rlist_app r2 (trivial)))⟩
def clInstance (e : TInstance) : List AC := clI .i64 e.fCell ++ (clTransform e.fPlace ++ (clI .i64 e.fColumns ++ (clI .i64 e.fRows ++ (clI .i64 e.fStepX ++ (clI .i64 e.fStepY ++ ([]))))))
def wfInstance (e : TInstance) : Prop := wfI .i64 e.fCell ∧ wfTransform e.fPlace ∧ wfI .i64 e.fColumns ∧ wfI .i64 e.fRows ∧ wfI .i64 e.fStepX ∧ wfI .i64 e.fStepY
theorem op_63 (d : Nat) : Opens T (d + 3) 63 (clInstance) (wfInstance) := by
  intro cs hs
  obtain ⟨a0, b0, rfl, h0, a1, b1, rfl, h1, a2, b2, rfl, h2, a3, b3, rfl, h3, a4, b4, rfl, h4, a5, b5, rfl, h5, rfl⟩ := hs
  obtain ⟨e0, w0, r0⟩ := op_2 (d + 1) a0 h0
  obtain ⟨e1, w1, r1⟩ := op_61 (d + 0) a1 h1
  obtain ⟨e2, w2, r2⟩ := op_2 (d + 1) a2 h2
  obtain ⟨e3, w3, r3⟩ := op_2 (d + 1) a3 h3
  obtain ⟨e4, w4, r4⟩ := op_2 (d + 1) a4 h4
  obtain ⟨e5, w5, r5⟩ := op_2 (d + 1) a5 h5
  exact ⟨TInstance.mk e0 e1 e2 e3 e4 e5, ⟨w0, w1, w2, w3, w4, w5⟩, rlist_app r0 (rlist_app r1 (rlist_app r2 (rlist_app r3 (rlist_app r4 (rlist_app r5 (trivial))))))⟩
theorem op_140 (d : Nat) : Opens T (d + 4) 140 (clL 8 (encInstance)) (wfL wfInstance) := op_slice (e := 63) (sz := 8) (show T 140 = some d140 from rfl) rfl (show T 63 = some d63 from rfl) rfl (fun x j hj => by match j, hj with | 0, _ => rfl | 1, _ => rfl | 2, _ => rfl | 3, _ => rfl | 4, _ => rfl | 5, _ => rfl | 6, _ => rfl | 7, _ => rfl | (j_ + 8), h_ => exact absurd h_ (by omega)) (op_63 d)
def clCell (e : TCell) : List AC := clS e.fName ++ (clL 5 (encShape) e.fShapes ++ (clL 4 (encLabel) e.fLabels ++ (clL 8 (encInstance) e.fInstances ++ ([]))))
def wfCell (e : TCell) : Prop := wfS e.fName ∧ wfL wfShape e.fShapes ∧ wfL wfLabel e.fLabels ∧ wfL wfInstance e.fInstances
theorem op_142 (d : Nat) : Opens T (d + 5) 142 (clCell) (wfCell) := by
  intro cs hs
  obtain ⟨a0, b0, rfl, h0, a1, b1, rfl, h1, a2, b2, rfl, h2, a3, b3, rfl, h3, rfl⟩ := hs
  obtain ⟨e0, w0, r0⟩ := op_9 (d + 3) a0 h0
  obtain ⟨e1, w1, r1⟩ := op_138 (d + 0) a1 h1
  obtain ⟨e2, w2, r2⟩ := op_139 (d + 0) a2 h2
  obtain ⟨e3, w3, r3⟩ := op_140 (d + 0) a3 h3
  exact ⟨TCell.mk e0 e1 e2 e3, ⟨w0, w1, w2, w3⟩, rlist_app r0 (rlist_app r1 (rlist_app r2 (rlist_app r3 (trivial))))⟩
theorem op_34 (d : Nat) : Opens T (d + 6) 34 (clL 4 (encCell len gd)) (wfL wfCell) := op_slice (e := 142) (sz := 4) (show T 34 = some d34 from rfl) rfl (show T 142 = some d142 from rfl) rfl (fun x j hj => by match j, hj with | 0, _ => rfl | 1, _ => rfl | 2, _ => rfl | 3, _ => rfl | (j_ + 4), h_ => exact absurd h_ (by omega)) (op_142 d)
def clLibrary (e : TLibrary) : List AC := clL 4 (encCell len gd) e.fCells ++ ([])
def wfLibrary (e : TLibrary) : Prop := wfL wfCell e.fCells
theorem op_36 (d : Nat) : Opens T (d + 7) 36 (clLibrary) (wfLibrary) := by
  intro cs hs
  obtain ⟨a0, b0, rfl, h0, rfl⟩ := hs
  obtain ⟨e0, w0, r0⟩ := op_34 (d + 0) a0 h0
  exact ⟨TLibrary.mk e0, w0, rlist_app r0 (trivial)⟩
theorem open_36 {H : Type} {enc : TypeId × Value → H} {W : World} {spare : Nat → Bool} {held : Bool} {r : Reach} {base : Nat} {v : Value} {x : DataW H} {ps : List MemPlace}
    (hv : Value.okWide Try.prog W r base 36 v) (h : DataW.Trod enc Try.prog W 0 spare held 36 v x ps) : ∃ e : TLibrary, wfLibrary e ∧ RelV (RelI (fun b => b < W.heap.size) W) (.agg [.bs (len e.fCells) 4 (row gd (encCell len gd) e.fCells)]) v :=
  opened_agg tok (op_36 0) (by kernel_rfl) (tok 36 d36 rfl).1 hv h
theorem open_46 {H : Type} {enc : TypeId × Value → H} {W : World} {spare : Nat → Bool} {held : Bool} {r : Reach} {base : Nat} {v : Value} {x : DataW H} {ps : List MemPlace}
    (hv : Value.okWide Try.prog W r base 46 v) (h : DataW.Trod enc Try.prog W 0 spare held 46 v x ps) : ∃ e : TRect, wfRect e ∧ RelV (RelI (fun b => b < W.heap.size) W) (.agg [.v (.int .i64 e.fX0), .v (.int .i64 e.fY0), .v (.int .i64 e.fX1), .v (.int .i64 e.fY1)]) v :=
  opened_agg tok (op_46 0) (by kernel_rfl) (tok 46 d46 rfl).1 hv h
end Go.Proofs.Ytmdlnjeppemipaa.AM
