/-
  What the functions that the law reaches compute, and that they do. No condition.
-/
import Derived.Test.YtnmfighfidaglaaAmT
import Derived.Test.YtnmfighfidaglaaAmE
import Derived.Deep.LoopGhost
import Derived.Deep.RegionLaw
import Derived.Lib.SliceRun
import Derived.Lib.SlicesDelete
import Derived.Lib.Walk
import Derived.Shelf.Spec.SlicesInsert
import Derived.Shelf.Spec.SlicesInsertGrow
import Derived.Test.YtnmfighfidaglaaChecked
import Derived.WalkKit
namespace Go.Proofs.Ytnmfighfidaglaa.AM
open Go Go.Proofs Go.RowKit
set_option linter.unusedVariables false
set_option linter.unusedSimpArgs false
set_option maxRecDepth 100000

theorem mixed : Try.prog.follows .mixedOrders = true := by kernel_rfl
structure TRect where
  fX0 : Int
  fY0 : Int
  fX1 : Int
  fY1 : Int
instance : Inhabited TRect := ⟨⟨default, default, default, default⟩⟩
def encRect (x : TRect) : Nat → AC := fun j => match j with
  | 0 => .v (.int .i64 x.fX0)
  | 1 => .v (.int .i64 x.fY0)
  | 2 => .v (.int .i64 x.fX1)
  | _ => .v (.int .i64 x.fY1)
theorem pl_encRect : ∀ (x : TRect) (j : Nat), plainC (encRect x j) = true := by
  intro x j
  unfold encRect
  split <;> rfl
theorem vl_encRect : ∀ (x : TRect) (j : Nat), valC (encRect x j) = true := by
  intro x j
  unfold encRect
  split <;> rfl
structure TSpatialEntry where
  fId : Int
  fBox : TRect
instance : Inhabited TSpatialEntry := ⟨⟨default, default⟩⟩
def encSpatialEntry (x : TSpatialEntry) : Nat → AC := fun j => match j with
  | 0 => .v (.int .i64 x.fId)
  | 1 => .v (.int .i64 x.fBox.fX0)
  | 2 => .v (.int .i64 x.fBox.fY0)
  | 3 => .v (.int .i64 x.fBox.fX1)
  | _ => .v (.int .i64 x.fBox.fY1)
theorem pl_encSpatialEntry : ∀ (x : TSpatialEntry) (j : Nat), plainC (encSpatialEntry x j) = true := by
  intro x j
  unfold encSpatialEntry
  split <;> rfl
theorem vl_encSpatialEntry : ∀ (x : TSpatialEntry) (j : Nat), valC (encSpatialEntry x j) = true := by
  intro x j
  unfold encSpatialEntry
  split <;> rfl
structure TSpatialIndex where
  fEntries : List TSpatialEntry
  fBuckets : List (List Int)
instance : Inhabited TSpatialIndex := ⟨⟨default, default⟩⟩
def encSpatialIndex (LEN : {α : Type} → List α → Nat) (GD : {α : Type} → [Inhabited α] → List α → Nat → α) (x : TSpatialIndex) : Nat → AC := fun j => match j with
  | 0 => .bs (LEN x.fEntries) 5 (row GD (encSpatialEntry) x.fEntries)
  | _ => .bs (LEN x.fBuckets) 1 (row GD (encL LEN GD 1 (encI .i64)) x.fBuckets)
theorem pl_encSpatialIndex {LEN : {α : Type} → List α → Nat} {GD : {α : Type} → [Inhabited α] → List α → Nat → α} : ∀ (x : TSpatialIndex) (j : Nat), plainC (encSpatialIndex LEN GD x j) = true := by
  intro x j
  unfold encSpatialIndex
  split <;> rfl
/-- laws.szSpatialEntryS -/
noncomputable def F_laws_szSpatialEntryS (a0 : List TSpatialEntry) (a1 : Int) : Option (Int) :=
  br (std.lt (std.sub .i64 a1 (std.ofN (len a0))) 0)
  (some (-1))
  (some (std.sub .i64 a1 (std.ofN (len a0))))
theorem run_laws_szSpatialEntryS (a0 : List TSpatialEntry) (a1 : Int) (r : Int) (h : F_laws_szSpatialEntryS a0 a1 = some r) : Fun Try.prog 89 [.c (.bs (len a0) 5 (row gd (encSpatialEntry) a0)), .c (.v (.int .i64 a1))] [] (.c (.v (.int .i64 r))) [] true := by
  refine Fun.of_wp (oneOf []) tok mixed Try.func89 (by kernel_rfl) rfl Try.ntmps89 rfl trivial (fun _ => ⟨trivial, trivial⟩) ?_
  unfold F_laws_szSpatialEntryS at h
  generalize hLEN : @len = LEN at *
  generalize hGD : @gd = GD at *
  generalize hA : std = A at *
  generalize hP : Try.prog = P at *
  cbv
  refine fork (fun b1 => ?_) (fun b1 => ?_)
  · replace h := of_br_t b1 h
    cbv
    injection h with h
    subst h
    refine ⟨(sparse 12 [(4, .c (.v (.int .i64 (-1))))] []), ?_, ?_⟩
    · exact le_sparse rfl ⟨AV.le_refl _, trivial⟩ trivial rfl
    · exact ⟨AV.le_refl _, trivial, rfl⟩
  · replace h := of_br_f b1 h
    cbv
    injection h with h
    subst h
    refine ⟨(sparse 12 [(4, .c (.v (.int .i64 (A.sub .i64 a1 (A.ofN (LEN a0))))))] []), ?_, ?_⟩
    · exact le_sparse rfl ⟨AV.le_refl _, trivial⟩ trivial rfl
    · exact ⟨AV.le_refl _, trivial, rfl⟩

/-- laws.szInt64S -/
noncomputable def F_laws_szInt64S (a0 : List Int) (a1 : Int) : Option (Int) :=
  br (std.lt (std.sub .i64 a1 (std.ofN (len a0))) 0)
  (some (-1))
  (some (std.sub .i64 a1 (std.ofN (len a0))))
theorem run_laws_szInt64S (a0 : List Int) (a1 : Int) (r : Int) (h : F_laws_szInt64S a0 a1 = some r) : Fun Try.prog 159 [.c (.bs (len a0) 1 (row gd (encI .i64) a0)), .c (.v (.int .i64 a1))] [] (.c (.v (.int .i64 r))) [] true := by
  refine Fun.of_wp (oneOf []) tok mixed Try.func159 (by kernel_rfl) rfl Try.ntmps159 rfl trivial (fun _ => ⟨trivial, trivial⟩) ?_
  unfold F_laws_szInt64S at h
  generalize hLEN : @len = LEN at *
  generalize hGD : @gd = GD at *
  generalize hA : std = A at *
  generalize hP : Try.prog = P at *
  cbv
  refine fork (fun b1 => ?_) (fun b1 => ?_)
  · replace h := of_br_t b1 h
    cbv
    injection h with h
    subst h
    refine ⟨(sparse 12 [(4, .c (.v (.int .i64 (-1))))] []), ?_, ?_⟩
    · exact le_sparse rfl ⟨AV.le_refl _, trivial⟩ trivial rfl
    · exact ⟨AV.le_refl _, trivial, rfl⟩
  · replace h := of_br_f b1 h
    cbv
    injection h with h
    subst h
    refine ⟨(sparse 12 [(4, .c (.v (.int .i64 (A.sub .i64 a1 (A.ofN (LEN a0))))))] []), ?_, ?_⟩
    · exact le_sparse rfl ⟨AV.le_refl _, trivial⟩ trivial rfl
    · exact ⟨AV.le_refl _, trivial, rfl⟩

noncomputable def L_laws_szInt64SS_x3 (a0 : List (List Int)) : (Int × Int) → Option ((Int × Int) ⊕ ((Int) ⊕ (Int))) := fun x3 =>
  letO x3.1 fun v1 =>
  letO x3.2 fun v2 =>
  br (std.lt v2 (std.ofN (len a0)))
  (req (std.inR v2 (len a0)) <|
  (F_laws_szInt64S (gd a0 (std.toN v2)) v1).bind fun y16 =>
  br (std.lt y16 0)
  (some (.inr (.inl (-1))))
  (some (.inl (y16, std.add .i64 v2 1))))
  (some (.inr (.inr v1)))
/-- laws.szInt64SS -/
noncomputable def F_laws_szInt64SS (a0 : List (List Int)) (a1 : Int) : Option (Int) :=
  br (std.lt (std.sub .i64 a1 (std.ofN (len a0))) 0)
  (some (-1))
  ((whileP (σ := Int × Int) (ρ := (Int) ⊕ (Int)) (L_laws_szInt64SS_x3 a0) (std.sub .i64 a1 (std.ofN (len a0)), 0)).bind fun y4 =>
  (match y4 with
    | .inl y4k0 => (
        letO y4k0 fun w20 =>
        some w20)
    | .inr y4m0 =>
        letO y4m0 fun y4k1 =>
        letO y4k1 fun w21 =>
        some w21))
theorem run_laws_szInt64SS (a0 : List (List Int)) (a1 : Int) (r : Int) (h : F_laws_szInt64SS a0 a1 = some r) : Fun Try.prog 90 [.c (.bs (len a0) 1 (row gd (encL len gd 1 (encI .i64)) a0)), .c (.v (.int .i64 a1))] [] (.c (.v (.int .i64 r))) [] true := by
  refine Fun.of_wp (oneOf []) tok mixed Try.func90 (by kernel_rfl) rfl Try.ntmps90 rfl trivial (fun _ => ⟨trivial, trivial⟩) ?_
  unfold F_laws_szInt64SS at h
  unfold L_laws_szInt64SS_x3 at h
  have hf_laws_szInt64S := @run_laws_szInt64S
  generalize hLEN : @len = LEN at *
  generalize hGD : @gd = GD at *
  generalize hA : std = A at *
  generalize hP : Try.prog = P at *
  cbv
  refine fork (fun b22 => ?_) (fun b22 => ?_)
  · replace h := of_br_t b22 h
    cbv
    injection h with h
    subst h
    refine ⟨(sparse 27 [(4, .c (.v (.int .i64 (-1))))] []), ?_, ?_⟩
    · exact le_sparse rfl ⟨AV.le_refl _, trivial⟩ trivial rfl
    · exact ⟨AV.le_refl _, trivial, rfl⟩
  · replace h := of_br_f b22 h
    cbv
    replace h := of_bind h
    obtain ⟨y4, hr5, hN6⟩ := h
    refine loop_cut hr5 (fun x => (sparse 27 [(0, .c (.bs (LEN a0) 1 (row GD (encL LEN GD 1 (encI .i64)) a0))), (1, .c (.v (.int .i64 x.1))), (5, .c (.v (.int .i64 x.2)))] [])) ?_ (fun y e s => (match y with | .inl w => e = .ret ∧ s.le (sparse 27 [(4, .c (.v (.int .i64 w)))] []) | .inr w0 => (fun (w : Int) => e = .exit 0 ∧ s.le (sparse 27 [(1, .c (.v (.int .i64 w)))] [])) w0)) ?_ ?_
    · clear hr5 hN6
      show St.le _ _
      exact le_sparse rfl ⟨AV.le_refl _, AV.le_refl _, AV.le_refl _, trivial⟩ trivial rfl
    · clear hr5 hN6
      intro x z10 h K8 hK9 hY7
      obtain ⟨x0_, x1_⟩ := x
      replace h := of_let h
      obtain ⟨v1, hv1, h⟩ := h
      have hv1 : v1 = x0_ := hv1
      subst hv1
      replace h := of_let h
      obtain ⟨v2, hv2, h⟩ := h
      have hv2 : v2 = x1_ := hv2
      subst hv2
      cbv
      refine fork (fun b19 => ?_) (fun b19 => ?_)
      · replace h := of_br_t b19 h
        cbv
        replace h := of_req h
        obtain ⟨c15, h⟩ := h
        refine ⟨⟨c15, trivial⟩, ?_⟩
        replace h := of_bind h
        obtain ⟨y16, hy17, h⟩ := h
        refine ⟨{ args := [.c (.bs (LEN (GD a0 (A.toN v2))) 1 (row GD (encI .i64) (GD a0 (A.toN v2)))), .c (.v (.int .i64 v1))], o0 := [], r := .c (.v (.int .i64 y16)), o1 := [], fl := true, σ := [], τ := [] }, hf_laws_szInt64S _ _ _ hy17, ⟨les_cons (AV.le_refl _) (les_cons (AV.le_refl _) (les_nil)), trivial, rfl, rfl, rfl, rfl, trivial, rfl⟩, ?_⟩
        cbv
        refine fork (fun b18 => ?_) (fun b18 => ?_)
        · replace h := of_br_t b18 h
          cbv
          injection h with h
          refine hY7 _ h.symm _ _ (And.intro rfl ?_) (by intro hh; cases hh)
          exact le_sparse rfl ⟨AV.le_refl _, trivial⟩ trivial rfl
        · replace h := of_br_f b18 h
          cbv
          injection h with h
          refine hK9 _ h.symm _ ?_
          exact le_sparse rfl ⟨AV.le_refl _, AV.le_refl _, AV.le_refl _, trivial⟩ trivial rfl
      · replace h := of_br_f b19 h
        cbv
        injection h with h
        refine hY7 _ h.symm _ _ (And.intro rfl ?_) (by intro hh; cases hh)
        exact le_sparse rfl ⟨AV.le_refl _, trivial⟩ trivial rfl
    · clear hr5
      have h := hN6
      clear hN6
      intro e13 s14 q12 hne
      rcases y4 with y4k0 | y4m0
      · replace h := h
        obtain ⟨rfl, q12⟩ := q12
        replace h := of_let h
        obtain ⟨w20, hw20, h⟩ := h
        have hw20 : w20 = y4k0 := hw20
        subst hw20
        cbv
        injection h with h
        subst h
        refine ⟨(sparse 27 [(4, .c (.v (.int .i64 w20)))] []), ?_, ?_⟩
        · refine St.le_trans q12 ?_
          exact le_sparse rfl ⟨AV.le_refl _, trivial⟩ trivial rfl
        · exact ⟨AV.le_refl _, trivial, rfl⟩
      · replace h := of_let h
        obtain ⟨y4k1, hyk, h⟩ := h
        have hyk : y4k1 = y4m0 := hyk
        subst hyk
        obtain ⟨rfl, q12⟩ := q12
        replace h := of_let h
        obtain ⟨w21, hw21, h⟩ := h
        have hw21 : w21 = y4k1 := hw21
        subst hw21
        cbv
        refine ⟨_, q12, ?_⟩
        cbv
        injection h with h
        subst h
        refine ⟨(sparse 27 [(4, .c (.v (.int .i64 w21)))] []), ?_, ?_⟩
        · exact le_sparse rfl ⟨AV.le_refl _, trivial⟩ trivial rfl
        · exact ⟨AV.le_refl _, trivial, rfl⟩

/-- laws.szSpatialIndex -/
noncomputable def F_laws_szSpatialIndex (a0 : TSpatialIndex) (a1 : Int) : Option (Int) :=
  (F_laws_szSpatialEntryS a0.fEntries a1).bind fun y1 =>
  br (std.lt y1 0)
  (some (-1))
  ((F_laws_szInt64SS a0.fBuckets y1).bind fun y3 =>
  br (std.lt y3 0)
  (some (-1))
  (some y3))
theorem run_laws_szSpatialIndex (a0 : TSpatialIndex) (a1 : Int) (r : Int) (h : F_laws_szSpatialIndex a0 a1 = some r) : Fun Try.prog 34 [.agg [.bs (len a0.fEntries) 5 (row gd (encSpatialEntry) a0.fEntries), .bs (len a0.fBuckets) 1 (row gd (encL len gd 1 (encI .i64)) a0.fBuckets)], .c (.v (.int .i64 a1))] [] (.c (.v (.int .i64 r))) [] true := by
  refine Fun.of_wp (oneOf []) tok mixed Try.func34 (by kernel_rfl) rfl Try.ntmps34 rfl trivial (fun _ => ⟨trivial, trivial⟩) ?_
  unfold F_laws_szSpatialIndex at h
  have hf_laws_szInt64SS := @run_laws_szInt64SS
  have hf_laws_szSpatialEntryS := @run_laws_szSpatialEntryS
  generalize hLEN : @len = LEN at *
  generalize hGD : @gd = GD at *
  generalize hA : std = A at *
  generalize hP : Try.prog = P at *
  cbv
  replace h := of_bind h
  obtain ⟨y1, hy2, h⟩ := h
  refine ⟨{ args := [.c (.bs (LEN a0.fEntries) 5 (row GD (encSpatialEntry) a0.fEntries)), .c (.v (.int .i64 a1))], o0 := [], r := .c (.v (.int .i64 y1)), o1 := [], fl := true, σ := [], τ := [] }, hf_laws_szSpatialEntryS _ _ _ hy2, ⟨les_cons (AV.le_refl _) (les_cons (AV.le_refl _) (les_nil)), trivial, rfl, rfl, rfl, rfl, trivial, rfl⟩, ?_⟩
  cbv
  refine fork (fun b6 => ?_) (fun b6 => ?_)
  · replace h := of_br_t b6 h
    cbv
    injection h with h
    subst h
    refine ⟨(sparse 18 [(4, .c (.v (.int .i64 (-1))))] []), ?_, ?_⟩
    · exact le_sparse rfl ⟨AV.le_refl _, trivial⟩ trivial rfl
    · exact ⟨AV.le_refl _, trivial, rfl⟩
  · replace h := of_br_f b6 h
    cbv
    replace h := of_bind h
    obtain ⟨y3, hy4, h⟩ := h
    refine ⟨{ args := [.c (.bs (LEN a0.fBuckets) 1 (row GD (encL LEN GD 1 (encI .i64)) a0.fBuckets)), .c (.v (.int .i64 y1))], o0 := [], r := .c (.v (.int .i64 y3)), o1 := [], fl := true, σ := [], τ := [] }, hf_laws_szInt64SS _ _ _ hy4, ⟨les_cons (AV.le_refl _) (les_cons (AV.le_refl _) (les_nil)), trivial, rfl, rfl, rfl, rfl, trivial, rfl⟩, ?_⟩
    cbv
    refine fork (fun b5 => ?_) (fun b5 => ?_)
    · replace h := of_br_t b5 h
      cbv
      injection h with h
      subst h
      refine ⟨(sparse 18 [(4, .c (.v (.int .i64 (-1))))] []), ?_, ?_⟩
      · exact le_sparse rfl ⟨AV.le_refl _, trivial⟩ trivial rfl
      · exact ⟨AV.le_refl _, trivial, rfl⟩
    · replace h := of_br_f b5 h
      cbv
      injection h with h
      subst h
      refine ⟨(sparse 18 [(4, .c (.v (.int .i64 y3)))] []), ?_, ?_⟩
      · exact le_sparse rfl ⟨AV.le_refl _, trivial⟩ trivial rfl
      · exact ⟨AV.le_refl _, trivial, rfl⟩

/-- laws.toRect -/
noncomputable def F_laws_toRect (a0 : TRect) : Option (TRect) :=
  some a0
theorem run_laws_toRect (a0 : TRect) (r : TRect) (h : F_laws_toRect a0 = some r) : Fun Try.prog 42 [.agg [.v (.int .i64 a0.fX0), .v (.int .i64 a0.fY0), .v (.int .i64 a0.fX1), .v (.int .i64 a0.fY1)]] [] (.agg [.v (.int .i64 r.fX0), .v (.int .i64 r.fY0), .v (.int .i64 r.fX1), .v (.int .i64 r.fY1)]) [] true := by
  refine Fun.of_wp (oneOf []) tok mixed Try.func42 (by kernel_rfl) rfl Try.ntmps42 rfl trivial (fun _ => ⟨(by simp [AV.flat, AV.flat1, AC.flat]), trivial⟩) ?_
  unfold F_laws_toRect at h
  generalize hLEN : @len = LEN at *
  generalize hGD : @gd = GD at *
  generalize hA : std = A at *
  generalize hP : Try.prog = P at *
  cbv
  injection h with h
  subst h
  refine ⟨(sparse 17 [(2, .c (.ptr 128 0))] [(128, .var [.v (.int .i64 a0.fX0), .v (.int .i64 a0.fY0), .v (.int .i64 a0.fX1), .v (.int .i64 a0.fY1)])]), ?_, ?_⟩
  · exact le_sparse rfl ⟨AV.le_refl _, trivial⟩ ⟨rfl, trivial⟩ rfl
  · exact ⟨AV.le_refl _, trivial, rfl⟩

/-- laws.toSpatialEntry -/
noncomputable def F_laws_toSpatialEntry (a0 : TSpatialEntry) : Option (TSpatialEntry) :=
  (F_laws_toRect a0.fBox).bind fun y1 =>
  some (TSpatialEntry.mk a0.fId y1)
theorem run_laws_toSpatialEntry (a0 : TSpatialEntry) (r : TSpatialEntry) (h : F_laws_toSpatialEntry a0 = some r) : Fun Try.prog 161 [.agg [.v (.int .i64 a0.fId), .v (.int .i64 a0.fBox.fX0), .v (.int .i64 a0.fBox.fY0), .v (.int .i64 a0.fBox.fX1), .v (.int .i64 a0.fBox.fY1)]] [] (.agg [.v (.int .i64 r.fId), .v (.int .i64 r.fBox.fX0), .v (.int .i64 r.fBox.fY0), .v (.int .i64 r.fBox.fX1), .v (.int .i64 r.fBox.fY1)]) [] true := by
  refine Fun.of_wp (oneOf []) tok mixed Try.func161 (by kernel_rfl) rfl Try.ntmps161 rfl trivial (fun _ => ⟨(by simp [AV.flat, AV.flat1, AC.flat]), trivial⟩) ?_
  unfold F_laws_toSpatialEntry at h
  have hf_laws_toRect := @run_laws_toRect
  generalize hLEN : @len = LEN at *
  generalize hGD : @gd = GD at *
  generalize hA : std = A at *
  generalize hP : Try.prog = P at *
  cbv
  replace h := of_bind h
  obtain ⟨y1, hy2, h⟩ := h
  refine ⟨{ args := [.agg [.v (.int .i64 a0.fBox.fX0), .v (.int .i64 a0.fBox.fY0), .v (.int .i64 a0.fBox.fX1), .v (.int .i64 a0.fBox.fY1)]], o0 := [], r := .agg [.v (.int .i64 y1.fX0), .v (.int .i64 y1.fY0), .v (.int .i64 y1.fX1), .v (.int .i64 y1.fY1)], o1 := [], fl := true, σ := [], τ := [] }, hf_laws_toRect _ _ hy2, ⟨les_cons (AV.le_refl _) (les_nil), trivial, rfl, rfl, rfl, rfl, trivial, rfl⟩, ?_⟩
  cbv
  injection h with h
  subst h
  refine ⟨(sparse 12 [(2, .c (.ptr 128 0))] [(128, .var [.v (.int .i64 a0.fId), .v (.int .i64 y1.fX0), .v (.int .i64 y1.fY0), .v (.int .i64 y1.fX1), .v (.int .i64 y1.fY1)])]), ?_, ?_⟩
  · exact le_sparse rfl ⟨AV.le_refl _, trivial⟩ ⟨rfl, trivial⟩ rfl
  · exact ⟨AV.le_refl _, trivial, rfl⟩
noncomputable def L_laws_toSpatialEntryS_x7 (a0 : List TSpatialEntry) (l1 : List TSpatialEntry) : (Int × (List TSpatialEntry)) → Option ((Int × (List TSpatialEntry)) ⊕ (((List TSpatialEntry)))) := fun x7 =>
  letO x7.1 fun v5 =>
  letO x7.2 fun v6 =>
  br (std.lt v5 (std.ofN (len a0)))
  (req (std.inR v5 (len a0)) <|
  (F_laws_toSpatialEntry (gd a0 (std.toN v5))).bind fun y20 =>
  req (std.inR v5 (len l1)) <|
  req (len l1 = len v6) <|
  letO (List.set v6 (std.nadd 0 (std.toN v5)) y20) fun l23 =>
  some (.inl (std.add .i64 v5 1, l23)))
  (some (.inr v6))
/-- laws.toSpatialEntryS -/
noncomputable def F_laws_toSpatialEntryS (a0 : List TSpatialEntry) : Option (List TSpatialEntry) :=
  req (std.nneg (std.ofN (len a0))) <|
  req (std.room (std.toN (std.ofN (len a0))) 40) <|
  letO (List.replicate (std.toN (std.ofN (len a0))) (TSpatialEntry.mk 0 (TRect.mk 0 0 0 0))) fun l1 =>
  (whileP (σ := Int × (List TSpatialEntry)) (ρ := ((List TSpatialEntry))) (L_laws_toSpatialEntryS_x7 a0 l1) (0, l1)).bind fun y8 =>
  letO y8 fun y8k0 =>
  letO y8k0 fun w26 =>
  req (len l1 = len w26) <|
  some w26
theorem run_laws_toSpatialEntryS (a0 : List TSpatialEntry) (r : List TSpatialEntry) (h : F_laws_toSpatialEntryS a0 = some r) : Fun Try.prog 94 [.c (.bs (len a0) 5 (row gd (encSpatialEntry) a0))] [] (.c (.os 64000 0 (len r))) [(64000, .arr .rw [] (len r) 5 (row gd (encSpatialEntry) r))] true := by
  refine Fun.of_wp (oneOf []) tok mixed Try.func94 (by kernel_rfl) rfl Try.ntmps94 rfl trivial (fun _ => ⟨trivial, ⟨fun i _ j _ => val_flat (vl_encSpatialEntry _ _), trivial⟩⟩) ?_
  unfold F_laws_toSpatialEntryS at h
  unfold L_laws_toSpatialEntryS_x7 at h
  have hf_laws_toSpatialEntry := @run_laws_toSpatialEntry
  generalize hLEN : @len = LEN at *
  generalize hGD : @gd = GD at *
  generalize hA : std = A at *
  generalize hP : Try.prog = P at *
  cbv
  replace h := of_req h
  obtain ⟨c3, h⟩ := h
  replace h := of_req h
  obtain ⟨c4, h⟩ := h
  replace h := of_let h
  obtain ⟨l1, hl1, h⟩ := h
  have e2 : A.toN (A.ofN (LEN a0)) = LEN l1 := by subst hl1 hLEN hA; exact rep_len rfl
  refine And.intro (by first | exact ⟨c3, c4⟩ | exact ⟨rfl, c3, trivial, trivial, trivial, c4⟩ | (refine ⟨?_, ?_, ?_, ?_, ?_, ?_⟩ <;> first | exact c3 | exact c4 | trivial)) ?_
  refine ⟨_, congrArg (fun n => AV.c (AC.os 448 0 n)) e2, _, row GD (encSpatialEntry) l1, e2, ?_, ?_⟩
  · subst hGD hLEN
    exact upd_repL hl1 (by intro j hj; match j, hj with | 0, _ => rfl | 1, _ => rfl | 2, _ => rfl | 3, _ => rfl | 4, _ => rfl | (j_ + 5), h_ => exact absurd h_ (by omega))
  cbv
  replace h := of_bind h
  obtain ⟨y8, hr9, hN10⟩ := h
  refine loop_cut hr9 (fun x => (sparse 23 [(0, .c (.bs (LEN a0) 5 (row GD (encSpatialEntry) a0))), (3, .c (.os 448 0 (LEN l1))), (4, .c (.v (.int .i64 x.1)))] [(448, .arr .rw [] (LEN l1) 5 (row GD (encSpatialEntry) x.2))])) ?_ (fun y e s => (fun (w : (List TSpatialEntry)) => e = .exit 0 ∧ s.le (sparse 23 [(3, .c (.os 448 0 (LEN l1)))] [(448, .arr .rw [] (LEN l1) 5 (row GD (encSpatialEntry) w))])) y) ?_ ?_
  · clear hr9 hN10
    show St.le _ _
    exact le_sparse rfl ⟨AV.le_refl _, AV.le_refl _, AV.le_refl _, trivial⟩ ⟨⟨fun hw => hw, fun c hc => (by cases hc), .inl rfl, rfl, rfl, fun i hi j hj => rfl⟩, trivial⟩ rfl
  · clear hr9 hN10
    intro x z14 h K12 hK13 hY11
    obtain ⟨x0_, x1_⟩ := x
    replace h := of_let h
    obtain ⟨v5, hv5, h⟩ := h
    have hv5 : v5 = x0_ := hv5
    subst hv5
    replace h := of_let h
    obtain ⟨v6, hv6, h⟩ := h
    have hv6 : v6 = x1_ := hv6
    subst hv6
    cbv
    refine fork (fun b25 => ?_) (fun b25 => ?_)
    · replace h := of_br_t b25 h
      cbv
      replace h := of_req h
      obtain ⟨c19, h⟩ := h
      refine ⟨⟨c19, trivial⟩, ?_⟩
      replace h := of_bind h
      obtain ⟨y20, hy21, h⟩ := h
      refine ⟨{ args := [.agg [.v (.int .i64 (GD a0 (A.toN v5)).fId), .v (.int .i64 (GD a0 (A.toN v5)).fBox.fX0), .v (.int .i64 (GD a0 (A.toN v5)).fBox.fY0), .v (.int .i64 (GD a0 (A.toN v5)).fBox.fX1), .v (.int .i64 (GD a0 (A.toN v5)).fBox.fY1)]], o0 := [], r := .agg [.v (.int .i64 y20.fId), .v (.int .i64 y20.fBox.fX0), .v (.int .i64 y20.fBox.fY0), .v (.int .i64 y20.fBox.fX1), .v (.int .i64 y20.fBox.fY1)], o1 := [], fl := true, σ := [], τ := [] }, hf_laws_toSpatialEntry _ _ hy21, ⟨les_cons (AV.le_refl _) (les_nil), trivial, rfl, rfl, rfl, rfl, trivial, rfl⟩, ?_⟩
      cbv
      replace h := of_req h
      obtain ⟨c22, h⟩ := h
      refine ⟨⟨c22, trivial⟩, ?_⟩
      replace h := of_req h
      obtain ⟨c24, h⟩ := h
      replace h := of_let h
      obtain ⟨l23, hl23, h⟩ := h
      refine And.intro (by first | exact (by subst hA; exact idx_lt c22) | (refine And.intro (by subst hA; exact idx_lt c22) ?_; first | trivial | exact ⟨trivial, trivial⟩)) ?_
      refine ⟨_, rfl, _, row GD (encSpatialEntry) l23, rfl, ?_, ?_⟩
      · subst hGD hLEN hA
        rw [c24] at c22
        refine upd_set hl23 (idx_lt c22) ?_ ?_
        · intro b hb hh
          match b, hb, hh with | 0, _, hh => exact rfl | 1, _, hh => exact rfl | 2, _, hh => exact rfl | 3, _, hh => exact rfl | 4, _, hh => exact rfl | (b_ + 5), h_, _ => exact absurd h_ (by omega)
        · intro b hb hh
          match b, hb, hh with | 0, _, hh => exact (absurd (show 0 ≤ 0 ∧ 0 < 0 + 5 from by decide) hh) | 1, _, hh => exact (absurd (show 0 ≤ 1 ∧ 1 < 0 + 5 from by decide) hh) | 2, _, hh => exact (absurd (show 0 ≤ 2 ∧ 2 < 0 + 5 from by decide) hh) | 3, _, hh => exact (absurd (show 0 ≤ 3 ∧ 3 < 0 + 5 from by decide) hh) | 4, _, hh => exact (absurd (show 0 ≤ 4 ∧ 4 < 0 + 5 from by decide) hh) | (b_ + 5), h_, _ => exact absurd h_ (by omega)
      cbv
      injection h with h
      refine hK13 _ h.symm _ ?_
      exact le_sparse rfl ⟨AV.le_refl _, AV.le_refl _, AV.le_refl _, trivial⟩ ⟨⟨fun hw => hw, fun c hc => (by cases hc), .inl rfl, rfl, rfl, fun i hi j hj => rfl⟩, trivial⟩ rfl
    · replace h := of_br_f b25 h
      cbv
      injection h with h
      refine hY11 _ h.symm _ _ (And.intro rfl ?_) (by intro hh; cases hh)
      exact le_sparse rfl ⟨AV.le_refl _, trivial⟩ ⟨⟨fun hw => hw, fun c hc => (by cases hc), .inl rfl, rfl, rfl, fun i hi j hj => rfl⟩, trivial⟩ rfl
  · clear hr9
    have h := hN10
    clear hN10
    intro e17 s18 q16 hne
    replace h := of_let h
    obtain ⟨y8k0, hyk, h⟩ := h
    have hyk : y8k0 = y8 := hyk
    subst hyk
    obtain ⟨rfl, q16⟩ := q16
    replace h := of_let h
    obtain ⟨w26, hw26, h⟩ := h
    have hw26 : w26 = y8k0 := hw26
    subst hw26
    cbv
    refine ⟨_, q16, ?_⟩
    cbv
    replace h := of_req h
    obtain ⟨c27, h⟩ := h
    injection h with h
    subst h
    refine ⟨(sparse 23 [(2, .c (.os 64000 0 (LEN w26)))] [(64000, .arr .rw [] (LEN w26) 5 (row GD (encSpatialEntry) w26))]), ?_, ?_⟩
    · refine St.le_trans (le_ren 448 64000 (by decide) rfl) ?_
      rw [c27]
      exact le_sparse rfl ⟨AV.le_refl _, trivial⟩ ⟨⟨fun hw => hw, fun c hc => (by cases hc), .inl rfl, rfl, rfl, fun i hi j hj => rfl⟩, trivial⟩ rfl
    · exact ⟨AV.le_refl _, ⟨⟨fun hw => hw, fun c hc => (by cases hc), .inl rfl, rfl, rfl, fun i hi j hj => rfl⟩, trivial⟩, rfl⟩

noncomputable def L_laws_toInt64S_x7 (a0 : List Int) (l1 : List Int) : (Int × (List Int)) → Option ((Int × (List Int)) ⊕ (((List Int)))) := fun x7 =>
  letO x7.1 fun v5 =>
  letO x7.2 fun v6 =>
  br (std.lt v5 (std.ofN (len a0)))
  (req (std.inR v5 (len a0)) <|
  req (std.inR v5 (len l1)) <|
  req (len l1 = len v6) <|
  letO (List.set v6 (std.nadd 0 (std.toN v5)) (gd a0 (std.toN v5))) fun l21 =>
  some (.inl (std.add .i64 v5 1, l21)))
  (some (.inr v6))
/-- laws.toInt64S -/
noncomputable def F_laws_toInt64S (a0 : List Int) : Option (List Int) :=
  req (std.nneg (std.ofN (len a0))) <|
  req (std.room (std.toN (std.ofN (len a0))) 8) <|
  letO (List.replicate (std.toN (std.ofN (len a0))) 0) fun l1 =>
  (whileP (σ := Int × (List Int)) (ρ := ((List Int))) (L_laws_toInt64S_x7 a0 l1) (0, l1)).bind fun y8 =>
  letO y8 fun y8k0 =>
  letO y8k0 fun w24 =>
  req (len l1 = len w24) <|
  some w24
theorem run_laws_toInt64S (a0 : List Int) (r : List Int) (h : F_laws_toInt64S a0 = some r) : Fun Try.prog 162 [.c (.bs (len a0) 1 (row gd (encI .i64) a0))] [] (.c (.os 64000 0 (len r))) [(64000, .arr .rw [] (len r) 1 (row gd (encI .i64) r))] true := by
  refine Fun.of_wp (oneOf []) tok mixed Try.func162 (by kernel_rfl) rfl Try.ntmps162 rfl trivial (fun _ => ⟨trivial, ⟨fun i _ j _ => val_flat (rfl), trivial⟩⟩) ?_
  unfold F_laws_toInt64S at h
  unfold L_laws_toInt64S_x7 at h
  generalize hLEN : @len = LEN at *
  generalize hGD : @gd = GD at *
  generalize hA : std = A at *
  generalize hP : Try.prog = P at *
  cbv
  replace h := of_req h
  obtain ⟨c3, h⟩ := h
  replace h := of_req h
  obtain ⟨c4, h⟩ := h
  replace h := of_let h
  obtain ⟨l1, hl1, h⟩ := h
  have e2 : A.toN (A.ofN (LEN a0)) = LEN l1 := by subst hl1 hLEN hA; exact rep_len rfl
  refine And.intro (by first | exact ⟨c3, c4⟩ | exact ⟨rfl, c3, trivial, trivial, trivial, c4⟩ | (refine ⟨?_, ?_, ?_, ?_, ?_, ?_⟩ <;> first | exact c3 | exact c4 | trivial)) ?_
  refine ⟨_, congrArg (fun n => AV.c (AC.os 448 0 n)) e2, _, row GD (encI .i64) l1, e2, ?_, ?_⟩
  · subst hGD hLEN
    exact upd_repL hl1 (by intro j hj; match j, hj with | 0, _ => rfl | (j_ + 1), h_ => exact absurd h_ (by omega))
  cbv
  replace h := of_bind h
  obtain ⟨y8, hr9, hN10⟩ := h
  refine loop_cut hr9 (fun x => (sparse 22 [(0, .c (.bs (LEN a0) 1 (row GD (encI .i64) a0))), (3, .c (.os 448 0 (LEN l1))), (4, .c (.v (.int .i64 x.1)))] [(448, .arr .rw [] (LEN l1) 1 (row GD (encI .i64) x.2))])) ?_ (fun y e s => (fun (w : (List Int)) => e = .exit 0 ∧ s.le (sparse 22 [(3, .c (.os 448 0 (LEN l1)))] [(448, .arr .rw [] (LEN l1) 1 (row GD (encI .i64) w))])) y) ?_ ?_
  · clear hr9 hN10
    show St.le _ _
    exact le_sparse rfl ⟨AV.le_refl _, AV.le_refl _, AV.le_refl _, trivial⟩ ⟨⟨fun hw => hw, fun c hc => (by cases hc), .inl rfl, rfl, rfl, fun i hi j hj => rfl⟩, trivial⟩ rfl
  · clear hr9 hN10
    intro x z14 h K12 hK13 hY11
    obtain ⟨x0_, x1_⟩ := x
    replace h := of_let h
    obtain ⟨v5, hv5, h⟩ := h
    have hv5 : v5 = x0_ := hv5
    subst hv5
    replace h := of_let h
    obtain ⟨v6, hv6, h⟩ := h
    have hv6 : v6 = x1_ := hv6
    subst hv6
    cbv
    refine fork (fun b23 => ?_) (fun b23 => ?_)
    · replace h := of_br_t b23 h
      cbv
      replace h := of_req h
      obtain ⟨c19, h⟩ := h
      refine ⟨⟨c19, trivial⟩, ?_⟩
      replace h := of_req h
      obtain ⟨c20, h⟩ := h
      refine ⟨⟨c20, trivial⟩, ?_⟩
      replace h := of_req h
      obtain ⟨c22, h⟩ := h
      replace h := of_let h
      obtain ⟨l21, hl21, h⟩ := h
      refine And.intro (by first | exact (by subst hA; exact idx_lt c20) | (refine And.intro (by subst hA; exact idx_lt c20) ?_; first | trivial | exact ⟨trivial, trivial⟩)) ?_
      refine ⟨_, rfl, _, row GD (encI .i64) l21, rfl, ?_, ?_⟩
      · subst hGD hLEN hA
        rw [c22] at c20
        refine upd_set hl21 (idx_lt c20) ?_ ?_
        · intro b hb hh
          match b, hb, hh with | 0, _, hh => exact rfl | (b_ + 1), h_, _ => exact absurd h_ (by omega)
        · intro b hb hh
          match b, hb, hh with | 0, _, hh => exact (absurd (show 0 ≤ 0 ∧ 0 < 0 + 1 from by decide) hh) | (b_ + 1), h_, _ => exact absurd h_ (by omega)
      cbv
      injection h with h
      refine hK13 _ h.symm _ ?_
      exact le_sparse rfl ⟨AV.le_refl _, AV.le_refl _, AV.le_refl _, trivial⟩ ⟨⟨fun hw => hw, fun c hc => (by cases hc), .inl rfl, rfl, rfl, fun i hi j hj => rfl⟩, trivial⟩ rfl
    · replace h := of_br_f b23 h
      cbv
      injection h with h
      refine hY11 _ h.symm _ _ (And.intro rfl ?_) (by intro hh; cases hh)
      exact le_sparse rfl ⟨AV.le_refl _, trivial⟩ ⟨⟨fun hw => hw, fun c hc => (by cases hc), .inl rfl, rfl, rfl, fun i hi j hj => rfl⟩, trivial⟩ rfl
  · clear hr9
    have h := hN10
    clear hN10
    intro e17 s18 q16 hne
    replace h := of_let h
    obtain ⟨y8k0, hyk, h⟩ := h
    have hyk : y8k0 = y8 := hyk
    subst hyk
    obtain ⟨rfl, q16⟩ := q16
    replace h := of_let h
    obtain ⟨w24, hw24, h⟩ := h
    have hw24 : w24 = y8k0 := hw24
    subst hw24
    cbv
    refine ⟨_, q16, ?_⟩
    cbv
    replace h := of_req h
    obtain ⟨c25, h⟩ := h
    injection h with h
    subst h
    refine ⟨(sparse 22 [(2, .c (.os 64000 0 (LEN w24)))] [(64000, .arr .rw [] (LEN w24) 1 (row GD (encI .i64) w24))]), ?_, ?_⟩
    · refine St.le_trans (le_ren 448 64000 (by decide) rfl) ?_
      rw [c25]
      exact le_sparse rfl ⟨AV.le_refl _, trivial⟩ ⟨⟨fun hw => hw, fun c hc => (by cases hc), .inl rfl, rfl, rfl, fun i hi j hj => rfl⟩, trivial⟩ rfl
    · exact ⟨AV.le_refl _, ⟨⟨fun hw => hw, fun c hc => (by cases hc), .inl rfl, rfl, rfl, fun i hi j hj => rfl⟩, trivial⟩, rfl⟩

noncomputable def L_laws_toInt64SS_x14 (a0 : List (List Int)) (w7 : List (List Int)) : (Int × (List (List Int))) → Option ((Int × (List (List Int))) ⊕ (((List (List Int))))) := fun x14 =>
  letO x14.1 fun v12 =>
  letO x14.2 fun v13 =>
  br (std.lt v12 (std.ofN (len a0)))
  (((
        req (std.inR v12 (len a0)) <|
        (F_laws_toInt64S (gd a0 (std.toN v12))).bind fun y34 =>
        req (std.inR v12 (len w7)) <|
        req (len w7 = len v13) <|
        letO (List.set v13 (std.nadd 0 (std.toN v12)) y34) fun l37 =>
        some l37
    ) : Option ((List (List Int)))).bind fun y26 =>
  letO y26 fun w32 =>
  some (.inl (std.add .i64 v12 1, w32)))
  (some (.inr v13))
/-- laws.toInt64SS -/
noncomputable def F_laws_toInt64SS (a0 : List (List Int)) : Option (List (List Int)) :=
  ((
        req (std.nneg (std.ofN (len a0))) <|
        req (std.room (std.toN (std.ofN (len a0))) 24) <|
        letO (List.replicate (std.toN (std.ofN (len a0))) ([] : List Int)) fun l8 =>
        some l8
    ) : Option ((List (List Int)))).bind fun y1 =>
  letO y1 fun w7 =>
  (whileP (σ := Int × (List (List Int))) (ρ := ((List (List Int)))) (L_laws_toInt64SS_x14 a0 w7) (0, w7)).bind fun y15 =>
  letO y15 fun y15k0 =>
  letO y15k0 fun w40 =>
  req (len w7 = len w40) <|
  some w40
theorem run_laws_toInt64SS (a0 : List (List Int)) (r : List (List Int)) (h : F_laws_toInt64SS a0 = some r) : Fun Try.prog 95 [.c (.bs (len a0) 1 (row gd (encL len gd 1 (encI .i64)) a0))] [] (.c (.os 64000 0 (len r))) [(64000, .arr .rw [] (len r) 1 (row gd (oncL len gd 1 (encI .i64)) r))] true := by
  refine Fun.of_wp (oneOf [1, 5]) tok mixed Try.func95 (by kernel_rfl) rfl Try.ntmps95 rfl trivial (fun _ => ⟨trivial, ⟨fun i _ j _ => fl_oncL (fun _ _ => rfl) _ _, trivial⟩⟩) ?_
  unfold F_laws_toInt64SS at h
  unfold L_laws_toInt64SS_x14 at h
  have hf_laws_toInt64S := @run_laws_toInt64S
  generalize hLEN : @len = LEN at *
  generalize hGD : @gd = GD at *
  generalize hA : std = A at *
  generalize hP : Try.prog = P at *
  cbv
  replace h := of_bind h
  obtain ⟨y1, hy2, h⟩ := h
  obtain ⟨S5, hS6⟩ : ∃ S, S = (sparse 23 [(0, .c (.bs (LEN a0) 1 (row GD (encL LEN GD 1 (encI .i64)) a0))), (3, .c (.os 448 0 (LEN y1)))] [(448, .arr .rw [] (LEN y1) 1 (row GD (oncL LEN GD 1 (encI .i64)) y1))]) := ⟨_, rfl⟩
  refine ⟨S5, ?_, ?_⟩
  · clear h
    have h := hy2
    clear hy2
    cbv
    replace h := of_req h
    obtain ⟨c10, h⟩ := h
    replace h := of_req h
    obtain ⟨c11, h⟩ := h
    replace h := of_let h
    obtain ⟨l8, hl8, h⟩ := h
    have e9 : A.toN (A.ofN (LEN a0)) = LEN l8 := by subst hl8 hLEN hA; exact rep_len rfl
    refine And.intro (by first | exact ⟨c10, c11⟩ | exact ⟨rfl, c10, trivial, trivial, trivial, c11⟩ | (refine ⟨?_, ?_, ?_, ?_, ?_, ?_⟩ <;> first | exact c10 | exact c11 | trivial)) ?_
    refine ⟨_, congrArg (fun n => AV.c (AC.os 448 0 n)) e9, _, (fun _ j => ([.v (.slice none 0 0)] : List AC).getD j .junk), e9, ?_, ?_⟩
    · intro i hi j hj
      match j, hj with | 0, _ => rfl | (j_ + 1), h_ => exact absurd h_ (by omega)
    cbv
    injection h with h
    subst h
    subst hS6
    show St.le _ _
    refine St.le_trans (le_nilG (get' := (fun _ j => ([.ow (LEN ([] : List Int)) 1 (row GD (encI .i64) ([] : List Int))] : List AC).getD j .junk)) 448 rfl ?_) ?_
    · subst hLEN
      intro i _ j hj
      match j, hj with | 0, _ => exact (.inr ⟨rfl, _, _, rfl⟩) | (j_ + 1), h_ => exact absurd h_ (by omega)
    exact le_sparse rfl ⟨AV.le_refl _, AV.le_refl _, trivial⟩ ⟨⟨fun hw => hw, fun c hc => (by cases hc), .inr (fun i _ j _ z hz => (noref (rfl) hz).elim), rfl, rfl, (by subst hGD hLEN hA; exact upd_repL hl8 (g := fun j => _) (by intro j hj; match j, hj with | 0, _ => rfl | (j_ + 1), h_ => exact absurd h_ (by omega)))⟩, trivial⟩ rfl
  · clear hy2
    subst hS6
    replace h := of_let h
    obtain ⟨w7, hw7, h⟩ := h
    have hw7 : w7 = y1 := hw7
    subst hw7
    cbv
    replace h := of_bind h
    obtain ⟨y15, hr16, hN17⟩ := h
    refine loop_cut hr16 (fun x => (sparse 23 [(0, .c (.bs (LEN a0) 1 (row GD (encL LEN GD 1 (encI .i64)) a0))), (3, .c (.os 448 0 (LEN w7))), (4, .c (.v (.int .i64 x.1)))] [(448, .arr .rw [] (LEN w7) 1 (row GD (oncL LEN GD 1 (encI .i64)) x.2))])) ?_ (fun y e s => (fun (w : (List (List Int))) => e = .exit 0 ∧ s.le (sparse 23 [(3, .c (.os 448 0 (LEN w7)))] [(448, .arr .rw [] (LEN w7) 1 (row GD (oncL LEN GD 1 (encI .i64)) w))])) y) ?_ ?_
    · clear hr16 hN17
      show St.le _ _
      exact le_sparse rfl ⟨AV.le_refl _, AV.le_refl _, AV.le_refl _, trivial⟩ ⟨⟨fun hw => hw, fun c hc => (by cases hc), .inl rfl, rfl, rfl, fun i hi j hj => rfl⟩, trivial⟩ rfl
    · clear hr16 hN17
      intro x z21 h K19 hK20 hY18
      obtain ⟨x0_, x1_⟩ := x
      replace h := of_let h
      obtain ⟨v12, hv12, h⟩ := h
      have hv12 : v12 = x0_ := hv12
      subst hv12
      replace h := of_let h
      obtain ⟨v13, hv13, h⟩ := h
      have hv13 : v13 = x1_ := hv13
      subst hv13
      cbv
      refine fork (fun b39 => ?_) (fun b39 => ?_)
      · replace h := of_br_t b39 h
        cbv
        replace h := of_bind h
        obtain ⟨y26, hy27, h⟩ := h
        obtain ⟨S30, hS31⟩ : ∃ S, S = (sparse 23 [(0, .c (.bs (LEN a0) 1 (row GD (encL LEN GD 1 (encI .i64)) a0))), (3, .c (.os 448 0 (LEN w7))), (4, .c (.v (.int .i64 v12)))] [(448, .arr .rw [] (LEN w7) 1 (row GD (oncL LEN GD 1 (encI .i64)) y26))]) := ⟨_, rfl⟩
        refine ⟨S30, ?_, ?_⟩
        · clear h
          have h := hy27
          clear hy27
          cbv
          replace h := of_req h
          obtain ⟨c33, h⟩ := h
          refine ⟨⟨c33, trivial⟩, ?_⟩
          replace h := of_bind h
          obtain ⟨y34, hy35, h⟩ := h
          refine ⟨{ args := [.c (.bs (LEN (GD a0 (A.toN v12))) 1 (row GD (encI .i64) (GD a0 (A.toN v12))))], o0 := [], r := .c (.os 64000 0 (LEN y34)), o1 := [(64000, .arr .rw [] (LEN y34) 1 (row GD (encI .i64) y34))], fl := true, σ := [], τ := [(64000, 1280)] }, hf_laws_toInt64S _ _ hy35, ⟨les_cons (AV.le_refl _) (les_nil), trivial, rfl, rfl, rfl, rfl, ⟨fun h => absurd (show (64000 : Nat) % 2 = 1 from h) (by decide), trivial⟩, rfl⟩, _, rfl, _, _, rfl, fun _ _ _ _ => rfl, ?_⟩
          cbv
          replace h := of_req h
          obtain ⟨c36, h⟩ := h
          refine ⟨⟨c36, trivial⟩, ?_⟩
          refine And.intro (by first | exact (by subst hA; exact idx_lt c36) | (refine And.intro (by subst hA; exact idx_lt c36) ?_; first | trivial | exact ⟨trivial, trivial⟩)) ?_
          refine ⟨_, rfl, _, (patchC (row GD (oncL LEN GD 1 (encI .i64)) v13) (A.nadd 0 (A.toN v12)) [.os 1280 0 (LEN y34)]), rfl, ?_, ?_⟩
          · refine patch_of ?_
            intro j hj
            match j, hj with | 0, _ => (rfl) | (j_ + 1), h_ => exact absurd h_ (by omega)
          cbv
          replace h := of_req h
          obtain ⟨c38, h⟩ := h
          replace h := of_let h
          obtain ⟨l37, hl37, h⟩ := h
          injection h with h
          subst h
          subst hS31
          show St.le _ _
          refine St.le_trans (le_foldP 448 0 1280 rfl rfl rfl (by decide) (by subst hA; exact idx_lt c36) (by decide) rfl (fun _ _ => rfl)) ?_
          exact le_sparse rfl ⟨AV.le_refl _, AV.le_refl _, AV.le_refl _, trivial⟩ ⟨⟨fun hw => hw, fun c hc => (by cases hc), .inr (fun i _ j _ z hz => (noref (rfl) hz).elim), rfl, rfl, (by subst hGD hLEN hA; exact patch_set hl37 (idx_lt (by rw [← c38]; exact c36)) (by intro j hj; match j, hj with | 0, _ => rfl | (j_ + 1), h_ => exact absurd h_ (by omega)))⟩, trivial⟩ rfl
        · clear hy27
          subst hS31
          replace h := of_let h
          obtain ⟨w32, hw32, h⟩ := h
          have hw32 : w32 = y26 := hw32
          subst hw32
          cbv
          injection h with h
          refine hK20 _ h.symm _ ?_
          exact le_sparse rfl ⟨AV.le_refl _, AV.le_refl _, AV.le_refl _, trivial⟩ ⟨⟨fun hw => hw, fun c hc => (by cases hc), .inl rfl, rfl, rfl, fun i hi j hj => rfl⟩, trivial⟩ rfl
      · replace h := of_br_f b39 h
        cbv
        injection h with h
        refine hY18 _ h.symm _ _ (And.intro rfl ?_) (by intro hh; cases hh)
        exact le_sparse rfl ⟨AV.le_refl _, trivial⟩ ⟨⟨fun hw => hw, fun c hc => (by cases hc), .inl rfl, rfl, rfl, fun i hi j hj => rfl⟩, trivial⟩ rfl
    · clear hr16
      have h := hN17
      clear hN17
      intro e24 s25 q23 hne
      replace h := of_let h
      obtain ⟨y15k0, hyk, h⟩ := h
      have hyk : y15k0 = y15 := hyk
      subst hyk
      obtain ⟨rfl, q23⟩ := q23
      replace h := of_let h
      obtain ⟨w40, hw40, h⟩ := h
      have hw40 : w40 = y15k0 := hw40
      subst hw40
      cbv
      refine ⟨_, q23, ?_⟩
      cbv
      replace h := of_req h
      obtain ⟨c41, h⟩ := h
      injection h with h
      subst h
      refine ⟨(sparse 23 [(2, .c (.os 64000 0 (LEN w40)))] [(64000, .arr .rw [] (LEN w40) 1 (row GD (oncL LEN GD 1 (encI .i64)) w40))]), ?_, ?_⟩
      · refine St.le_trans (le_ren 448 64000 (by decide) rfl) ?_
        rw [c41]
        exact le_sparse rfl ⟨AV.le_refl _, trivial⟩ ⟨⟨fun hw => hw, fun c hc => (by cases hc), .inl rfl, rfl, rfl, fun i hi j hj => rfl⟩, trivial⟩ rfl
      · exact ⟨AV.le_refl _, ⟨⟨fun hw => hw, fun c hc => (by cases hc), .inl rfl, rfl, rfl, fun i hi j hj => rfl⟩, trivial⟩, rfl⟩

/-- laws.toSpatialIndex -/
noncomputable def F_laws_toSpatialIndex (a0 : TSpatialIndex) : Option (TSpatialIndex) :=
  (F_laws_toSpatialEntryS a0.fEntries).bind fun y1 =>
  (F_laws_toInt64SS a0.fBuckets).bind fun y3 =>
  some (TSpatialIndex.mk y1 y3)
theorem run_laws_toSpatialIndex (a0 : TSpatialIndex) (r : TSpatialIndex) (h : F_laws_toSpatialIndex a0 = some r) : Fun Try.prog 36 [.agg [.bs (len a0.fEntries) 5 (row gd (encSpatialEntry) a0.fEntries), .bs (len a0.fBuckets) 1 (row gd (encL len gd 1 (encI .i64)) a0.fBuckets)]] [] (.agg [.os 64000 0 (len r.fEntries), .os 64002 0 (len r.fBuckets)]) [(64000, .arr .rw [] (len r.fEntries) 5 (row gd (encSpatialEntry) r.fEntries)), (64002, .arr .rw [] (len r.fBuckets) 1 (row gd (oncL len gd 1 (encI .i64)) r.fBuckets))] true := by
  refine Fun.of_wp (oneOf []) tok mixed Try.func36 (by kernel_rfl) rfl Try.ntmps36 rfl trivial (fun _ => ⟨(by simp [AV.flat, AV.flat1, AC.flat]), ⟨fun i _ j _ => val_flat (vl_encSpatialEntry _ _), fun i _ j _ => fl_oncL (fun _ _ => rfl) _ _, trivial⟩⟩) ?_
  unfold F_laws_toSpatialIndex at h
  have hf_laws_toInt64SS := @run_laws_toInt64SS
  have hf_laws_toSpatialEntryS := @run_laws_toSpatialEntryS
  generalize hLEN : @len = LEN at *
  generalize hGD : @gd = GD at *
  generalize hA : std = A at *
  generalize hP : Try.prog = P at *
  cbv
  replace h := of_bind h
  obtain ⟨y1, hy2, h⟩ := h
  refine ⟨{ args := [.c (.bs (LEN a0.fEntries) 5 (row GD (encSpatialEntry) a0.fEntries))], o0 := [], r := .c (.os 64000 0 (LEN y1)), o1 := [(64000, .arr .rw [] (LEN y1) 5 (row GD (encSpatialEntry) y1))], fl := true, σ := [], τ := [(64000, 384)] }, hf_laws_toSpatialEntryS _ _ hy2, ⟨les_cons (AV.le_refl _) (les_nil), trivial, rfl, rfl, rfl, rfl, ⟨fun h => absurd (show (64000 : Nat) % 2 = 1 from h) (by decide), trivial⟩, rfl⟩, _, rfl, _, _, rfl, fun _ _ _ _ => rfl, ?_⟩
  cbv
  replace h := of_bind h
  obtain ⟨y3, hy4, h⟩ := h
  refine ⟨{ args := [.c (.bs (LEN a0.fBuckets) 1 (row GD (encL LEN GD 1 (encI .i64)) a0.fBuckets))], o0 := [], r := .c (.os 64000 0 (LEN y3)), o1 := [(64000, .arr .rw [] (LEN y3) 1 (row GD (oncL LEN GD 1 (encI .i64)) y3))], fl := true, σ := [], τ := [(64000, 640)] }, hf_laws_toInt64SS _ _ hy4, ⟨les_cons (AV.le_refl _) (les_nil), trivial, rfl, rfl, rfl, rfl, ⟨fun h => absurd (show (64000 : Nat) % 2 = 1 from h) (by decide), trivial⟩, rfl⟩, _, rfl, _, _, rfl, fun _ _ _ _ => rfl, ?_⟩
  cbv
  injection h with h
  subst h
  refine ⟨(sparse 13 [(2, .c (.ptr 128 0))] [(128, .var [.os 64000 0 (LEN y1), .os 64002 0 (LEN y3)]), (64000, .arr .rw [] (LEN y1) 5 (row GD (encSpatialEntry) y1)), (64002, .arr .rw [] (LEN y3) 1 (row GD (oncL LEN GD 1 (encI .i64)) y3))]), ?_, ?_⟩
  · refine St.le_trans (le_ren 384 64000 (by decide) rfl) ?_
    refine St.le_trans (le_ren 640 64002 (by decide) rfl) ?_
    exact le_sparse rfl ⟨AV.le_refl _, trivial⟩ ⟨rfl, ⟨fun hw => hw, fun c hc => (by cases hc), .inl rfl, rfl, rfl, fun i hi j hj => rfl⟩, ⟨fun hw => hw, fun c hc => (by cases hc), .inl rfl, rfl, rfl, fun i hi j hj => rfl⟩, trivial⟩ rfl
  · exact ⟨AV.le_refl _, ⟨⟨fun hw => hw, fun c hc => (by cases hc), .inl rfl, rfl, rfl, fun i hi j hj => rfl⟩, ⟨fun hw => hw, fun c hc => (by cases hc), .inl rfl, rfl, rfl, fun i hi j hj => rfl⟩, trivial⟩, rfl⟩

/-- spec.l09In -/
noncomputable def F_spec_l09In (a0 : Int) (a1 : Int) (a2 : Int) : Option (Bool) :=
  ((
        br (std.le a1 a0)
        (some (std.le a0 a2))
        (some false)
    ) : Option (Bool)).bind fun y1 =>
  letO y1 fun w7 =>
  some w7
theorem run_spec_l09In (a0 : Int) (a1 : Int) (a2 : Int) (r : Bool) (h : F_spec_l09In a0 a1 a2 = some r) : Fun Try.prog 108 [.c (.v (.int .i64 a0)), .c (.v (.int .i64 a1)), .c (.v (.int .i64 a2))] [] (.c (.v (.bool r))) [] true := by
  refine Fun.of_wp (oneOf [1]) tok mixed Try.func108 (by kernel_rfl) rfl Try.ntmps108 rfl trivial (fun _ => ⟨trivial, trivial⟩) ?_
  unfold F_spec_l09In at h
  generalize hLEN : @len = LEN at *
  generalize hGD : @gd = GD at *
  generalize hA : std = A at *
  generalize hP : Try.prog = P at *
  cbv
  replace h := of_bind h
  obtain ⟨y1, hy2, h⟩ := h
  obtain ⟨S5, hS6⟩ : ∃ S, S = (sparse 15 [(6, .c (.v (.bool y1)))] []) := ⟨_, rfl⟩
  refine ⟨S5, ?_, ?_⟩
  · clear h
    have h := hy2
    clear hy2
    cbv
    refine fork (fun b8 => ?_) (fun b8 => ?_)
    · replace h := of_br_t b8 h
      cbv
      injection h with h
      subst h
      subst hS6
      show St.le _ _
      exact le_sparse rfl ⟨AV.le_refl _, trivial⟩ trivial rfl
    · replace h := of_br_f b8 h
      cbv
      injection h with h
      subst h
      subst hS6
      show St.le _ _
      exact le_sparse rfl ⟨AV.le_refl _, trivial⟩ trivial rfl
  · clear hy2
    subst hS6
    replace h := of_let h
    obtain ⟨w7, hw7, h⟩ := h
    have hw7 : w7 = y1 := hw7
    subst hw7
    cbv
    injection h with h
    subst h
    refine ⟨(sparse 15 [(6, .c (.v (.bool w7)))] []), ?_, ?_⟩
    · exact le_sparse rfl ⟨AV.le_refl _, trivial⟩ trivial rfl
    · exact ⟨AV.le_refl _, trivial, rfl⟩

/-- spec.l09Rect -/
noncomputable def F_spec_l09Rect (a0 : TRect) : Option (Bool) :=
  ((
        br (std.le (-40) a0.fX0)
        (br (std.lt a0.fX0 a0.fX1)
        (br (std.le a0.fX1 40)
        (br (std.le (-40) a0.fY0)
        (br (std.lt a0.fY0 a0.fY1)
        (some (std.le a0.fY1 40))
        (some false))
        (some false))
        (some false))
        (some false))
        (some false)
    ) : Option (Bool)).bind fun y1 =>
  letO y1 fun w7 =>
  some w7
theorem run_spec_l09Rect (a0 : TRect) (r : Bool) (h : F_spec_l09Rect a0 = some r) : Fun Try.prog 107 [.agg [.v (.int .i64 a0.fX0), .v (.int .i64 a0.fY0), .v (.int .i64 a0.fX1), .v (.int .i64 a0.fY1)]] [] (.c (.v (.bool r))) [] true := by
  refine Fun.of_wp (oneOf [1]) tok mixed Try.func107 (by kernel_rfl) rfl Try.ntmps107 rfl trivial (fun _ => ⟨trivial, trivial⟩) ?_
  unfold F_spec_l09Rect at h
  generalize hLEN : @len = LEN at *
  generalize hGD : @gd = GD at *
  generalize hA : std = A at *
  generalize hP : Try.prog = P at *
  cbv
  replace h := of_bind h
  obtain ⟨y1, hy2, h⟩ := h
  obtain ⟨S5, hS6⟩ : ∃ S, S = (sparse 35 [(2, .c (.v (.bool y1)))] []) := ⟨_, rfl⟩
  refine ⟨S5, ?_, ?_⟩
  · clear h
    have h := hy2
    clear hy2
    cbv
    refine fork (fun b12 => ?_) (fun b12 => ?_)
    · replace h := of_br_t b12 h
      cbv
      refine fork (fun b11 => ?_) (fun b11 => ?_)
      · replace h := of_br_t b11 h
        cbv
        refine fork (fun b10 => ?_) (fun b10 => ?_)
        · replace h := of_br_t b10 h
          cbv
          refine fork (fun b9 => ?_) (fun b9 => ?_)
          · replace h := of_br_t b9 h
            cbv
            refine fork (fun b8 => ?_) (fun b8 => ?_)
            · replace h := of_br_t b8 h
              cbv
              injection h with h
              subst h
              subst hS6
              show St.le _ _
              exact le_sparse rfl ⟨AV.le_refl _, trivial⟩ trivial rfl
            · replace h := of_br_f b8 h
              cbv
              injection h with h
              subst h
              subst hS6
              show St.le _ _
              exact le_sparse rfl ⟨AV.le_refl _, trivial⟩ trivial rfl
          · replace h := of_br_f b9 h
            cbv
            injection h with h
            subst h
            subst hS6
            show St.le _ _
            exact le_sparse rfl ⟨AV.le_refl _, trivial⟩ trivial rfl
        · replace h := of_br_f b10 h
          cbv
          injection h with h
          subst h
          subst hS6
          show St.le _ _
          exact le_sparse rfl ⟨AV.le_refl _, trivial⟩ trivial rfl
      · replace h := of_br_f b11 h
        cbv
        injection h with h
        subst h
        subst hS6
        show St.le _ _
        exact le_sparse rfl ⟨AV.le_refl _, trivial⟩ trivial rfl
    · replace h := of_br_f b12 h
      cbv
      injection h with h
      subst h
      subst hS6
      show St.le _ _
      exact le_sparse rfl ⟨AV.le_refl _, trivial⟩ trivial rfl
  · clear hy2
    subst hS6
    replace h := of_let h
    obtain ⟨w7, hw7, h⟩ := h
    have hw7 : w7 = y1 := hw7
    subst hw7
    cbv
    injection h with h
    subst h
    refine ⟨(sparse 35 [(2, .c (.v (.bool w7)))] []), ?_, ?_⟩
    · exact le_sparse rfl ⟨AV.le_refl _, trivial⟩ trivial rfl
    · exact ⟨AV.le_refl _, trivial, rfl⟩
/-- spec.l11Bucket -/
noncomputable def F_spec_l11Bucket (a0 : Int) : Option (TRect) :=
  req (std.nz 5) <|
  req (std.nz 5) <|
  some (TRect.mk (std.add .i64 (-40) (std.mul .i64 16 (std.rem a0 5))) (std.add .i64 (-40) (std.mul .i64 16 (std.quo .i64 a0 5))) (std.add .i64 (std.add .i64 (-40) (std.mul .i64 16 (std.rem a0 5))) 16) (std.add .i64 (std.add .i64 (-40) (std.mul .i64 16 (std.quo .i64 a0 5))) 16))
theorem run_spec_l11Bucket (a0 : Int) (r : TRect) (h : F_spec_l11Bucket a0 = some r) : Fun Try.prog 121 [.c (.v (.int .i64 a0))] [] (.agg [.v (.int .i64 r.fX0), .v (.int .i64 r.fY0), .v (.int .i64 r.fX1), .v (.int .i64 r.fY1)]) [] true := by
  refine Fun.of_wp (oneOf []) tok mixed Try.func121 (by kernel_rfl) rfl Try.ntmps121 rfl trivial (fun _ => ⟨(by simp [AV.flat, AV.flat1, AC.flat]), trivial⟩) ?_
  unfold F_spec_l11Bucket at h
  generalize hLEN : @len = LEN at *
  generalize hGD : @gd = GD at *
  generalize hA : std = A at *
  generalize hP : Try.prog = P at *
  cbv
  replace h := of_req h
  obtain ⟨c1, h⟩ := h
  refine ⟨c1, ?_⟩
  replace h := of_req h
  obtain ⟨c2, h⟩ := h
  refine ⟨c2, ?_⟩
  injection h with h
  subst h
  refine ⟨(sparse 20 [(2, .c (.ptr 128 0))] [(128, .var [.v (.int .i64 (A.add .i64 (-40) (A.mul .i64 16 (A.rem a0 5)))), .v (.int .i64 (A.add .i64 (-40) (A.mul .i64 16 (A.quo .i64 a0 5)))), .v (.int .i64 (A.add .i64 (A.add .i64 (-40) (A.mul .i64 16 (A.rem a0 5))) 16)), .v (.int .i64 (A.add .i64 (A.add .i64 (-40) (A.mul .i64 16 (A.quo .i64 a0 5))) 16))])]), ?_, ?_⟩
  · exact le_sparse rfl ⟨AV.le_refl _, trivial⟩ ⟨rfl, trivial⟩ rfl
  · exact ⟨AV.le_refl _, trivial, rfl⟩

/-- spec.l11Overlap -/
noncomputable def F_spec_l11Overlap (a0 : TRect) (a1 : TRect) : Option (Bool) :=
  ((
        br (std.lt a0.fX0 a1.fX1)
        (br (std.lt a1.fX0 a0.fX1)
        (br (std.lt a0.fY0 a1.fY1)
        (some (std.lt a1.fY0 a0.fY1))
        (some false))
        (some false))
        (some false)
    ) : Option (Bool)).bind fun y1 =>
  letO y1 fun w7 =>
  some w7
theorem run_spec_l11Overlap (a0 : TRect) (a1 : TRect) (r : Bool) (h : F_spec_l11Overlap a0 a1 = some r) : Fun Try.prog 120 [.agg [.v (.int .i64 a0.fX0), .v (.int .i64 a0.fY0), .v (.int .i64 a0.fX1), .v (.int .i64 a0.fY1)], .agg [.v (.int .i64 a1.fX0), .v (.int .i64 a1.fY0), .v (.int .i64 a1.fX1), .v (.int .i64 a1.fY1)]] [] (.c (.v (.bool r))) [] true := by
  refine Fun.of_wp (oneOf [1]) tok mixed Try.func120 (by kernel_rfl) rfl Try.ntmps120 rfl trivial (fun _ => ⟨trivial, trivial⟩) ?_
  unfold F_spec_l11Overlap at h
  generalize hLEN : @len = LEN at *
  generalize hGD : @gd = GD at *
  generalize hA : std = A at *
  generalize hP : Try.prog = P at *
  cbv
  replace h := of_bind h
  obtain ⟨y1, hy2, h⟩ := h
  obtain ⟨S5, hS6⟩ : ∃ S, S = (sparse 31 [(4, .c (.v (.bool y1)))] []) := ⟨_, rfl⟩
  refine ⟨S5, ?_, ?_⟩
  · clear h
    have h := hy2
    clear hy2
    cbv
    refine fork (fun b10 => ?_) (fun b10 => ?_)
    · replace h := of_br_t b10 h
      cbv
      refine fork (fun b9 => ?_) (fun b9 => ?_)
      · replace h := of_br_t b9 h
        cbv
        refine fork (fun b8 => ?_) (fun b8 => ?_)
        · replace h := of_br_t b8 h
          cbv
          injection h with h
          subst h
          subst hS6
          show St.le _ _
          exact le_sparse rfl ⟨AV.le_refl _, trivial⟩ trivial rfl
        · replace h := of_br_f b8 h
          cbv
          injection h with h
          subst h
          subst hS6
          show St.le _ _
          exact le_sparse rfl ⟨AV.le_refl _, trivial⟩ trivial rfl
      · replace h := of_br_f b9 h
        cbv
        injection h with h
        subst h
        subst hS6
        show St.le _ _
        exact le_sparse rfl ⟨AV.le_refl _, trivial⟩ trivial rfl
    · replace h := of_br_f b10 h
      cbv
      injection h with h
      subst h
      subst hS6
      show St.le _ _
      exact le_sparse rfl ⟨AV.le_refl _, trivial⟩ trivial rfl
  · clear hy2
    subst hS6
    replace h := of_let h
    obtain ⟨w7, hw7, h⟩ := h
    have hw7 : w7 = y1 := hw7
    subst hw7
    cbv
    injection h with h
    subst h
    refine ⟨(sparse 31 [(4, .c (.v (.bool w7)))] []), ?_, ?_⟩
    · exact le_sparse rfl ⟨AV.le_refl _, trivial⟩ trivial rfl
    · exact ⟨AV.le_refl _, trivial, rfl⟩

noncomputable def L_spec_l11Made_x19 (a0 : List TSpatialEntry) (v1 : Int) : (Int × (List Int)) → Option ((Int × (List Int)) ⊕ (((List Int)))) := fun x19 =>
  letO x19.1 fun v17 =>
  letO x19.2 fun v18 =>
  br (std.lt v17 (std.ofN (len a0)))
  (req (std.inR v17 (len a0)) <|
  (F_spec_l11Bucket v1).bind fun y32 =>
  (F_spec_l11Overlap (gd a0 (std.toN v17)).fBox y32).bind fun y34 =>
  ((
        br y34
        (req (std.inR v17 (len a0)) <|
        letO ([(gd a0 (std.toN v17)).fId] : List Int) fun l44 =>
        req (std.room (std.nadd (len v18) (len l44)) 8) <|
        letO (v18 ++ l44) fun l46 =>
        some l46)
        (some v18)
    ) : Option ((List Int))).bind fun y36 =>
  letO y36 fun w42 =>
  some (.inl (std.add .i64 v17 1, w42)))
  (some (.inr v18))
noncomputable def L_spec_l11Made_x3 (a0 : List TSpatialEntry) : (Int × (List (List Int))) → Option ((Int × (List (List Int))) ⊕ (((List (List Int))))) := fun x3 =>
  letO x3.1 fun v1 =>
  letO x3.2 fun v2 =>
  br (std.lt v1 25)
  (letO ([] : List Int) fun l15 =>
  (whileP (σ := Int × (List Int)) (ρ := ((List Int))) (L_spec_l11Made_x19 a0 v1) (0, l15)).bind fun y20 =>
  letO y20 fun y20k0 =>
  letO y20k0 fun w51 =>
  ((
        letO ([w51] : List (List Int)) fun l59 =>
        req (std.room (std.nadd (len v2) (len l59)) 24) <|
        letO (v2 ++ l59) fun l61 =>
        some l61
    ) : Option ((List (List Int)))).bind fun y52 =>
  letO y52 fun w58 =>
  some (.inl (std.add .i64 v1 1, w58)))
  (some (.inr v2))
/-- spec.l11Made -/
noncomputable def F_spec_l11Made (a0 : List TSpatialEntry) : Option (TSpatialIndex) :=
  (whileP (σ := Int × (List (List Int))) (ρ := ((List (List Int)))) (L_spec_l11Made_x3 a0) (0, ([] : List (List Int)))).bind fun y4 =>
  letO y4 fun y4k0 =>
  letO y4k0 fun w65 =>
  some (TSpatialIndex.mk a0 w65)
theorem run_spec_l11Made (a0 : List TSpatialEntry) (r : TSpatialIndex) (h : F_spec_l11Made a0 = some r) : Fun Try.prog 93 [.c (.bs (len a0) 5 (row gd (encSpatialEntry) a0))] [] (.agg [.bs (len r.fEntries) 5 (row gd (encSpatialEntry) r.fEntries), .os 64000 0 (len r.fBuckets)]) [(64000, .arr .rw [] (len r.fBuckets) 1 (row gd (oncL len gd 1 (encI .i64)) r.fBuckets))] false := by
  refine Fun.of_wp (oneOf [11, 100027]) tok mixed Try.func93 (by kernel_rfl) rfl Try.ntmps93 rfl trivial (fun h => by cases h) ?_
  unfold F_spec_l11Made at h
  unfold L_spec_l11Made_x3 at h
  unfold L_spec_l11Made_x19 at h
  have hf_spec_l11Bucket := @run_spec_l11Bucket
  have hf_spec_l11Overlap := @run_spec_l11Overlap
  generalize hLEN : @len = LEN at *
  generalize hGD : @gd = GD at *
  generalize hA : std = A at *
  generalize hP : Try.prog = P at *
  cbv
  replace h := of_bind h
  obtain ⟨y4, hr5, hN6⟩ := h
  refine loop_cut hr5 (fun x => (sparse 43 [(0, .c (.bs (LEN a0) 5 (row GD (encSpatialEntry) a0))), (2, .c (.ptr 128 0)), (3, .c (.ptr 192 0)), (4, .c (.v (.int .i64 x.1)))] [(128, .var [.v (.slice none 0 0), .v (.slice none 0 0)]), (192, .var [.bs (LEN a0) 5 (row GD (encSpatialEntry) a0), .os 2560 0 (LEN x.2)]), (2560, .arr .rw [] (LEN x.2) 1 (row GD (oncL LEN GD 1 (encI .i64)) x.2))])) ?_ (fun y e s => (fun (w : (List (List Int))) => e = .exit 0 ∧ s.le (sparse 43 [(2, .c (.ptr 128 0)), (3, .c (.ptr 192 0))] [(128, .var [.v (.slice none 0 0), .v (.slice none 0 0)]), (192, .var [.bs (LEN a0) 5 (row GD (encSpatialEntry) a0), .os 2560 0 (LEN w)]), (2560, .arr .rw [] (LEN w) 1 (row GD (oncL LEN GD 1 (encI .i64)) w))])) y) ?_ ?_
  · clear hr5 hN6
    show St.le _ _
    refine St.le_trans (le_nilV 192 1 2560 1 (row GD (oncL LEN GD 1 (encI .i64)) ([] : List (List Int))) (by decide) (by decide) rfl rfl) ?_
    subst hLEN
    exact le_sparse rfl ⟨AV.le_refl _, AV.le_refl _, AV.le_refl _, AV.le_refl _, trivial⟩ ⟨rfl, rfl, ⟨fun hw => hw, fun c hc => (by cases hc), .inl rfl, rfl, rfl, fun i hi j hj => rfl⟩, trivial⟩ rfl
  · clear hr5 hN6
    intro x z10 h K8 hK9 hY7
    obtain ⟨x0_, x1_⟩ := x
    replace h := of_let h
    obtain ⟨v1, hv1, h⟩ := h
    have hv1 : v1 = x0_ := hv1
    subst hv1
    replace h := of_let h
    obtain ⟨v2, hv2, h⟩ := h
    have hv2 : v2 = x1_ := hv2
    subst hv2
    cbv
    refine fork (fun b64 => ?_) (fun b64 => ?_)
    · replace h := of_br_t b64 h
      cbv
      replace h := of_let h
      obtain ⟨l15, hl15, h⟩ := h
      have e16 : 0 = LEN l15 := by subst hl15 hLEN; rfl
      refine ⟨_, congrArg (fun n => AV.c (AC.os 832 0 n)) e16, _, row GD (encI .i64) l15, e16, ?_, ?_⟩
      · intro i hi j hj
        rw [← e16] at hi
        subst hl15
        subst hGD
        omega
      cbv
      replace h := of_bind h
      obtain ⟨y20, hr21, hN22⟩ := h
      refine loop_cut hr21 (fun x => (sparse 43 [(0, .c (.bs (LEN a0) 5 (row GD (encSpatialEntry) a0))), (2, .c (.ptr 128 0)), (3, .c (.ptr 192 0)), (4, .c (.v (.int .i64 v1))), (5, .c (.os 832 0 (LEN x.2))), (6, .c (.v (.int .i64 x.1)))] [(128, .var [.v (.slice none 0 0), .v (.slice none 0 0)]), (192, .var [.bs (LEN a0) 5 (row GD (encSpatialEntry) a0), .os 2560 0 (LEN v2)]), (832, .arr .rw [] (LEN x.2) 1 (row GD (encI .i64) x.2)), (2560, .arr .rw [] (LEN v2) 1 (row GD (oncL LEN GD 1 (encI .i64)) v2))])) ?_ (fun y e s => (fun (w : (List Int)) => e = .exit 2 ∧ s.le (sparse 43 [(0, .c (.bs (LEN a0) 5 (row GD (encSpatialEntry) a0))), (2, .c (.ptr 128 0)), (3, .c (.ptr 192 0)), (4, .c (.v (.int .i64 v1))), (5, .c (.os 832 0 (LEN w)))] [(128, .var [.v (.slice none 0 0), .v (.slice none 0 0)]), (192, .var [.bs (LEN a0) 5 (row GD (encSpatialEntry) a0), .os 2560 0 (LEN v2)]), (832, .arr .rw [] (LEN w) 1 (row GD (encI .i64) w)), (2560, .arr .rw [] (LEN v2) 1 (row GD (oncL LEN GD 1 (encI .i64)) v2))])) y) ?_ ?_
      · clear hr21 hN22
        show St.le _ _
        exact le_sparse rfl ⟨AV.le_refl _, AV.le_refl _, AV.le_refl _, AV.le_refl _, AV.le_refl _, AV.le_refl _, trivial⟩ ⟨rfl, rfl, ⟨fun hw => hw, fun c hc => (by cases hc), .inl rfl, rfl, rfl, fun i hi j hj => rfl⟩, ⟨fun hw => hw, fun c hc => (by cases hc), .inl rfl, rfl, rfl, fun i hi j hj => rfl⟩, trivial⟩ rfl
      · clear hr21 hN22
        intro x z26 h K24 hK25 hY23
        obtain ⟨x0_, x1_⟩ := x
        replace h := of_let h
        obtain ⟨v17, hv17, h⟩ := h
        have hv17 : v17 = x0_ := hv17
        subst hv17
        replace h := of_let h
        obtain ⟨v18, hv18, h⟩ := h
        have hv18 : v18 = x1_ := hv18
        subst hv18
        cbv
        refine fork (fun b50 => ?_) (fun b50 => ?_)
        · replace h := of_br_t b50 h
          cbv
          replace h := of_req h
          obtain ⟨c31, h⟩ := h
          refine ⟨⟨c31, trivial⟩, ?_⟩
          replace h := of_bind h
          obtain ⟨y32, hy33, h⟩ := h
          refine ⟨{ args := [.c (.v (.int .i64 v1))], o0 := [], r := .agg [.v (.int .i64 y32.fX0), .v (.int .i64 y32.fY0), .v (.int .i64 y32.fX1), .v (.int .i64 y32.fY1)], o1 := [], fl := true, σ := [], τ := [] }, hf_spec_l11Bucket _ _ hy33, ⟨les_cons (AV.le_refl _) (les_nil), trivial, rfl, rfl, rfl, rfl, trivial, rfl⟩, ?_⟩
          cbv
          replace h := of_bind h
          obtain ⟨y34, hy35, h⟩ := h
          refine ⟨{ args := [.agg [.v (.int .i64 (GD a0 (A.toN v17)).fBox.fX0), .v (.int .i64 (GD a0 (A.toN v17)).fBox.fY0), .v (.int .i64 (GD a0 (A.toN v17)).fBox.fX1), .v (.int .i64 (GD a0 (A.toN v17)).fBox.fY1)], .agg [.v (.int .i64 y32.fX0), .v (.int .i64 y32.fY0), .v (.int .i64 y32.fX1), .v (.int .i64 y32.fY1)]], o0 := [], r := .c (.v (.bool y34)), o1 := [], fl := true, σ := [], τ := [] }, hf_spec_l11Overlap _ _ _ hy35, ⟨les_cons (AV.le_refl _) (les_cons (AV.le_refl _) (les_nil)), trivial, rfl, rfl, rfl, rfl, trivial, rfl⟩, ?_⟩
          cbv
          replace h := of_bind h
          obtain ⟨y36, hy37, h⟩ := h
          obtain ⟨S40, hS41⟩ : ∃ S, S = some (sparse 43 [(0, .c (.bs (LEN a0) 5 (row GD (encSpatialEntry) a0))), (2, .c (.ptr 128 0)), (3, .c (.ptr 192 0)), (4, .c (.v (.int .i64 v1))), (5, .c (.os 832 0 (LEN y36))), (6, .c (.v (.int .i64 v17)))] [(128, .var [.v (.slice none 0 0), .v (.slice none 0 0)]), (192, .var [.bs (LEN a0) 5 (row GD (encSpatialEntry) a0), .os 2560 0 (LEN v2)]), (832, .arr .rw [] (LEN y36) 1 (row GD (encI .i64) y36)), (2560, .arr .rw [] (LEN v2) 1 (row GD (oncL LEN GD 1 (encI .i64)) v2))]) := ⟨_, rfl⟩
          refine ⟨S40, ?_, ?_⟩
          · clear h
            have h := hy37
            clear hy37
            cbv
            refine fork (fun b49 => ?_) (fun b49 => ?_)
            · replace h := of_br_t b49 h
              cbv
              replace h := of_req h
              obtain ⟨c43, h⟩ := h
              refine ⟨⟨c43, trivial⟩, ?_⟩
              replace h := of_let h
              obtain ⟨l44, hl44, h⟩ := h
              have e45 : 1 = LEN l44 := by subst hl44 hLEN; rfl
              refine ⟨_, congrArg (fun n => AV.c (AC.os 2176 0 n)) e45, _, row GD (encI .i64) l44, e45, ?_, ?_⟩
              · intro i hi j hj
                rw [← e45] at hi
                subst hl44
                subst hGD
                obtain rfl : i = 0 := (by omega)
                all_goals obtain rfl : j = 0 := by omega
                all_goals rfl
              cbv
              replace h := of_req h
              obtain ⟨c48, h⟩ := h
              replace h := of_let h
              obtain ⟨l46, hl46, h⟩ := h
              have e47 : A.nadd (LEN v18) (LEN l44) = LEN l46 := by subst hl46 hLEN hA; simp [std, len]
              refine ⟨c48, _, congrArg (fun n => AV.c (AC.os 832 0 n)) e47, _, row GD (encI .i64) l46, e47, ?_, ?_⟩
              · subst hGD hLEN hA
                exact app_os (off := 0) (fun _ _ => rfl) hl46 (Nat.le_refl _)
              cbv
              injection h with h
              subst h
              subst hS41
              show St.le _ _
              exact le_sparse rfl ⟨AV.le_refl _, AV.le_refl _, AV.le_refl _, AV.le_refl _, AV.le_refl _, AV.le_refl _, trivial⟩ ⟨rfl, rfl, ⟨fun hw => hw, fun c hc => (by cases hc), .inl rfl, rfl, rfl, fun i hi j hj => rfl⟩, ⟨fun hw => hw, fun c hc => (by cases hc), .inl rfl, rfl, rfl, fun i hi j hj => rfl⟩, trivial⟩ rfl
            · replace h := of_br_f b49 h
              cbv
              injection h with h
              subst h
              subst hS41
              show St.le _ _
              exact le_sparse rfl ⟨AV.le_refl _, AV.le_refl _, AV.le_refl _, AV.le_refl _, AV.le_refl _, AV.le_refl _, trivial⟩ ⟨rfl, rfl, ⟨fun hw => hw, fun c hc => (by cases hc), .inl rfl, rfl, rfl, fun i hi j hj => rfl⟩, ⟨fun hw => hw, fun c hc => (by cases hc), .inl rfl, rfl, rfl, fun i hi j hj => rfl⟩, trivial⟩ rfl
          · clear hy37
            subst hS41
            replace h := of_let h
            obtain ⟨w42, hw42, h⟩ := h
            have hw42 : w42 = y36 := hw42
            subst hw42
            cbv
            injection h with h
            refine hK25 _ h.symm _ ?_
            exact le_sparse rfl ⟨AV.le_refl _, AV.le_refl _, AV.le_refl _, AV.le_refl _, AV.le_refl _, AV.le_refl _, trivial⟩ ⟨rfl, rfl, ⟨fun hw => hw, fun c hc => (by cases hc), .inl rfl, rfl, rfl, fun i hi j hj => rfl⟩, ⟨fun hw => hw, fun c hc => (by cases hc), .inl rfl, rfl, rfl, fun i hi j hj => rfl⟩, trivial⟩ rfl
        · replace h := of_br_f b50 h
          cbv
          injection h with h
          refine hY23 _ h.symm _ _ (And.intro rfl ?_) (by intro hh; cases hh)
          exact le_sparse rfl ⟨AV.le_refl _, AV.le_refl _, AV.le_refl _, AV.le_refl _, AV.le_refl _, trivial⟩ ⟨rfl, rfl, ⟨fun hw => hw, fun c hc => (by cases hc), .inl rfl, rfl, rfl, fun i hi j hj => rfl⟩, ⟨fun hw => hw, fun c hc => (by cases hc), .inl rfl, rfl, rfl, fun i hi j hj => rfl⟩, trivial⟩ rfl
      · clear hr21
        have h := hN22
        clear hN22
        intro e29 s30 q28 hne
        replace h := of_let h
        obtain ⟨y20k0, hyk, h⟩ := h
        have hyk : y20k0 = y20 := hyk
        subst hyk
        obtain ⟨rfl, q28⟩ := q28
        replace h := of_let h
        obtain ⟨w51, hw51, h⟩ := h
        have hw51 : w51 = y20k0 := hw51
        subst hw51
        cbv
        refine ⟨_, q28, ?_⟩
        cbv
        replace h := of_bind h
        obtain ⟨y52, hy53, h⟩ := h
        obtain ⟨S56, hS57⟩ : ∃ S, S = (sparse 43 [(0, .c (.bs (LEN a0) 5 (row GD (encSpatialEntry) a0))), (2, .c (.ptr 128 0)), (3, .c (.ptr 192 0)), (4, .c (.v (.int .i64 v1)))] [(128, .var [.v (.slice none 0 0), .v (.slice none 0 0)]), (192, .var [.bs (LEN a0) 5 (row GD (encSpatialEntry) a0), .os 2560 0 (LEN y52)]), (2560, .arr .rw [] (LEN y52) 1 (row GD (oncL LEN GD 1 (encI .i64)) y52))]) := ⟨_, rfl⟩
        refine ⟨S56, ?_, ?_⟩
        · clear h
          have h := hy53
          clear hy53
          cbv
          replace h := of_let h
          obtain ⟨l59, hl59, h⟩ := h
          have e60 : 1 = LEN l59 := by subst hl59 hLEN; rfl
          refine ⟨_, congrArg (fun n => AV.c (AC.os 2496 0 n)) e60, _, (patchC (row GD (oncL LEN GD 1 (encI .i64)) ([] : List (List Int))) 0 [.os 832 0 (LEN w51)]), e60, ?_, ?_⟩
          · refine patch_one (by subst hl59 hLEN; rfl) ?_
            intro j hj
            match j, hj with | 0, _ => (rfl) | (j_ + 1), h_ => exact absurd h_ (by omega)
          cbv
          replace h := of_req h
          obtain ⟨c63, h⟩ := h
          replace h := of_let h
          obtain ⟨l61, hl61, h⟩ := h
          have e62 : A.nadd (LEN v2) (LEN l59) = LEN l61 := by subst hl61 hLEN hA; simp [std, len]
          refine ⟨c63, _, congrArg (fun n => AV.c (AC.os 2560 0 n)) e62, _, (patchC (row GD (oncL LEN GD 1 (encI .i64)) v2) (LEN v2) [.os 832 0 (LEN w51)]), e62, ?_, ?_⟩
          · subst hLEN hA
            refine patch_joinG (by first | (rw [hl61]; simp [len]; done) | (rw [hl61]; simp [len]; omega) | (subst_vars; simp [len])) ?_
            intro j hj
            match j, hj with | 0, _ => (rfl) | (j_ + 1), h_ => exact absurd h_ (by omega)
          cbv
          rw [hl59] at hl61
          injection h with h
          subst h
          subst hS57
          show St.le _ _
          refine St.le_trans (le_foldP 2560 0 832 rfl rfl rfl (by decide) (by subst hLEN; exact app_lt hl61) (by decide) rfl (fun _ _ => rfl)) ?_
          exact le_sparse rfl ⟨AV.le_refl _, AV.le_refl _, AV.le_refl _, AV.le_refl _, trivial⟩ ⟨rfl, rfl, ⟨fun hw => hw, fun c hc => (by cases hc), .inr (fun i _ j _ z hz => (noref (rfl) hz).elim), rfl, rfl, (by subst hGD hLEN hA; exact patch_app hl61 (Nat.le_refl _) (by intro j hj; match j, hj with | 0, _ => rfl | (j_ + 1), h_ => exact absurd h_ (by omega)))⟩, trivial⟩ rfl
        · clear hy53
          subst hS57
          replace h := of_let h
          obtain ⟨w58, hw58, h⟩ := h
          have hw58 : w58 = y52 := hw58
          subst hw58
          cbv
          injection h with h
          refine hK9 _ h.symm _ ?_
          exact le_sparse rfl ⟨AV.le_refl _, AV.le_refl _, AV.le_refl _, AV.le_refl _, trivial⟩ ⟨rfl, rfl, ⟨fun hw => hw, fun c hc => (by cases hc), .inl rfl, rfl, rfl, fun i hi j hj => rfl⟩, trivial⟩ rfl
    · replace h := of_br_f b64 h
      cbv
      injection h with h
      refine hY7 _ h.symm _ _ (And.intro rfl ?_) (by intro hh; cases hh)
      exact le_sparse rfl ⟨AV.le_refl _, AV.le_refl _, trivial⟩ ⟨rfl, rfl, ⟨fun hw => hw, fun c hc => (by cases hc), .inl rfl, rfl, rfl, fun i hi j hj => rfl⟩, trivial⟩ rfl
  · clear hr5
    have h := hN6
    clear hN6
    intro e13 s14 q12 hne
    replace h := of_let h
    obtain ⟨y4k0, hyk, h⟩ := h
    have hyk : y4k0 = y4 := hyk
    subst hyk
    obtain ⟨rfl, q12⟩ := q12
    replace h := of_let h
    obtain ⟨w65, hw65, h⟩ := h
    have hw65 : w65 = y4k0 := hw65
    subst hw65
    cbv
    refine ⟨_, q12, ?_⟩
    cbv
    injection h with h
    subst h
    refine ⟨(sparse 43 [(2, .c (.ptr 128 0))] [(128, .var [.bs (LEN a0) 5 (row GD (encSpatialEntry) a0), .os 64000 0 (LEN w65)]), (64000, .arr .rw [] (LEN w65) 1 (row GD (oncL LEN GD 1 (encI .i64)) w65))]), ?_, ?_⟩
    · refine St.le_trans (le_ren 2560 64000 (by decide) rfl) ?_
      exact le_sparse rfl ⟨AV.le_refl _, trivial⟩ ⟨rfl, ⟨fun hw => hw, fun c hc => (by cases hc), .inl rfl, rfl, rfl, fun i hi j hj => rfl⟩, trivial⟩ rfl
    · exact ⟨AV.le_refl _, ⟨⟨fun hw => hw, fun c hc => (by cases hc), .inl rfl, rfl, rfl, fun i hi j hj => rfl⟩, trivial⟩, rfl⟩

noncomputable def L_spec_l11SameInts_x2 (a0 : List Int) (a1 : List Int) : (Int) → Option ((Int) ⊕ ((Unit) ⊕ (Unit))) := fun x2 =>
  letO x2 fun v1 =>
  br (std.lt v1 (std.ofN (len a0)))
  (req (std.inR v1 (len a0)) <|
  req (std.inR v1 (len a1)) <|
  br (std.not (std.eq (gd a0 (std.toN v1)) (gd a1 (std.toN v1))))
  (some (.inr (.inl ())))
  (some (.inl (std.add .i64 v1 1))))
  (some (.inr (.inr ())))
/-- spec.l11SameInts -/
noncomputable def F_spec_l11SameInts (a0 : List Int) (a1 : List Int) : Option (Bool) :=
  br (std.not (std.eq (std.ofN (len a0)) (std.ofN (len a1))))
  (some false)
  ((whileP (σ := Int) (ρ := (Unit) ⊕ (Unit)) (L_spec_l11SameInts_x2 a0 a1) 0).bind fun y3 =>
  (match y3 with
    | .inl y3k0 => (
        some false)
    | .inr y3m0 =>
        some true))
theorem run_spec_l11SameInts (a0 : List Int) (a1 : List Int) (r : Bool) (h : F_spec_l11SameInts a0 a1 = some r) : Fun Try.prog 160 [.c (.bs (len a0) 1 (row gd (encI .i64) a0)), .c (.bs (len a1) 1 (row gd (encI .i64) a1))] [] (.c (.v (.bool r))) [] true := by
  refine Fun.of_wp (oneOf []) tok mixed Try.func160 (by kernel_rfl) rfl Try.ntmps160 rfl trivial (fun _ => ⟨trivial, trivial⟩) ?_
  unfold F_spec_l11SameInts at h
  unfold L_spec_l11SameInts_x2 at h
  generalize hLEN : @len = LEN at *
  generalize hGD : @gd = GD at *
  generalize hA : std = A at *
  generalize hP : Try.prog = P at *
  cbv
  refine fork (fun b18 => ?_) (fun b18 => ?_)
  · replace h := of_br_t b18 h
    cbv
    injection h with h
    subst h
    refine ⟨(sparse 26 [(4, .c (.v (.bool false)))] []), ?_, ?_⟩
    · exact le_sparse rfl ⟨AV.le_refl _, trivial⟩ trivial rfl
    · exact ⟨AV.le_refl _, trivial, rfl⟩
  · replace h := of_br_f b18 h
    cbv
    replace h := of_bind h
    obtain ⟨y3, hr4, hN5⟩ := h
    refine loop_cut hr4 (fun x => (sparse 26 [(0, .c (.bs (LEN a0) 1 (row GD (encI .i64) a0))), (1, .c (.bs (LEN a1) 1 (row GD (encI .i64) a1))), (5, .c (.v (.int .i64 x)))] [])) ?_ (fun y e s => (match y with | .inl w => e = .ret ∧ s.le (sparse 26 [(4, .c (.v (.bool false)))] []) | .inr w0 => (fun (w : Unit) => e = .exit 0 ∧ s.le (sparse 26 [] [])) w0)) ?_ ?_
    · clear hr4 hN5
      show St.le _ _
      exact le_sparse rfl ⟨AV.le_refl _, AV.le_refl _, AV.le_refl _, trivial⟩ trivial rfl
    · clear hr4 hN5
      intro x z9 h K7 hK8 hY6
      replace h := of_let h
      obtain ⟨v1, hv1, h⟩ := h
      have hv1 : v1 = x := hv1
      subst hv1
      cbv
      refine fork (fun b17 => ?_) (fun b17 => ?_)
      · replace h := of_br_t b17 h
        cbv
        replace h := of_req h
        obtain ⟨c14, h⟩ := h
        refine ⟨⟨c14, trivial⟩, ?_⟩
        replace h := of_req h
        obtain ⟨c15, h⟩ := h
        refine ⟨⟨c15, trivial⟩, ?_⟩
        refine fork (fun b16 => ?_) (fun b16 => ?_)
        · replace h := of_br_t b16 h
          cbv
          injection h with h
          refine hY6 _ h.symm _ _ (And.intro rfl ?_) (by intro hh; cases hh)
          exact le_sparse rfl ⟨AV.le_refl _, trivial⟩ trivial rfl
        · replace h := of_br_f b16 h
          cbv
          injection h with h
          refine hK8 _ h.symm _ ?_
          exact le_sparse rfl ⟨AV.le_refl _, AV.le_refl _, AV.le_refl _, trivial⟩ trivial rfl
      · replace h := of_br_f b17 h
        cbv
        injection h with h
        refine hY6 _ h.symm _ _ (And.intro rfl ?_) (by intro hh; cases hh)
        exact le_sparse rfl trivial trivial rfl
    · clear hr4
      have h := hN5
      clear hN5
      intro e12 s13 q11 hne
      rcases y3 with y3k0 | y3m0
      · replace h := h
        obtain ⟨rfl, q11⟩ := q11
        cbv
        injection h with h
        subst h
        refine ⟨(sparse 26 [(4, .c (.v (.bool false)))] []), ?_, ?_⟩
        · refine St.le_trans q11 ?_
          exact le_sparse rfl ⟨AV.le_refl _, trivial⟩ trivial rfl
        · exact ⟨AV.le_refl _, trivial, rfl⟩
      · obtain ⟨rfl, q11⟩ := q11
        cbv
        refine ⟨_, q11, ?_⟩
        cbv
        injection h with h
        subst h
        refine ⟨(sparse 26 [(4, .c (.v (.bool true)))] []), ?_, ?_⟩
        · exact le_sparse rfl ⟨AV.le_refl _, trivial⟩ trivial rfl
        · exact ⟨AV.le_refl _, trivial, rfl⟩

noncomputable def L_spec_IsValidIndex_x44 (a0 : TSpatialIndex) (y41 : TSpatialIndex) : (Int) → Option ((Int) ⊕ ((Bool) ⊕ (Unit))) := fun x44 =>
  letO x44 fun v43 =>
  br (std.lt v43 25)
  (((
        req (std.inR v43 (len a0.fBuckets)) <|
        req (std.inR v43 (len y41.fBuckets)) <|
        (F_spec_l11SameInts (gd a0.fBuckets (std.toN v43)) (gd y41.fBuckets (std.nadd 0 (std.toN v43)))).bind fun y65 =>
        some (!(y65))
    ) : Option (Bool)).bind fun y56 =>
  letO y56 fun w62 =>
  br w62
  (some (.inr (.inl false)))
  (some (.inl (std.add .i64 v43 1))))
  (some (.inr (.inr ())))
noncomputable def L_spec_IsValidIndex_x10 (a0 : TSpatialIndex) : (Int) → Option ((Int) ⊕ ((Bool) ⊕ (Unit))) := fun x10 =>
  letO x10 fun v9 =>
  br (std.lt v9 (std.ofN (len a0.fEntries)))
  (req (std.inR v9 (len a0.fEntries)) <|
  ((
        (F_spec_l09In (gd a0.fEntries (std.toN v9)).fId 1 9999).bind fun y30 =>
        br (!(y30))
        (some true)
        ((F_spec_l09Rect (gd a0.fEntries (std.toN v9)).fBox).bind fun y32 =>
        br (!(y32))
        (some true)
        (br (std.lt 0 v9)
        (req (std.inR (std.sub .i64 v9 1) (len a0.fEntries)) <|
        some (std.le (gd a0.fEntries (std.toN v9)).fId (gd a0.fEntries (std.toN (std.sub .i64 v9 1))).fId))
        (some false)))
    ) : Option (Bool)).bind fun y23 =>
  letO y23 fun w29 =>
  br w29
  (some (.inr (.inl false)))
  (some (.inl (std.add .i64 v9 1))))
  (some (.inr (.inr ())))
/-- spec.IsValidIndex -/
noncomputable def F_spec_IsValidIndex (a0 : TSpatialIndex) : Option (Bool) :=
  ((
        br (std.lt 40 (std.ofN (len a0.fEntries)))
        (some true)
        (some (std.not (std.eq (std.ofN (len a0.fBuckets)) 25)))
    ) : Option (Bool)).bind fun y1 =>
  letO y1 fun w7 =>
  br w7
  (some false)
  ((whileP (σ := Int) (ρ := (Bool) ⊕ (Unit)) (L_spec_IsValidIndex_x10 a0) 0).bind fun y11 =>
  (match y11 with
    | .inl y11k0 => (
        letO y11k0 fun w40 =>
        some w40)
    | .inr y11m0 =>
        (F_spec_l11Made a0.fEntries).bind fun y41 =>
        (whileP (σ := Int) (ρ := (Bool) ⊕ (Unit)) (L_spec_IsValidIndex_x44 a0 y41) 0).bind fun y45 =>
        (match y45 with
          | .inl y45k0 => (
              letO y45k0 fun w69 =>
              some w69)
          | .inr y45m0 =>
              some true)))
theorem run_spec_IsValidIndex (a0 : TSpatialIndex) (r : Bool) (h : F_spec_IsValidIndex a0 = some r) : Fun Try.prog 91 [.agg [.bs (len a0.fEntries) 5 (row gd (encSpatialEntry) a0.fEntries), .bs (len a0.fBuckets) 1 (row gd (encL len gd 1 (encI .i64)) a0.fBuckets)]] [] (.c (.v (.bool r))) [] true := by
  refine Fun.of_wp (oneOf [1, 7, 13]) tok mixed Try.func91 (by kernel_rfl) rfl Try.ntmps91 rfl trivial (fun _ => ⟨trivial, trivial⟩) ?_
  unfold F_spec_IsValidIndex at h
  unfold L_spec_IsValidIndex_x10 at h
  unfold L_spec_IsValidIndex_x44 at h
  have hf_spec_l09In := @run_spec_l09In
  have hf_spec_l09Rect := @run_spec_l09Rect
  have hf_spec_l11Made := @run_spec_l11Made
  have hf_spec_l11SameInts := @run_spec_l11SameInts
  generalize hLEN : @len = LEN at *
  generalize hGD : @gd = GD at *
  generalize hA : std = A at *
  generalize hP : Try.prog = P at *
  cbv
  replace h := of_bind h
  obtain ⟨y1, hy2, h⟩ := h
  obtain ⟨S5, hS6⟩ : ∃ S, S = (sparse 74 [(1, .c (.ptr 64 0)), (16, .c (.v (.bool y1)))] [(64, .var [.bs (LEN a0.fEntries) 5 (row GD (encSpatialEntry) a0.fEntries), .bs (LEN a0.fBuckets) 1 (row GD (encL LEN GD 1 (encI .i64)) a0.fBuckets)])]) := ⟨_, rfl⟩
  refine ⟨S5, ?_, ?_⟩
  · clear h
    have h := hy2
    clear hy2
    cbv
    refine fork (fun b8 => ?_) (fun b8 => ?_)
    · replace h := of_br_t b8 h
      cbv
      injection h with h
      subst h
      subst hS6
      show St.le _ _
      exact le_sparse rfl ⟨AV.le_refl _, AV.le_refl _, trivial⟩ ⟨rfl, trivial⟩ rfl
    · replace h := of_br_f b8 h
      cbv
      injection h with h
      subst h
      subst hS6
      show St.le _ _
      exact le_sparse rfl ⟨AV.le_refl _, AV.le_refl _, trivial⟩ ⟨rfl, trivial⟩ rfl
  · clear hy2
    subst hS6
    replace h := of_let h
    obtain ⟨w7, hw7, h⟩ := h
    have hw7 : w7 = y1 := hw7
    subst hw7
    cbv
    refine fork (fun b70 => ?_) (fun b70 => ?_)
    · replace h := of_br_t b70 h
      cbv
      injection h with h
      subst h
      refine ⟨(sparse 74 [(2, .c (.v (.bool false)))] []), ?_, ?_⟩
      · exact le_sparse rfl ⟨AV.le_refl _, trivial⟩ trivial rfl
      · exact ⟨AV.le_refl _, trivial, rfl⟩
    · replace h := of_br_f b70 h
      cbv
      replace h := of_bind h
      obtain ⟨y11, hr12, hN13⟩ := h
      refine loop_cut hr12 (fun x => (sparse 74 [(1, .c (.ptr 64 0)), (3, .c (.v (.int .i64 x)))] [(64, .var [.bs (LEN a0.fEntries) 5 (row GD (encSpatialEntry) a0.fEntries), .bs (LEN a0.fBuckets) 1 (row GD (encL LEN GD 1 (encI .i64)) a0.fBuckets)])])) ?_ (fun y e s => (match y with | .inl w => e = .ret ∧ s.le (sparse 74 [(2, .c (.v (.bool w)))] []) | .inr w0 => (fun (w : Unit) => e = .exit 0 ∧ s.le (sparse 74 [(1, .c (.ptr 64 0))] [(64, .var [.bs (LEN a0.fEntries) 5 (row GD (encSpatialEntry) a0.fEntries), .bs (LEN a0.fBuckets) 1 (row GD (encL LEN GD 1 (encI .i64)) a0.fBuckets)])])) w0)) ?_ ?_
      · clear hr12 hN13
        show St.le _ _
        exact le_sparse rfl ⟨AV.le_refl _, AV.le_refl _, trivial⟩ ⟨rfl, trivial⟩ rfl
      · clear hr12 hN13
        intro x z17 h K15 hK16 hY14
        replace h := of_let h
        obtain ⟨v9, hv9, h⟩ := h
        have hv9 : v9 = x := hv9
        subst hv9
        cbv
        refine fork (fun b39 => ?_) (fun b39 => ?_)
        · replace h := of_br_t b39 h
          cbv
          replace h := of_req h
          obtain ⟨c22, h⟩ := h
          refine ⟨⟨c22, trivial⟩, ?_⟩
          replace h := of_bind h
          obtain ⟨y23, hy24, h⟩ := h
          obtain ⟨S27, hS28⟩ : ∃ S, S = (sparse 74 [(1, .c (.ptr 64 0)), (3, .c (.v (.int .i64 v9))), (54, .c (.v (.bool y23)))] [(64, .var [.bs (LEN a0.fEntries) 5 (row GD (encSpatialEntry) a0.fEntries), .bs (LEN a0.fBuckets) 1 (row GD (encL LEN GD 1 (encI .i64)) a0.fBuckets)])]) := ⟨_, rfl⟩
          refine ⟨S27, ?_, ?_⟩
          · clear h
            have h := hy24
            clear hy24
            cbv
            replace h := of_bind h
            obtain ⟨y30, hy31, h⟩ := h
            refine ⟨{ args := [.c (.v (.int .i64 (GD a0.fEntries (A.toN v9)).fId)), .c (.v (.int .i64 1)), .c (.v (.int .i64 9999))], o0 := [], r := .c (.v (.bool y30)), o1 := [], fl := true, σ := [], τ := [] }, hf_spec_l09In _ _ _ _ hy31, ⟨les_cons (AV.le_refl _) (les_cons (AV.le_refl _) (les_cons (AV.le_refl _) (les_nil))), trivial, rfl, rfl, rfl, rfl, trivial, rfl⟩, ?_⟩
            cbv
            refine fork (fun b37 => ?_) (fun b37 => ?_)
            · replace h := of_br_t b37 h
              cbv
              injection h with h
              subst h
              subst hS28
              show St.le _ _
              exact le_sparse rfl ⟨AV.le_refl _, AV.le_refl _, AV.le_refl _, trivial⟩ ⟨rfl, trivial⟩ rfl
            · replace h := of_br_f b37 h
              cbv
              replace h := of_bind h
              obtain ⟨y32, hy33, h⟩ := h
              refine ⟨{ args := [.agg [.v (.int .i64 (GD a0.fEntries (A.toN v9)).fBox.fX0), .v (.int .i64 (GD a0.fEntries (A.toN v9)).fBox.fY0), .v (.int .i64 (GD a0.fEntries (A.toN v9)).fBox.fX1), .v (.int .i64 (GD a0.fEntries (A.toN v9)).fBox.fY1)]], o0 := [], r := .c (.v (.bool y32)), o1 := [], fl := true, σ := [], τ := [] }, hf_spec_l09Rect _ _ hy33, ⟨les_cons (AV.le_refl _) (les_nil), trivial, rfl, rfl, rfl, rfl, trivial, rfl⟩, ?_⟩
              cbv
              refine fork (fun b36 => ?_) (fun b36 => ?_)
              · replace h := of_br_t b36 h
                cbv
                injection h with h
                subst h
                subst hS28
                show St.le _ _
                exact le_sparse rfl ⟨AV.le_refl _, AV.le_refl _, AV.le_refl _, trivial⟩ ⟨rfl, trivial⟩ rfl
              · replace h := of_br_f b36 h
                cbv
                refine fork (fun b35 => ?_) (fun b35 => ?_)
                · replace h := of_br_t b35 h
                  cbv
                  replace h := of_req h
                  obtain ⟨c34, h⟩ := h
                  refine ⟨⟨c34, trivial⟩, ?_⟩
                  injection h with h
                  subst h
                  subst hS28
                  show St.le _ _
                  exact le_sparse rfl ⟨AV.le_refl _, AV.le_refl _, AV.le_refl _, trivial⟩ ⟨rfl, trivial⟩ rfl
                · replace h := of_br_f b35 h
                  cbv
                  injection h with h
                  subst h
                  subst hS28
                  show St.le _ _
                  exact le_sparse rfl ⟨AV.le_refl _, AV.le_refl _, AV.le_refl _, trivial⟩ ⟨rfl, trivial⟩ rfl
          · clear hy24
            subst hS28
            replace h := of_let h
            obtain ⟨w29, hw29, h⟩ := h
            have hw29 : w29 = y23 := hw29
            subst hw29
            cbv
            refine fork (fun b38 => ?_) (fun b38 => ?_)
            · replace h := of_br_t b38 h
              cbv
              injection h with h
              refine hY14 _ h.symm _ _ (And.intro rfl ?_) (by intro hh; cases hh)
              exact le_sparse rfl ⟨AV.le_refl _, trivial⟩ trivial rfl
            · replace h := of_br_f b38 h
              cbv
              injection h with h
              refine hK16 _ h.symm _ ?_
              exact le_sparse rfl ⟨AV.le_refl _, AV.le_refl _, trivial⟩ ⟨rfl, trivial⟩ rfl
        · replace h := of_br_f b39 h
          cbv
          injection h with h
          refine hY14 _ h.symm _ _ (And.intro rfl ?_) (by intro hh; cases hh)
          exact le_sparse rfl ⟨AV.le_refl _, trivial⟩ ⟨rfl, trivial⟩ rfl
      · clear hr12
        have h := hN13
        clear hN13
        intro e20 s21 q19 hne
        rcases y11 with y11k0 | y11m0
        · replace h := h
          obtain ⟨rfl, q19⟩ := q19
          replace h := of_let h
          obtain ⟨w40, hw40, h⟩ := h
          have hw40 : w40 = y11k0 := hw40
          subst hw40
          cbv
          injection h with h
          subst h
          refine ⟨(sparse 74 [(2, .c (.v (.bool w40)))] []), ?_, ?_⟩
          · refine St.le_trans q19 ?_
            exact le_sparse rfl ⟨AV.le_refl _, trivial⟩ trivial rfl
          · exact ⟨AV.le_refl _, trivial, rfl⟩
        · obtain ⟨rfl, q19⟩ := q19
          cbv
          refine ⟨_, q19, ?_⟩
          cbv
          replace h := of_bind h
          obtain ⟨y41, hy42, h⟩ := h
          refine ⟨{ args := [.c (.bs (LEN a0.fEntries) 5 (row GD (encSpatialEntry) a0.fEntries))], o0 := [], r := .agg [.bs (LEN y41.fEntries) 5 (row GD (encSpatialEntry) y41.fEntries), .os 64000 0 (LEN y41.fBuckets)], o1 := [(64000, .arr .rw [] (LEN y41.fBuckets) 1 (row GD (oncL LEN GD 1 (encI .i64)) y41.fBuckets))], fl := false, σ := [], τ := [(64000, 3648)] }, hf_spec_l11Made _ _ hy42, ⟨les_cons (AV.le_refl _) (les_nil), trivial, rfl, rfl, rfl, rfl, ⟨fun h => absurd (show (64000 : Nat) % 2 = 1 from h) (by decide), trivial⟩, rfl⟩, _, rfl, _, _, rfl, fun _ _ _ _ => rfl, ?_⟩
          cbv
          replace h := of_bind h
          obtain ⟨y45, hr46, hN47⟩ := h
          refine loop_cut hr46 (fun x => (sparse 74 [(1, .c (.ptr 64 0)), (5, .c (.ptr 320 0)), (6, .c (.v (.int .i64 x)))] [(64, .var [.bs (LEN a0.fEntries) 5 (row GD (encSpatialEntry) a0.fEntries), .bs (LEN a0.fBuckets) 1 (row GD (encL LEN GD 1 (encI .i64)) a0.fBuckets)]), (320, .var [.bs (LEN y41.fEntries) 5 (row GD (encSpatialEntry) y41.fEntries), .os 3648 0 (LEN y41.fBuckets)]), (3648, .arr .rw [] (LEN y41.fBuckets) 1 (row GD (oncL LEN GD 1 (encI .i64)) y41.fBuckets))])) ?_ (fun y e s => (match y with | .inl w => e = .ret ∧ s.le (sparse 74 [(2, .c (.v (.bool w)))] []) | .inr w0 => (fun (w : Unit) => e = .exit 2 ∧ s.le (sparse 74 [] [])) w0)) ?_ ?_
          · clear hr46 hN47
            show St.le _ _
            exact le_sparse rfl ⟨AV.le_refl _, AV.le_refl _, AV.le_refl _, trivial⟩ ⟨rfl, rfl, ⟨fun hw => hw, fun c hc => (by cases hc), .inl rfl, rfl, rfl, fun i hi j hj => rfl⟩, trivial⟩ rfl
          · clear hr46 hN47
            intro x z51 h K49 hK50 hY48
            replace h := of_let h
            obtain ⟨v43, hv43, h⟩ := h
            have hv43 : v43 = x := hv43
            subst hv43
            cbv
            refine fork (fun b68 => ?_) (fun b68 => ?_)
            · replace h := of_br_t b68 h
              cbv
              replace h := of_bind h
              obtain ⟨y56, hy57, h⟩ := h
              obtain ⟨S60, hS61⟩ : ∃ S, S = (sparse 74 [(1, .c (.ptr 64 0)), (5, .c (.ptr 320 0)), (6, .c (.v (.int .i64 v43))), (73, .c (.v (.bool y56)))] [(64, .var [.bs (LEN a0.fEntries) 5 (row GD (encSpatialEntry) a0.fEntries), .bs (LEN a0.fBuckets) 1 (row GD (encL LEN GD 1 (encI .i64)) a0.fBuckets)]), (320, .var [.bs (LEN y41.fEntries) 5 (row GD (encSpatialEntry) y41.fEntries), .os 3648 0 (LEN y41.fBuckets)]), (3648, .arr .rw [] (LEN y41.fBuckets) 1 (row GD (oncL LEN GD 1 (encI .i64)) y41.fBuckets))]) := ⟨_, rfl⟩
              refine ⟨S60, ?_, ?_⟩
              · clear h
                have h := hy57
                clear hy57
                cbv
                replace h := of_req h
                obtain ⟨c63, h⟩ := h
                refine ⟨⟨c63, trivial⟩, ?_⟩
                replace h := of_req h
                obtain ⟨c64, h⟩ := h
                refine ⟨⟨c64, trivial⟩, ?_⟩
                refine And.intro (by first | exact (by subst hA; exact idx_lt c64) | (refine And.intro (by subst hA; exact idx_lt c64) ?_; first | trivial | exact ⟨trivial, trivial⟩)) ?_
                refine ⟨_, rfl, _, (patchC (row GD (oncL LEN GD 1 (encI .i64)) y41.fBuckets) (A.nadd 0 (A.toN v43)) [.os 4546 0 (LEN (GD y41.fBuckets (A.nadd 0 (A.toN v43))))]), rfl, ?_, ?_⟩
                · refine patch_of ?_
                  intro j hj
                  match j, hj with | 0, _ => (rfl) | (j_ + 1), h_ => exact absurd h_ (by omega)
                refine ⟨_, row GD (encI .i64) (GD y41.fBuckets (A.nadd 0 (A.toN v43))), rfl, ?_, ?_⟩
                · exact fun i _ j _ => plain_cp (rfl)
                cbv
                replace h := of_bind h
                obtain ⟨y65, hy66, h⟩ := h
                refine ⟨{ args := [.c (.bs (LEN (GD a0.fBuckets (A.toN v43))) 1 (row GD (encI .i64) (GD a0.fBuckets (A.toN v43)))), .c (.bs (LEN (GD y41.fBuckets (A.nadd 0 (A.toN v43)))) 1 (row GD (encI .i64) (GD y41.fBuckets (A.nadd 0 (A.toN v43)))))], o0 := [], r := .c (.v (.bool y65)), o1 := [], fl := true, σ := [], τ := [] }, hf_spec_l11SameInts _ _ _ hy66, ⟨les_cons (AV.le_refl _) (les_cons (give_os (fun _ _ => rfl) rfl rfl rfl) (les_nil)), trivial, rfl, rfl, rfl, rfl, trivial, rfl⟩, ?_⟩
                cbv
                injection h with h
                subst h
                subst hS61
                show St.le _ _
                refine St.le_trans (le_foldP 3648 0 4546 rfl rfl rfl (by decide) (by subst hA; exact idx_lt c64) (by decide) rfl (fun _ _ => rfl)) ?_
                exact le_sparse rfl ⟨AV.le_refl _, AV.le_refl _, AV.le_refl _, AV.le_refl _, trivial⟩ ⟨rfl, rfl, ⟨fun hw => hw, fun c hc => (by cases hc), .inr (fun i _ j _ z hz => (noref (rfl) hz).elim), rfl, rfl, (by subst hGD hLEN hA; exact patch_same (by intro j hj; match j, hj with | 0, _ => rfl | (j_ + 1), h_ => exact absurd h_ (by omega)))⟩, trivial⟩ rfl
              · clear hy57
                subst hS61
                replace h := of_let h
                obtain ⟨w62, hw62, h⟩ := h
                have hw62 : w62 = y56 := hw62
                subst hw62
                cbv
                refine fork (fun b67 => ?_) (fun b67 => ?_)
                · replace h := of_br_t b67 h
                  cbv
                  injection h with h
                  refine hY48 _ h.symm _ _ (And.intro rfl ?_) (by intro hh; cases hh)
                  exact le_sparse rfl ⟨AV.le_refl _, trivial⟩ trivial rfl
                · replace h := of_br_f b67 h
                  cbv
                  injection h with h
                  refine hK50 _ h.symm _ ?_
                  exact le_sparse rfl ⟨AV.le_refl _, AV.le_refl _, AV.le_refl _, trivial⟩ ⟨rfl, rfl, ⟨fun hw => hw, fun c hc => (by cases hc), .inl rfl, rfl, rfl, fun i hi j hj => rfl⟩, trivial⟩ rfl
            · replace h := of_br_f b68 h
              cbv
              injection h with h
              refine hY48 _ h.symm _ _ (And.intro rfl ?_) (by intro hh; cases hh)
              exact le_sparse rfl trivial trivial rfl
          · clear hr46
            have h := hN47
            clear hN47
            intro e54 s55 q53 hne
            rcases y45 with y45k0 | y45m0
            · replace h := h
              obtain ⟨rfl, q53⟩ := q53
              replace h := of_let h
              obtain ⟨w69, hw69, h⟩ := h
              have hw69 : w69 = y45k0 := hw69
              subst hw69
              cbv
              injection h with h
              subst h
              refine ⟨(sparse 74 [(2, .c (.v (.bool w69)))] []), ?_, ?_⟩
              · refine St.le_trans q53 ?_
                exact le_sparse rfl ⟨AV.le_refl _, trivial⟩ trivial rfl
              · exact ⟨AV.le_refl _, trivial, rfl⟩
            · obtain ⟨rfl, q53⟩ := q53
              cbv
              refine ⟨_, q53, ?_⟩
              cbv
              injection h with h
              subst h
              refine ⟨(sparse 74 [(2, .c (.v (.bool true)))] []), ?_, ?_⟩
              · exact le_sparse rfl ⟨AV.le_refl _, trivial⟩ trivial rfl
              · exact ⟨AV.le_refl _, trivial, rfl⟩

noncomputable def L_spec_l11At_x2 (a0 : TSpatialIndex) (a1 : Int) : (Int) → Option ((Int) ⊕ ((Int) ⊕ (Unit))) := fun x2 =>
  letO x2 fun v1 =>
  br (std.lt v1 (std.ofN (len a0.fEntries)))
  (req (std.inR v1 (len a0.fEntries)) <|
  br (std.eq (gd a0.fEntries (std.toN v1)).fId a1)
  (some (.inr (.inl v1)))
  (some (.inl (std.add .i64 v1 1))))
  (some (.inr (.inr ())))
/-- spec.l11At -/
noncomputable def F_spec_l11At (a0 : TSpatialIndex) (a1 : Int) : Option (Int) :=
  (whileP (σ := Int) (ρ := (Int) ⊕ (Unit)) (L_spec_l11At_x2 a0 a1) 0).bind fun y3 =>
  (match y3 with
    | .inl y3k0 => (
        letO y3k0 fun w17 =>
        some w17)
    | .inr y3m0 =>
        some (-1))
theorem run_spec_l11At (a0 : TSpatialIndex) (a1 : Int) (r : Int) (h : F_spec_l11At a0 a1 = some r) : Fun Try.prog 92 [.agg [.bs (len a0.fEntries) 5 (row gd (encSpatialEntry) a0.fEntries), .bs (len a0.fBuckets) 1 (row gd (encL len gd 1 (encI .i64)) a0.fBuckets)], .c (.v (.int .i64 a1))] [] (.c (.v (.int .i64 r))) [] true := by
  refine Fun.of_wp (oneOf []) tok mixed Try.func92 (by kernel_rfl) rfl Try.ntmps92 rfl trivial (fun _ => ⟨trivial, trivial⟩) ?_
  unfold F_spec_l11At at h
  unfold L_spec_l11At_x2 at h
  generalize hLEN : @len = LEN at *
  generalize hGD : @gd = GD at *
  generalize hA : std = A at *
  generalize hP : Try.prog = P at *
  cbv
  replace h := of_bind h
  obtain ⟨y3, hr4, hN5⟩ := h
  refine loop_cut hr4 (fun x => (sparse 22 [(1, .c (.v (.int .i64 a1))), (2, .c (.ptr 128 0)), (5, .c (.v (.int .i64 x)))] [(128, .var [.bs (LEN a0.fEntries) 5 (row GD (encSpatialEntry) a0.fEntries), .bs (LEN a0.fBuckets) 1 (row GD (encL LEN GD 1 (encI .i64)) a0.fBuckets)])])) ?_ (fun y e s => (match y with | .inl w => e = .ret ∧ s.le (sparse 22 [(4, .c (.v (.int .i64 w)))] []) | .inr w0 => (fun (w : Unit) => e = .exit 0 ∧ s.le (sparse 22 [] [])) w0)) ?_ ?_
  · clear hr4 hN5
    show St.le _ _
    exact le_sparse rfl ⟨AV.le_refl _, AV.le_refl _, AV.le_refl _, trivial⟩ ⟨rfl, trivial⟩ rfl
  · clear hr4 hN5
    intro x z9 h K7 hK8 hY6
    replace h := of_let h
    obtain ⟨v1, hv1, h⟩ := h
    have hv1 : v1 = x := hv1
    subst hv1
    cbv
    refine fork (fun b16 => ?_) (fun b16 => ?_)
    · replace h := of_br_t b16 h
      cbv
      replace h := of_req h
      obtain ⟨c14, h⟩ := h
      refine ⟨⟨c14, trivial⟩, ?_⟩
      refine fork (fun b15 => ?_) (fun b15 => ?_)
      · replace h := of_br_t b15 h
        cbv
        injection h with h
        refine hY6 _ h.symm _ _ (And.intro rfl ?_) (by intro hh; cases hh)
        exact le_sparse rfl ⟨AV.le_refl _, trivial⟩ trivial rfl
      · replace h := of_br_f b15 h
        cbv
        injection h with h
        refine hK8 _ h.symm _ ?_
        exact le_sparse rfl ⟨AV.le_refl _, AV.le_refl _, AV.le_refl _, trivial⟩ ⟨rfl, trivial⟩ rfl
    · replace h := of_br_f b16 h
      cbv
      injection h with h
      refine hY6 _ h.symm _ _ (And.intro rfl ?_) (by intro hh; cases hh)
      exact le_sparse rfl trivial trivial rfl
  · clear hr4
    have h := hN5
    clear hN5
    intro e12 s13 q11 hne
    rcases y3 with y3k0 | y3m0
    · replace h := h
      obtain ⟨rfl, q11⟩ := q11
      replace h := of_let h
      obtain ⟨w17, hw17, h⟩ := h
      have hw17 : w17 = y3k0 := hw17
      subst hw17
      cbv
      injection h with h
      subst h
      refine ⟨(sparse 22 [(4, .c (.v (.int .i64 w17)))] []), ?_, ?_⟩
      · refine St.le_trans q11 ?_
        exact le_sparse rfl ⟨AV.le_refl _, trivial⟩ trivial rfl
      · exact ⟨AV.le_refl _, trivial, rfl⟩
    · obtain ⟨rfl, q11⟩ := q11
      cbv
      refine ⟨_, q11, ?_⟩
      cbv
      injection h with h
      subst h
      refine ⟨(sparse 22 [(4, .c (.v (.int .i64 (-1))))] []), ?_, ?_⟩
      · exact le_sparse rfl ⟨AV.le_refl _, trivial⟩ trivial rfl
      · exact ⟨AV.le_refl _, trivial, rfl⟩
end Go.Proofs.Ytnmfighfidaglaa.AM
