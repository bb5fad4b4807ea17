/-
  What the functions that the law reaches compute, and that they do. No condition.
-/
import Derived.Test.YtnmfighfidaglaaAmT
import Derived.Test.YtnmfighfidaglaaAmE
namespace Go.Proofs.Ytnmfighfidaglaa.AM
open Go Go.Proofs Go.RowKit
set_option linter.unusedVariables false
set_option linter.unusedSimpArgs false
set_option maxRecDepth 100000

theorem mixed : Try.prog.follows .mixedOrders = true := by kernel_rfl
structure TRect where
  fX0 : Int
  fY0 : Int
  fX1 : Int
  fY1 : Int
instance : Inhabited TRect := ⟨⟨default, default, default, default⟩⟩
def encRect (x : TRect) : Nat → AC := fun j => match j with
  | 0 => .v (.int .i64 x.fX0)
  | 1 => .v (.int .i64 x.fY0)
  | 2 => .v (.int .i64 x.fX1)
  | _ => .v (.int .i64 x.fY1)
theorem pl_encRect : ∀ (x : TRect) (j : Nat), plainC (encRect x j) = true := by
  intro x j
  unfold encRect
  split <;> rfl
theorem vl_encRect : ∀ (x : TRect) (j : Nat), valC (encRect x j) = true := by
  intro x j
  unfold encRect
  split <;> rfl
structure TShape where
  fLayer : Int
  fBox : TRect
instance : Inhabited TShape := ⟨⟨default, default⟩⟩
def encShape (x : TShape) : Nat → AC := fun j => match j with
  | 0 => .v (.int .i64 x.fLayer)
  | 1 => .v (.int .i64 x.fBox.fX0)
  | 2 => .v (.int .i64 x.fBox.fY0)
  | 3 => .v (.int .i64 x.fBox.fX1)
  | _ => .v (.int .i64 x.fBox.fY1)
theorem pl_encShape : ∀ (x : TShape) (j : Nat), plainC (encShape x j) = true := by
  intro x j
  unfold encShape
  split <;> rfl
theorem vl_encShape : ∀ (x : TShape) (j : Nat), valC (encShape x j) = true := by
  intro x j
  unfold encShape
  split <;> rfl
structure TPoint where
  fX : Int
  fY : Int
instance : Inhabited TPoint := ⟨⟨default, default⟩⟩
def encPoint (x : TPoint) : Nat → AC := fun j => match j with
  | 0 => .v (.int .i64 x.fX)
  | _ => .v (.int .i64 x.fY)
theorem pl_encPoint : ∀ (x : TPoint) (j : Nat), plainC (encPoint x j) = true := by
  intro x j
  unfold encPoint
  split <;> rfl
theorem vl_encPoint : ∀ (x : TPoint) (j : Nat), valC (encPoint x j) = true := by
  intro x j
  unfold encPoint
  split <;> rfl
structure TLabel where
  fLayer : Int
  fAt : TPoint
  fName : ByteArray
instance : Inhabited TLabel := ⟨⟨default, default, default⟩⟩
def encLabel (x : TLabel) : Nat → AC := fun j => match j with
  | 0 => .v (.int .i64 x.fLayer)
  | 1 => .v (.int .i64 x.fAt.fX)
  | 2 => .v (.int .i64 x.fAt.fY)
  | _ => .v (.string x.fName)
theorem pl_encLabel : ∀ (x : TLabel) (j : Nat), plainC (encLabel x j) = true := by
  intro x j
  unfold encLabel
  split <;> rfl
theorem vl_encLabel : ∀ (x : TLabel) (j : Nat), valC (encLabel x j) = true := by
  intro x j
  unfold encLabel
  split <;> rfl
structure TTransform where
  fOrientation : Int
  fX : Int
  fY : Int
instance : Inhabited TTransform := ⟨⟨default, default, default⟩⟩
def encTransform (x : TTransform) : Nat → AC := fun j => match j with
  | 0 => .v (.int .i64 x.fOrientation)
  | 1 => .v (.int .i64 x.fX)
  | _ => .v (.int .i64 x.fY)
theorem pl_encTransform : ∀ (x : TTransform) (j : Nat), plainC (encTransform x j) = true := by
  intro x j
  unfold encTransform
  split <;> rfl
theorem vl_encTransform : ∀ (x : TTransform) (j : Nat), valC (encTransform x j) = true := by
  intro x j
  unfold encTransform
  split <;> rfl
structure TInstance where
  fCell : Int
  fPlace : TTransform
  fColumns : Int
  fRows : Int
  fStepX : Int
  fStepY : Int
instance : Inhabited TInstance := ⟨⟨default, default, default, default, default, default⟩⟩
def encInstance (x : TInstance) : Nat → AC := fun j => match j with
  | 0 => .v (.int .i64 x.fCell)
  | 1 => .v (.int .i64 x.fPlace.fOrientation)
  | 2 => .v (.int .i64 x.fPlace.fX)
  | 3 => .v (.int .i64 x.fPlace.fY)
  | 4 => .v (.int .i64 x.fColumns)
  | 5 => .v (.int .i64 x.fRows)
  | 6 => .v (.int .i64 x.fStepX)
  | _ => .v (.int .i64 x.fStepY)
theorem pl_encInstance : ∀ (x : TInstance) (j : Nat), plainC (encInstance x j) = true := by
  intro x j
  unfold encInstance
  split <;> rfl
theorem vl_encInstance : ∀ (x : TInstance) (j : Nat), valC (encInstance x j) = true := by
  intro x j
  unfold encInstance
  split <;> rfl
structure TEdit where
  fKind : Int
  fCell : Int
  fIndex : Int
  fName : ByteArray
  fShape : TShape
  fLabel : TLabel
  fInstance : TInstance
instance : Inhabited TEdit := ⟨⟨default, default, default, default, default, default, default⟩⟩
def encEdit (x : TEdit) : Nat → AC := fun j => match j with
  | 0 => .v (.int .i64 x.fKind)
  | 1 => .v (.int .i64 x.fCell)
  | 2 => .v (.int .i64 x.fIndex)
  | 3 => .v (.string x.fName)
  | 4 => .v (.int .i64 x.fShape.fLayer)
  | 5 => .v (.int .i64 x.fShape.fBox.fX0)
  | 6 => .v (.int .i64 x.fShape.fBox.fY0)
  | 7 => .v (.int .i64 x.fShape.fBox.fX1)
  | 8 => .v (.int .i64 x.fShape.fBox.fY1)
  | 9 => .v (.int .i64 x.fLabel.fLayer)
  | 10 => .v (.int .i64 x.fLabel.fAt.fX)
  | 11 => .v (.int .i64 x.fLabel.fAt.fY)
  | 12 => .v (.string x.fLabel.fName)
  | 13 => .v (.int .i64 x.fInstance.fCell)
  | 14 => .v (.int .i64 x.fInstance.fPlace.fOrientation)
  | 15 => .v (.int .i64 x.fInstance.fPlace.fX)
  | 16 => .v (.int .i64 x.fInstance.fPlace.fY)
  | 17 => .v (.int .i64 x.fInstance.fColumns)
  | 18 => .v (.int .i64 x.fInstance.fRows)
  | 19 => .v (.int .i64 x.fInstance.fStepX)
  | _ => .v (.int .i64 x.fInstance.fStepY)
theorem pl_encEdit : ∀ (x : TEdit) (j : Nat), plainC (encEdit x j) = true := by
  intro x j
  unfold encEdit
  split <;> rfl
theorem vl_encEdit : ∀ (x : TEdit) (j : Nat), valC (encEdit x j) = true := by
  intro x j
  unfold encEdit
  split <;> rfl
/-- laws.szLabel -/
noncomputable def F_laws_szLabel (a0 : TLabel) (a1 : Int) : Option (Int) :=
  br (std.lt (std.sub .i64 a1 (std.ofN (std.slen a0.fName))) 0)
  (some (-1))
  (some (std.sub .i64 a1 (std.ofN (std.slen a0.fName))))
theorem run_laws_szLabel (a0 : TLabel) (a1 : Int) (r : Int) (h : F_laws_szLabel a0 a1 = some r) : Fun Try.prog 67 [.agg [.v (.int .i64 a0.fLayer), .v (.int .i64 a0.fAt.fX), .v (.int .i64 a0.fAt.fY), .v (.string a0.fName)], .c (.v (.int .i64 a1))] [] (.c (.v (.int .i64 r))) [] true := by
  refine Fun.of_wp (oneOf []) tok mixed Try.func67 (by kernel_rfl) rfl Try.ntmps67 rfl trivial (fun _ => ⟨trivial, trivial⟩) ?_
  unfold F_laws_szLabel at h
  generalize hLEN : @len = LEN at *
  generalize hGD : @gd = GD at *
  generalize hA : std = A at *
  generalize hP : Try.prog = P at *
  cbv
  refine fork (fun b1 => ?_) (fun b1 => ?_)
  · replace h := of_br_t b1 h
    cbv
    injection h with h
    subst h
    refine ⟨(sparse 13 [(4, .c (.v (.int .i64 (-1))))] []), ?_, ?_⟩
    · exact le_sparse rfl ⟨AV.le_refl _, trivial⟩ trivial rfl
    · exact ⟨AV.le_refl _, trivial, rfl⟩
  · replace h := of_br_f b1 h
    cbv
    injection h with h
    subst h
    refine ⟨(sparse 13 [(4, .c (.v (.int .i64 (A.sub .i64 a1 (A.ofN (A.slen a0.fName))))))] []), ?_, ?_⟩
    · exact le_sparse rfl ⟨AV.le_refl _, trivial⟩ trivial rfl
    · exact ⟨AV.le_refl _, trivial, rfl⟩

/-- laws.szEdit -/
noncomputable def F_laws_szEdit (a0 : TEdit) (a1 : Int) : Option (Int) :=
  br (std.lt (std.sub .i64 a1 (std.ofN (std.slen a0.fName))) 0)
  (some (-1))
  ((F_laws_szLabel a0.fLabel (std.sub .i64 a1 (std.ofN (std.slen a0.fName)))).bind fun y1 =>
  br (std.lt y1 0)
  (some (-1))
  (some y1))
theorem run_laws_szEdit (a0 : TEdit) (a1 : Int) (r : Int) (h : F_laws_szEdit a0 a1 = some r) : Fun Try.prog 25 [.agg [.v (.int .i64 a0.fKind), .v (.int .i64 a0.fCell), .v (.int .i64 a0.fIndex), .v (.string a0.fName), .v (.int .i64 a0.fShape.fLayer), .v (.int .i64 a0.fShape.fBox.fX0), .v (.int .i64 a0.fShape.fBox.fY0), .v (.int .i64 a0.fShape.fBox.fX1), .v (.int .i64 a0.fShape.fBox.fY1), .v (.int .i64 a0.fLabel.fLayer), .v (.int .i64 a0.fLabel.fAt.fX), .v (.int .i64 a0.fLabel.fAt.fY), .v (.string a0.fLabel.fName), .v (.int .i64 a0.fInstance.fCell), .v (.int .i64 a0.fInstance.fPlace.fOrientation), .v (.int .i64 a0.fInstance.fPlace.fX), .v (.int .i64 a0.fInstance.fPlace.fY), .v (.int .i64 a0.fInstance.fColumns), .v (.int .i64 a0.fInstance.fRows), .v (.int .i64 a0.fInstance.fStepX), .v (.int .i64 a0.fInstance.fStepY)], .c (.v (.int .i64 a1))] [] (.c (.v (.int .i64 r))) [] true := by
  refine Fun.of_wp (oneOf []) tok mixed Try.func25 (by kernel_rfl) rfl Try.ntmps25 rfl trivial (fun _ => ⟨trivial, trivial⟩) ?_
  unfold F_laws_szEdit at h
  have hf_laws_szLabel := @run_laws_szLabel
  generalize hLEN : @len = LEN at *
  generalize hGD : @gd = GD at *
  generalize hA : std = A at *
  generalize hP : Try.prog = P at *
  cbv
  refine fork (fun b4 => ?_) (fun b4 => ?_)
  · replace h := of_br_t b4 h
    cbv
    injection h with h
    subst h
    refine ⟨(sparse 19 [(4, .c (.v (.int .i64 (-1))))] []), ?_, ?_⟩
    · exact le_sparse rfl ⟨AV.le_refl _, trivial⟩ trivial rfl
    · exact ⟨AV.le_refl _, trivial, rfl⟩
  · replace h := of_br_f b4 h
    cbv
    replace h := of_bind h
    obtain ⟨y1, hy2, h⟩ := h
    refine ⟨{ args := [.agg [.v (.int .i64 a0.fLabel.fLayer), .v (.int .i64 a0.fLabel.fAt.fX), .v (.int .i64 a0.fLabel.fAt.fY), .v (.string a0.fLabel.fName)], .c (.v (.int .i64 (A.sub .i64 a1 (A.ofN (A.slen a0.fName)))))], o0 := [], r := .c (.v (.int .i64 y1)), o1 := [], fl := true, σ := [], τ := [] }, hf_laws_szLabel _ _ _ hy2, ⟨les_cons (AV.le_refl _) (les_cons (AV.le_refl _) (les_nil)), trivial, rfl, rfl, rfl, rfl, trivial, rfl⟩, ?_⟩
    cbv
    refine fork (fun b3 => ?_) (fun b3 => ?_)
    · replace h := of_br_t b3 h
      cbv
      injection h with h
      subst h
      refine ⟨(sparse 19 [(4, .c (.v (.int .i64 (-1))))] []), ?_, ?_⟩
      · exact le_sparse rfl ⟨AV.le_refl _, trivial⟩ trivial rfl
      · exact ⟨AV.le_refl _, trivial, rfl⟩
    · replace h := of_br_f b3 h
      cbv
      injection h with h
      subst h
      refine ⟨(sparse 19 [(4, .c (.v (.int .i64 y1)))] []), ?_, ?_⟩
      · exact le_sparse rfl ⟨AV.le_refl _, trivial⟩ trivial rfl
      · exact ⟨AV.le_refl _, trivial, rfl⟩

noncomputable def L_laws_szEditS_x3 (a0 : List TEdit) : (Int × Int) → Option ((Int × Int) ⊕ ((Int) ⊕ (Int))) := fun x3 =>
  letO x3.1 fun v1 =>
  letO x3.2 fun v2 =>
  br (std.lt v2 (std.ofN (len a0)))
  (req (std.inR v2 (len a0)) <|
  (F_laws_szEdit (gd a0 (std.toN v2)) v1).bind fun y16 =>
  br (std.lt y16 0)
  (some (.inr (.inl (-1))))
  (some (.inl (y16, std.add .i64 v2 1))))
  (some (.inr (.inr v1)))
/-- laws.szEditS -/
noncomputable def F_laws_szEditS (a0 : List TEdit) (a1 : Int) : Option (Int) :=
  br (std.lt (std.sub .i64 a1 (std.ofN (len a0))) 0)
  (some (-1))
  ((whileP (σ := Int × Int) (ρ := (Int) ⊕ (Int)) (L_laws_szEditS_x3 a0) (std.sub .i64 a1 (std.ofN (len a0)), 0)).bind fun y4 =>
  (match y4 with
    | .inl y4k0 => (
        letO y4k0 fun w20 =>
        some w20)
    | .inr y4m0 =>
        letO y4m0 fun y4k1 =>
        letO y4k1 fun w21 =>
        some w21))
theorem run_laws_szEditS (a0 : List TEdit) (a1 : Int) (r : Int) (h : F_laws_szEditS a0 a1 = some r) : Fun Try.prog 29 [.c (.bs (len a0) 21 (row gd (encEdit) a0)), .c (.v (.int .i64 a1))] [] (.c (.v (.int .i64 r))) [] true := by
  refine Fun.of_wp (oneOf []) tok mixed Try.func29 (by kernel_rfl) rfl Try.ntmps29 rfl trivial (fun _ => ⟨trivial, trivial⟩) ?_
  unfold F_laws_szEditS at h
  unfold L_laws_szEditS_x3 at h
  have hf_laws_szEdit := @run_laws_szEdit
  generalize hLEN : @len = LEN at *
  generalize hGD : @gd = GD at *
  generalize hA : std = A at *
  generalize hP : Try.prog = P at *
  cbv
  refine fork (fun b22 => ?_) (fun b22 => ?_)
  · replace h := of_br_t b22 h
    cbv
    injection h with h
    subst h
    refine ⟨(sparse 27 [(4, .c (.v (.int .i64 (-1))))] []), ?_, ?_⟩
    · exact le_sparse rfl ⟨AV.le_refl _, trivial⟩ trivial rfl
    · exact ⟨AV.le_refl _, trivial, rfl⟩
  · replace h := of_br_f b22 h
    cbv
    replace h := of_bind h
    obtain ⟨y4, hr5, hN6⟩ := h
    refine loop_cut hr5 (fun x => (sparse 27 [(0, .c (.bs (LEN a0) 21 (row GD (encEdit) a0))), (1, .c (.v (.int .i64 x.1))), (5, .c (.v (.int .i64 x.2)))] [])) ?_ (fun y e s => (match y with | .inl w => e = .ret ∧ s.le (sparse 27 [(4, .c (.v (.int .i64 w)))] []) | .inr w0 => (fun (w : Int) => e = .exit 0 ∧ s.le (sparse 27 [(1, .c (.v (.int .i64 w)))] [])) w0)) ?_ ?_
    · clear hr5 hN6
      show St.le _ _
      exact le_sparse rfl ⟨AV.le_refl _, AV.le_refl _, AV.le_refl _, trivial⟩ trivial rfl
    · clear hr5 hN6
      intro x z10 h K8 hK9 hY7
      obtain ⟨x0_, x1_⟩ := x
      replace h := of_let h
      obtain ⟨v1, hv1, h⟩ := h
      have hv1 : v1 = x0_ := hv1
      subst hv1
      replace h := of_let h
      obtain ⟨v2, hv2, h⟩ := h
      have hv2 : v2 = x1_ := hv2
      subst hv2
      cbv
      refine fork (fun b19 => ?_) (fun b19 => ?_)
      · replace h := of_br_t b19 h
        cbv
        replace h := of_req h
        obtain ⟨c15, h⟩ := h
        refine ⟨⟨c15, trivial⟩, ?_⟩
        replace h := of_bind h
        obtain ⟨y16, hy17, h⟩ := h
        refine ⟨{ args := [.agg [.v (.int .i64 (GD a0 (A.toN v2)).fKind), .v (.int .i64 (GD a0 (A.toN v2)).fCell), .v (.int .i64 (GD a0 (A.toN v2)).fIndex), .v (.string (GD a0 (A.toN v2)).fName), .v (.int .i64 (GD a0 (A.toN v2)).fShape.fLayer), .v (.int .i64 (GD a0 (A.toN v2)).fShape.fBox.fX0), .v (.int .i64 (GD a0 (A.toN v2)).fShape.fBox.fY0), .v (.int .i64 (GD a0 (A.toN v2)).fShape.fBox.fX1), .v (.int .i64 (GD a0 (A.toN v2)).fShape.fBox.fY1), .v (.int .i64 (GD a0 (A.toN v2)).fLabel.fLayer), .v (.int .i64 (GD a0 (A.toN v2)).fLabel.fAt.fX), .v (.int .i64 (GD a0 (A.toN v2)).fLabel.fAt.fY), .v (.string (GD a0 (A.toN v2)).fLabel.fName), .v (.int .i64 (GD a0 (A.toN v2)).fInstance.fCell), .v (.int .i64 (GD a0 (A.toN v2)).fInstance.fPlace.fOrientation), .v (.int .i64 (GD a0 (A.toN v2)).fInstance.fPlace.fX), .v (.int .i64 (GD a0 (A.toN v2)).fInstance.fPlace.fY), .v (.int .i64 (GD a0 (A.toN v2)).fInstance.fColumns), .v (.int .i64 (GD a0 (A.toN v2)).fInstance.fRows), .v (.int .i64 (GD a0 (A.toN v2)).fInstance.fStepX), .v (.int .i64 (GD a0 (A.toN v2)).fInstance.fStepY)], .c (.v (.int .i64 v1))], o0 := [], r := .c (.v (.int .i64 y16)), o1 := [], fl := true, σ := [], τ := [] }, hf_laws_szEdit _ _ _ hy17, ⟨les_cons (AV.le_refl _) (les_cons (AV.le_refl _) (les_nil)), trivial, rfl, rfl, rfl, rfl, trivial, rfl⟩, ?_⟩
        cbv
        refine fork (fun b18 => ?_) (fun b18 => ?_)
        · replace h := of_br_t b18 h
          cbv
          injection h with h
          refine hY7 _ h.symm _ _ (And.intro rfl ?_) (by intro hh; cases hh)
          exact le_sparse rfl ⟨AV.le_refl _, trivial⟩ trivial rfl
        · replace h := of_br_f b18 h
          cbv
          injection h with h
          refine hK9 _ h.symm _ ?_
          exact le_sparse rfl ⟨AV.le_refl _, AV.le_refl _, AV.le_refl _, trivial⟩ trivial rfl
      · replace h := of_br_f b19 h
        cbv
        injection h with h
        refine hY7 _ h.symm _ _ (And.intro rfl ?_) (by intro hh; cases hh)
        exact le_sparse rfl ⟨AV.le_refl _, trivial⟩ trivial rfl
    · clear hr5
      have h := hN6
      clear hN6
      intro e13 s14 q12 hne
      rcases y4 with y4k0 | y4m0
      · replace h := h
        obtain ⟨rfl, q12⟩ := q12
        replace h := of_let h
        obtain ⟨w20, hw20, h⟩ := h
        have hw20 : w20 = y4k0 := hw20
        subst hw20
        cbv
        injection h with h
        subst h
        refine ⟨(sparse 27 [(4, .c (.v (.int .i64 w20)))] []), ?_, ?_⟩
        · refine St.le_trans q12 ?_
          exact le_sparse rfl ⟨AV.le_refl _, trivial⟩ trivial rfl
        · exact ⟨AV.le_refl _, trivial, rfl⟩
      · replace h := of_let h
        obtain ⟨y4k1, hyk, h⟩ := h
        have hyk : y4k1 = y4m0 := hyk
        subst hyk
        obtain ⟨rfl, q12⟩ := q12
        replace h := of_let h
        obtain ⟨w21, hw21, h⟩ := h
        have hw21 : w21 = y4k1 := hw21
        subst hw21
        cbv
        refine ⟨_, q12, ?_⟩
        cbv
        injection h with h
        subst h
        refine ⟨(sparse 27 [(4, .c (.v (.int .i64 w21)))] []), ?_, ?_⟩
        · exact le_sparse rfl ⟨AV.le_refl _, trivial⟩ trivial rfl
        · exact ⟨AV.le_refl _, trivial, rfl⟩

/-- laws.toRect -/
noncomputable def F_laws_toRect (a0 : TRect) : Option (TRect) :=
  some a0
theorem run_laws_toRect (a0 : TRect) (r : TRect) (h : F_laws_toRect a0 = some r) : Fun Try.prog 42 [.agg [.v (.int .i64 a0.fX0), .v (.int .i64 a0.fY0), .v (.int .i64 a0.fX1), .v (.int .i64 a0.fY1)]] [] (.agg [.v (.int .i64 r.fX0), .v (.int .i64 r.fY0), .v (.int .i64 r.fX1), .v (.int .i64 r.fY1)]) [] true := by
  refine Fun.of_wp (oneOf []) tok mixed Try.func42 (by kernel_rfl) rfl Try.ntmps42 rfl trivial (fun _ => ⟨(by simp [AV.flat, AV.flat1, AC.flat]), trivial⟩) ?_
  unfold F_laws_toRect at h
  generalize hLEN : @len = LEN at *
  generalize hGD : @gd = GD at *
  generalize hA : std = A at *
  generalize hP : Try.prog = P at *
  cbv
  injection h with h
  subst h
  refine ⟨(sparse 17 [(2, .c (.ptr 128 0))] [(128, .var [.v (.int .i64 a0.fX0), .v (.int .i64 a0.fY0), .v (.int .i64 a0.fX1), .v (.int .i64 a0.fY1)])]), ?_, ?_⟩
  · exact le_sparse rfl ⟨AV.le_refl _, trivial⟩ ⟨rfl, trivial⟩ rfl
  · exact ⟨AV.le_refl _, trivial, rfl⟩

/-- laws.toShape -/
noncomputable def F_laws_toShape (a0 : TShape) : Option (TShape) :=
  (F_laws_toRect a0.fBox).bind fun y1 =>
  some (TShape.mk a0.fLayer y1)
theorem run_laws_toShape (a0 : TShape) (r : TShape) (h : F_laws_toShape a0 = some r) : Fun Try.prog 74 [.agg [.v (.int .i64 a0.fLayer), .v (.int .i64 a0.fBox.fX0), .v (.int .i64 a0.fBox.fY0), .v (.int .i64 a0.fBox.fX1), .v (.int .i64 a0.fBox.fY1)]] [] (.agg [.v (.int .i64 r.fLayer), .v (.int .i64 r.fBox.fX0), .v (.int .i64 r.fBox.fY0), .v (.int .i64 r.fBox.fX1), .v (.int .i64 r.fBox.fY1)]) [] true := by
  refine Fun.of_wp (oneOf []) tok mixed Try.func74 (by kernel_rfl) rfl Try.ntmps74 rfl trivial (fun _ => ⟨(by simp [AV.flat, AV.flat1, AC.flat]), trivial⟩) ?_
  unfold F_laws_toShape at h
  have hf_laws_toRect := @run_laws_toRect
  generalize hLEN : @len = LEN at *
  generalize hGD : @gd = GD at *
  generalize hA : std = A at *
  generalize hP : Try.prog = P at *
  cbv
  replace h := of_bind h
  obtain ⟨y1, hy2, h⟩ := h
  refine ⟨{ args := [.agg [.v (.int .i64 a0.fBox.fX0), .v (.int .i64 a0.fBox.fY0), .v (.int .i64 a0.fBox.fX1), .v (.int .i64 a0.fBox.fY1)]], o0 := [], r := .agg [.v (.int .i64 y1.fX0), .v (.int .i64 y1.fY0), .v (.int .i64 y1.fX1), .v (.int .i64 y1.fY1)], o1 := [], fl := true, σ := [], τ := [] }, hf_laws_toRect _ _ hy2, ⟨les_cons (AV.le_refl _) (les_nil), trivial, rfl, rfl, rfl, rfl, trivial, rfl⟩, ?_⟩
  cbv
  injection h with h
  subst h
  refine ⟨(sparse 12 [(2, .c (.ptr 128 0))] [(128, .var [.v (.int .i64 a0.fLayer), .v (.int .i64 y1.fX0), .v (.int .i64 y1.fY0), .v (.int .i64 y1.fX1), .v (.int .i64 y1.fY1)])]), ?_, ?_⟩
  · exact le_sparse rfl ⟨AV.le_refl _, trivial⟩ ⟨rfl, trivial⟩ rfl
  · exact ⟨AV.le_refl _, trivial, rfl⟩

/-- laws.toPoint -/
noncomputable def F_laws_toPoint (a0 : TPoint) : Option (TPoint) :=
  some a0
theorem run_laws_toPoint (a0 : TPoint) (r : TPoint) (h : F_laws_toPoint a0 = some r) : Fun Try.prog 147 [.agg [.v (.int .i64 a0.fX), .v (.int .i64 a0.fY)]] [] (.agg [.v (.int .i64 r.fX), .v (.int .i64 r.fY)]) [] true := by
  refine Fun.of_wp (oneOf []) tok mixed Try.func147 (by kernel_rfl) rfl Try.ntmps147 rfl trivial (fun _ => ⟨(by simp [AV.flat, AV.flat1, AC.flat]), trivial⟩) ?_
  unfold F_laws_toPoint at h
  generalize hLEN : @len = LEN at *
  generalize hGD : @gd = GD at *
  generalize hA : std = A at *
  generalize hP : Try.prog = P at *
  cbv
  injection h with h
  subst h
  refine ⟨(sparse 11 [(2, .c (.ptr 128 0))] [(128, .var [.v (.int .i64 a0.fX), .v (.int .i64 a0.fY)])]), ?_, ?_⟩
  · exact le_sparse rfl ⟨AV.le_refl _, trivial⟩ ⟨rfl, trivial⟩ rfl
  · exact ⟨AV.le_refl _, trivial, rfl⟩

/-- laws.toLabel -/
noncomputable def F_laws_toLabel (a0 : TLabel) : Option (TLabel) :=
  (F_laws_toPoint a0.fAt).bind fun y1 =>
  some (TLabel.mk a0.fLayer y1 a0.fName)
theorem run_laws_toLabel (a0 : TLabel) (r : TLabel) (h : F_laws_toLabel a0 = some r) : Fun Try.prog 75 [.agg [.v (.int .i64 a0.fLayer), .v (.int .i64 a0.fAt.fX), .v (.int .i64 a0.fAt.fY), .v (.string a0.fName)]] [] (.agg [.v (.int .i64 r.fLayer), .v (.int .i64 r.fAt.fX), .v (.int .i64 r.fAt.fY), .v (.string r.fName)]) [] true := by
  refine Fun.of_wp (oneOf []) tok mixed Try.func75 (by kernel_rfl) rfl Try.ntmps75 rfl trivial (fun _ => ⟨(by simp [AV.flat, AV.flat1, AC.flat]), trivial⟩) ?_
  unfold F_laws_toLabel at h
  have hf_laws_toPoint := @run_laws_toPoint
  generalize hLEN : @len = LEN at *
  generalize hGD : @gd = GD at *
  generalize hA : std = A at *
  generalize hP : Try.prog = P at *
  cbv
  replace h := of_bind h
  obtain ⟨y1, hy2, h⟩ := h
  refine ⟨{ args := [.agg [.v (.int .i64 a0.fAt.fX), .v (.int .i64 a0.fAt.fY)]], o0 := [], r := .agg [.v (.int .i64 y1.fX), .v (.int .i64 y1.fY)], o1 := [], fl := true, σ := [], τ := [] }, hf_laws_toPoint _ _ hy2, ⟨les_cons (AV.le_refl _) (les_nil), trivial, rfl, rfl, rfl, rfl, trivial, rfl⟩, ?_⟩
  cbv
  injection h with h
  subst h
  refine ⟨(sparse 15 [(2, .c (.ptr 128 0))] [(128, .var [.v (.int .i64 a0.fLayer), .v (.int .i64 y1.fX), .v (.int .i64 y1.fY), .v (.string a0.fName)])]), ?_, ?_⟩
  · exact le_sparse rfl ⟨AV.le_refl _, trivial⟩ ⟨rfl, trivial⟩ rfl
  · exact ⟨AV.le_refl _, trivial, rfl⟩

/-- laws.toTransform -/
noncomputable def F_laws_toTransform (a0 : TTransform) : Option (TTransform) :=
  some a0
theorem run_laws_toTransform (a0 : TTransform) (r : TTransform) (h : F_laws_toTransform a0 = some r) : Fun Try.prog 148 [.agg [.v (.int .i64 a0.fOrientation), .v (.int .i64 a0.fX), .v (.int .i64 a0.fY)]] [] (.agg [.v (.int .i64 r.fOrientation), .v (.int .i64 r.fX), .v (.int .i64 r.fY)]) [] true := by
  refine Fun.of_wp (oneOf []) tok mixed Try.func148 (by kernel_rfl) rfl Try.ntmps148 rfl trivial (fun _ => ⟨(by simp [AV.flat, AV.flat1, AC.flat]), trivial⟩) ?_
  unfold F_laws_toTransform at h
  generalize hLEN : @len = LEN at *
  generalize hGD : @gd = GD at *
  generalize hA : std = A at *
  generalize hP : Try.prog = P at *
  cbv
  injection h with h
  subst h
  refine ⟨(sparse 14 [(2, .c (.ptr 128 0))] [(128, .var [.v (.int .i64 a0.fOrientation), .v (.int .i64 a0.fX), .v (.int .i64 a0.fY)])]), ?_, ?_⟩
  · exact le_sparse rfl ⟨AV.le_refl _, trivial⟩ ⟨rfl, trivial⟩ rfl
  · exact ⟨AV.le_refl _, trivial, rfl⟩

/-- laws.toInstance -/
noncomputable def F_laws_toInstance (a0 : TInstance) : Option (TInstance) :=
  (F_laws_toTransform a0.fPlace).bind fun y1 =>
  some (TInstance.mk a0.fCell y1 a0.fColumns a0.fRows a0.fStepX a0.fStepY)
theorem run_laws_toInstance (a0 : TInstance) (r : TInstance) (h : F_laws_toInstance a0 = some r) : Fun Try.prog 76 [.agg [.v (.int .i64 a0.fCell), .v (.int .i64 a0.fPlace.fOrientation), .v (.int .i64 a0.fPlace.fX), .v (.int .i64 a0.fPlace.fY), .v (.int .i64 a0.fColumns), .v (.int .i64 a0.fRows), .v (.int .i64 a0.fStepX), .v (.int .i64 a0.fStepY)]] [] (.agg [.v (.int .i64 r.fCell), .v (.int .i64 r.fPlace.fOrientation), .v (.int .i64 r.fPlace.fX), .v (.int .i64 r.fPlace.fY), .v (.int .i64 r.fColumns), .v (.int .i64 r.fRows), .v (.int .i64 r.fStepX), .v (.int .i64 r.fStepY)]) [] true := by
  refine Fun.of_wp (oneOf []) tok mixed Try.func76 (by kernel_rfl) rfl Try.ntmps76 rfl trivial (fun _ => ⟨(by simp [AV.flat, AV.flat1, AC.flat]), trivial⟩) ?_
  unfold F_laws_toInstance at h
  have hf_laws_toTransform := @run_laws_toTransform
  generalize hLEN : @len = LEN at *
  generalize hGD : @gd = GD at *
  generalize hA : std = A at *
  generalize hP : Try.prog = P at *
  cbv
  replace h := of_bind h
  obtain ⟨y1, hy2, h⟩ := h
  refine ⟨{ args := [.agg [.v (.int .i64 a0.fPlace.fOrientation), .v (.int .i64 a0.fPlace.fX), .v (.int .i64 a0.fPlace.fY)]], o0 := [], r := .agg [.v (.int .i64 y1.fOrientation), .v (.int .i64 y1.fX), .v (.int .i64 y1.fY)], o1 := [], fl := true, σ := [], τ := [] }, hf_laws_toTransform _ _ hy2, ⟨les_cons (AV.le_refl _) (les_nil), trivial, rfl, rfl, rfl, rfl, trivial, rfl⟩, ?_⟩
  cbv
  injection h with h
  subst h
  refine ⟨(sparse 24 [(2, .c (.ptr 128 0))] [(128, .var [.v (.int .i64 a0.fCell), .v (.int .i64 y1.fOrientation), .v (.int .i64 y1.fX), .v (.int .i64 y1.fY), .v (.int .i64 a0.fColumns), .v (.int .i64 a0.fRows), .v (.int .i64 a0.fStepX), .v (.int .i64 a0.fStepY)])]), ?_, ?_⟩
  · exact le_sparse rfl ⟨AV.le_refl _, trivial⟩ ⟨rfl, trivial⟩ rfl
  · exact ⟨AV.le_refl _, trivial, rfl⟩

/-- laws.toEdit -/
noncomputable def F_laws_toEdit (a0 : TEdit) : Option (TEdit) :=
  (F_laws_toShape a0.fShape).bind fun y1 =>
  (F_laws_toLabel a0.fLabel).bind fun y3 =>
  (F_laws_toInstance a0.fInstance).bind fun y5 =>
  some (TEdit.mk a0.fKind a0.fCell a0.fIndex a0.fName y1 y3 y5)
theorem run_laws_toEdit (a0 : TEdit) (r : TEdit) (h : F_laws_toEdit a0 = some r) : Fun Try.prog 27 [.agg [.v (.int .i64 a0.fKind), .v (.int .i64 a0.fCell), .v (.int .i64 a0.fIndex), .v (.string a0.fName), .v (.int .i64 a0.fShape.fLayer), .v (.int .i64 a0.fShape.fBox.fX0), .v (.int .i64 a0.fShape.fBox.fY0), .v (.int .i64 a0.fShape.fBox.fX1), .v (.int .i64 a0.fShape.fBox.fY1), .v (.int .i64 a0.fLabel.fLayer), .v (.int .i64 a0.fLabel.fAt.fX), .v (.int .i64 a0.fLabel.fAt.fY), .v (.string a0.fLabel.fName), .v (.int .i64 a0.fInstance.fCell), .v (.int .i64 a0.fInstance.fPlace.fOrientation), .v (.int .i64 a0.fInstance.fPlace.fX), .v (.int .i64 a0.fInstance.fPlace.fY), .v (.int .i64 a0.fInstance.fColumns), .v (.int .i64 a0.fInstance.fRows), .v (.int .i64 a0.fInstance.fStepX), .v (.int .i64 a0.fInstance.fStepY)]] [] (.agg [.v (.int .i64 r.fKind), .v (.int .i64 r.fCell), .v (.int .i64 r.fIndex), .v (.string r.fName), .v (.int .i64 r.fShape.fLayer), .v (.int .i64 r.fShape.fBox.fX0), .v (.int .i64 r.fShape.fBox.fY0), .v (.int .i64 r.fShape.fBox.fX1), .v (.int .i64 r.fShape.fBox.fY1), .v (.int .i64 r.fLabel.fLayer), .v (.int .i64 r.fLabel.fAt.fX), .v (.int .i64 r.fLabel.fAt.fY), .v (.string r.fLabel.fName), .v (.int .i64 r.fInstance.fCell), .v (.int .i64 r.fInstance.fPlace.fOrientation), .v (.int .i64 r.fInstance.fPlace.fX), .v (.int .i64 r.fInstance.fPlace.fY), .v (.int .i64 r.fInstance.fColumns), .v (.int .i64 r.fInstance.fRows), .v (.int .i64 r.fInstance.fStepX), .v (.int .i64 r.fInstance.fStepY)]) [] true := by
  refine Fun.of_wp (oneOf []) tok mixed Try.func27 (by kernel_rfl) rfl Try.ntmps27 rfl trivial (fun _ => ⟨(by simp [AV.flat, AV.flat1, AC.flat]), trivial⟩) ?_
  unfold F_laws_toEdit at h
  have hf_laws_toInstance := @run_laws_toInstance
  have hf_laws_toLabel := @run_laws_toLabel
  have hf_laws_toShape := @run_laws_toShape
  generalize hLEN : @len = LEN at *
  generalize hGD : @gd = GD at *
  generalize hA : std = A at *
  generalize hP : Try.prog = P at *
  cbv
  replace h := of_bind h
  obtain ⟨y1, hy2, h⟩ := h
  refine ⟨{ args := [.agg [.v (.int .i64 a0.fShape.fLayer), .v (.int .i64 a0.fShape.fBox.fX0), .v (.int .i64 a0.fShape.fBox.fY0), .v (.int .i64 a0.fShape.fBox.fX1), .v (.int .i64 a0.fShape.fBox.fY1)]], o0 := [], r := .agg [.v (.int .i64 y1.fLayer), .v (.int .i64 y1.fBox.fX0), .v (.int .i64 y1.fBox.fY0), .v (.int .i64 y1.fBox.fX1), .v (.int .i64 y1.fBox.fY1)], o1 := [], fl := true, σ := [], τ := [] }, hf_laws_toShape _ _ hy2, ⟨les_cons (AV.le_refl _) (les_nil), trivial, rfl, rfl, rfl, rfl, trivial, rfl⟩, ?_⟩
  cbv
  replace h := of_bind h
  obtain ⟨y3, hy4, h⟩ := h
  refine ⟨{ args := [.agg [.v (.int .i64 a0.fLabel.fLayer), .v (.int .i64 a0.fLabel.fAt.fX), .v (.int .i64 a0.fLabel.fAt.fY), .v (.string a0.fLabel.fName)]], o0 := [], r := .agg [.v (.int .i64 y3.fLayer), .v (.int .i64 y3.fAt.fX), .v (.int .i64 y3.fAt.fY), .v (.string y3.fName)], o1 := [], fl := true, σ := [], τ := [] }, hf_laws_toLabel _ _ hy4, ⟨les_cons (AV.le_refl _) (les_nil), trivial, rfl, rfl, rfl, rfl, trivial, rfl⟩, ?_⟩
  cbv
  replace h := of_bind h
  obtain ⟨y5, hy6, h⟩ := h
  refine ⟨{ args := [.agg [.v (.int .i64 a0.fInstance.fCell), .v (.int .i64 a0.fInstance.fPlace.fOrientation), .v (.int .i64 a0.fInstance.fPlace.fX), .v (.int .i64 a0.fInstance.fPlace.fY), .v (.int .i64 a0.fInstance.fColumns), .v (.int .i64 a0.fInstance.fRows), .v (.int .i64 a0.fInstance.fStepX), .v (.int .i64 a0.fInstance.fStepY)]], o0 := [], r := .agg [.v (.int .i64 y5.fCell), .v (.int .i64 y5.fPlace.fOrientation), .v (.int .i64 y5.fPlace.fX), .v (.int .i64 y5.fPlace.fY), .v (.int .i64 y5.fColumns), .v (.int .i64 y5.fRows), .v (.int .i64 y5.fStepX), .v (.int .i64 y5.fStepY)], o1 := [], fl := true, σ := [], τ := [] }, hf_laws_toInstance _ _ hy6, ⟨les_cons (AV.le_refl _) (les_nil), trivial, rfl, rfl, rfl, rfl, trivial, rfl⟩, ?_⟩
  cbv
  injection h with h
  subst h
  refine ⟨(sparse 29 [(2, .c (.ptr 128 0))] [(128, .var [.v (.int .i64 a0.fKind), .v (.int .i64 a0.fCell), .v (.int .i64 a0.fIndex), .v (.string a0.fName), .v (.int .i64 y1.fLayer), .v (.int .i64 y1.fBox.fX0), .v (.int .i64 y1.fBox.fY0), .v (.int .i64 y1.fBox.fX1), .v (.int .i64 y1.fBox.fY1), .v (.int .i64 y3.fLayer), .v (.int .i64 y3.fAt.fX), .v (.int .i64 y3.fAt.fY), .v (.string y3.fName), .v (.int .i64 y5.fCell), .v (.int .i64 y5.fPlace.fOrientation), .v (.int .i64 y5.fPlace.fX), .v (.int .i64 y5.fPlace.fY), .v (.int .i64 y5.fColumns), .v (.int .i64 y5.fRows), .v (.int .i64 y5.fStepX), .v (.int .i64 y5.fStepY)])]), ?_, ?_⟩
  · exact le_sparse rfl ⟨AV.le_refl _, trivial⟩ ⟨rfl, trivial⟩ rfl
  · exact ⟨AV.le_refl _, trivial, rfl⟩
noncomputable def L_laws_toEditS_x7 (a0 : List TEdit) (l1 : List TEdit) : (Int × (List TEdit)) → Option ((Int × (List TEdit)) ⊕ (((List TEdit)))) := fun x7 =>
  letO x7.1 fun v5 =>
  letO x7.2 fun v6 =>
  br (std.lt v5 (std.ofN (len a0)))
  (req (std.inR v5 (len a0)) <|
  (F_laws_toEdit (gd a0 (std.toN v5))).bind fun y20 =>
  req (std.inR v5 (len l1)) <|
  req (len l1 = len v6) <|
  letO (List.set v6 (std.nadd 0 (std.toN v5)) y20) fun l23 =>
  some (.inl (std.add .i64 v5 1, l23)))
  (some (.inr v6))
/-- laws.toEditS -/
noncomputable def F_laws_toEditS (a0 : List TEdit) : Option (List TEdit) :=
  req (std.nneg (std.ofN (len a0))) <|
  req (std.room (std.toN (std.ofN (len a0))) 184) <|
  letO (List.replicate (std.toN (std.ofN (len a0))) (TEdit.mk 0 0 0 (ByteArray.mk #[]) (TShape.mk 0 (TRect.mk 0 0 0 0)) (TLabel.mk 0 (TPoint.mk 0 0) (ByteArray.mk #[])) (TInstance.mk 0 (TTransform.mk 0 0 0) 0 0 0 0))) fun l1 =>
  (whileP (σ := Int × (List TEdit)) (ρ := ((List TEdit))) (L_laws_toEditS_x7 a0 l1) (0, l1)).bind fun y8 =>
  letO y8 fun y8k0 =>
  letO y8k0 fun w26 =>
  req (len l1 = len w26) <|
  some w26
theorem run_laws_toEditS (a0 : List TEdit) (r : List TEdit) (h : F_laws_toEditS a0 = some r) : Fun Try.prog 31 [.c (.bs (len a0) 21 (row gd (encEdit) a0))] [] (.c (.os 64000 0 (len r))) [(64000, .arr .rw [] (len r) 21 (row gd (encEdit) r))] true := by
  refine Fun.of_wp (oneOf []) tok mixed Try.func31 (by kernel_rfl) rfl Try.ntmps31 rfl trivial (fun _ => ⟨trivial, ⟨fun i _ j _ => val_flat (vl_encEdit _ _), trivial⟩⟩) ?_
  unfold F_laws_toEditS at h
  unfold L_laws_toEditS_x7 at h
  have hf_laws_toEdit := @run_laws_toEdit
  generalize hLEN : @len = LEN at *
  generalize hGD : @gd = GD at *
  generalize hA : std = A at *
  generalize hP : Try.prog = P at *
  cbv
  replace h := of_req h
  obtain ⟨c3, h⟩ := h
  replace h := of_req h
  obtain ⟨c4, h⟩ := h
  replace h := of_let h
  obtain ⟨l1, hl1, h⟩ := h
  have e2 : A.toN (A.ofN (LEN a0)) = LEN l1 := by subst hl1 hLEN hA; exact rep_len rfl
  refine And.intro (by first | exact ⟨c3, c4⟩ | exact ⟨rfl, c3, trivial, trivial, trivial, c4⟩ | (refine ⟨?_, ?_, ?_, ?_, ?_, ?_⟩ <;> first | exact c3 | exact c4 | trivial)) ?_
  refine ⟨_, congrArg (fun n => AV.c (AC.os 448 0 n)) e2, _, row GD (encEdit) l1, e2, ?_, ?_⟩
  · subst hGD hLEN
    exact upd_repL hl1 (by intro j hj; match j, hj with | 0, _ => rfl | 1, _ => rfl | 2, _ => rfl | 3, _ => rfl | 4, _ => rfl | 5, _ => rfl | 6, _ => rfl | 7, _ => rfl | 8, _ => rfl | 9, _ => rfl | 10, _ => rfl | 11, _ => rfl | 12, _ => rfl | 13, _ => rfl | 14, _ => rfl | 15, _ => rfl | 16, _ => rfl | 17, _ => rfl | 18, _ => rfl | 19, _ => rfl | 20, _ => rfl | (j_ + 21), h_ => exact absurd h_ (by omega))
  cbv
  replace h := of_bind h
  obtain ⟨y8, hr9, hN10⟩ := h
  refine loop_cut hr9 (fun x => (sparse 23 [(0, .c (.bs (LEN a0) 21 (row GD (encEdit) a0))), (3, .c (.os 448 0 (LEN l1))), (4, .c (.v (.int .i64 x.1)))] [(448, .arr .rw [] (LEN l1) 21 (row GD (encEdit) x.2))])) ?_ (fun y e s => (fun (w : (List TEdit)) => e = .exit 0 ∧ s.le (sparse 23 [(3, .c (.os 448 0 (LEN l1)))] [(448, .arr .rw [] (LEN l1) 21 (row GD (encEdit) w))])) y) ?_ ?_
  · clear hr9 hN10
    show St.le _ _
    exact le_sparse rfl ⟨AV.le_refl _, AV.le_refl _, AV.le_refl _, trivial⟩ ⟨⟨fun hw => hw, fun c hc => (by cases hc), .inl rfl, rfl, rfl, fun i hi j hj => rfl⟩, trivial⟩ rfl
  · clear hr9 hN10
    intro x z14 h K12 hK13 hY11
    obtain ⟨x0_, x1_⟩ := x
    replace h := of_let h
    obtain ⟨v5, hv5, h⟩ := h
    have hv5 : v5 = x0_ := hv5
    subst hv5
    replace h := of_let h
    obtain ⟨v6, hv6, h⟩ := h
    have hv6 : v6 = x1_ := hv6
    subst hv6
    cbv
    refine fork (fun b25 => ?_) (fun b25 => ?_)
    · replace h := of_br_t b25 h
      cbv
      replace h := of_req h
      obtain ⟨c19, h⟩ := h
      refine ⟨⟨c19, trivial⟩, ?_⟩
      replace h := of_bind h
      obtain ⟨y20, hy21, h⟩ := h
      refine ⟨{ args := [.agg [.v (.int .i64 (GD a0 (A.toN v5)).fKind), .v (.int .i64 (GD a0 (A.toN v5)).fCell), .v (.int .i64 (GD a0 (A.toN v5)).fIndex), .v (.string (GD a0 (A.toN v5)).fName), .v (.int .i64 (GD a0 (A.toN v5)).fShape.fLayer), .v (.int .i64 (GD a0 (A.toN v5)).fShape.fBox.fX0), .v (.int .i64 (GD a0 (A.toN v5)).fShape.fBox.fY0), .v (.int .i64 (GD a0 (A.toN v5)).fShape.fBox.fX1), .v (.int .i64 (GD a0 (A.toN v5)).fShape.fBox.fY1), .v (.int .i64 (GD a0 (A.toN v5)).fLabel.fLayer), .v (.int .i64 (GD a0 (A.toN v5)).fLabel.fAt.fX), .v (.int .i64 (GD a0 (A.toN v5)).fLabel.fAt.fY), .v (.string (GD a0 (A.toN v5)).fLabel.fName), .v (.int .i64 (GD a0 (A.toN v5)).fInstance.fCell), .v (.int .i64 (GD a0 (A.toN v5)).fInstance.fPlace.fOrientation), .v (.int .i64 (GD a0 (A.toN v5)).fInstance.fPlace.fX), .v (.int .i64 (GD a0 (A.toN v5)).fInstance.fPlace.fY), .v (.int .i64 (GD a0 (A.toN v5)).fInstance.fColumns), .v (.int .i64 (GD a0 (A.toN v5)).fInstance.fRows), .v (.int .i64 (GD a0 (A.toN v5)).fInstance.fStepX), .v (.int .i64 (GD a0 (A.toN v5)).fInstance.fStepY)]], o0 := [], r := .agg [.v (.int .i64 y20.fKind), .v (.int .i64 y20.fCell), .v (.int .i64 y20.fIndex), .v (.string y20.fName), .v (.int .i64 y20.fShape.fLayer), .v (.int .i64 y20.fShape.fBox.fX0), .v (.int .i64 y20.fShape.fBox.fY0), .v (.int .i64 y20.fShape.fBox.fX1), .v (.int .i64 y20.fShape.fBox.fY1), .v (.int .i64 y20.fLabel.fLayer), .v (.int .i64 y20.fLabel.fAt.fX), .v (.int .i64 y20.fLabel.fAt.fY), .v (.string y20.fLabel.fName), .v (.int .i64 y20.fInstance.fCell), .v (.int .i64 y20.fInstance.fPlace.fOrientation), .v (.int .i64 y20.fInstance.fPlace.fX), .v (.int .i64 y20.fInstance.fPlace.fY), .v (.int .i64 y20.fInstance.fColumns), .v (.int .i64 y20.fInstance.fRows), .v (.int .i64 y20.fInstance.fStepX), .v (.int .i64 y20.fInstance.fStepY)], o1 := [], fl := true, σ := [], τ := [] }, hf_laws_toEdit _ _ hy21, ⟨les_cons (AV.le_refl _) (les_nil), trivial, rfl, rfl, rfl, rfl, trivial, rfl⟩, ?_⟩
      cbv
      replace h := of_req h
      obtain ⟨c22, h⟩ := h
      refine ⟨⟨c22, trivial⟩, ?_⟩
      replace h := of_req h
      obtain ⟨c24, h⟩ := h
      replace h := of_let h
      obtain ⟨l23, hl23, h⟩ := h
      refine And.intro (by first | exact (by subst hA; exact idx_lt c22) | (refine And.intro (by subst hA; exact idx_lt c22) ?_; first | trivial | exact ⟨trivial, trivial⟩)) ?_
      refine ⟨_, rfl, _, row GD (encEdit) l23, rfl, ?_, ?_⟩
      · subst hGD hLEN hA
        rw [c24] at c22
        refine upd_set hl23 (idx_lt c22) ?_ ?_
        · intro b hb hh
          match b, hb, hh with | 0, _, hh => exact rfl | 1, _, hh => exact rfl | 2, _, hh => exact rfl | 3, _, hh => exact rfl | 4, _, hh => exact rfl | 5, _, hh => exact rfl | 6, _, hh => exact rfl | 7, _, hh => exact rfl | 8, _, hh => exact rfl | 9, _, hh => exact rfl | 10, _, hh => exact rfl | 11, _, hh => exact rfl | 12, _, hh => exact rfl | 13, _, hh => exact rfl | 14, _, hh => exact rfl | 15, _, hh => exact rfl | 16, _, hh => exact rfl | 17, _, hh => exact rfl | 18, _, hh => exact rfl | 19, _, hh => exact rfl | 20, _, hh => exact rfl | (b_ + 21), h_, _ => exact absurd h_ (by omega)
        · intro b hb hh
          match b, hb, hh with | 0, _, hh => exact (absurd (show 0 ≤ 0 ∧ 0 < 0 + 21 from by decide) hh) | 1, _, hh => exact (absurd (show 0 ≤ 1 ∧ 1 < 0 + 21 from by decide) hh) | 2, _, hh => exact (absurd (show 0 ≤ 2 ∧ 2 < 0 + 21 from by decide) hh) | 3, _, hh => exact (absurd (show 0 ≤ 3 ∧ 3 < 0 + 21 from by decide) hh) | 4, _, hh => exact (absurd (show 0 ≤ 4 ∧ 4 < 0 + 21 from by decide) hh) | 5, _, hh => exact (absurd (show 0 ≤ 5 ∧ 5 < 0 + 21 from by decide) hh) | 6, _, hh => exact (absurd (show 0 ≤ 6 ∧ 6 < 0 + 21 from by decide) hh) | 7, _, hh => exact (absurd (show 0 ≤ 7 ∧ 7 < 0 + 21 from by decide) hh) | 8, _, hh => exact (absurd (show 0 ≤ 8 ∧ 8 < 0 + 21 from by decide) hh) | 9, _, hh => exact (absurd (show 0 ≤ 9 ∧ 9 < 0 + 21 from by decide) hh) | 10, _, hh => exact (absurd (show 0 ≤ 10 ∧ 10 < 0 + 21 from by decide) hh) | 11, _, hh => exact (absurd (show 0 ≤ 11 ∧ 11 < 0 + 21 from by decide) hh) | 12, _, hh => exact (absurd (show 0 ≤ 12 ∧ 12 < 0 + 21 from by decide) hh) | 13, _, hh => exact (absurd (show 0 ≤ 13 ∧ 13 < 0 + 21 from by decide) hh) | 14, _, hh => exact (absurd (show 0 ≤ 14 ∧ 14 < 0 + 21 from by decide) hh) | 15, _, hh => exact (absurd (show 0 ≤ 15 ∧ 15 < 0 + 21 from by decide) hh) | 16, _, hh => exact (absurd (show 0 ≤ 16 ∧ 16 < 0 + 21 from by decide) hh) | 17, _, hh => exact (absurd (show 0 ≤ 17 ∧ 17 < 0 + 21 from by decide) hh) | 18, _, hh => exact (absurd (show 0 ≤ 18 ∧ 18 < 0 + 21 from by decide) hh) | 19, _, hh => exact (absurd (show 0 ≤ 19 ∧ 19 < 0 + 21 from by decide) hh) | 20, _, hh => exact (absurd (show 0 ≤ 20 ∧ 20 < 0 + 21 from by decide) hh) | (b_ + 21), h_, _ => exact absurd h_ (by omega)
      cbv
      injection h with h
      refine hK13 _ h.symm _ ?_
      exact le_sparse rfl ⟨AV.le_refl _, AV.le_refl _, AV.le_refl _, trivial⟩ ⟨⟨fun hw => hw, fun c hc => (by cases hc), .inl rfl, rfl, rfl, fun i hi j hj => rfl⟩, trivial⟩ rfl
    · replace h := of_br_f b25 h
      cbv
      injection h with h
      refine hY11 _ h.symm _ _ (And.intro rfl ?_) (by intro hh; cases hh)
      exact le_sparse rfl ⟨AV.le_refl _, trivial⟩ ⟨⟨fun hw => hw, fun c hc => (by cases hc), .inl rfl, rfl, rfl, fun i hi j hj => rfl⟩, trivial⟩ rfl
  · clear hr9
    have h := hN10
    clear hN10
    intro e17 s18 q16 hne
    replace h := of_let h
    obtain ⟨y8k0, hyk, h⟩ := h
    have hyk : y8k0 = y8 := hyk
    subst hyk
    obtain ⟨rfl, q16⟩ := q16
    replace h := of_let h
    obtain ⟨w26, hw26, h⟩ := h
    have hw26 : w26 = y8k0 := hw26
    subst hw26
    cbv
    refine ⟨_, q16, ?_⟩
    cbv
    replace h := of_req h
    obtain ⟨c27, h⟩ := h
    injection h with h
    subst h
    refine ⟨(sparse 23 [(2, .c (.os 64000 0 (LEN w26)))] [(64000, .arr .rw [] (LEN w26) 21 (row GD (encEdit) w26))]), ?_, ?_⟩
    · refine St.le_trans (le_ren 448 64000 (by decide) rfl) ?_
      rw [c27]
      exact le_sparse rfl ⟨AV.le_refl _, trivial⟩ ⟨⟨fun hw => hw, fun c hc => (by cases hc), .inl rfl, rfl, rfl, fun i hi j hj => rfl⟩, trivial⟩ rfl
    · exact ⟨AV.le_refl _, ⟨⟨fun hw => hw, fun c hc => (by cases hc), .inl rfl, rfl, rfl, fun i hi j hj => rfl⟩, trivial⟩, rfl⟩

/-- spec.l09In -/
noncomputable def F_spec_l09In (a0 : Int) (a1 : Int) (a2 : Int) : Option (Bool) :=
  ((
        br (std.le a1 a0)
        (some (std.le a0 a2))
        (some false)
    ) : Option (Bool)).bind fun y1 =>
  letO y1 fun w7 =>
  some w7
theorem run_spec_l09In (a0 : Int) (a1 : Int) (a2 : Int) (r : Bool) (h : F_spec_l09In a0 a1 a2 = some r) : Fun Try.prog 108 [.c (.v (.int .i64 a0)), .c (.v (.int .i64 a1)), .c (.v (.int .i64 a2))] [] (.c (.v (.bool r))) [] true := by
  refine Fun.of_wp (oneOf [1]) tok mixed Try.func108 (by kernel_rfl) rfl Try.ntmps108 rfl trivial (fun _ => ⟨trivial, trivial⟩) ?_
  unfold F_spec_l09In at h
  generalize hLEN : @len = LEN at *
  generalize hGD : @gd = GD at *
  generalize hA : std = A at *
  generalize hP : Try.prog = P at *
  cbv
  replace h := of_bind h
  obtain ⟨y1, hy2, h⟩ := h
  obtain ⟨S5, hS6⟩ : ∃ S, S = (sparse 15 [(6, .c (.v (.bool y1)))] []) := ⟨_, rfl⟩
  refine ⟨S5, ?_, ?_⟩
  · clear h
    have h := hy2
    clear hy2
    cbv
    refine fork (fun b8 => ?_) (fun b8 => ?_)
    · replace h := of_br_t b8 h
      cbv
      injection h with h
      subst h
      subst hS6
      show St.le _ _
      exact le_sparse rfl ⟨AV.le_refl _, trivial⟩ trivial rfl
    · replace h := of_br_f b8 h
      cbv
      injection h with h
      subst h
      subst hS6
      show St.le _ _
      exact le_sparse rfl ⟨AV.le_refl _, trivial⟩ trivial rfl
  · clear hy2
    subst hS6
    replace h := of_let h
    obtain ⟨w7, hw7, h⟩ := h
    have hw7 : w7 = y1 := hw7
    subst hw7
    cbv
    injection h with h
    subst h
    refine ⟨(sparse 15 [(6, .c (.v (.bool w7)))] []), ?_, ?_⟩
    · exact le_sparse rfl ⟨AV.le_refl _, trivial⟩ trivial rfl
    · exact ⟨AV.le_refl _, trivial, rfl⟩

noncomputable def L_spec_IsName_x2 (a0 : ByteArray) : (Int) → Option ((Int) ⊕ ((Unit) ⊕ (Unit))) := fun x2 =>
  letO x2 fun v1 =>
  br (std.lt v1 (std.ofN (std.slen a0)))
  (((
        req (std.inR v1 (std.slen a0)) <|
        br (std.le 97 (std.sat a0 (std.toN v1)))
        (req (std.inR v1 (std.slen a0)) <|
        br (std.le (std.sat a0 (std.toN v1)) 122)
        (some false)
        (req (std.inR v1 (std.slen a0)) <|
        br (std.le 48 (std.sat a0 (std.toN v1)))
        (req (std.inR v1 (std.slen a0)) <|
        some (!(std.le (std.sat a0 (std.toN v1)) 57)))
        (some true)))
        (req (std.inR v1 (std.slen a0)) <|
        br (std.le 48 (std.sat a0 (std.toN v1)))
        (req (std.inR v1 (std.slen a0)) <|
        some (!(std.le (std.sat a0 (std.toN v1)) 57)))
        (some true))
    ) : Option (Bool)).bind fun y14 =>
  letO y14 fun w20 =>
  br w20
  (some (.inr (.inl ())))
  (some (.inl (std.add .i64 v1 1))))
  (some (.inr (.inr ())))
/-- spec.IsName -/
noncomputable def F_spec_IsName (a0 : ByteArray) : Option (Bool) :=
  (whileP (σ := Int) (ρ := (Unit) ⊕ (Unit)) (L_spec_IsName_x2 a0) 0).bind fun y3 =>
  (match y3 with
    | .inl y3k0 => (
        some false)
    | .inr y3m0 =>
        ((
              br (std.le 1 (std.ofN (std.slen a0)))
              (some (std.le (std.ofN (std.slen a0)) 8))
              (some false)
          ) : Option (Bool)).bind fun y33 =>
        letO y33 fun w39 =>
        some w39)
theorem run_spec_IsName (a0 : ByteArray) (r : Bool) (h : F_spec_IsName a0 = some r) : Fun Try.prog 139 [.c (.v (.string a0))] [] (.c (.v (.bool r))) [] true := by
  refine Fun.of_wp (oneOf [4, 6]) tok mixed Try.func139 (by kernel_rfl) rfl Try.ntmps139 rfl trivial (fun _ => ⟨trivial, trivial⟩) ?_
  unfold F_spec_IsName at h
  unfold L_spec_IsName_x2 at h
  generalize hLEN : @len = LEN at *
  generalize hGD : @gd = GD at *
  generalize hA : std = A at *
  generalize hP : Try.prog = P at *
  cbv
  replace h := of_bind h
  obtain ⟨y3, hr4, hN5⟩ := h
  refine loop_cut hr4 (fun x => (sparse 41 [(0, .c (.v (.string a0))), (3, .c (.v (.int .i64 x)))] [])) ?_ (fun y e s => (match y with | .inl w => e = .ret ∧ s.le (sparse 41 [(2, .c (.v (.bool false)))] []) | .inr w0 => (fun (w : Unit) => e = .exit 0 ∧ s.le (sparse 41 [(0, .c (.v (.string a0)))] [])) w0)) ?_ ?_
  · clear hr4 hN5
    show St.le _ _
    exact le_sparse rfl ⟨AV.le_refl _, AV.le_refl _, trivial⟩ trivial rfl
  · clear hr4 hN5
    intro x z9 h K7 hK8 hY6
    replace h := of_let h
    obtain ⟨v1, hv1, h⟩ := h
    have hv1 : v1 = x := hv1
    subst hv1
    cbv
    refine fork (fun b32 => ?_) (fun b32 => ?_)
    · replace h := of_br_t b32 h
      cbv
      replace h := of_bind h
      obtain ⟨y14, hy15, h⟩ := h
      obtain ⟨S18, hS19⟩ : ∃ S, S = (sparse 41 [(0, .c (.v (.string a0))), (3, .c (.v (.int .i64 v1))), (32, .c (.v (.bool y14)))] []) := ⟨_, rfl⟩
      refine ⟨S18, ?_, ?_⟩
      · clear h
        have h := hy15
        clear hy15
        cbv
        replace h := of_req h
        obtain ⟨c21, h⟩ := h
        refine ⟨c21, ?_⟩
        refine fork (fun b30 => ?_) (fun b30 => ?_)
        · replace h := of_br_t b30 h
          cbv
          replace h := of_req h
          obtain ⟨c22, h⟩ := h
          refine ⟨c22, ?_⟩
          refine fork (fun b26 => ?_) (fun b26 => ?_)
          · replace h := of_br_t b26 h
            cbv
            injection h with h
            subst h
            subst hS19
            show St.le _ _
            exact le_sparse rfl ⟨AV.le_refl _, AV.le_refl _, AV.le_refl _, trivial⟩ trivial rfl
          · replace h := of_br_f b26 h
            cbv
            replace h := of_req h
            obtain ⟨c23, h⟩ := h
            refine ⟨c23, ?_⟩
            refine fork (fun b25 => ?_) (fun b25 => ?_)
            · replace h := of_br_t b25 h
              cbv
              replace h := of_req h
              obtain ⟨c24, h⟩ := h
              refine ⟨c24, ?_⟩
              injection h with h
              subst h
              subst hS19
              show St.le _ _
              exact le_sparse rfl ⟨AV.le_refl _, AV.le_refl _, AV.le_refl _, trivial⟩ trivial rfl
            · replace h := of_br_f b25 h
              cbv
              injection h with h
              subst h
              subst hS19
              show St.le _ _
              exact le_sparse rfl ⟨AV.le_refl _, AV.le_refl _, AV.le_refl _, trivial⟩ trivial rfl
        · replace h := of_br_f b30 h
          cbv
          replace h := of_req h
          obtain ⟨c27, h⟩ := h
          refine ⟨c27, ?_⟩
          refine fork (fun b29 => ?_) (fun b29 => ?_)
          · replace h := of_br_t b29 h
            cbv
            replace h := of_req h
            obtain ⟨c28, h⟩ := h
            refine ⟨c28, ?_⟩
            injection h with h
            subst h
            subst hS19
            show St.le _ _
            exact le_sparse rfl ⟨AV.le_refl _, AV.le_refl _, AV.le_refl _, trivial⟩ trivial rfl
          · replace h := of_br_f b29 h
            cbv
            injection h with h
            subst h
            subst hS19
            show St.le _ _
            exact le_sparse rfl ⟨AV.le_refl _, AV.le_refl _, AV.le_refl _, trivial⟩ trivial rfl
      · clear hy15
        subst hS19
        replace h := of_let h
        obtain ⟨w20, hw20, h⟩ := h
        have hw20 : w20 = y14 := hw20
        subst hw20
        cbv
        refine fork (fun b31 => ?_) (fun b31 => ?_)
        · replace h := of_br_t b31 h
          cbv
          injection h with h
          refine hY6 _ h.symm _ _ (And.intro rfl ?_) (by intro hh; cases hh)
          exact le_sparse rfl ⟨AV.le_refl _, trivial⟩ trivial rfl
        · replace h := of_br_f b31 h
          cbv
          injection h with h
          refine hK8 _ h.symm _ ?_
          exact le_sparse rfl ⟨AV.le_refl _, AV.le_refl _, trivial⟩ trivial rfl
    · replace h := of_br_f b32 h
      cbv
      injection h with h
      refine hY6 _ h.symm _ _ (And.intro rfl ?_) (by intro hh; cases hh)
      exact le_sparse rfl ⟨AV.le_refl _, trivial⟩ trivial rfl
  · clear hr4
    have h := hN5
    clear hN5
    intro e12 s13 q11 hne
    rcases y3 with y3k0 | y3m0
    · replace h := h
      obtain ⟨rfl, q11⟩ := q11
      cbv
      injection h with h
      subst h
      refine ⟨(sparse 41 [(2, .c (.v (.bool false)))] []), ?_, ?_⟩
      · refine St.le_trans q11 ?_
        exact le_sparse rfl ⟨AV.le_refl _, trivial⟩ trivial rfl
      · exact ⟨AV.le_refl _, trivial, rfl⟩
    · obtain ⟨rfl, q11⟩ := q11
      cbv
      refine ⟨_, q11, ?_⟩
      cbv
      replace h := of_bind h
      obtain ⟨y33, hy34, h⟩ := h
      obtain ⟨S37, hS38⟩ : ∃ S, S = (sparse 41 [(2, .c (.v (.bool y33)))] []) := ⟨_, rfl⟩
      refine ⟨S37, ?_, ?_⟩
      · clear h
        have h := hy34
        clear hy34
        cbv
        refine fork (fun b40 => ?_) (fun b40 => ?_)
        · replace h := of_br_t b40 h
          cbv
          injection h with h
          subst h
          subst hS38
          show St.le _ _
          exact le_sparse rfl ⟨AV.le_refl _, trivial⟩ trivial rfl
        · replace h := of_br_f b40 h
          cbv
          injection h with h
          subst h
          subst hS38
          show St.le _ _
          exact le_sparse rfl ⟨AV.le_refl _, trivial⟩ trivial rfl
      · clear hy34
        subst hS38
        replace h := of_let h
        obtain ⟨w39, hw39, h⟩ := h
        have hw39 : w39 = y33 := hw39
        subst hw39
        cbv
        injection h with h
        subst h
        refine ⟨(sparse 41 [(2, .c (.v (.bool w39)))] []), ?_, ?_⟩
        · exact le_sparse rfl ⟨AV.le_refl _, trivial⟩ trivial rfl
        · exact ⟨AV.le_refl _, trivial, rfl⟩

/-- spec.l09Layer -/
noncomputable def F_spec_l09Layer (a0 : Int) : Option (Bool) :=
  (F_spec_l09In a0 0 7).bind fun y1 =>
  some y1
theorem run_spec_l09Layer (a0 : Int) (r : Bool) (h : F_spec_l09Layer a0 = some r) : Fun Try.prog 192 [.c (.v (.int .i64 a0))] [] (.c (.v (.bool r))) [] true := by
  refine Fun.of_wp (oneOf []) tok mixed Try.func192 (by kernel_rfl) rfl Try.ntmps192 rfl trivial (fun _ => ⟨trivial, trivial⟩) ?_
  unfold F_spec_l09Layer at h
  have hf_spec_l09In := @run_spec_l09In
  generalize hLEN : @len = LEN at *
  generalize hGD : @gd = GD at *
  generalize hA : std = A at *
  generalize hP : Try.prog = P at *
  cbv
  replace h := of_bind h
  obtain ⟨y1, hy2, h⟩ := h
  refine ⟨{ args := [.c (.v (.int .i64 a0)), .c (.v (.int .i64 0)), .c (.v (.int .i64 7))], o0 := [], r := .c (.v (.bool y1)), o1 := [], fl := true, σ := [], τ := [] }, hf_spec_l09In _ _ _ _ hy2, ⟨les_cons (AV.le_refl _) (les_cons (AV.le_refl _) (les_cons (AV.le_refl _) (les_nil))), trivial, rfl, rfl, rfl, rfl, trivial, rfl⟩, ?_⟩
  cbv
  injection h with h
  subst h
  refine ⟨(sparse 5 [(2, .c (.v (.bool y1)))] []), ?_, ?_⟩
  · exact le_sparse rfl ⟨AV.le_refl _, trivial⟩ trivial rfl
  · exact ⟨AV.le_refl _, trivial, rfl⟩

/-- spec.l09Rect -/
noncomputable def F_spec_l09Rect (a0 : TRect) : Option (Bool) :=
  ((
        br (std.le (-40) a0.fX0)
        (br (std.lt a0.fX0 a0.fX1)
        (br (std.le a0.fX1 40)
        (br (std.le (-40) a0.fY0)
        (br (std.lt a0.fY0 a0.fY1)
        (some (std.le a0.fY1 40))
        (some false))
        (some false))
        (some false))
        (some false))
        (some false)
    ) : Option (Bool)).bind fun y1 =>
  letO y1 fun w7 =>
  some w7
theorem run_spec_l09Rect (a0 : TRect) (r : Bool) (h : F_spec_l09Rect a0 = some r) : Fun Try.prog 107 [.agg [.v (.int .i64 a0.fX0), .v (.int .i64 a0.fY0), .v (.int .i64 a0.fX1), .v (.int .i64 a0.fY1)]] [] (.c (.v (.bool r))) [] true := by
  refine Fun.of_wp (oneOf [1]) tok mixed Try.func107 (by kernel_rfl) rfl Try.ntmps107 rfl trivial (fun _ => ⟨trivial, trivial⟩) ?_
  unfold F_spec_l09Rect at h
  generalize hLEN : @len = LEN at *
  generalize hGD : @gd = GD at *
  generalize hA : std = A at *
  generalize hP : Try.prog = P at *
  cbv
  replace h := of_bind h
  obtain ⟨y1, hy2, h⟩ := h
  obtain ⟨S5, hS6⟩ : ∃ S, S = (sparse 35 [(2, .c (.v (.bool y1)))] []) := ⟨_, rfl⟩
  refine ⟨S5, ?_, ?_⟩
  · clear h
    have h := hy2
    clear hy2
    cbv
    refine fork (fun b12 => ?_) (fun b12 => ?_)
    · replace h := of_br_t b12 h
      cbv
      refine fork (fun b11 => ?_) (fun b11 => ?_)
      · replace h := of_br_t b11 h
        cbv
        refine fork (fun b10 => ?_) (fun b10 => ?_)
        · replace h := of_br_t b10 h
          cbv
          refine fork (fun b9 => ?_) (fun b9 => ?_)
          · replace h := of_br_t b9 h
            cbv
            refine fork (fun b8 => ?_) (fun b8 => ?_)
            · replace h := of_br_t b8 h
              cbv
              injection h with h
              subst h
              subst hS6
              show St.le _ _
              exact le_sparse rfl ⟨AV.le_refl _, trivial⟩ trivial rfl
            · replace h := of_br_f b8 h
              cbv
              injection h with h
              subst h
              subst hS6
              show St.le _ _
              exact le_sparse rfl ⟨AV.le_refl _, trivial⟩ trivial rfl
          · replace h := of_br_f b9 h
            cbv
            injection h with h
            subst h
            subst hS6
            show St.le _ _
            exact le_sparse rfl ⟨AV.le_refl _, trivial⟩ trivial rfl
        · replace h := of_br_f b10 h
          cbv
          injection h with h
          subst h
          subst hS6
          show St.le _ _
          exact le_sparse rfl ⟨AV.le_refl _, trivial⟩ trivial rfl
      · replace h := of_br_f b11 h
        cbv
        injection h with h
        subst h
        subst hS6
        show St.le _ _
        exact le_sparse rfl ⟨AV.le_refl _, trivial⟩ trivial rfl
    · replace h := of_br_f b12 h
      cbv
      injection h with h
      subst h
      subst hS6
      show St.le _ _
      exact le_sparse rfl ⟨AV.le_refl _, trivial⟩ trivial rfl
  · clear hy2
    subst hS6
    replace h := of_let h
    obtain ⟨w7, hw7, h⟩ := h
    have hw7 : w7 = y1 := hw7
    subst hw7
    cbv
    injection h with h
    subst h
    refine ⟨(sparse 35 [(2, .c (.v (.bool w7)))] []), ?_, ?_⟩
    · exact le_sparse rfl ⟨AV.le_refl _, trivial⟩ trivial rfl
    · exact ⟨AV.le_refl _, trivial, rfl⟩

/-- spec.l09Shape -/
noncomputable def F_spec_l09Shape (a0 : TShape) : Option (Bool) :=
  ((
        (F_spec_l09Layer a0.fLayer).bind fun y8 =>
        br y8
        ((F_spec_l09Rect a0.fBox).bind fun y10 =>
        some y10)
        (some false)
    ) : Option (Bool)).bind fun y1 =>
  letO y1 fun w7 =>
  some w7
theorem run_spec_l09Shape (a0 : TShape) (r : Bool) (h : F_spec_l09Shape a0 = some r) : Fun Try.prog 140 [.agg [.v (.int .i64 a0.fLayer), .v (.int .i64 a0.fBox.fX0), .v (.int .i64 a0.fBox.fY0), .v (.int .i64 a0.fBox.fX1), .v (.int .i64 a0.fBox.fY1)]] [] (.c (.v (.bool r))) [] true := by
  refine Fun.of_wp (oneOf [1]) tok mixed Try.func140 (by kernel_rfl) rfl Try.ntmps140 rfl trivial (fun _ => ⟨trivial, trivial⟩) ?_
  unfold F_spec_l09Shape at h
  have hf_spec_l09Layer := @run_spec_l09Layer
  have hf_spec_l09Rect := @run_spec_l09Rect
  generalize hLEN : @len = LEN at *
  generalize hGD : @gd = GD at *
  generalize hA : std = A at *
  generalize hP : Try.prog = P at *
  cbv
  replace h := of_bind h
  obtain ⟨y1, hy2, h⟩ := h
  obtain ⟨S5, hS6⟩ : ∃ S, S = (sparse 11 [(2, .c (.v (.bool y1)))] []) := ⟨_, rfl⟩
  refine ⟨S5, ?_, ?_⟩
  · clear h
    have h := hy2
    clear hy2
    cbv
    replace h := of_bind h
    obtain ⟨y8, hy9, h⟩ := h
    refine ⟨{ args := [.c (.v (.int .i64 a0.fLayer))], o0 := [], r := .c (.v (.bool y8)), o1 := [], fl := true, σ := [], τ := [] }, hf_spec_l09Layer _ _ hy9, ⟨les_cons (AV.le_refl _) (les_nil), trivial, rfl, rfl, rfl, rfl, trivial, rfl⟩, ?_⟩
    cbv
    refine fork (fun b12 => ?_) (fun b12 => ?_)
    · replace h := of_br_t b12 h
      cbv
      replace h := of_bind h
      obtain ⟨y10, hy11, h⟩ := h
      refine ⟨{ args := [.agg [.v (.int .i64 a0.fBox.fX0), .v (.int .i64 a0.fBox.fY0), .v (.int .i64 a0.fBox.fX1), .v (.int .i64 a0.fBox.fY1)]], o0 := [], r := .c (.v (.bool y10)), o1 := [], fl := true, σ := [], τ := [] }, hf_spec_l09Rect _ _ hy11, ⟨les_cons (AV.le_refl _) (les_nil), trivial, rfl, rfl, rfl, rfl, trivial, rfl⟩, ?_⟩
      cbv
      injection h with h
      subst h
      subst hS6
      show St.le _ _
      exact le_sparse rfl ⟨AV.le_refl _, trivial⟩ trivial rfl
    · replace h := of_br_f b12 h
      cbv
      injection h with h
      subst h
      subst hS6
      show St.le _ _
      exact le_sparse rfl ⟨AV.le_refl _, trivial⟩ trivial rfl
  · clear hy2
    subst hS6
    replace h := of_let h
    obtain ⟨w7, hw7, h⟩ := h
    have hw7 : w7 = y1 := hw7
    subst hw7
    cbv
    injection h with h
    subst h
    refine ⟨(sparse 11 [(2, .c (.v (.bool w7)))] []), ?_, ?_⟩
    · exact le_sparse rfl ⟨AV.le_refl _, trivial⟩ trivial rfl
    · exact ⟨AV.le_refl _, trivial, rfl⟩

/-- spec.l13NoShape -/
noncomputable def F_spec_l13NoShape (a0 : TShape) : Option (Bool) :=
  some (std.band (std.eq a0.fLayer 0) (std.band (std.band (std.eq a0.fBox.fX0 0) (std.band (std.eq a0.fBox.fY0 0) (std.band (std.eq a0.fBox.fX1 0) (std.band (std.eq a0.fBox.fY1 0) (true))))) (true)))
theorem run_spec_l13NoShape (a0 : TShape) (r : Bool) (h : F_spec_l13NoShape a0 = some r) : Fun Try.prog 141 [.agg [.v (.int .i64 a0.fLayer), .v (.int .i64 a0.fBox.fX0), .v (.int .i64 a0.fBox.fY0), .v (.int .i64 a0.fBox.fX1), .v (.int .i64 a0.fBox.fY1)]] [] (.c (.v (.bool r))) [] true := by
  refine Fun.of_wp (oneOf []) tok mixed Try.func141 (by kernel_rfl) rfl Try.ntmps141 rfl trivial (fun _ => ⟨trivial, trivial⟩) ?_
  unfold F_spec_l13NoShape at h
  generalize hLEN : @len = LEN at *
  generalize hGD : @gd = GD at *
  generalize hA : std = A at *
  generalize hP : Try.prog = P at *
  cbv
  injection h with h
  subst h
  refine ⟨(sparse 6 [(2, .c (.v (.bool (A.band (A.eq a0.fLayer 0) (A.band (A.band (A.eq a0.fBox.fX0 0) (A.band (A.eq a0.fBox.fY0 0) (A.band (A.eq a0.fBox.fX1 0) (A.band (A.eq a0.fBox.fY1 0) (true))))) (true))))))] []), ?_, ?_⟩
  · exact le_sparse rfl ⟨AV.le_refl _, trivial⟩ trivial rfl
  · exact ⟨AV.le_refl _, trivial, rfl⟩

/-- spec.l09Unit -/
noncomputable def F_spec_l09Unit (a0 : TPoint) : Option (Bool) :=
  ((
        (F_spec_l09In a0.fX (-40) 39).bind fun y8 =>
        br y8
        ((F_spec_l09In a0.fY (-40) 39).bind fun y10 =>
        some y10)
        (some false)
    ) : Option (Bool)).bind fun y1 =>
  letO y1 fun w7 =>
  some w7
theorem run_spec_l09Unit (a0 : TPoint) (r : Bool) (h : F_spec_l09Unit a0 = some r) : Fun Try.prog 193 [.agg [.v (.int .i64 a0.fX), .v (.int .i64 a0.fY)]] [] (.c (.v (.bool r))) [] true := by
  refine Fun.of_wp (oneOf [1]) tok mixed Try.func193 (by kernel_rfl) rfl Try.ntmps193 rfl trivial (fun _ => ⟨trivial, trivial⟩) ?_
  unfold F_spec_l09Unit at h
  have hf_spec_l09In := @run_spec_l09In
  generalize hLEN : @len = LEN at *
  generalize hGD : @gd = GD at *
  generalize hA : std = A at *
  generalize hP : Try.prog = P at *
  cbv
  replace h := of_bind h
  obtain ⟨y1, hy2, h⟩ := h
  obtain ⟨S5, hS6⟩ : ∃ S, S = (sparse 11 [(2, .c (.v (.bool y1)))] []) := ⟨_, rfl⟩
  refine ⟨S5, ?_, ?_⟩
  · clear h
    have h := hy2
    clear hy2
    cbv
    replace h := of_bind h
    obtain ⟨y8, hy9, h⟩ := h
    refine ⟨{ args := [.c (.v (.int .i64 a0.fX)), .c (.v (.int .i64 (-40))), .c (.v (.int .i64 39))], o0 := [], r := .c (.v (.bool y8)), o1 := [], fl := true, σ := [], τ := [] }, hf_spec_l09In _ _ _ _ hy9, ⟨les_cons (AV.le_refl _) (les_cons (AV.le_refl _) (les_cons (AV.le_refl _) (les_nil))), trivial, rfl, rfl, rfl, rfl, trivial, rfl⟩, ?_⟩
    cbv
    refine fork (fun b12 => ?_) (fun b12 => ?_)
    · replace h := of_br_t b12 h
      cbv
      replace h := of_bind h
      obtain ⟨y10, hy11, h⟩ := h
      refine ⟨{ args := [.c (.v (.int .i64 a0.fY)), .c (.v (.int .i64 (-40))), .c (.v (.int .i64 39))], o0 := [], r := .c (.v (.bool y10)), o1 := [], fl := true, σ := [], τ := [] }, hf_spec_l09In _ _ _ _ hy11, ⟨les_cons (AV.le_refl _) (les_cons (AV.le_refl _) (les_cons (AV.le_refl _) (les_nil))), trivial, rfl, rfl, rfl, rfl, trivial, rfl⟩, ?_⟩
      cbv
      injection h with h
      subst h
      subst hS6
      show St.le _ _
      exact le_sparse rfl ⟨AV.le_refl _, trivial⟩ trivial rfl
    · replace h := of_br_f b12 h
      cbv
      injection h with h
      subst h
      subst hS6
      show St.le _ _
      exact le_sparse rfl ⟨AV.le_refl _, trivial⟩ trivial rfl
  · clear hy2
    subst hS6
    replace h := of_let h
    obtain ⟨w7, hw7, h⟩ := h
    have hw7 : w7 = y1 := hw7
    subst hw7
    cbv
    injection h with h
    subst h
    refine ⟨(sparse 11 [(2, .c (.v (.bool w7)))] []), ?_, ?_⟩
    · exact le_sparse rfl ⟨AV.le_refl _, trivial⟩ trivial rfl
    · exact ⟨AV.le_refl _, trivial, rfl⟩

/-- spec.l09Label -/
noncomputable def F_spec_l09Label (a0 : TLabel) : Option (Bool) :=
  ((
        (F_spec_l09Layer a0.fLayer).bind fun y8 =>
        br y8
        ((F_spec_l09Unit a0.fAt).bind fun y10 =>
        br y10
        ((F_spec_IsName a0.fName).bind fun y12 =>
        some y12)
        (some false))
        (some false)
    ) : Option (Bool)).bind fun y1 =>
  letO y1 fun w7 =>
  some w7
theorem run_spec_l09Label (a0 : TLabel) (r : Bool) (h : F_spec_l09Label a0 = some r) : Fun Try.prog 142 [.agg [.v (.int .i64 a0.fLayer), .v (.int .i64 a0.fAt.fX), .v (.int .i64 a0.fAt.fY), .v (.string a0.fName)]] [] (.c (.v (.bool r))) [] true := by
  refine Fun.of_wp (oneOf [1]) tok mixed Try.func142 (by kernel_rfl) rfl Try.ntmps142 rfl trivial (fun _ => ⟨trivial, trivial⟩) ?_
  unfold F_spec_l09Label at h
  have hf_spec_IsName := @run_spec_IsName
  have hf_spec_l09Layer := @run_spec_l09Layer
  have hf_spec_l09Unit := @run_spec_l09Unit
  generalize hLEN : @len = LEN at *
  generalize hGD : @gd = GD at *
  generalize hA : std = A at *
  generalize hP : Try.prog = P at *
  cbv
  replace h := of_bind h
  obtain ⟨y1, hy2, h⟩ := h
  obtain ⟨S5, hS6⟩ : ∃ S, S = (sparse 16 [(2, .c (.v (.bool y1)))] []) := ⟨_, rfl⟩
  refine ⟨S5, ?_, ?_⟩
  · clear h
    have h := hy2
    clear hy2
    cbv
    replace h := of_bind h
    obtain ⟨y8, hy9, h⟩ := h
    refine ⟨{ args := [.c (.v (.int .i64 a0.fLayer))], o0 := [], r := .c (.v (.bool y8)), o1 := [], fl := true, σ := [], τ := [] }, hf_spec_l09Layer _ _ hy9, ⟨les_cons (AV.le_refl _) (les_nil), trivial, rfl, rfl, rfl, rfl, trivial, rfl⟩, ?_⟩
    cbv
    refine fork (fun b15 => ?_) (fun b15 => ?_)
    · replace h := of_br_t b15 h
      cbv
      replace h := of_bind h
      obtain ⟨y10, hy11, h⟩ := h
      refine ⟨{ args := [.agg [.v (.int .i64 a0.fAt.fX), .v (.int .i64 a0.fAt.fY)]], o0 := [], r := .c (.v (.bool y10)), o1 := [], fl := true, σ := [], τ := [] }, hf_spec_l09Unit _ _ hy11, ⟨les_cons (AV.le_refl _) (les_nil), trivial, rfl, rfl, rfl, rfl, trivial, rfl⟩, ?_⟩
      cbv
      refine fork (fun b14 => ?_) (fun b14 => ?_)
      · replace h := of_br_t b14 h
        cbv
        replace h := of_bind h
        obtain ⟨y12, hy13, h⟩ := h
        refine ⟨{ args := [.c (.v (.string a0.fName))], o0 := [], r := .c (.v (.bool y12)), o1 := [], fl := true, σ := [], τ := [] }, hf_spec_IsName _ _ hy13, ⟨les_cons (AV.le_refl _) (les_nil), trivial, rfl, rfl, rfl, rfl, trivial, rfl⟩, ?_⟩
        cbv
        injection h with h
        subst h
        subst hS6
        show St.le _ _
        exact le_sparse rfl ⟨AV.le_refl _, trivial⟩ trivial rfl
      · replace h := of_br_f b14 h
        cbv
        injection h with h
        subst h
        subst hS6
        show St.le _ _
        exact le_sparse rfl ⟨AV.le_refl _, trivial⟩ trivial rfl
    · replace h := of_br_f b15 h
      cbv
      injection h with h
      subst h
      subst hS6
      show St.le _ _
      exact le_sparse rfl ⟨AV.le_refl _, trivial⟩ trivial rfl
  · clear hy2
    subst hS6
    replace h := of_let h
    obtain ⟨w7, hw7, h⟩ := h
    have hw7 : w7 = y1 := hw7
    subst hw7
    cbv
    injection h with h
    subst h
    refine ⟨(sparse 16 [(2, .c (.v (.bool w7)))] []), ?_, ?_⟩
    · exact le_sparse rfl ⟨AV.le_refl _, trivial⟩ trivial rfl
    · exact ⟨AV.le_refl _, trivial, rfl⟩

/-- spec.l13NoLabel -/
noncomputable def F_spec_l13NoLabel (a0 : TLabel) : Option (Bool) :=
  some (std.band (std.eq a0.fLayer 0) (std.band (std.band (std.eq a0.fAt.fX 0) (std.band (std.eq a0.fAt.fY 0) (true))) (std.band (std.seq a0.fName (ByteArray.mk #[])) (true))))
theorem run_spec_l13NoLabel (a0 : TLabel) (r : Bool) (h : F_spec_l13NoLabel a0 = some r) : Fun Try.prog 143 [.agg [.v (.int .i64 a0.fLayer), .v (.int .i64 a0.fAt.fX), .v (.int .i64 a0.fAt.fY), .v (.string a0.fName)]] [] (.c (.v (.bool r))) [] true := by
  refine Fun.of_wp (oneOf []) tok mixed Try.func143 (by kernel_rfl) rfl Try.ntmps143 rfl trivial (fun _ => ⟨trivial, trivial⟩) ?_
  unfold F_spec_l13NoLabel at h
  generalize hLEN : @len = LEN at *
  generalize hGD : @gd = GD at *
  generalize hA : std = A at *
  generalize hP : Try.prog = P at *
  cbv
  injection h with h
  subst h
  refine ⟨(sparse 6 [(2, .c (.v (.bool (A.band (A.eq a0.fLayer 0) (A.band (A.band (A.eq a0.fAt.fX 0) (A.band (A.eq a0.fAt.fY 0) (true))) (A.band (A.seq a0.fName (ByteArray.mk #[])) (true)))))))] []), ?_, ?_⟩
  · exact le_sparse rfl ⟨AV.le_refl _, trivial⟩ trivial rfl
  · exact ⟨AV.le_refl _, trivial, rfl⟩
/-- spec.l09Transform -/
noncomputable def F_spec_l09Transform (a0 : TTransform) : Option (Bool) :=
  ((
        (F_spec_l09In a0.fOrientation 0 7).bind fun y8 =>
        br y8
        ((F_spec_l09In a0.fX (-80) 80).bind fun y10 =>
        br y10
        ((F_spec_l09In a0.fY (-80) 80).bind fun y12 =>
        some y12)
        (some false))
        (some false)
    ) : Option (Bool)).bind fun y1 =>
  letO y1 fun w7 =>
  some w7
theorem run_spec_l09Transform (a0 : TTransform) (r : Bool) (h : F_spec_l09Transform a0 = some r) : Fun Try.prog 194 [.agg [.v (.int .i64 a0.fOrientation), .v (.int .i64 a0.fX), .v (.int .i64 a0.fY)]] [] (.c (.v (.bool r))) [] true := by
  refine Fun.of_wp (oneOf [1]) tok mixed Try.func194 (by kernel_rfl) rfl Try.ntmps194 rfl trivial (fun _ => ⟨trivial, trivial⟩) ?_
  unfold F_spec_l09Transform at h
  have hf_spec_l09In := @run_spec_l09In
  generalize hLEN : @len = LEN at *
  generalize hGD : @gd = GD at *
  generalize hA : std = A at *
  generalize hP : Try.prog = P at *
  cbv
  replace h := of_bind h
  obtain ⟨y1, hy2, h⟩ := h
  obtain ⟨S5, hS6⟩ : ∃ S, S = (sparse 16 [(2, .c (.v (.bool y1)))] []) := ⟨_, rfl⟩
  refine ⟨S5, ?_, ?_⟩
  · clear h
    have h := hy2
    clear hy2
    cbv
    replace h := of_bind h
    obtain ⟨y8, hy9, h⟩ := h
    refine ⟨{ args := [.c (.v (.int .i64 a0.fOrientation)), .c (.v (.int .i64 0)), .c (.v (.int .i64 7))], o0 := [], r := .c (.v (.bool y8)), o1 := [], fl := true, σ := [], τ := [] }, hf_spec_l09In _ _ _ _ hy9, ⟨les_cons (AV.le_refl _) (les_cons (AV.le_refl _) (les_cons (AV.le_refl _) (les_nil))), trivial, rfl, rfl, rfl, rfl, trivial, rfl⟩, ?_⟩
    cbv
    refine fork (fun b15 => ?_) (fun b15 => ?_)
    · replace h := of_br_t b15 h
      cbv
      replace h := of_bind h
      obtain ⟨y10, hy11, h⟩ := h
      refine ⟨{ args := [.c (.v (.int .i64 a0.fX)), .c (.v (.int .i64 (-80))), .c (.v (.int .i64 80))], o0 := [], r := .c (.v (.bool y10)), o1 := [], fl := true, σ := [], τ := [] }, hf_spec_l09In _ _ _ _ hy11, ⟨les_cons (AV.le_refl _) (les_cons (AV.le_refl _) (les_cons (AV.le_refl _) (les_nil))), trivial, rfl, rfl, rfl, rfl, trivial, rfl⟩, ?_⟩
      cbv
      refine fork (fun b14 => ?_) (fun b14 => ?_)
      · replace h := of_br_t b14 h
        cbv
        replace h := of_bind h
        obtain ⟨y12, hy13, h⟩ := h
        refine ⟨{ args := [.c (.v (.int .i64 a0.fY)), .c (.v (.int .i64 (-80))), .c (.v (.int .i64 80))], o0 := [], r := .c (.v (.bool y12)), o1 := [], fl := true, σ := [], τ := [] }, hf_spec_l09In _ _ _ _ hy13, ⟨les_cons (AV.le_refl _) (les_cons (AV.le_refl _) (les_cons (AV.le_refl _) (les_nil))), trivial, rfl, rfl, rfl, rfl, trivial, rfl⟩, ?_⟩
        cbv
        injection h with h
        subst h
        subst hS6
        show St.le _ _
        exact le_sparse rfl ⟨AV.le_refl _, trivial⟩ trivial rfl
      · replace h := of_br_f b14 h
        cbv
        injection h with h
        subst h
        subst hS6
        show St.le _ _
        exact le_sparse rfl ⟨AV.le_refl _, trivial⟩ trivial rfl
    · replace h := of_br_f b15 h
      cbv
      injection h with h
      subst h
      subst hS6
      show St.le _ _
      exact le_sparse rfl ⟨AV.le_refl _, trivial⟩ trivial rfl
  · clear hy2
    subst hS6
    replace h := of_let h
    obtain ⟨w7, hw7, h⟩ := h
    have hw7 : w7 = y1 := hw7
    subst hw7
    cbv
    injection h with h
    subst h
    refine ⟨(sparse 16 [(2, .c (.v (.bool w7)))] []), ?_, ?_⟩
    · exact le_sparse rfl ⟨AV.le_refl _, trivial⟩ trivial rfl
    · exact ⟨AV.le_refl _, trivial, rfl⟩

/-- spec.l09Instance -/
noncomputable def F_spec_l09Instance (a0 : TInstance) (a1 : Int) : Option (Bool) :=
  ((
        (F_spec_l09In a0.fCell 0 (std.sub .i64 a1 1)).bind fun y8 =>
        br (!(y8))
        (some true)
        ((F_spec_l09Transform a0.fPlace).bind fun y10 =>
        br (!(y10))
        (some true)
        ((F_spec_l09In a0.fColumns 1 4).bind fun y12 =>
        br (!(y12))
        (some true)
        ((F_spec_l09In a0.fRows 1 4).bind fun y14 =>
        some (!(y14)))))
    ) : Option (Bool)).bind fun y1 =>
  letO y1 fun w7 =>
  br w7
  (some false)
  (((
        (F_spec_l09In a0.fStepX (-80) 80).bind fun y26 =>
        br (!(y26))
        (some true)
        ((F_spec_l09In a0.fStepY (-80) 80).bind fun y28 =>
        some (!(y28)))
    ) : Option (Bool)).bind fun y19 =>
  letO y19 fun w25 =>
  br w25
  (some false)
  (((
        br (std.lt 1 a0.fColumns)
        (br (std.lt 1 a0.fRows)
        (some true)
        (some (std.eq a0.fStepY 0)))
        (br (std.eq a0.fStepX 0)
        (br (std.lt 1 a0.fRows)
        (some true)
        (some (std.eq a0.fStepY 0)))
        (some false))
    ) : Option (Bool)).bind fun y31 =>
  letO y31 fun w37 =>
  some w37))
theorem run_spec_l09Instance (a0 : TInstance) (a1 : Int) (r : Bool) (h : F_spec_l09Instance a0 a1 = some r) : Fun Try.prog 144 [.agg [.v (.int .i64 a0.fCell), .v (.int .i64 a0.fPlace.fOrientation), .v (.int .i64 a0.fPlace.fX), .v (.int .i64 a0.fPlace.fY), .v (.int .i64 a0.fColumns), .v (.int .i64 a0.fRows), .v (.int .i64 a0.fStepX), .v (.int .i64 a0.fStepY)], .c (.v (.int .i64 a1))] [] (.c (.v (.bool r))) [] true := by
  refine Fun.of_wp (oneOf [1, 3, 5]) tok mixed Try.func144 (by kernel_rfl) rfl Try.ntmps144 rfl trivial (fun _ => ⟨trivial, trivial⟩) ?_
  unfold F_spec_l09Instance at h
  have hf_spec_l09In := @run_spec_l09In
  have hf_spec_l09Transform := @run_spec_l09Transform
  generalize hLEN : @len = LEN at *
  generalize hGD : @gd = GD at *
  generalize hA : std = A at *
  generalize hP : Try.prog = P at *
  cbv
  replace h := of_bind h
  obtain ⟨y1, hy2, h⟩ := h
  obtain ⟨S5, hS6⟩ : ∃ S, S = (sparse 57 [(2, .c (.ptr 128 0)), (28, .c (.v (.bool y1)))] [(128, .var [.v (.int .i64 a0.fCell), .v (.int .i64 a0.fPlace.fOrientation), .v (.int .i64 a0.fPlace.fX), .v (.int .i64 a0.fPlace.fY), .v (.int .i64 a0.fColumns), .v (.int .i64 a0.fRows), .v (.int .i64 a0.fStepX), .v (.int .i64 a0.fStepY)])]) := ⟨_, rfl⟩
  refine ⟨S5, ?_, ?_⟩
  · clear h
    have h := hy2
    clear hy2
    cbv
    replace h := of_bind h
    obtain ⟨y8, hy9, h⟩ := h
    refine ⟨{ args := [.c (.v (.int .i64 a0.fCell)), .c (.v (.int .i64 0)), .c (.v (.int .i64 (A.sub .i64 a1 1)))], o0 := [], r := .c (.v (.bool y8)), o1 := [], fl := true, σ := [], τ := [] }, hf_spec_l09In _ _ _ _ hy9, ⟨les_cons (AV.le_refl _) (les_cons (AV.le_refl _) (les_cons (AV.le_refl _) (les_nil))), trivial, rfl, rfl, rfl, rfl, trivial, rfl⟩, ?_⟩
    cbv
    refine fork (fun b18 => ?_) (fun b18 => ?_)
    · replace h := of_br_t b18 h
      cbv
      injection h with h
      subst h
      subst hS6
      show St.le _ _
      exact le_sparse rfl ⟨AV.le_refl _, AV.le_refl _, trivial⟩ ⟨rfl, trivial⟩ rfl
    · replace h := of_br_f b18 h
      cbv
      replace h := of_bind h
      obtain ⟨y10, hy11, h⟩ := h
      refine ⟨{ args := [.agg [.v (.int .i64 a0.fPlace.fOrientation), .v (.int .i64 a0.fPlace.fX), .v (.int .i64 a0.fPlace.fY)]], o0 := [], r := .c (.v (.bool y10)), o1 := [], fl := true, σ := [], τ := [] }, hf_spec_l09Transform _ _ hy11, ⟨les_cons (AV.le_refl _) (les_nil), trivial, rfl, rfl, rfl, rfl, trivial, rfl⟩, ?_⟩
      cbv
      refine fork (fun b17 => ?_) (fun b17 => ?_)
      · replace h := of_br_t b17 h
        cbv
        injection h with h
        subst h
        subst hS6
        show St.le _ _
        exact le_sparse rfl ⟨AV.le_refl _, AV.le_refl _, trivial⟩ ⟨rfl, trivial⟩ rfl
      · replace h := of_br_f b17 h
        cbv
        replace h := of_bind h
        obtain ⟨y12, hy13, h⟩ := h
        refine ⟨{ args := [.c (.v (.int .i64 a0.fColumns)), .c (.v (.int .i64 1)), .c (.v (.int .i64 4))], o0 := [], r := .c (.v (.bool y12)), o1 := [], fl := true, σ := [], τ := [] }, hf_spec_l09In _ _ _ _ hy13, ⟨les_cons (AV.le_refl _) (les_cons (AV.le_refl _) (les_cons (AV.le_refl _) (les_nil))), trivial, rfl, rfl, rfl, rfl, trivial, rfl⟩, ?_⟩
        cbv
        refine fork (fun b16 => ?_) (fun b16 => ?_)
        · replace h := of_br_t b16 h
          cbv
          injection h with h
          subst h
          subst hS6
          show St.le _ _
          exact le_sparse rfl ⟨AV.le_refl _, AV.le_refl _, trivial⟩ ⟨rfl, trivial⟩ rfl
        · replace h := of_br_f b16 h
          cbv
          replace h := of_bind h
          obtain ⟨y14, hy15, h⟩ := h
          refine ⟨{ args := [.c (.v (.int .i64 a0.fRows)), .c (.v (.int .i64 1)), .c (.v (.int .i64 4))], o0 := [], r := .c (.v (.bool y14)), o1 := [], fl := true, σ := [], τ := [] }, hf_spec_l09In _ _ _ _ hy15, ⟨les_cons (AV.le_refl _) (les_cons (AV.le_refl _) (les_cons (AV.le_refl _) (les_nil))), trivial, rfl, rfl, rfl, rfl, trivial, rfl⟩, ?_⟩
          cbv
          injection h with h
          subst h
          subst hS6
          show St.le _ _
          exact le_sparse rfl ⟨AV.le_refl _, AV.le_refl _, trivial⟩ ⟨rfl, trivial⟩ rfl
  · clear hy2
    subst hS6
    replace h := of_let h
    obtain ⟨w7, hw7, h⟩ := h
    have hw7 : w7 = y1 := hw7
    subst hw7
    cbv
    refine fork (fun b43 => ?_) (fun b43 => ?_)
    · replace h := of_br_t b43 h
      cbv
      injection h with h
      subst h
      refine ⟨(sparse 57 [(4, .c (.v (.bool false)))] []), ?_, ?_⟩
      · exact le_sparse rfl ⟨AV.le_refl _, trivial⟩ trivial rfl
      · exact ⟨AV.le_refl _, trivial, rfl⟩
    · replace h := of_br_f b43 h
      cbv
      replace h := of_bind h
      obtain ⟨y19, hy20, h⟩ := h
      obtain ⟨S23, hS24⟩ : ∃ S, S = (sparse 57 [(2, .c (.ptr 128 0)), (38, .c (.v (.bool y19)))] [(128, .var [.v (.int .i64 a0.fCell), .v (.int .i64 a0.fPlace.fOrientation), .v (.int .i64 a0.fPlace.fX), .v (.int .i64 a0.fPlace.fY), .v (.int .i64 a0.fColumns), .v (.int .i64 a0.fRows), .v (.int .i64 a0.fStepX), .v (.int .i64 a0.fStepY)])]) := ⟨_, rfl⟩
      refine ⟨S23, ?_, ?_⟩
      · clear h
        have h := hy20
        clear hy20
        cbv
        replace h := of_bind h
        obtain ⟨y26, hy27, h⟩ := h
        refine ⟨{ args := [.c (.v (.int .i64 a0.fStepX)), .c (.v (.int .i64 (-80))), .c (.v (.int .i64 80))], o0 := [], r := .c (.v (.bool y26)), o1 := [], fl := true, σ := [], τ := [] }, hf_spec_l09In _ _ _ _ hy27, ⟨les_cons (AV.le_refl _) (les_cons (AV.le_refl _) (les_cons (AV.le_refl _) (les_nil))), trivial, rfl, rfl, rfl, rfl, trivial, rfl⟩, ?_⟩
        cbv
        refine fork (fun b30 => ?_) (fun b30 => ?_)
        · replace h := of_br_t b30 h
          cbv
          injection h with h
          subst h
          subst hS24
          show St.le _ _
          exact le_sparse rfl ⟨AV.le_refl _, AV.le_refl _, trivial⟩ ⟨rfl, trivial⟩ rfl
        · replace h := of_br_f b30 h
          cbv
          replace h := of_bind h
          obtain ⟨y28, hy29, h⟩ := h
          refine ⟨{ args := [.c (.v (.int .i64 a0.fStepY)), .c (.v (.int .i64 (-80))), .c (.v (.int .i64 80))], o0 := [], r := .c (.v (.bool y28)), o1 := [], fl := true, σ := [], τ := [] }, hf_spec_l09In _ _ _ _ hy29, ⟨les_cons (AV.le_refl _) (les_cons (AV.le_refl _) (les_cons (AV.le_refl _) (les_nil))), trivial, rfl, rfl, rfl, rfl, trivial, rfl⟩, ?_⟩
          cbv
          injection h with h
          subst h
          subst hS24
          show St.le _ _
          exact le_sparse rfl ⟨AV.le_refl _, AV.le_refl _, trivial⟩ ⟨rfl, trivial⟩ rfl
      · clear hy20
        subst hS24
        replace h := of_let h
        obtain ⟨w25, hw25, h⟩ := h
        have hw25 : w25 = y19 := hw25
        subst hw25
        cbv
        refine fork (fun b42 => ?_) (fun b42 => ?_)
        · replace h := of_br_t b42 h
          cbv
          injection h with h
          subst h
          refine ⟨(sparse 57 [(4, .c (.v (.bool false)))] []), ?_, ?_⟩
          · exact le_sparse rfl ⟨AV.le_refl _, trivial⟩ trivial rfl
          · exact ⟨AV.le_refl _, trivial, rfl⟩
        · replace h := of_br_f b42 h
          cbv
          replace h := of_bind h
          obtain ⟨y31, hy32, h⟩ := h
          obtain ⟨S35, hS36⟩ : ∃ S, S = (sparse 57 [(4, .c (.v (.bool y31)))] []) := ⟨_, rfl⟩
          refine ⟨S35, ?_, ?_⟩
          · clear h
            have h := hy32
            clear hy32
            cbv
            refine fork (fun b41 => ?_) (fun b41 => ?_)
            · replace h := of_br_t b41 h
              cbv
              refine fork (fun b40 => ?_) (fun b40 => ?_)
              · replace h := of_br_t b40 h
                cbv
                injection h with h
                subst h
                subst hS36
                show St.le _ _
                exact le_sparse rfl ⟨AV.le_refl _, trivial⟩ trivial rfl
              · replace h := of_br_f b40 h
                cbv
                injection h with h
                subst h
                subst hS36
                show St.le _ _
                exact le_sparse rfl ⟨AV.le_refl _, trivial⟩ trivial rfl
            · replace h := of_br_f b41 h
              cbv
              refine fork (fun b39 => ?_) (fun b39 => ?_)
              · replace h := of_br_t b39 h
                cbv
                refine fork (fun b38 => ?_) (fun b38 => ?_)
                · replace h := of_br_t b38 h
                  cbv
                  injection h with h
                  subst h
                  subst hS36
                  show St.le _ _
                  exact le_sparse rfl ⟨AV.le_refl _, trivial⟩ trivial rfl
                · replace h := of_br_f b38 h
                  cbv
                  injection h with h
                  subst h
                  subst hS36
                  show St.le _ _
                  exact le_sparse rfl ⟨AV.le_refl _, trivial⟩ trivial rfl
              · replace h := of_br_f b39 h
                cbv
                injection h with h
                subst h
                subst hS36
                show St.le _ _
                exact le_sparse rfl ⟨AV.le_refl _, trivial⟩ trivial rfl
          · clear hy32
            subst hS36
            replace h := of_let h
            obtain ⟨w37, hw37, h⟩ := h
            have hw37 : w37 = y31 := hw37
            subst hw37
            cbv
            injection h with h
            subst h
            refine ⟨(sparse 57 [(4, .c (.v (.bool w37)))] []), ?_, ?_⟩
            · exact le_sparse rfl ⟨AV.le_refl _, trivial⟩ trivial rfl
            · exact ⟨AV.le_refl _, trivial, rfl⟩

/-- spec.l13NoInstance -/
noncomputable def F_spec_l13NoInstance (a0 : TInstance) : Option (Bool) :=
  some (std.band (std.eq a0.fCell 0) (std.band (std.band (std.eq a0.fPlace.fOrientation 0) (std.band (std.eq a0.fPlace.fX 0) (std.band (std.eq a0.fPlace.fY 0) (true)))) (std.band (std.eq a0.fColumns 0) (std.band (std.eq a0.fRows 0) (std.band (std.eq a0.fStepX 0) (std.band (std.eq a0.fStepY 0) (true)))))))
theorem run_spec_l13NoInstance (a0 : TInstance) (r : Bool) (h : F_spec_l13NoInstance a0 = some r) : Fun Try.prog 145 [.agg [.v (.int .i64 a0.fCell), .v (.int .i64 a0.fPlace.fOrientation), .v (.int .i64 a0.fPlace.fX), .v (.int .i64 a0.fPlace.fY), .v (.int .i64 a0.fColumns), .v (.int .i64 a0.fRows), .v (.int .i64 a0.fStepX), .v (.int .i64 a0.fStepY)]] [] (.c (.v (.bool r))) [] true := by
  refine Fun.of_wp (oneOf []) tok mixed Try.func145 (by kernel_rfl) rfl Try.ntmps145 rfl trivial (fun _ => ⟨trivial, trivial⟩) ?_
  unfold F_spec_l13NoInstance at h
  generalize hLEN : @len = LEN at *
  generalize hGD : @gd = GD at *
  generalize hA : std = A at *
  generalize hP : Try.prog = P at *
  cbv
  injection h with h
  subst h
  refine ⟨(sparse 6 [(2, .c (.v (.bool (A.band (A.eq a0.fCell 0) (A.band (A.band (A.eq a0.fPlace.fOrientation 0) (A.band (A.eq a0.fPlace.fX 0) (A.band (A.eq a0.fPlace.fY 0) (true)))) (A.band (A.eq a0.fColumns 0) (A.band (A.eq a0.fRows 0) (A.band (A.eq a0.fStepX 0) (A.band (A.eq a0.fStepY 0) (true))))))))))] []), ?_, ?_⟩
  · exact le_sparse rfl ⟨AV.le_refl _, trivial⟩ trivial rfl
  · exact ⟨AV.le_refl _, trivial, rfl⟩

/-- spec.IsValidEdit -/
noncomputable def F_spec_IsValidEdit (a0 : TEdit) : Option (Bool) :=
  ((
        (F_spec_l09In a0.fKind 1 9).bind fun y8 =>
        br (!(y8))
        (some true)
        ((F_spec_l09In a0.fCell 0 8).bind fun y10 =>
        br (!(y10))
        (some true)
        ((F_spec_l09In a0.fIndex 0 24).bind fun y12 =>
        some (!(y12))))
    ) : Option (Bool)).bind fun y1 =>
  letO y1 fun w7 =>
  br w7
  (some false)
  (((
        br (std.le 7 a0.fKind)
        (some (std.not (std.eq a0.fIndex 0)))
        (some false)
    ) : Option (Bool)).bind fun y16 =>
  letO y16 fun w22 =>
  br w22
  (some false)
  (((
        br (std.eq a0.fKind 7)
        (some true)
        (some (std.eq a0.fKind 8))
    ) : Option (Bool)).bind fun y24 =>
  letO y24 fun w30 =>
  ((
        br w30
        ((F_spec_IsName a0.fName).bind fun y39 =>
        br (!(y39))
        (some true)
        (br (!(w30))
        (some (std.not (std.seq a0.fName (ByteArray.mk #[]))))
        (some false)))
        (br (!(w30))
        (some (std.not (std.seq a0.fName (ByteArray.mk #[]))))
        (some false))
    ) : Option (Bool)).bind fun y32 =>
  letO y32 fun w38 =>
  br w38
  (some false)
  (((
        br (std.eq a0.fKind 1)
        ((F_spec_l09Shape a0.fShape).bind fun y52 =>
        br (!(y52))
        (some true)
        (br (std.not (std.eq a0.fKind 1))
        ((F_spec_l13NoShape a0.fShape).bind fun y54 =>
        some (!(y54)))
        (some false)))
        (br (std.not (std.eq a0.fKind 1))
        ((F_spec_l13NoShape a0.fShape).bind fun y58 =>
        some (!(y58)))
        (some false))
    ) : Option (Bool)).bind fun y45 =>
  letO y45 fun w51 =>
  br w51
  (some false)
  (((
        br (std.eq a0.fKind 3)
        ((F_spec_l09Label a0.fLabel).bind fun y69 =>
        br (!(y69))
        (some true)
        (br (std.not (std.eq a0.fKind 3))
        ((F_spec_l13NoLabel a0.fLabel).bind fun y71 =>
        some (!(y71)))
        (some false)))
        (br (std.not (std.eq a0.fKind 3))
        ((F_spec_l13NoLabel a0.fLabel).bind fun y75 =>
        some (!(y75)))
        (some false))
    ) : Option (Bool)).bind fun y62 =>
  letO y62 fun w68 =>
  br w68
  (some false)
  (br (std.eq a0.fKind 5)
  ((F_spec_l09Instance a0.fInstance 8).bind fun y79 =>
  some y79)
  ((F_spec_l13NoInstance a0.fInstance).bind fun y81 =>
  some y81))))))
theorem run_spec_IsValidEdit (a0 : TEdit) (r : Bool) (h : F_spec_IsValidEdit a0 = some r) : Fun Try.prog 68 [.agg [.v (.int .i64 a0.fKind), .v (.int .i64 a0.fCell), .v (.int .i64 a0.fIndex), .v (.string a0.fName), .v (.int .i64 a0.fShape.fLayer), .v (.int .i64 a0.fShape.fBox.fX0), .v (.int .i64 a0.fShape.fBox.fY0), .v (.int .i64 a0.fShape.fBox.fX1), .v (.int .i64 a0.fShape.fBox.fY1), .v (.int .i64 a0.fLabel.fLayer), .v (.int .i64 a0.fLabel.fAt.fX), .v (.int .i64 a0.fLabel.fAt.fY), .v (.string a0.fLabel.fName), .v (.int .i64 a0.fInstance.fCell), .v (.int .i64 a0.fInstance.fPlace.fOrientation), .v (.int .i64 a0.fInstance.fPlace.fX), .v (.int .i64 a0.fInstance.fPlace.fY), .v (.int .i64 a0.fInstance.fColumns), .v (.int .i64 a0.fInstance.fRows), .v (.int .i64 a0.fInstance.fStepX), .v (.int .i64 a0.fInstance.fStepY)]] [] (.c (.v (.bool r))) [] true := by
  refine Fun.of_wp (oneOf [1, 3, 5, 6, 8, 10]) tok mixed Try.func68 (by kernel_rfl) rfl Try.ntmps68 rfl trivial (fun _ => ⟨trivial, trivial⟩) ?_
  unfold F_spec_IsValidEdit at h
  have hf_spec_IsName := @run_spec_IsName
  have hf_spec_l09In := @run_spec_l09In
  have hf_spec_l09Instance := @run_spec_l09Instance
  have hf_spec_l09Label := @run_spec_l09Label
  have hf_spec_l09Shape := @run_spec_l09Shape
  have hf_spec_l13NoInstance := @run_spec_l13NoInstance
  have hf_spec_l13NoLabel := @run_spec_l13NoLabel
  have hf_spec_l13NoShape := @run_spec_l13NoShape
  generalize hLEN : @len = LEN at *
  generalize hGD : @gd = GD at *
  generalize hA : std = A at *
  generalize hP : Try.prog = P at *
  cbv
  replace h := of_bind h
  obtain ⟨y1, hy2, h⟩ := h
  obtain ⟨S5, hS6⟩ : ∃ S, S = (sparse 101 [(1, .c (.ptr 64 0)), (19, .c (.v (.bool y1)))] [(64, .var [.v (.int .i64 a0.fKind), .v (.int .i64 a0.fCell), .v (.int .i64 a0.fIndex), .v (.string a0.fName), .v (.int .i64 a0.fShape.fLayer), .v (.int .i64 a0.fShape.fBox.fX0), .v (.int .i64 a0.fShape.fBox.fY0), .v (.int .i64 a0.fShape.fBox.fX1), .v (.int .i64 a0.fShape.fBox.fY1), .v (.int .i64 a0.fLabel.fLayer), .v (.int .i64 a0.fLabel.fAt.fX), .v (.int .i64 a0.fLabel.fAt.fY), .v (.string a0.fLabel.fName), .v (.int .i64 a0.fInstance.fCell), .v (.int .i64 a0.fInstance.fPlace.fOrientation), .v (.int .i64 a0.fInstance.fPlace.fX), .v (.int .i64 a0.fInstance.fPlace.fY), .v (.int .i64 a0.fInstance.fColumns), .v (.int .i64 a0.fInstance.fRows), .v (.int .i64 a0.fInstance.fStepX), .v (.int .i64 a0.fInstance.fStepY)])]) := ⟨_, rfl⟩
  refine ⟨S5, ?_, ?_⟩
  · clear h
    have h := hy2
    clear hy2
    cbv
    replace h := of_bind h
    obtain ⟨y8, hy9, h⟩ := h
    refine ⟨{ args := [.c (.v (.int .i64 a0.fKind)), .c (.v (.int .i64 1)), .c (.v (.int .i64 9))], o0 := [], r := .c (.v (.bool y8)), o1 := [], fl := true, σ := [], τ := [] }, hf_spec_l09In _ _ _ _ hy9, ⟨les_cons (AV.le_refl _) (les_cons (AV.le_refl _) (les_cons (AV.le_refl _) (les_nil))), trivial, rfl, rfl, rfl, rfl, trivial, rfl⟩, ?_⟩
    cbv
    refine fork (fun b15 => ?_) (fun b15 => ?_)
    · replace h := of_br_t b15 h
      cbv
      injection h with h
      subst h
      subst hS6
      show St.le _ _
      exact le_sparse rfl ⟨AV.le_refl _, AV.le_refl _, trivial⟩ ⟨rfl, trivial⟩ rfl
    · replace h := of_br_f b15 h
      cbv
      replace h := of_bind h
      obtain ⟨y10, hy11, h⟩ := h
      refine ⟨{ args := [.c (.v (.int .i64 a0.fCell)), .c (.v (.int .i64 0)), .c (.v (.int .i64 8))], o0 := [], r := .c (.v (.bool y10)), o1 := [], fl := true, σ := [], τ := [] }, hf_spec_l09In _ _ _ _ hy11, ⟨les_cons (AV.le_refl _) (les_cons (AV.le_refl _) (les_cons (AV.le_refl _) (les_nil))), trivial, rfl, rfl, rfl, rfl, trivial, rfl⟩, ?_⟩
      cbv
      refine fork (fun b14 => ?_) (fun b14 => ?_)
      · replace h := of_br_t b14 h
        cbv
        injection h with h
        subst h
        subst hS6
        show St.le _ _
        exact le_sparse rfl ⟨AV.le_refl _, AV.le_refl _, trivial⟩ ⟨rfl, trivial⟩ rfl
      · replace h := of_br_f b14 h
        cbv
        replace h := of_bind h
        obtain ⟨y12, hy13, h⟩ := h
        refine ⟨{ args := [.c (.v (.int .i64 a0.fIndex)), .c (.v (.int .i64 0)), .c (.v (.int .i64 24))], o0 := [], r := .c (.v (.bool y12)), o1 := [], fl := true, σ := [], τ := [] }, hf_spec_l09In _ _ _ _ hy13, ⟨les_cons (AV.le_refl _) (les_cons (AV.le_refl _) (les_cons (AV.le_refl _) (les_nil))), trivial, rfl, rfl, rfl, rfl, trivial, rfl⟩, ?_⟩
        cbv
        injection h with h
        subst h
        subst hS6
        show St.le _ _
        exact le_sparse rfl ⟨AV.le_refl _, AV.le_refl _, trivial⟩ ⟨rfl, trivial⟩ rfl
  · clear hy2
    subst hS6
    replace h := of_let h
    obtain ⟨w7, hw7, h⟩ := h
    have hw7 : w7 = y1 := hw7
    subst hw7
    cbv
    refine fork (fun b88 => ?_) (fun b88 => ?_)
    · replace h := of_br_t b88 h
      cbv
      injection h with h
      subst h
      refine ⟨(sparse 101 [(2, .c (.v (.bool false)))] []), ?_, ?_⟩
      · exact le_sparse rfl ⟨AV.le_refl _, trivial⟩ trivial rfl
      · exact ⟨AV.le_refl _, trivial, rfl⟩
    · replace h := of_br_f b88 h
      cbv
      replace h := of_bind h
      obtain ⟨y16, hy17, h⟩ := h
      obtain ⟨S20, hS21⟩ : ∃ S, S = (sparse 101 [(1, .c (.ptr 64 0)), (27, .c (.v (.bool y16)))] [(64, .var [.v (.int .i64 a0.fKind), .v (.int .i64 a0.fCell), .v (.int .i64 a0.fIndex), .v (.string a0.fName), .v (.int .i64 a0.fShape.fLayer), .v (.int .i64 a0.fShape.fBox.fX0), .v (.int .i64 a0.fShape.fBox.fY0), .v (.int .i64 a0.fShape.fBox.fX1), .v (.int .i64 a0.fShape.fBox.fY1), .v (.int .i64 a0.fLabel.fLayer), .v (.int .i64 a0.fLabel.fAt.fX), .v (.int .i64 a0.fLabel.fAt.fY), .v (.string a0.fLabel.fName), .v (.int .i64 a0.fInstance.fCell), .v (.int .i64 a0.fInstance.fPlace.fOrientation), .v (.int .i64 a0.fInstance.fPlace.fX), .v (.int .i64 a0.fInstance.fPlace.fY), .v (.int .i64 a0.fInstance.fColumns), .v (.int .i64 a0.fInstance.fRows), .v (.int .i64 a0.fInstance.fStepX), .v (.int .i64 a0.fInstance.fStepY)])]) := ⟨_, rfl⟩
      refine ⟨S20, ?_, ?_⟩
      · clear h
        have h := hy17
        clear hy17
        cbv
        refine fork (fun b23 => ?_) (fun b23 => ?_)
        · replace h := of_br_t b23 h
          cbv
          injection h with h
          subst h
          subst hS21
          show St.le _ _
          exact le_sparse rfl ⟨AV.le_refl _, AV.le_refl _, trivial⟩ ⟨rfl, trivial⟩ rfl
        · replace h := of_br_f b23 h
          cbv
          injection h with h
          subst h
          subst hS21
          show St.le _ _
          exact le_sparse rfl ⟨AV.le_refl _, AV.le_refl _, trivial⟩ ⟨rfl, trivial⟩ rfl
      · clear hy17
        subst hS21
        replace h := of_let h
        obtain ⟨w22, hw22, h⟩ := h
        have hw22 : w22 = y16 := hw22
        subst hw22
        cbv
        refine fork (fun b87 => ?_) (fun b87 => ?_)
        · replace h := of_br_t b87 h
          cbv
          injection h with h
          subst h
          refine ⟨(sparse 101 [(2, .c (.v (.bool false)))] []), ?_, ?_⟩
          · exact le_sparse rfl ⟨AV.le_refl _, trivial⟩ trivial rfl
          · exact ⟨AV.le_refl _, trivial, rfl⟩
        · replace h := of_br_f b87 h
          cbv
          replace h := of_bind h
          obtain ⟨y24, hy25, h⟩ := h
          obtain ⟨S28, hS29⟩ : ∃ S, S = (sparse 101 [(1, .c (.ptr 64 0)), (3, .c (.v (.bool y24)))] [(64, .var [.v (.int .i64 a0.fKind), .v (.int .i64 a0.fCell), .v (.int .i64 a0.fIndex), .v (.string a0.fName), .v (.int .i64 a0.fShape.fLayer), .v (.int .i64 a0.fShape.fBox.fX0), .v (.int .i64 a0.fShape.fBox.fY0), .v (.int .i64 a0.fShape.fBox.fX1), .v (.int .i64 a0.fShape.fBox.fY1), .v (.int .i64 a0.fLabel.fLayer), .v (.int .i64 a0.fLabel.fAt.fX), .v (.int .i64 a0.fLabel.fAt.fY), .v (.string a0.fLabel.fName), .v (.int .i64 a0.fInstance.fCell), .v (.int .i64 a0.fInstance.fPlace.fOrientation), .v (.int .i64 a0.fInstance.fPlace.fX), .v (.int .i64 a0.fInstance.fPlace.fY), .v (.int .i64 a0.fInstance.fColumns), .v (.int .i64 a0.fInstance.fRows), .v (.int .i64 a0.fInstance.fStepX), .v (.int .i64 a0.fInstance.fStepY)])]) := ⟨_, rfl⟩
          refine ⟨S28, ?_, ?_⟩
          · clear h
            have h := hy25
            clear hy25
            cbv
            refine fork (fun b31 => ?_) (fun b31 => ?_)
            · replace h := of_br_t b31 h
              cbv
              injection h with h
              subst h
              subst hS29
              show St.le _ _
              exact le_sparse rfl ⟨AV.le_refl _, AV.le_refl _, trivial⟩ ⟨rfl, trivial⟩ rfl
            · replace h := of_br_f b31 h
              cbv
              injection h with h
              subst h
              subst hS29
              show St.le _ _
              exact le_sparse rfl ⟨AV.le_refl _, AV.le_refl _, trivial⟩ ⟨rfl, trivial⟩ rfl
          · clear hy25
            subst hS29
            replace h := of_let h
            obtain ⟨w30, hw30, h⟩ := h
            have hw30 : w30 = y24 := hw30
            subst hw30
            cbv
            replace h := of_bind h
            obtain ⟨y32, hy33, h⟩ := h
            obtain ⟨S36, hS37⟩ : ∃ S, S = (sparse 101 [(1, .c (.ptr 64 0)), (51, .c (.v (.bool y32)))] [(64, .var [.v (.int .i64 a0.fKind), .v (.int .i64 a0.fCell), .v (.int .i64 a0.fIndex), .v (.string a0.fName), .v (.int .i64 a0.fShape.fLayer), .v (.int .i64 a0.fShape.fBox.fX0), .v (.int .i64 a0.fShape.fBox.fY0), .v (.int .i64 a0.fShape.fBox.fX1), .v (.int .i64 a0.fShape.fBox.fY1), .v (.int .i64 a0.fLabel.fLayer), .v (.int .i64 a0.fLabel.fAt.fX), .v (.int .i64 a0.fLabel.fAt.fY), .v (.string a0.fLabel.fName), .v (.int .i64 a0.fInstance.fCell), .v (.int .i64 a0.fInstance.fPlace.fOrientation), .v (.int .i64 a0.fInstance.fPlace.fX), .v (.int .i64 a0.fInstance.fPlace.fY), .v (.int .i64 a0.fInstance.fColumns), .v (.int .i64 a0.fInstance.fRows), .v (.int .i64 a0.fInstance.fStepX), .v (.int .i64 a0.fInstance.fStepY)])]) := ⟨_, rfl⟩
            refine ⟨S36, ?_, ?_⟩
            · clear h
              have h := hy33
              clear hy33
              cbv
              refine fork (fun b44 => ?_) (fun b44 => ?_)
              · replace h := of_br_t b44 h
                cbv
                replace h := of_bind h
                obtain ⟨y39, hy40, h⟩ := h
                refine ⟨{ args := [.c (.v (.string a0.fName))], o0 := [], r := .c (.v (.bool y39)), o1 := [], fl := true, σ := [], τ := [] }, hf_spec_IsName _ _ hy40, ⟨les_cons (AV.le_refl _) (les_nil), trivial, rfl, rfl, rfl, rfl, trivial, rfl⟩, ?_⟩
                cbv
                refine fork (fun b42 => ?_) (fun b42 => ?_)
                · replace h := of_br_t b42 h
                  cbv
                  injection h with h
                  subst h
                  subst hS37
                  show St.le _ _
                  exact le_sparse rfl ⟨AV.le_refl _, AV.le_refl _, trivial⟩ ⟨rfl, trivial⟩ rfl
                · replace h := of_br_f b42 h
                  cbv
                  refine fork (fun b41 => ?_) (fun b41 => ?_)
                  · replace h := of_br_t b41 h
                    cbv
                    injection h with h
                    subst h
                    subst hS37
                    show St.le _ _
                    exact le_sparse rfl ⟨AV.le_refl _, AV.le_refl _, trivial⟩ ⟨rfl, trivial⟩ rfl
                  · replace h := of_br_f b41 h
                    cbv
                    injection h with h
                    subst h
                    subst hS37
                    show St.le _ _
                    exact le_sparse rfl ⟨AV.le_refl _, AV.le_refl _, trivial⟩ ⟨rfl, trivial⟩ rfl
              · replace h := of_br_f b44 h
                cbv
                refine fork (fun b43 => ?_) (fun b43 => ?_)
                · replace h := of_br_t b43 h
                  cbv
                  injection h with h
                  subst h
                  subst hS37
                  show St.le _ _
                  exact le_sparse rfl ⟨AV.le_refl _, AV.le_refl _, trivial⟩ ⟨rfl, trivial⟩ rfl
                · replace h := of_br_f b43 h
                  cbv
                  injection h with h
                  subst h
                  subst hS37
                  show St.le _ _
                  exact le_sparse rfl ⟨AV.le_refl _, AV.le_refl _, trivial⟩ ⟨rfl, trivial⟩ rfl
            · clear hy33
              subst hS37
              replace h := of_let h
              obtain ⟨w38, hw38, h⟩ := h
              have hw38 : w38 = y32 := hw38
              subst hw38
              cbv
              refine fork (fun b86 => ?_) (fun b86 => ?_)
              · replace h := of_br_t b86 h
                cbv
                injection h with h
                subst h
                refine ⟨(sparse 101 [(2, .c (.v (.bool false)))] []), ?_, ?_⟩
                · exact le_sparse rfl ⟨AV.le_refl _, trivial⟩ trivial rfl
                · exact ⟨AV.le_refl _, trivial, rfl⟩
              · replace h := of_br_f b86 h
                cbv
                replace h := of_bind h
                obtain ⟨y45, hy46, h⟩ := h
                obtain ⟨S49, hS50⟩ : ∃ S, S = (sparse 101 [(1, .c (.ptr 64 0)), (71, .c (.v (.bool y45)))] [(64, .var [.v (.int .i64 a0.fKind), .v (.int .i64 a0.fCell), .v (.int .i64 a0.fIndex), .v (.string a0.fName), .v (.int .i64 a0.fShape.fLayer), .v (.int .i64 a0.fShape.fBox.fX0), .v (.int .i64 a0.fShape.fBox.fY0), .v (.int .i64 a0.fShape.fBox.fX1), .v (.int .i64 a0.fShape.fBox.fY1), .v (.int .i64 a0.fLabel.fLayer), .v (.int .i64 a0.fLabel.fAt.fX), .v (.int .i64 a0.fLabel.fAt.fY), .v (.string a0.fLabel.fName), .v (.int .i64 a0.fInstance.fCell), .v (.int .i64 a0.fInstance.fPlace.fOrientation), .v (.int .i64 a0.fInstance.fPlace.fX), .v (.int .i64 a0.fInstance.fPlace.fY), .v (.int .i64 a0.fInstance.fColumns), .v (.int .i64 a0.fInstance.fRows), .v (.int .i64 a0.fInstance.fStepX), .v (.int .i64 a0.fInstance.fStepY)])]) := ⟨_, rfl⟩
                refine ⟨S49, ?_, ?_⟩
                · clear h
                  have h := hy46
                  clear hy46
                  cbv
                  refine fork (fun b61 => ?_) (fun b61 => ?_)
                  · replace h := of_br_t b61 h
                    cbv
                    replace h := of_bind h
                    obtain ⟨y52, hy53, h⟩ := h
                    refine ⟨{ args := [.agg [.v (.int .i64 a0.fShape.fLayer), .v (.int .i64 a0.fShape.fBox.fX0), .v (.int .i64 a0.fShape.fBox.fY0), .v (.int .i64 a0.fShape.fBox.fX1), .v (.int .i64 a0.fShape.fBox.fY1)]], o0 := [], r := .c (.v (.bool y52)), o1 := [], fl := true, σ := [], τ := [] }, hf_spec_l09Shape _ _ hy53, ⟨les_cons (AV.le_refl _) (les_nil), trivial, rfl, rfl, rfl, rfl, trivial, rfl⟩, ?_⟩
                    cbv
                    refine fork (fun b57 => ?_) (fun b57 => ?_)
                    · replace h := of_br_t b57 h
                      cbv
                      injection h with h
                      subst h
                      subst hS50
                      show St.le _ _
                      exact le_sparse rfl ⟨AV.le_refl _, AV.le_refl _, trivial⟩ ⟨rfl, trivial⟩ rfl
                    · replace h := of_br_f b57 h
                      cbv
                      refine fork (fun b56 => ?_) (fun b56 => ?_)
                      · replace h := of_br_t b56 h
                        cbv
                        replace h := of_bind h
                        obtain ⟨y54, hy55, h⟩ := h
                        refine ⟨{ args := [.agg [.v (.int .i64 a0.fShape.fLayer), .v (.int .i64 a0.fShape.fBox.fX0), .v (.int .i64 a0.fShape.fBox.fY0), .v (.int .i64 a0.fShape.fBox.fX1), .v (.int .i64 a0.fShape.fBox.fY1)]], o0 := [], r := .c (.v (.bool y54)), o1 := [], fl := true, σ := [], τ := [] }, hf_spec_l13NoShape _ _ hy55, ⟨les_cons (AV.le_refl _) (les_nil), trivial, rfl, rfl, rfl, rfl, trivial, rfl⟩, ?_⟩
                        cbv
                        injection h with h
                        subst h
                        subst hS50
                        show St.le _ _
                        exact le_sparse rfl ⟨AV.le_refl _, AV.le_refl _, trivial⟩ ⟨rfl, trivial⟩ rfl
                      · replace h := of_br_f b56 h
                        cbv
                        injection h with h
                        subst h
                        subst hS50
                        show St.le _ _
                        exact le_sparse rfl ⟨AV.le_refl _, AV.le_refl _, trivial⟩ ⟨rfl, trivial⟩ rfl
                  · replace h := of_br_f b61 h
                    cbv
                    refine fork (fun b60 => ?_) (fun b60 => ?_)
                    · replace h := of_br_t b60 h
                      cbv
                      replace h := of_bind h
                      obtain ⟨y58, hy59, h⟩ := h
                      refine ⟨{ args := [.agg [.v (.int .i64 a0.fShape.fLayer), .v (.int .i64 a0.fShape.fBox.fX0), .v (.int .i64 a0.fShape.fBox.fY0), .v (.int .i64 a0.fShape.fBox.fX1), .v (.int .i64 a0.fShape.fBox.fY1)]], o0 := [], r := .c (.v (.bool y58)), o1 := [], fl := true, σ := [], τ := [] }, hf_spec_l13NoShape _ _ hy59, ⟨les_cons (AV.le_refl _) (les_nil), trivial, rfl, rfl, rfl, rfl, trivial, rfl⟩, ?_⟩
                      cbv
                      injection h with h
                      subst h
                      subst hS50
                      show St.le _ _
                      exact le_sparse rfl ⟨AV.le_refl _, AV.le_refl _, trivial⟩ ⟨rfl, trivial⟩ rfl
                    · replace h := of_br_f b60 h
                      cbv
                      injection h with h
                      subst h
                      subst hS50
                      show St.le _ _
                      exact le_sparse rfl ⟨AV.le_refl _, AV.le_refl _, trivial⟩ ⟨rfl, trivial⟩ rfl
                · clear hy46
                  subst hS50
                  replace h := of_let h
                  obtain ⟨w51, hw51, h⟩ := h
                  have hw51 : w51 = y45 := hw51
                  subst hw51
                  cbv
                  refine fork (fun b85 => ?_) (fun b85 => ?_)
                  · replace h := of_br_t b85 h
                    cbv
                    injection h with h
                    subst h
                    refine ⟨(sparse 101 [(2, .c (.v (.bool false)))] []), ?_, ?_⟩
                    · exact le_sparse rfl ⟨AV.le_refl _, trivial⟩ trivial rfl
                    · exact ⟨AV.le_refl _, trivial, rfl⟩
                  · replace h := of_br_f b85 h
                    cbv
                    replace h := of_bind h
                    obtain ⟨y62, hy63, h⟩ := h
                    obtain ⟨S66, hS67⟩ : ∃ S, S = (sparse 101 [(1, .c (.ptr 64 0)), (91, .c (.v (.bool y62)))] [(64, .var [.v (.int .i64 a0.fKind), .v (.int .i64 a0.fCell), .v (.int .i64 a0.fIndex), .v (.string a0.fName), .v (.int .i64 a0.fShape.fLayer), .v (.int .i64 a0.fShape.fBox.fX0), .v (.int .i64 a0.fShape.fBox.fY0), .v (.int .i64 a0.fShape.fBox.fX1), .v (.int .i64 a0.fShape.fBox.fY1), .v (.int .i64 a0.fLabel.fLayer), .v (.int .i64 a0.fLabel.fAt.fX), .v (.int .i64 a0.fLabel.fAt.fY), .v (.string a0.fLabel.fName), .v (.int .i64 a0.fInstance.fCell), .v (.int .i64 a0.fInstance.fPlace.fOrientation), .v (.int .i64 a0.fInstance.fPlace.fX), .v (.int .i64 a0.fInstance.fPlace.fY), .v (.int .i64 a0.fInstance.fColumns), .v (.int .i64 a0.fInstance.fRows), .v (.int .i64 a0.fInstance.fStepX), .v (.int .i64 a0.fInstance.fStepY)])]) := ⟨_, rfl⟩
                    refine ⟨S66, ?_, ?_⟩
                    · clear h
                      have h := hy63
                      clear hy63
                      cbv
                      refine fork (fun b78 => ?_) (fun b78 => ?_)
                      · replace h := of_br_t b78 h
                        cbv
                        replace h := of_bind h
                        obtain ⟨y69, hy70, h⟩ := h
                        refine ⟨{ args := [.agg [.v (.int .i64 a0.fLabel.fLayer), .v (.int .i64 a0.fLabel.fAt.fX), .v (.int .i64 a0.fLabel.fAt.fY), .v (.string a0.fLabel.fName)]], o0 := [], r := .c (.v (.bool y69)), o1 := [], fl := true, σ := [], τ := [] }, hf_spec_l09Label _ _ hy70, ⟨les_cons (AV.le_refl _) (les_nil), trivial, rfl, rfl, rfl, rfl, trivial, rfl⟩, ?_⟩
                        cbv
                        refine fork (fun b74 => ?_) (fun b74 => ?_)
                        · replace h := of_br_t b74 h
                          cbv
                          injection h with h
                          subst h
                          subst hS67
                          show St.le _ _
                          exact le_sparse rfl ⟨AV.le_refl _, AV.le_refl _, trivial⟩ ⟨rfl, trivial⟩ rfl
                        · replace h := of_br_f b74 h
                          cbv
                          refine fork (fun b73 => ?_) (fun b73 => ?_)
                          · replace h := of_br_t b73 h
                            cbv
                            replace h := of_bind h
                            obtain ⟨y71, hy72, h⟩ := h
                            refine ⟨{ args := [.agg [.v (.int .i64 a0.fLabel.fLayer), .v (.int .i64 a0.fLabel.fAt.fX), .v (.int .i64 a0.fLabel.fAt.fY), .v (.string a0.fLabel.fName)]], o0 := [], r := .c (.v (.bool y71)), o1 := [], fl := true, σ := [], τ := [] }, hf_spec_l13NoLabel _ _ hy72, ⟨les_cons (AV.le_refl _) (les_nil), trivial, rfl, rfl, rfl, rfl, trivial, rfl⟩, ?_⟩
                            cbv
                            injection h with h
                            subst h
                            subst hS67
                            show St.le _ _
                            exact le_sparse rfl ⟨AV.le_refl _, AV.le_refl _, trivial⟩ ⟨rfl, trivial⟩ rfl
                          · replace h := of_br_f b73 h
                            cbv
                            injection h with h
                            subst h
                            subst hS67
                            show St.le _ _
                            exact le_sparse rfl ⟨AV.le_refl _, AV.le_refl _, trivial⟩ ⟨rfl, trivial⟩ rfl
                      · replace h := of_br_f b78 h
                        cbv
                        refine fork (fun b77 => ?_) (fun b77 => ?_)
                        · replace h := of_br_t b77 h
                          cbv
                          replace h := of_bind h
                          obtain ⟨y75, hy76, h⟩ := h
                          refine ⟨{ args := [.agg [.v (.int .i64 a0.fLabel.fLayer), .v (.int .i64 a0.fLabel.fAt.fX), .v (.int .i64 a0.fLabel.fAt.fY), .v (.string a0.fLabel.fName)]], o0 := [], r := .c (.v (.bool y75)), o1 := [], fl := true, σ := [], τ := [] }, hf_spec_l13NoLabel _ _ hy76, ⟨les_cons (AV.le_refl _) (les_nil), trivial, rfl, rfl, rfl, rfl, trivial, rfl⟩, ?_⟩
                          cbv
                          injection h with h
                          subst h
                          subst hS67
                          show St.le _ _
                          exact le_sparse rfl ⟨AV.le_refl _, AV.le_refl _, trivial⟩ ⟨rfl, trivial⟩ rfl
                        · replace h := of_br_f b77 h
                          cbv
                          injection h with h
                          subst h
                          subst hS67
                          show St.le _ _
                          exact le_sparse rfl ⟨AV.le_refl _, AV.le_refl _, trivial⟩ ⟨rfl, trivial⟩ rfl
                    · clear hy63
                      subst hS67
                      replace h := of_let h
                      obtain ⟨w68, hw68, h⟩ := h
                      have hw68 : w68 = y62 := hw68
                      subst hw68
                      cbv
                      refine fork (fun b84 => ?_) (fun b84 => ?_)
                      · replace h := of_br_t b84 h
                        cbv
                        injection h with h
                        subst h
                        refine ⟨(sparse 101 [(2, .c (.v (.bool false)))] []), ?_, ?_⟩
                        · exact le_sparse rfl ⟨AV.le_refl _, trivial⟩ trivial rfl
                        · exact ⟨AV.le_refl _, trivial, rfl⟩
                      · replace h := of_br_f b84 h
                        cbv
                        refine fork (fun b83 => ?_) (fun b83 => ?_)
                        · replace h := of_br_t b83 h
                          cbv
                          replace h := of_bind h
                          obtain ⟨y79, hy80, h⟩ := h
                          refine ⟨{ args := [.agg [.v (.int .i64 a0.fInstance.fCell), .v (.int .i64 a0.fInstance.fPlace.fOrientation), .v (.int .i64 a0.fInstance.fPlace.fX), .v (.int .i64 a0.fInstance.fPlace.fY), .v (.int .i64 a0.fInstance.fColumns), .v (.int .i64 a0.fInstance.fRows), .v (.int .i64 a0.fInstance.fStepX), .v (.int .i64 a0.fInstance.fStepY)], .c (.v (.int .i64 8))], o0 := [], r := .c (.v (.bool y79)), o1 := [], fl := true, σ := [], τ := [] }, hf_spec_l09Instance _ _ _ hy80, ⟨les_cons (AV.le_refl _) (les_cons (AV.le_refl _) (les_nil)), trivial, rfl, rfl, rfl, rfl, trivial, rfl⟩, ?_⟩
                          cbv
                          injection h with h
                          subst h
                          refine ⟨(sparse 101 [(2, .c (.v (.bool y79)))] []), ?_, ?_⟩
                          · exact le_sparse rfl ⟨AV.le_refl _, trivial⟩ trivial rfl
                          · exact ⟨AV.le_refl _, trivial, rfl⟩
                        · replace h := of_br_f b83 h
                          cbv
                          replace h := of_bind h
                          obtain ⟨y81, hy82, h⟩ := h
                          refine ⟨{ args := [.agg [.v (.int .i64 a0.fInstance.fCell), .v (.int .i64 a0.fInstance.fPlace.fOrientation), .v (.int .i64 a0.fInstance.fPlace.fX), .v (.int .i64 a0.fInstance.fPlace.fY), .v (.int .i64 a0.fInstance.fColumns), .v (.int .i64 a0.fInstance.fRows), .v (.int .i64 a0.fInstance.fStepX), .v (.int .i64 a0.fInstance.fStepY)]], o0 := [], r := .c (.v (.bool y81)), o1 := [], fl := true, σ := [], τ := [] }, hf_spec_l13NoInstance _ _ hy82, ⟨les_cons (AV.le_refl _) (les_nil), trivial, rfl, rfl, rfl, rfl, trivial, rfl⟩, ?_⟩
                          cbv
                          injection h with h
                          subst h
                          refine ⟨(sparse 101 [(2, .c (.v (.bool y81)))] []), ?_, ?_⟩
                          · exact le_sparse rfl ⟨AV.le_refl _, trivial⟩ trivial rfl
                          · exact ⟨AV.le_refl _, trivial, rfl⟩

noncomputable def L_spec_l13Transaction_x2 (a0 : List TEdit) : (Int) → Option ((Int) ⊕ ((Unit) ⊕ (Unit))) := fun x2 =>
  letO x2 fun v1 =>
  br (std.lt v1 (std.ofN (len a0)))
  (req (std.inR v1 (len a0)) <|
  (F_spec_IsValidEdit (gd a0 (std.toN v1))).bind fun y15 =>
  br (!(y15))
  (some (.inr (.inl ())))
  (some (.inl (std.add .i64 v1 1))))
  (some (.inr (.inr ())))
/-- spec.l13Transaction -/
noncomputable def F_spec_l13Transaction (a0 : List TEdit) : Option (Bool) :=
  (whileP (σ := Int) (ρ := (Unit) ⊕ (Unit)) (L_spec_l13Transaction_x2 a0) 0).bind fun y3 =>
  (match y3 with
    | .inl y3k0 => (
        some false)
    | .inr y3m0 =>
        (F_spec_l09In (std.ofN (len a0)) 1 8).bind fun y19 =>
        some y19)
theorem run_spec_l13Transaction (a0 : List TEdit) (r : Bool) (h : F_spec_l13Transaction a0 = some r) : Fun Try.prog 82 [.c (.bs (len a0) 21 (row gd (encEdit) a0))] [] (.c (.v (.bool r))) [] true := by
  refine Fun.of_wp (oneOf []) tok mixed Try.func82 (by kernel_rfl) rfl Try.ntmps82 rfl trivial (fun _ => ⟨trivial, trivial⟩) ?_
  unfold F_spec_l13Transaction at h
  unfold L_spec_l13Transaction_x2 at h
  have hf_spec_IsValidEdit := @run_spec_IsValidEdit
  have hf_spec_l09In := @run_spec_l09In
  generalize hLEN : @len = LEN at *
  generalize hGD : @gd = GD at *
  generalize hA : std = A at *
  generalize hP : Try.prog = P at *
  cbv
  replace h := of_bind h
  obtain ⟨y3, hr4, hN5⟩ := h
  refine loop_cut hr4 (fun x => (sparse 19 [(0, .c (.bs (LEN a0) 21 (row GD (encEdit) a0))), (3, .c (.v (.int .i64 x)))] [])) ?_ (fun y e s => (match y with | .inl w => e = .ret ∧ s.le (sparse 19 [(2, .c (.v (.bool false)))] []) | .inr w0 => (fun (w : Unit) => e = .exit 0 ∧ s.le (sparse 19 [(0, .c (.bs (LEN a0) 21 (row GD (encEdit) a0)))] [])) w0)) ?_ ?_
  · clear hr4 hN5
    show St.le _ _
    exact le_sparse rfl ⟨AV.le_refl _, AV.le_refl _, trivial⟩ trivial rfl
  · clear hr4 hN5
    intro x z9 h K7 hK8 hY6
    replace h := of_let h
    obtain ⟨v1, hv1, h⟩ := h
    have hv1 : v1 = x := hv1
    subst hv1
    cbv
    refine fork (fun b18 => ?_) (fun b18 => ?_)
    · replace h := of_br_t b18 h
      cbv
      replace h := of_req h
      obtain ⟨c14, h⟩ := h
      refine ⟨⟨c14, trivial⟩, ?_⟩
      replace h := of_bind h
      obtain ⟨y15, hy16, h⟩ := h
      refine ⟨{ args := [.agg [.v (.int .i64 (GD a0 (A.toN v1)).fKind), .v (.int .i64 (GD a0 (A.toN v1)).fCell), .v (.int .i64 (GD a0 (A.toN v1)).fIndex), .v (.string (GD a0 (A.toN v1)).fName), .v (.int .i64 (GD a0 (A.toN v1)).fShape.fLayer), .v (.int .i64 (GD a0 (A.toN v1)).fShape.fBox.fX0), .v (.int .i64 (GD a0 (A.toN v1)).fShape.fBox.fY0), .v (.int .i64 (GD a0 (A.toN v1)).fShape.fBox.fX1), .v (.int .i64 (GD a0 (A.toN v1)).fShape.fBox.fY1), .v (.int .i64 (GD a0 (A.toN v1)).fLabel.fLayer), .v (.int .i64 (GD a0 (A.toN v1)).fLabel.fAt.fX), .v (.int .i64 (GD a0 (A.toN v1)).fLabel.fAt.fY), .v (.string (GD a0 (A.toN v1)).fLabel.fName), .v (.int .i64 (GD a0 (A.toN v1)).fInstance.fCell), .v (.int .i64 (GD a0 (A.toN v1)).fInstance.fPlace.fOrientation), .v (.int .i64 (GD a0 (A.toN v1)).fInstance.fPlace.fX), .v (.int .i64 (GD a0 (A.toN v1)).fInstance.fPlace.fY), .v (.int .i64 (GD a0 (A.toN v1)).fInstance.fColumns), .v (.int .i64 (GD a0 (A.toN v1)).fInstance.fRows), .v (.int .i64 (GD a0 (A.toN v1)).fInstance.fStepX), .v (.int .i64 (GD a0 (A.toN v1)).fInstance.fStepY)]], o0 := [], r := .c (.v (.bool y15)), o1 := [], fl := true, σ := [], τ := [] }, hf_spec_IsValidEdit _ _ hy16, ⟨les_cons (AV.le_refl _) (les_nil), trivial, rfl, rfl, rfl, rfl, trivial, rfl⟩, ?_⟩
      cbv
      refine fork (fun b17 => ?_) (fun b17 => ?_)
      · replace h := of_br_t b17 h
        cbv
        injection h with h
        refine hY6 _ h.symm _ _ (And.intro rfl ?_) (by intro hh; cases hh)
        exact le_sparse rfl ⟨AV.le_refl _, trivial⟩ trivial rfl
      · replace h := of_br_f b17 h
        cbv
        injection h with h
        refine hK8 _ h.symm _ ?_
        exact le_sparse rfl ⟨AV.le_refl _, AV.le_refl _, trivial⟩ trivial rfl
    · replace h := of_br_f b18 h
      cbv
      injection h with h
      refine hY6 _ h.symm _ _ (And.intro rfl ?_) (by intro hh; cases hh)
      exact le_sparse rfl ⟨AV.le_refl _, trivial⟩ trivial rfl
  · clear hr4
    have h := hN5
    clear hN5
    intro e12 s13 q11 hne
    rcases y3 with y3k0 | y3m0
    · replace h := h
      obtain ⟨rfl, q11⟩ := q11
      cbv
      injection h with h
      subst h
      refine ⟨(sparse 19 [(2, .c (.v (.bool false)))] []), ?_, ?_⟩
      · refine St.le_trans q11 ?_
        exact le_sparse rfl ⟨AV.le_refl _, trivial⟩ trivial rfl
      · exact ⟨AV.le_refl _, trivial, rfl⟩
    · obtain ⟨rfl, q11⟩ := q11
      cbv
      refine ⟨_, q11, ?_⟩
      cbv
      replace h := of_bind h
      obtain ⟨y19, hy20, h⟩ := h
      refine ⟨{ args := [.c (.v (.int .i64 (A.ofN (LEN a0)))), .c (.v (.int .i64 1)), .c (.v (.int .i64 8))], o0 := [], r := .c (.v (.bool y19)), o1 := [], fl := true, σ := [], τ := [] }, hf_spec_l09In _ _ _ _ hy20, ⟨les_cons (AV.le_refl _) (les_cons (AV.le_refl _) (les_cons (AV.le_refl _) (les_nil))), trivial, rfl, rfl, rfl, rfl, trivial, rfl⟩, ?_⟩
      cbv
      injection h with h
      subst h
      refine ⟨(sparse 19 [(2, .c (.v (.bool y19)))] []), ?_, ?_⟩
      · exact le_sparse rfl ⟨AV.le_refl _, trivial⟩ trivial rfl
      · exact ⟨AV.le_refl _, trivial, rfl⟩

/-- spec.l13Byte -/
noncomputable def F_spec_l13Byte (a0 : Int) : Option (ByteArray) :=
  letO ([std.conv .u8 a0] : List Int) fun l1 =>
  some (std.ofBytes (len l1) (fun i => gd l1 (0 + i)))
theorem run_spec_l13Byte (a0 : Int) (r : ByteArray) (h : F_spec_l13Byte a0 = some r) : Fun Try.prog 69 [.c (.v (.int .i64 a0))] [] (.c (.v (.string r))) [] true := by
  refine Fun.of_wp (oneOf []) tok mixed Try.func69 (by kernel_rfl) rfl Try.ntmps69 rfl trivial (fun _ => ⟨trivial, trivial⟩) ?_
  unfold F_spec_l13Byte at h
  generalize hLEN : @len = LEN at *
  generalize hGD : @gd = GD at *
  generalize hA : std = A at *
  generalize hP : Try.prog = P at *
  cbv
  replace h := of_let h
  obtain ⟨l1, hl1, h⟩ := h
  have e2 : 1 = LEN l1 := by subst hl1 hLEN; rfl
  refine ⟨_, congrArg (fun n => AV.c (AC.os 320 0 n)) e2, _, row GD (encI .u8) l1, e2, ?_, ?_⟩
  · intro i hi j hj
    rw [← e2] at hi
    subst hl1
    subst hGD
    obtain rfl : i = 0 := by omega
    all_goals obtain rfl : j = 0 := by omega
    all_goals rfl
  cbv
  refine ⟨fun _ _ => rfl, ?_⟩
  injection h with h
  subst h
  refine ⟨(sparse 7 [(2, .c (.v (.string (A.ofBytes (LEN l1) (fun i => GD l1 (0 + i))))))] []), ?_, ?_⟩
  · exact le_sparse rfl ⟨AV.le_refl _, trivial⟩ trivial rfl
  · exact ⟨AV.le_refl _, trivial, rfl⟩

/-- spec.l13Two -/
noncomputable def F_spec_l13Two (a0 : Int) : Option (ByteArray) :=
  req (std.nneg 8) <|
  letO ([std.conv .u8 (std.shr .i64 a0 8), std.conv .u8 a0] : List Int) fun l2 =>
  some (std.ofBytes (len l2) (fun i => gd l2 (0 + i)))
theorem run_spec_l13Two (a0 : Int) (r : ByteArray) (h : F_spec_l13Two a0 = some r) : Fun Try.prog 83 [.c (.v (.int .i64 a0))] [] (.c (.v (.string r))) [] true := by
  refine Fun.of_wp (oneOf []) tok mixed Try.func83 (by kernel_rfl) rfl Try.ntmps83 rfl trivial (fun _ => ⟨trivial, trivial⟩) ?_
  unfold F_spec_l13Two at h
  generalize hLEN : @len = LEN at *
  generalize hGD : @gd = GD at *
  generalize hA : std = A at *
  generalize hP : Try.prog = P at *
  cbv
  replace h := of_req h
  obtain ⟨c1, h⟩ := h
  refine ⟨c1, ?_⟩
  replace h := of_let h
  obtain ⟨l2, hl2, h⟩ := h
  have e3 : 2 = LEN l2 := by subst hl2 hLEN; rfl
  refine ⟨_, congrArg (fun n => AV.c (AC.os 512 0 n)) e3, _, row GD (encI .u8) l2, e3, ?_, ?_⟩
  · intro i hi j hj
    rw [← e3] at hi
    subst hl2
    subst hGD
    obtain rfl | rfl : i = 0 ∨ i = 1 := by omega
    all_goals obtain rfl : j = 0 := by omega
    all_goals rfl
  cbv
  refine ⟨fun _ _ => rfl, ?_⟩
  injection h with h
  subst h
  refine ⟨(sparse 10 [(2, .c (.v (.string (A.ofBytes (LEN l2) (fun i => GD l2 (0 + i))))))] []), ?_, ?_⟩
  · exact le_sparse rfl ⟨AV.le_refl _, trivial⟩ trivial rfl
  · exact ⟨AV.le_refl _, trivial, rfl⟩

/-- spec.l13Coordinate -/
noncomputable def F_spec_l13Coordinate (a0 : Int) : Option (ByteArray) :=
  (F_spec_l13Two (std.add .i64 a0 32768)).bind fun y1 =>
  some y1
theorem run_spec_l13Coordinate (a0 : Int) (r : ByteArray) (h : F_spec_l13Coordinate a0 = some r) : Fun Try.prog 146 [.c (.v (.int .i64 a0))] [] (.c (.v (.string r))) [] true := by
  refine Fun.of_wp (oneOf []) tok mixed Try.func146 (by kernel_rfl) rfl Try.ntmps146 rfl trivial (fun _ => ⟨trivial, trivial⟩) ?_
  unfold F_spec_l13Coordinate at h
  have hf_spec_l13Two := @run_spec_l13Two
  generalize hLEN : @len = LEN at *
  generalize hGD : @gd = GD at *
  generalize hA : std = A at *
  generalize hP : Try.prog = P at *
  cbv
  replace h := of_bind h
  obtain ⟨y1, hy2, h⟩ := h
  refine ⟨{ args := [.c (.v (.int .i64 (A.add .i64 a0 32768)))], o0 := [], r := .c (.v (.string y1)), o1 := [], fl := true, σ := [], τ := [] }, hf_spec_l13Two _ _ hy2, ⟨les_cons (AV.le_refl _) (les_nil), trivial, rfl, rfl, rfl, rfl, trivial, rfl⟩, ?_⟩
  cbv
  injection h with h
  subst h
  refine ⟨(sparse 6 [(2, .c (.v (.string y1)))] []), ?_, ?_⟩
  · exact le_sparse rfl ⟨AV.le_refl _, trivial⟩ trivial rfl
  · exact ⟨AV.le_refl _, trivial, rfl⟩

/-- spec.l13ShapeBytes -/
noncomputable def F_spec_l13ShapeBytes (a0 : TShape) : Option (ByteArray) :=
  (F_spec_l13Byte a0.fLayer).bind fun y1 =>
  (F_spec_l13Coordinate a0.fBox.fX0).bind fun y3 =>
  req (std.room (std.nadd (std.slen y1) (std.slen y3)) 1) <|
  (F_spec_l13Coordinate a0.fBox.fY0).bind fun y6 =>
  req (std.room (std.nadd (std.slen (std.scat y1 y3)) (std.slen y6)) 1) <|
  (F_spec_l13Coordinate a0.fBox.fX1).bind fun y9 =>
  req (std.room (std.nadd (std.slen (std.scat (std.scat y1 y3) y6)) (std.slen y9)) 1) <|
  (F_spec_l13Coordinate a0.fBox.fY1).bind fun y12 =>
  req (std.room (std.nadd (std.slen (std.scat (std.scat (std.scat y1 y3) y6) y9)) (std.slen y12)) 1) <|
  some (std.scat (std.scat (std.scat (std.scat y1 y3) y6) y9) y12)
theorem run_spec_l13ShapeBytes (a0 : TShape) (r : ByteArray) (h : F_spec_l13ShapeBytes a0 = some r) : Fun Try.prog 70 [.agg [.v (.int .i64 a0.fLayer), .v (.int .i64 a0.fBox.fX0), .v (.int .i64 a0.fBox.fY0), .v (.int .i64 a0.fBox.fX1), .v (.int .i64 a0.fBox.fY1)]] [] (.c (.v (.string r))) [] true := by
  refine Fun.of_wp (oneOf []) tok mixed Try.func70 (by kernel_rfl) rfl Try.ntmps70 rfl trivial (fun _ => ⟨trivial, trivial⟩) ?_
  unfold F_spec_l13ShapeBytes at h
  have hf_spec_l13Byte := @run_spec_l13Byte
  have hf_spec_l13Coordinate := @run_spec_l13Coordinate
  generalize hLEN : @len = LEN at *
  generalize hGD : @gd = GD at *
  generalize hA : std = A at *
  generalize hP : Try.prog = P at *
  cbv
  replace h := of_bind h
  obtain ⟨y1, hy2, h⟩ := h
  refine ⟨{ args := [.c (.v (.int .i64 a0.fLayer))], o0 := [], r := .c (.v (.string y1)), o1 := [], fl := true, σ := [], τ := [] }, hf_spec_l13Byte _ _ hy2, ⟨les_cons (AV.le_refl _) (les_nil), trivial, rfl, rfl, rfl, rfl, trivial, rfl⟩, ?_⟩
  cbv
  replace h := of_bind h
  obtain ⟨y3, hy4, h⟩ := h
  refine ⟨{ args := [.c (.v (.int .i64 a0.fBox.fX0))], o0 := [], r := .c (.v (.string y3)), o1 := [], fl := true, σ := [], τ := [] }, hf_spec_l13Coordinate _ _ hy4, ⟨les_cons (AV.le_refl _) (les_nil), trivial, rfl, rfl, rfl, rfl, trivial, rfl⟩, ?_⟩
  cbv
  replace h := of_req h
  obtain ⟨c5, h⟩ := h
  refine ⟨c5, ?_⟩
  replace h := of_bind h
  obtain ⟨y6, hy7, h⟩ := h
  refine ⟨{ args := [.c (.v (.int .i64 a0.fBox.fY0))], o0 := [], r := .c (.v (.string y6)), o1 := [], fl := true, σ := [], τ := [] }, hf_spec_l13Coordinate _ _ hy7, ⟨les_cons (AV.le_refl _) (les_nil), trivial, rfl, rfl, rfl, rfl, trivial, rfl⟩, ?_⟩
  cbv
  replace h := of_req h
  obtain ⟨c8, h⟩ := h
  refine ⟨c8, ?_⟩
  replace h := of_bind h
  obtain ⟨y9, hy10, h⟩ := h
  refine ⟨{ args := [.c (.v (.int .i64 a0.fBox.fX1))], o0 := [], r := .c (.v (.string y9)), o1 := [], fl := true, σ := [], τ := [] }, hf_spec_l13Coordinate _ _ hy10, ⟨les_cons (AV.le_refl _) (les_nil), trivial, rfl, rfl, rfl, rfl, trivial, rfl⟩, ?_⟩
  cbv
  replace h := of_req h
  obtain ⟨c11, h⟩ := h
  refine ⟨c11, ?_⟩
  replace h := of_bind h
  obtain ⟨y12, hy13, h⟩ := h
  refine ⟨{ args := [.c (.v (.int .i64 a0.fBox.fY1))], o0 := [], r := .c (.v (.string y12)), o1 := [], fl := true, σ := [], τ := [] }, hf_spec_l13Coordinate _ _ hy13, ⟨les_cons (AV.le_refl _) (les_nil), trivial, rfl, rfl, rfl, rfl, trivial, rfl⟩, ?_⟩
  cbv
  replace h := of_req h
  obtain ⟨c14, h⟩ := h
  refine ⟨c14, ?_⟩
  injection h with h
  subst h
  refine ⟨(sparse 26 [(2, .c (.v (.string (A.scat (A.scat (A.scat (A.scat y1 y3) y6) y9) y12))))] []), ?_, ?_⟩
  · exact le_sparse rfl ⟨AV.le_refl _, trivial⟩ trivial rfl
  · exact ⟨AV.le_refl _, trivial, rfl⟩

/-- spec.l13Name -/
noncomputable def F_spec_l13Name (a0 : ByteArray) : Option (ByteArray) :=
  (F_spec_l13Byte (std.ofN (std.slen a0))).bind fun y1 =>
  req (std.room (std.nadd (std.slen y1) (std.slen a0)) 1) <|
  some (std.scat y1 a0)
theorem run_spec_l13Name (a0 : ByteArray) (r : ByteArray) (h : F_spec_l13Name a0 = some r) : Fun Try.prog 73 [.c (.v (.string a0))] [] (.c (.v (.string r))) [] true := by
  refine Fun.of_wp (oneOf []) tok mixed Try.func73 (by kernel_rfl) rfl Try.ntmps73 rfl trivial (fun _ => ⟨trivial, trivial⟩) ?_
  unfold F_spec_l13Name at h
  have hf_spec_l13Byte := @run_spec_l13Byte
  generalize hLEN : @len = LEN at *
  generalize hGD : @gd = GD at *
  generalize hA : std = A at *
  generalize hP : Try.prog = P at *
  cbv
  replace h := of_bind h
  obtain ⟨y1, hy2, h⟩ := h
  refine ⟨{ args := [.c (.v (.int .i64 (A.ofN (A.slen a0))))], o0 := [], r := .c (.v (.string y1)), o1 := [], fl := true, σ := [], τ := [] }, hf_spec_l13Byte _ _ hy2, ⟨les_cons (AV.le_refl _) (les_nil), trivial, rfl, rfl, rfl, rfl, trivial, rfl⟩, ?_⟩
  cbv
  replace h := of_req h
  obtain ⟨c3, h⟩ := h
  refine ⟨c3, ?_⟩
  injection h with h
  subst h
  refine ⟨(sparse 8 [(2, .c (.v (.string (A.scat y1 a0))))] []), ?_, ?_⟩
  · exact le_sparse rfl ⟨AV.le_refl _, trivial⟩ trivial rfl
  · exact ⟨AV.le_refl _, trivial, rfl⟩
end Go.Proofs.Ytnmfighfidaglaa.AM
