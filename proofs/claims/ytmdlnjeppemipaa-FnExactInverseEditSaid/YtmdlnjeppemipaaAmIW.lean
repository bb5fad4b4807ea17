/-
  What the functions that the law reaches compute, and that they do. No condition.
-/
import Derived.Test.YtmdlnjeppemipaaAmIV
namespace Go.Proofs.Ytmdlnjeppemipaa.AM
open Go Go.Proofs Go.RowKit
set_option linter.unusedVariables false
set_option linter.unusedSimpArgs false
set_option maxRecDepth 100000

noncomputable def L_spec_l09Cell_x52 (a0 : TCell) (a1 : Int) : (Int) → Option ((Int) ⊕ ((Bool) ⊕ (Unit))) := fun x52 =>
 letO x52 fun v51 =>
 br (std.lt v51 (std.ofN (len a0.fInstances)))
 (req (std.inR v51 (len a0.fInstances)) <|
 (F_spec_l09Instance (gd a0.fInstances (std.toN v51)) a1).bind fun y65 =>
 br (!(y65))
 (some (.inr (.inl false)))
 (some (.inl (std.add .i64 v51 1))))
 (some (.inr (.inr ())))
noncomputable def L_spec_l09Cell_x33 (a0 : TCell) : (Int) → Option ((Int) ⊕ ((Bool) ⊕ (Unit))) := fun x33 =>
 letO x33 fun v32 =>
 br (std.lt v32 (std.ofN (len a0.fLabels)))
 (req (std.inR v32 (len a0.fLabels)) <|
 (F_spec_l09Label (gd a0.fLabels (std.toN v32))).bind fun y46 =>
 br (!(y46))
 (some (.inr (.inl false)))
 (some (.inl (std.add .i64 v32 1))))
 (some (.inr (.inr ())))
noncomputable def L_spec_l09Cell_x14 (a0 : TCell) : (Int) → Option ((Int) ⊕ ((Bool) ⊕ (Unit))) := fun x14 =>
 letO x14 fun v13 =>
 br (std.lt v13 (std.ofN (len a0.fShapes)))
 (req (std.inR v13 (len a0.fShapes)) <|
 (F_spec_l09Shape (gd a0.fShapes (std.toN v13))).bind fun y27 =>
 br (!(y27))
 (some (.inr (.inl false)))
 (some (.inl (std.add .i64 v13 1))))
 (some (.inr (.inr ())))
/-- spec.l09Cell -/
noncomputable def F_spec_l09Cell (a0 : TCell) (a1 : Int) : Option (Bool) :=
 ((
    (F_spec_IsName a0.fName).bind fun y8 =>
    br (!(y8))
    (some true)
    (br (std.lt 24 (std.ofN (len a0.fShapes)))
    (some true)
    (br (std.lt 8 (std.ofN (len a0.fLabels)))
    (some true)
    (some (std.lt 8 (std.ofN (len a0.fInstances))))))
  ) : Option (Bool)).bind fun y1 =>
 letO y1 fun w7 =>
 br w7
 (some false)
 ((whileP (σ := Int) (ρ := (Bool) ⊕ (Unit)) (L_spec_l09Cell_x14 a0) 0).bind fun y15 =>
 (match y15 with
  | .inl y15k0 => (
    letO y15k0 fun w31 =>
    some w31)
  | .inr y15m0 =>
    (whileP (σ := Int) (ρ := (Bool) ⊕ (Unit)) (L_spec_l09Cell_x33 a0) 0).bind fun y34 =>
    (match y34 with
     | .inl y34k0 => (
       letO y34k0 fun w50 =>
       some w50)
     | .inr y34m0 =>
       (whileP (σ := Int) (ρ := (Bool) ⊕ (Unit)) (L_spec_l09Cell_x52 a0 a1) 0).bind fun y53 =>
       (match y53 with
        | .inl y53k0 => (
          letO y53k0 fun w69 =>
          some w69)
        | .inr y53m0 =>
          some true))))
theorem run_spec_l09Cell (a0 : TCell) (a1 : Int) (r : Bool) (h : F_spec_l09Cell a0 a1 = some r) : Fun Try.prog 131 [.agg [.v (.string a0.fName), .bs (len a0.fShapes) 5 (row gd (encShape) a0.fShapes), .bs (len a0.fLabels) 4 (row gd (encLabel) a0.fLabels), .bs (len a0.fInstances) 8 (row gd (encInstance) a0.fInstances)], .c (.v (.int .i64 a1))] [] (.c (.v (.bool r))) [] true := by
 refine Fun.of_wp (oneOf [1]) tok mixed Try.func131 (by kernel_rfl) rfl Try.ntmps131 rfl trivial (fun _ => ⟨trivial, trivial⟩) ?_
 unfold F_spec_l09Cell at h
 unfold L_spec_l09Cell_x14 at h
 unfold L_spec_l09Cell_x33 at h
 unfold L_spec_l09Cell_x52 at h
 have hf_spec_IsName := @run_spec_IsName
 have hf_spec_l09Instance := @run_spec_l09Instance
 have hf_spec_l09Label := @run_spec_l09Label
 have hf_spec_l09Shape := @run_spec_l09Shape
 generalize hLEN : @len = LEN at *
 generalize hGD : @gd = GD at *
 generalize hA : std = A at *
 generalize hP : Try.prog = P at *
 cbv
 replace h := of_bind h
 obtain ⟨y1, hy2, h⟩ := h
 obtain ⟨S5, hS6⟩ : ∃ S, S = (sparse 73 [(1, .c (.v (.int .i64 a1))), (2, .c (.ptr 128 0)), (29, .c (.v (.bool y1)))] [(128, .var [.v (.string a0.fName), .bs (LEN a0.fShapes) 5 (row GD (encShape) a0.fShapes), .bs (LEN a0.fLabels) 4 (row GD (encLabel) a0.fLabels), .bs (LEN a0.fInstances) 8 (row GD (encInstance) a0.fInstances)])]) := ⟨_, rfl⟩
 refine ⟨S5, ?_, ?_⟩
 ·clear h
  have h := hy2
  clear hy2
  cbv
  replace h := of_bind h
  obtain ⟨y8, hy9, h⟩ := h
  refine ⟨{ args := [.c (.v (.string a0.fName))], o0 := [], r := .c (.v (.bool y8)), o1 := [], fl := true, σ := [], τ := [] }, hf_spec_IsName _ _ hy9, ⟨les_cons (lR _) (les_nil), trivial, rfl, rfl, rfl, rfl, trivial, rfl⟩, ?_⟩
  cbv
  refine fork (fun b12 => ?_) (fun b12 => ?_)
  ·replace h := of_br_t b12 h
   cbv
   injection h with h
   subst h
   subst hS6
   show St.le _ _
   exact le_sparse rfl ⟨lR _, lR _, lR _, trivial⟩ ⟨rfl, trivial⟩ rfl
  ·replace h := of_br_f b12 h
   cbv
   refine fork (fun b11 => ?_) (fun b11 => ?_)
   ·replace h := of_br_t b11 h
    cbv
    injection h with h
    subst h
    subst hS6
    show St.le _ _
    exact le_sparse rfl ⟨lR _, lR _, lR _, trivial⟩ ⟨rfl, trivial⟩ rfl
   ·replace h := of_br_f b11 h
    cbv
    refine fork (fun b10 => ?_) (fun b10 => ?_)
    ·replace h := of_br_t b10 h
     cbv
     injection h with h
     subst h
     subst hS6
     show St.le _ _
     exact le_sparse rfl ⟨lR _, lR _, lR _, trivial⟩ ⟨rfl, trivial⟩ rfl
    ·replace h := of_br_f b10 h
     cbv
     injection h with h
     subst h
     subst hS6
     show St.le _ _
     exact le_sparse rfl ⟨lR _, lR _, lR _, trivial⟩ ⟨rfl, trivial⟩ rfl
 ·clear hy2
  subst hS6
  replace h := of_let h
  obtain ⟨w7, hw7, h⟩ := h
  have hw7 : w7 = y1 := hw7
  subst hw7
  cbv
  refine fork (fun b70 => ?_) (fun b70 => ?_)
  ·replace h := of_br_t b70 h
   cbv
   injection h with h
   subst h
   refine ⟨(sparse 73 [(4, .c (.v (.bool false)))] []), ?_, ?_⟩
   ·exact le_sparse rfl ⟨lR _, trivial⟩ trivial rfl
   ·exact ⟨lR _, trivial, rfl⟩
  ·replace h := of_br_f b70 h
   cbv
   replace h := of_bind h
   obtain ⟨y15, hr16, hN17⟩ := h
   refine loop_cut hr16 (fun x => (sparse 73 [(1, .c (.v (.int .i64 a1))), (2, .c (.ptr 128 0)), (5, .c (.v (.int .i64 x)))] [(128, .var [.v (.string a0.fName), .bs (LEN a0.fShapes) 5 (row GD (encShape) a0.fShapes), .bs (LEN a0.fLabels) 4 (row GD (encLabel) a0.fLabels), .bs (LEN a0.fInstances) 8 (row GD (encInstance) a0.fInstances)])])) ?_ (fun y e s => (match y with | .inl w => e = .ret ∧ s.le (sparse 73 [(4, .c (.v (.bool w)))] []) | .inr w0 => (fun (w : Unit) => e = .exit 0 ∧ s.le (sparse 73 [(1, .c (.v (.int .i64 a1))), (2, .c (.ptr 128 0))] [(128, .var [.v (.string a0.fName), .bs (LEN a0.fShapes) 5 (row GD (encShape) a0.fShapes), .bs (LEN a0.fLabels) 4 (row GD (encLabel) a0.fLabels), .bs (LEN a0.fInstances) 8 (row GD (encInstance) a0.fInstances)])])) w0)) ?_ ?_
   ·clear hr16 hN17
    show St.le _ _
    exact le_sparse rfl ⟨lR _, lR _, lR _, trivial⟩ ⟨rfl, trivial⟩ rfl
   ·clear hr16 hN17
    intro x z21 h K19 hK20 hY18
    replace h := of_let h
    obtain ⟨v13, hv13, h⟩ := h
    have hv13 : v13 = x := hv13
    subst hv13
    cbv
    refine fork (fun b30 => ?_) (fun b30 => ?_)
    ·replace h := of_br_t b30 h
     cbv
     replace h := of_req h
     obtain ⟨c26, h⟩ := h
     refine ⟨⟨c26, trivial⟩, ?_⟩
     replace h := of_bind h
     obtain ⟨y27, hy28, h⟩ := h
     refine ⟨{ args := [.agg [.v (.int .i64 (GD a0.fShapes (A.toN v13)).fLayer), .v (.int .i64 (GD a0.fShapes (A.toN v13)).fBox.fX0), .v (.int .i64 (GD a0.fShapes (A.toN v13)).fBox.fY0), .v (.int .i64 (GD a0.fShapes (A.toN v13)).fBox.fX1), .v (.int .i64 (GD a0.fShapes (A.toN v13)).fBox.fY1)]], o0 := [], r := .c (.v (.bool y27)), o1 := [], fl := true, σ := [], τ := [] }, hf_spec_l09Shape _ _ hy28, ⟨les_cons (lR _) (les_nil), trivial, rfl, rfl, rfl, rfl, trivial, rfl⟩, ?_⟩
     cbv
     refine fork (fun b29 => ?_) (fun b29 => ?_)
     ·replace h := of_br_t b29 h
      cbv
      injection h with h
      refine hY18 _ h.symm _ _ (And.intro rfl ?_) (by intro hh; cases hh)
      exact le_sparse rfl ⟨lR _, trivial⟩ trivial rfl
     ·replace h := of_br_f b29 h
      cbv
      injection h with h
      refine hK20 _ h.symm _ ?_
      exact le_sparse rfl ⟨lR _, lR _, lR _, trivial⟩ ⟨rfl, trivial⟩ rfl
    ·replace h := of_br_f b30 h
     cbv
     injection h with h
     refine hY18 _ h.symm _ _ (And.intro rfl ?_) (by intro hh; cases hh)
     exact le_sparse rfl ⟨lR _, lR _, trivial⟩ ⟨rfl, trivial⟩ rfl
   ·clear hr16
    have h := hN17
    clear hN17
    intro e24 s25 q23 hne
    rcases y15 with y15k0 | y15m0
    ·replace h := h
     obtain ⟨rfl, q23⟩ := q23
     replace h := of_let h
     obtain ⟨w31, hw31, h⟩ := h
     have hw31 : w31 = y15k0 := hw31
     subst hw31
     cbv
     injection h with h
     subst h
     refine ⟨(sparse 73 [(4, .c (.v (.bool w31)))] []), ?_, ?_⟩
     ·refine St.le_trans q23 ?_
      exact le_sparse rfl ⟨lR _, trivial⟩ trivial rfl
     ·exact ⟨lR _, trivial, rfl⟩
    ·obtain ⟨rfl, q23⟩ := q23
     cbv
     refine ⟨_, q23, ?_⟩
     cbv
     replace h := of_bind h
     obtain ⟨y34, hr35, hN36⟩ := h
     refine loop_cut hr35 (fun x => (sparse 73 [(1, .c (.v (.int .i64 a1))), (2, .c (.ptr 128 0)), (6, .c (.v (.int .i64 x)))] [(128, .var [.v (.string a0.fName), .bs (LEN a0.fShapes) 5 (row GD (encShape) a0.fShapes), .bs (LEN a0.fLabels) 4 (row GD (encLabel) a0.fLabels), .bs (LEN a0.fInstances) 8 (row GD (encInstance) a0.fInstances)])])) ?_ (fun y e s => (match y with | .inl w => e = .ret ∧ s.le (sparse 73 [(4, .c (.v (.bool w)))] []) | .inr w0 => (fun (w : Unit) => e = .exit 2 ∧ s.le (sparse 73 [(1, .c (.v (.int .i64 a1))), (2, .c (.ptr 128 0))] [(128, .var [.v (.string a0.fName), .bs (LEN a0.fShapes) 5 (row GD (encShape) a0.fShapes), .bs (LEN a0.fLabels) 4 (row GD (encLabel) a0.fLabels), .bs (LEN a0.fInstances) 8 (row GD (encInstance) a0.fInstances)])])) w0)) ?_ ?_
     ·clear hr35 hN36
      show St.le _ _
      exact le_sparse rfl ⟨lR _, lR _, lR _, trivial⟩ ⟨rfl, trivial⟩ rfl
     ·clear hr35 hN36
      intro x z40 h K38 hK39 hY37
      replace h := of_let h
      obtain ⟨v32, hv32, h⟩ := h
      have hv32 : v32 = x := hv32
      subst hv32
      cbv
      refine fork (fun b49 => ?_) (fun b49 => ?_)
      ·replace h := of_br_t b49 h
       cbv
       replace h := of_req h
       obtain ⟨c45, h⟩ := h
       refine ⟨⟨c45, trivial⟩, ?_⟩
       replace h := of_bind h
       obtain ⟨y46, hy47, h⟩ := h
       refine ⟨{ args := [.agg [.v (.int .i64 (GD a0.fLabels (A.toN v32)).fLayer), .v (.int .i64 (GD a0.fLabels (A.toN v32)).fAt.fX), .v (.int .i64 (GD a0.fLabels (A.toN v32)).fAt.fY), .v (.string (GD a0.fLabels (A.toN v32)).fName)]], o0 := [], r := .c (.v (.bool y46)), o1 := [], fl := true, σ := [], τ := [] }, hf_spec_l09Label _ _ hy47, ⟨les_cons (lR _) (les_nil), trivial, rfl, rfl, rfl, rfl, trivial, rfl⟩, ?_⟩
       cbv
       refine fork (fun b48 => ?_) (fun b48 => ?_)
       ·replace h := of_br_t b48 h
        cbv
        injection h with h
        refine hY37 _ h.symm _ _ (And.intro rfl ?_) (by intro hh; cases hh)
        exact le_sparse rfl ⟨lR _, trivial⟩ trivial rfl
       ·replace h := of_br_f b48 h
        cbv
        injection h with h
        refine hK39 _ h.symm _ ?_
        exact le_sparse rfl ⟨lR _, lR _, lR _, trivial⟩ ⟨rfl, trivial⟩ rfl
      ·replace h := of_br_f b49 h
       cbv
       injection h with h
       refine hY37 _ h.symm _ _ (And.intro rfl ?_) (by intro hh; cases hh)
       exact le_sparse rfl ⟨lR _, lR _, trivial⟩ ⟨rfl, trivial⟩ rfl
     ·clear hr35
      have h := hN36
      clear hN36
      intro e43 s44 q42 hne
      rcases y34 with y34k0 | y34m0
      ·replace h := h
       obtain ⟨rfl, q42⟩ := q42
       replace h := of_let h
       obtain ⟨w50, hw50, h⟩ := h
       have hw50 : w50 = y34k0 := hw50
       subst hw50
       cbv
       injection h with h
       subst h
       refine ⟨(sparse 73 [(4, .c (.v (.bool w50)))] []), ?_, ?_⟩
       ·refine St.le_trans q42 ?_
        exact le_sparse rfl ⟨lR _, trivial⟩ trivial rfl
       ·exact ⟨lR _, trivial, rfl⟩
      ·obtain ⟨rfl, q42⟩ := q42
       cbv
       refine ⟨_, q42, ?_⟩
       cbv
       replace h := of_bind h
       obtain ⟨y53, hr54, hN55⟩ := h
       refine loop_cut hr54 (fun x => (sparse 73 [(1, .c (.v (.int .i64 a1))), (2, .c (.ptr 128 0)), (7, .c (.v (.int .i64 x)))] [(128, .var [.v (.string a0.fName), .bs (LEN a0.fShapes) 5 (row GD (encShape) a0.fShapes), .bs (LEN a0.fLabels) 4 (row GD (encLabel) a0.fLabels), .bs (LEN a0.fInstances) 8 (row GD (encInstance) a0.fInstances)])])) ?_ (fun y e s => (match y with | .inl w => e = .ret ∧ s.le (sparse 73 [(4, .c (.v (.bool w)))] []) | .inr w0 => (fun (w : Unit) => e = .exit 4 ∧ s.le (sparse 73 [] [])) w0)) ?_ ?_
       ·clear hr54 hN55
        show St.le _ _
        exact le_sparse rfl ⟨lR _, lR _, lR _, trivial⟩ ⟨rfl, trivial⟩ rfl
       ·clear hr54 hN55
        intro x z59 h K57 hK58 hY56
        replace h := of_let h
        obtain ⟨v51, hv51, h⟩ := h
        have hv51 : v51 = x := hv51
        subst hv51
        cbv
        refine fork (fun b68 => ?_) (fun b68 => ?_)
        ·replace h := of_br_t b68 h
         cbv
         replace h := of_req h
         obtain ⟨c64, h⟩ := h
         refine ⟨⟨c64, trivial⟩, ?_⟩
         replace h := of_bind h
         obtain ⟨y65, hy66, h⟩ := h
         refine ⟨{ args := [.agg [.v (.int .i64 (GD a0.fInstances (A.toN v51)).fCell), .v (.int .i64 (GD a0.fInstances (A.toN v51)).fPlace.fOrientation), .v (.int .i64 (GD a0.fInstances (A.toN v51)).fPlace.fX), .v (.int .i64 (GD a0.fInstances (A.toN v51)).fPlace.fY), .v (.int .i64 (GD a0.fInstances (A.toN v51)).fColumns), .v (.int .i64 (GD a0.fInstances (A.toN v51)).fRows), .v (.int .i64 (GD a0.fInstances (A.toN v51)).fStepX), .v (.int .i64 (GD a0.fInstances (A.toN v51)).fStepY)], .c (.v (.int .i64 a1))], o0 := [], r := .c (.v (.bool y65)), o1 := [], fl := true, σ := [], τ := [] }, hf_spec_l09Instance _ _ _ hy66, ⟨les_cons (lR _) (les_cons (lR _) (les_nil)), trivial, rfl, rfl, rfl, rfl, trivial, rfl⟩, ?_⟩
         cbv
         refine fork (fun b67 => ?_) (fun b67 => ?_)
         ·replace h := of_br_t b67 h
          cbv
          injection h with h
          refine hY56 _ h.symm _ _ (And.intro rfl ?_) (by intro hh; cases hh)
          exact le_sparse rfl ⟨lR _, trivial⟩ trivial rfl
         ·replace h := of_br_f b67 h
          cbv
          injection h with h
          refine hK58 _ h.symm _ ?_
          exact le_sparse rfl ⟨lR _, lR _, lR _, trivial⟩ ⟨rfl, trivial⟩ rfl
        ·replace h := of_br_f b68 h
         cbv
         injection h with h
         refine hY56 _ h.symm _ _ (And.intro rfl ?_) (by intro hh; cases hh)
         exact le_sparse rfl trivial trivial rfl
       ·clear hr54
        have h := hN55
        clear hN55
        intro e62 s63 q61 hne
        rcases y53 with y53k0 | y53m0
        ·replace h := h
         obtain ⟨rfl, q61⟩ := q61
         replace h := of_let h
         obtain ⟨w69, hw69, h⟩ := h
         have hw69 : w69 = y53k0 := hw69
         subst hw69
         cbv
         injection h with h
         subst h
         refine ⟨(sparse 73 [(4, .c (.v (.bool w69)))] []), ?_, ?_⟩
         ·refine St.le_trans q61 ?_
          exact le_sparse rfl ⟨lR _, trivial⟩ trivial rfl
         ·exact ⟨lR _, trivial, rfl⟩
        ·obtain ⟨rfl, q61⟩ := q61
         cbv
         refine ⟨_, q61, ?_⟩
         cbv
         injection h with h
         subst h
         refine ⟨(sparse 73 [(4, .c (.v (.bool true)))] []), ?_, ?_⟩
         ·exact le_sparse rfl ⟨lR _, trivial⟩ trivial rfl
         ·exact ⟨lR _, trivial, rfl⟩

noncomputable def L_spec_IsValidLibrary_x26 (a0 : TLibrary) (v9 : Int) : (Int) → Option ((Int) ⊕ ((Bool) ⊕ (Unit))) := fun x26 =>
 letO x26 fun v25 =>
 br (std.lt v25 v9)
 (req (std.inR v25 (len a0.fCells)) <|
 req (std.inR v9 (len a0.fCells)) <|
 br (std.seq (gd a0.fCells (std.toN v25)).fName (gd a0.fCells (std.toN v9)).fName)
 (some (.inr (.inl false)))
 (some (.inl (std.add .i64 v25 1))))
 (some (.inr (.inr ())))
noncomputable def L_spec_IsValidLibrary_x10 (a0 : TLibrary) : (Int) → Option ((Int) ⊕ ((Bool) ⊕ (Unit))) := fun x10 =>
 letO x10 fun v9 =>
 br (std.lt v9 (std.ofN (len a0.fCells)))
 (req (std.inR v9 (len a0.fCells)) <|
 (F_spec_l09Cell (gd a0.fCells (std.toN v9)) v9).bind fun y23 =>
 br (!(y23))
 (some (.inr (.inl false)))
 ((whileP (σ := Int) (ρ := (Bool) ⊕ (Unit)) (L_spec_IsValidLibrary_x26 a0 v9) 0).bind fun y27 =>
 (match y27 with
  | .inl y27k0 => (
    letO y27k0 fun w42 =>
    some (.inr (.inl w42)))
  | .inr y27m0 =>
    some (.inl (std.add .i64 v9 1)))))
 (some (.inr (.inr ())))
/-- spec.IsValidLibrary -/
noncomputable def F_spec_IsValidLibrary (a0 : TLibrary) : Option (Bool) :=
 ((
    br (std.lt (std.ofN (len a0.fCells)) 1)
    (some true)
    (some (std.lt 8 (std.ofN (len a0.fCells))))
  ) : Option (Bool)).bind fun y1 =>
 letO y1 fun w7 =>
 br w7
 (some false)
 ((whileP (σ := Int) (ρ := (Bool) ⊕ (Unit)) (L_spec_IsValidLibrary_x10 a0) 0).bind fun y11 =>
 (match y11 with
  | .inl y11k0 => (
    letO y11k0 fun w45 =>
    some w45)
  | .inr y11m0 =>
    some true))
theorem run_spec_IsValidLibrary (a0 : TLibrary) (r : Bool) (h : F_spec_IsValidLibrary a0 = some r) : Fun Try.prog 83 [.agg [.bs (len a0.fCells) 4 (row gd (encCell len gd) a0.fCells)]] [] (.c (.v (.bool r))) [] true := by
 refine Fun.of_wp (oneOf [1]) tok mixed Try.func83 (by kernel_rfl) rfl Try.ntmps83 rfl trivial (fun _ => ⟨trivial, trivial⟩) ?_
 unfold F_spec_IsValidLibrary at h
 unfold L_spec_IsValidLibrary_x10 at h
 unfold L_spec_IsValidLibrary_x26 at h
 have hf_spec_l09Cell := @run_spec_l09Cell
 generalize hLEN : @len = LEN at *
 generalize hGD : @gd = GD at *
 generalize hA : std = A at *
 generalize hP : Try.prog = P at *
 cbv
 replace h := of_bind h
 obtain ⟨y1, hy2, h⟩ := h
 obtain ⟨S5, hS6⟩ : ∃ S, S = (sparse 48 [(1, .c (.ptr 64 0)), (14, .c (.v (.bool y1)))] [(64, .var [.bs (LEN a0.fCells) 4 (row GD (encCell LEN GD) a0.fCells)])]) := ⟨_, rfl⟩
 refine ⟨S5, ?_, ?_⟩
 ·clear h
  have h := hy2
  clear hy2
  cbv
  refine fork (fun b8 => ?_) (fun b8 => ?_)
  ·replace h := of_br_t b8 h
   cbv
   injection h with h
   subst h
   subst hS6
   show St.le _ _
   exact le_sparse rfl ⟨lR _, lR _, trivial⟩ ⟨rfl, trivial⟩ rfl
  ·replace h := of_br_f b8 h
   cbv
   injection h with h
   subst h
   subst hS6
   show St.le _ _
   exact le_sparse rfl ⟨lR _, lR _, trivial⟩ ⟨rfl, trivial⟩ rfl
 ·clear hy2
  subst hS6
  replace h := of_let h
  obtain ⟨w7, hw7, h⟩ := h
  have hw7 : w7 = y1 := hw7
  subst hw7
  cbv
  refine fork (fun b46 => ?_) (fun b46 => ?_)
  ·replace h := of_br_t b46 h
   cbv
   injection h with h
   subst h
   refine ⟨(sparse 48 [(2, .c (.v (.bool false)))] []), ?_, ?_⟩
   ·exact le_sparse rfl ⟨lR _, trivial⟩ trivial rfl
   ·exact ⟨lR _, trivial, rfl⟩
  ·replace h := of_br_f b46 h
   cbv
   replace h := of_bind h
   obtain ⟨y11, hr12, hN13⟩ := h
   refine loop_cut hr12 (fun x => (sparse 48 [(1, .c (.ptr 64 0)), (3, .c (.v (.int .i64 x)))] [(64, .var [.bs (LEN a0.fCells) 4 (row GD (encCell LEN GD) a0.fCells)])])) ?_ (fun y e s => (match y with | .inl w => e = .ret ∧ s.le (sparse 48 [(2, .c (.v (.bool w)))] []) | .inr w0 => (fun (w : Unit) => e = .exit 0 ∧ s.le (sparse 48 [] [])) w0)) ?_ ?_
   ·clear hr12 hN13
    show St.le _ _
    exact le_sparse rfl ⟨lR _, lR _, trivial⟩ ⟨rfl, trivial⟩ rfl
   ·clear hr12 hN13
    intro x z17 h K15 hK16 hY14
    replace h := of_let h
    obtain ⟨v9, hv9, h⟩ := h
    have hv9 : v9 = x := hv9
    subst hv9
    cbv
    refine fork (fun b44 => ?_) (fun b44 => ?_)
    ·replace h := of_br_t b44 h
     cbv
     replace h := of_req h
     obtain ⟨c22, h⟩ := h
     refine ⟨⟨c22, trivial⟩, ?_⟩
     replace h := of_bind h
     obtain ⟨y23, hy24, h⟩ := h
     refine ⟨{ args := [.agg [.v (.string (GD a0.fCells (A.toN v9)).fName), .bs (LEN (GD a0.fCells (A.toN v9)).fShapes) 5 (row GD (encShape) (GD a0.fCells (A.toN v9)).fShapes), .bs (LEN (GD a0.fCells (A.toN v9)).fLabels) 4 (row GD (encLabel) (GD a0.fCells (A.toN v9)).fLabels), .bs (LEN (GD a0.fCells (A.toN v9)).fInstances) 8 (row GD (encInstance) (GD a0.fCells (A.toN v9)).fInstances)], .c (.v (.int .i64 v9))], o0 := [], r := .c (.v (.bool y23)), o1 := [], fl := true, σ := [], τ := [] }, hf_spec_l09Cell _ _ _ hy24, ⟨les_cons (lR _) (les_cons (lR _) (les_nil)), trivial, rfl, rfl, rfl, rfl, trivial, rfl⟩, ?_⟩
     cbv
     refine fork (fun b43 => ?_) (fun b43 => ?_)
     ·replace h := of_br_t b43 h
      cbv
      injection h with h
      refine hY14 _ h.symm _ _ (And.intro rfl ?_) (by intro hh; cases hh)
      exact le_sparse rfl ⟨lR _, trivial⟩ trivial rfl
     ·replace h := of_br_f b43 h
      cbv
      replace h := of_bind h
      obtain ⟨y27, hr28, hN29⟩ := h
      refine loop_cut hr28 (fun x => (sparse 48 [(1, .c (.ptr 64 0)), (3, .c (.v (.int .i64 v9))), (4, .c (.v (.int .i64 x)))] [(64, .var [.bs (LEN a0.fCells) 4 (row GD (encCell LEN GD) a0.fCells)])])) ?_ (fun y e s => (match y with | .inl w => e = .ret ∧ s.le (sparse 48 [(2, .c (.v (.bool w)))] []) | .inr w0 => (fun (w : Unit) => e = .exit 2 ∧ s.le (sparse 48 [(1, .c (.ptr 64 0)), (3, .c (.v (.int .i64 v9)))] [(64, .var [.bs (LEN a0.fCells) 4 (row GD (encCell LEN GD) a0.fCells)])])) w0)) ?_ ?_
      ·clear hr28 hN29
       show St.le _ _
       exact le_sparse rfl ⟨lR _, lR _, lR _, trivial⟩ ⟨rfl, trivial⟩ rfl
      ·clear hr28 hN29
       intro x z33 h K31 hK32 hY30
       replace h := of_let h
       obtain ⟨v25, hv25, h⟩ := h
       have hv25 : v25 = x := hv25
       subst hv25
       cbv
       refine fork (fun b41 => ?_) (fun b41 => ?_)
       ·replace h := of_br_t b41 h
        cbv
        replace h := of_req h
        obtain ⟨c38, h⟩ := h
        refine ⟨⟨c38, trivial⟩, ?_⟩
        replace h := of_req h
        obtain ⟨c39, h⟩ := h
        refine ⟨⟨c39, trivial⟩, ?_⟩
        refine fork (fun b40 => ?_) (fun b40 => ?_)
        ·replace h := of_br_t b40 h
         cbv
         injection h with h
         refine hY30 _ h.symm _ _ (And.intro rfl ?_) (by intro hh; cases hh)
         exact le_sparse rfl ⟨lR _, trivial⟩ trivial rfl
        ·replace h := of_br_f b40 h
         cbv
         injection h with h
         refine hK32 _ h.symm _ ?_
         exact le_sparse rfl ⟨lR _, lR _, lR _, trivial⟩ ⟨rfl, trivial⟩ rfl
       ·replace h := of_br_f b41 h
        cbv
        injection h with h
        refine hY30 _ h.symm _ _ (And.intro rfl ?_) (by intro hh; cases hh)
        exact le_sparse rfl ⟨lR _, lR _, trivial⟩ ⟨rfl, trivial⟩ rfl
      ·clear hr28
       have h := hN29
       clear hN29
       intro e36 s37 q35 hne
       rcases y27 with y27k0 | y27m0
       ·replace h := h
        obtain ⟨rfl, q35⟩ := q35
        replace h := of_let h
        obtain ⟨w42, hw42, h⟩ := h
        have hw42 : w42 = y27k0 := hw42
        subst hw42
        cbv
        injection h with h
        refine hY14 _ h.symm _ _ (And.intro rfl ?_) (by intro hh; cases hh)
        refine St.le_trans q35 ?_
        exact le_sparse rfl ⟨lR _, trivial⟩ trivial rfl
       ·obtain ⟨rfl, q35⟩ := q35
        cbv
        refine ⟨_, q35, ?_⟩
        cbv
        injection h with h
        refine hK16 _ h.symm _ ?_
        exact le_sparse rfl ⟨lR _, lR _, trivial⟩ ⟨rfl, trivial⟩ rfl
    ·replace h := of_br_f b44 h
     cbv
     injection h with h
     refine hY14 _ h.symm _ _ (And.intro rfl ?_) (by intro hh; cases hh)
     exact le_sparse rfl trivial trivial rfl
   ·clear hr12
    have h := hN13
    clear hN13
    intro e20 s21 q19 hne
    rcases y11 with y11k0 | y11m0
    ·replace h := h
     obtain ⟨rfl, q19⟩ := q19
     replace h := of_let h
     obtain ⟨w45, hw45, h⟩ := h
     have hw45 : w45 = y11k0 := hw45
     subst hw45
     cbv
     injection h with h
     subst h
     refine ⟨(sparse 48 [(2, .c (.v (.bool w45)))] []), ?_, ?_⟩
     ·refine St.le_trans q19 ?_
      exact le_sparse rfl ⟨lR _, trivial⟩ trivial rfl
     ·exact ⟨lR _, trivial, rfl⟩
    ·obtain ⟨rfl, q19⟩ := q19
     cbv
     refine ⟨_, q19, ?_⟩
     cbv
     injection h with h
     subst h
     refine ⟨(sparse 48 [(2, .c (.v (.bool true)))] []), ?_, ?_⟩
     ·exact le_sparse rfl ⟨lR _, trivial⟩ trivial rfl
     ·exact ⟨lR _, trivial, rfl⟩

/-- spec.l13NoShape -/
noncomputable def F_spec_l13NoShape (a0 : TShape) : Option (Bool) :=
 some (std.band (std.eq a0.fLayer 0) (std.band (std.band (std.eq a0.fBox.fX0 0) (std.band (std.eq a0.fBox.fY0 0) (std.band (std.eq a0.fBox.fX1 0) (std.band (std.eq a0.fBox.fY1 0) (true))))) (true)))
theorem run_spec_l13NoShape (a0 : TShape) (r : Bool) (h : F_spec_l13NoShape a0 = some r) : Fun Try.prog 158 [.agg [.v (.int .i64 a0.fLayer), .v (.int .i64 a0.fBox.fX0), .v (.int .i64 a0.fBox.fY0), .v (.int .i64 a0.fBox.fX1), .v (.int .i64 a0.fBox.fY1)]] [] (.c (.v (.bool r))) [] true := by
 refine Fun.of_wp (oneOf []) tok mixed Try.func158 (by kernel_rfl) rfl Try.ntmps158 rfl trivial (fun _ => ⟨trivial, trivial⟩) ?_
 unfold F_spec_l13NoShape at h
 generalize hLEN : @len = LEN at *
 generalize hGD : @gd = GD at *
 generalize hA : std = A at *
 generalize hP : Try.prog = P at *
 cbv
 injection h with h
 subst h
 refine ⟨(sparse 6 [(2, .c (.v (.bool (A.band (A.eq a0.fLayer 0) (A.band (A.band (A.eq a0.fBox.fX0 0) (A.band (A.eq a0.fBox.fY0 0) (A.band (A.eq a0.fBox.fX1 0) (A.band (A.eq a0.fBox.fY1 0) (true))))) (true))))))] []), ?_, ?_⟩
 ·exact le_sparse rfl ⟨lR _, trivial⟩ trivial rfl
 ·exact ⟨lR _, trivial, rfl⟩

/-- spec.l13NoLabel -/
noncomputable def F_spec_l13NoLabel (a0 : TLabel) : Option (Bool) :=
 some (std.band (std.eq a0.fLayer 0) (std.band (std.band (std.eq a0.fAt.fX 0) (std.band (std.eq a0.fAt.fY 0) (true))) (std.band (std.seq a0.fName (ByteArray.mk #[])) (true))))
theorem run_spec_l13NoLabel (a0 : TLabel) (r : Bool) (h : F_spec_l13NoLabel a0 = some r) : Fun Try.prog 160 [.agg [.v (.int .i64 a0.fLayer), .v (.int .i64 a0.fAt.fX), .v (.int .i64 a0.fAt.fY), .v (.string a0.fName)]] [] (.c (.v (.bool r))) [] true := by
 refine Fun.of_wp (oneOf []) tok mixed Try.func160 (by kernel_rfl) rfl Try.ntmps160 rfl trivial (fun _ => ⟨trivial, trivial⟩) ?_
 unfold F_spec_l13NoLabel at h
 generalize hLEN : @len = LEN at *
 generalize hGD : @gd = GD at *
 generalize hA : std = A at *
 generalize hP : Try.prog = P at *
 cbv
 injection h with h
 subst h
 refine ⟨(sparse 6 [(2, .c (.v (.bool (A.band (A.eq a0.fLayer 0) (A.band (A.band (A.eq a0.fAt.fX 0) (A.band (A.eq a0.fAt.fY 0) (true))) (A.band (A.seq a0.fName (ByteArray.mk #[])) (true)))))))] []), ?_, ?_⟩
 ·exact le_sparse rfl ⟨lR _, trivial⟩ trivial rfl
 ·exact ⟨lR _, trivial, rfl⟩

/-- spec.l13NoInstance -/
noncomputable def F_spec_l13NoInstance (a0 : TInstance) : Option (Bool) :=
 some (std.band (std.eq a0.fCell 0) (std.band (std.band (std.eq a0.fPlace.fOrientation 0) (std.band (std.eq a0.fPlace.fX 0) (std.band (std.eq a0.fPlace.fY 0) (true)))) (std.band (std.eq a0.fColumns 0) (std.band (std.eq a0.fRows 0) (std.band (std.eq a0.fStepX 0) (std.band (std.eq a0.fStepY 0) (true)))))))
theorem run_spec_l13NoInstance (a0 : TInstance) (r : Bool) (h : F_spec_l13NoInstance a0 = some r) : Fun Try.prog 162 [.agg [.v (.int .i64 a0.fCell), .v (.int .i64 a0.fPlace.fOrientation), .v (.int .i64 a0.fPlace.fX), .v (.int .i64 a0.fPlace.fY), .v (.int .i64 a0.fColumns), .v (.int .i64 a0.fRows), .v (.int .i64 a0.fStepX), .v (.int .i64 a0.fStepY)]] [] (.c (.v (.bool r))) [] true := by
 refine Fun.of_wp (oneOf []) tok mixed Try.func162 (by kernel_rfl) rfl Try.ntmps162 rfl trivial (fun _ => ⟨trivial, trivial⟩) ?_
 unfold F_spec_l13NoInstance at h
 generalize hLEN : @len = LEN at *
 generalize hGD : @gd = GD at *
 generalize hA : std = A at *
 generalize hP : Try.prog = P at *
 cbv
 injection h with h
 subst h
 refine ⟨(sparse 6 [(2, .c (.v (.bool (A.band (A.eq a0.fCell 0) (A.band (A.band (A.eq a0.fPlace.fOrientation 0) (A.band (A.eq a0.fPlace.fX 0) (A.band (A.eq a0.fPlace.fY 0) (true)))) (A.band (A.eq a0.fColumns 0) (A.band (A.eq a0.fRows 0) (A.band (A.eq a0.fStepX 0) (A.band (A.eq a0.fStepY 0) (true))))))))))] []), ?_, ?_⟩
 ·exact le_sparse rfl ⟨lR _, trivial⟩ trivial rfl
 ·exact ⟨lR _, trivial, rfl⟩

/-- spec.IsValidEdit -/
noncomputable def F_spec_IsValidEdit (a0 : TEdit) : Option (Bool) :=
 ((
    (F_spec_l09In a0.fKind 1 9).bind fun y8 =>
    br (!(y8))
    (some true)
    ((F_spec_l09In a0.fCell 0 8).bind fun y10 =>
    br (!(y10))
    (some true)
    ((F_spec_l09In a0.fIndex 0 24).bind fun y12 =>
    some (!(y12))))
  ) : Option (Bool)).bind fun y1 =>
 letO y1 fun w7 =>
 br w7
 (some false)
 (((
    br (std.le 7 a0.fKind)
    (some (std.not (std.eq a0.fIndex 0)))
    (some false)
  ) : Option (Bool)).bind fun y16 =>
 letO y16 fun w22 =>
 br w22
 (some false)
 (((
    br (std.eq a0.fKind 7)
    (some true)
    (some (std.eq a0.fKind 8))
  ) : Option (Bool)).bind fun y24 =>
 letO y24 fun w30 =>
 ((
    br w30
    ((F_spec_IsName a0.fName).bind fun y39 =>
    br (!(y39))
    (some true)
    (br (!(w30))
    (some (std.not (std.seq a0.fName (ByteArray.mk #[]))))
    (some false)))
    (br (!(w30))
    (some (std.not (std.seq a0.fName (ByteArray.mk #[]))))
    (some false))
  ) : Option (Bool)).bind fun y32 =>
 letO y32 fun w38 =>
 br w38
 (some false)
 (((
    br (std.eq a0.fKind 1)
    ((F_spec_l09Shape a0.fShape).bind fun y52 =>
    br (!(y52))
    (some true)
    (br (std.not (std.eq a0.fKind 1))
    ((F_spec_l13NoShape a0.fShape).bind fun y54 =>
    some (!(y54)))
    (some false)))
    (br (std.not (std.eq a0.fKind 1))
    ((F_spec_l13NoShape a0.fShape).bind fun y58 =>
    some (!(y58)))
    (some false))
  ) : Option (Bool)).bind fun y45 =>
 letO y45 fun w51 =>
 br w51
 (some false)
 (((
    br (std.eq a0.fKind 3)
    ((F_spec_l09Label a0.fLabel).bind fun y69 =>
    br (!(y69))
    (some true)
    (br (std.not (std.eq a0.fKind 3))
    ((F_spec_l13NoLabel a0.fLabel).bind fun y71 =>
    some (!(y71)))
    (some false)))
    (br (std.not (std.eq a0.fKind 3))
    ((F_spec_l13NoLabel a0.fLabel).bind fun y75 =>
    some (!(y75)))
    (some false))
  ) : Option (Bool)).bind fun y62 =>
 letO y62 fun w68 =>
 br w68
 (some false)
 (br (std.eq a0.fKind 5)
 ((F_spec_l09Instance a0.fInstance 8).bind fun y79 =>
 some y79)
 ((F_spec_l13NoInstance a0.fInstance).bind fun y81 =>
 some y81))))))
theorem run_spec_IsValidEdit (a0 : TEdit) (r : Bool) (h : F_spec_IsValidEdit a0 = some r) : Fun Try.prog 112 [.agg [.v (.int .i64 a0.fKind), .v (.int .i64 a0.fCell), .v (.int .i64 a0.fIndex), .v (.string a0.fName), .v (.int .i64 a0.fShape.fLayer), .v (.int .i64 a0.fShape.fBox.fX0), .v (.int .i64 a0.fShape.fBox.fY0), .v (.int .i64 a0.fShape.fBox.fX1), .v (.int .i64 a0.fShape.fBox.fY1), .v (.int .i64 a0.fLabel.fLayer), .v (.int .i64 a0.fLabel.fAt.fX), .v (.int .i64 a0.fLabel.fAt.fY), .v (.string a0.fLabel.fName), .v (.int .i64 a0.fInstance.fCell), .v (.int .i64 a0.fInstance.fPlace.fOrientation), .v (.int .i64 a0.fInstance.fPlace.fX), .v (.int .i64 a0.fInstance.fPlace.fY), .v (.int .i64 a0.fInstance.fColumns), .v (.int .i64 a0.fInstance.fRows), .v (.int .i64 a0.fInstance.fStepX), .v (.int .i64 a0.fInstance.fStepY)]] [] (.c (.v (.bool r))) [] true := by
 refine Fun.of_wp (oneOf [1, 3, 5, 6, 8, 10]) tok mixed Try.func112 (by kernel_rfl) rfl Try.ntmps112 rfl trivial (fun _ => ⟨trivial, trivial⟩) ?_
 unfold F_spec_IsValidEdit at h
 have hf_spec_IsName := @run_spec_IsName
 have hf_spec_l09In := @run_spec_l09In
 have hf_spec_l09Instance := @run_spec_l09Instance
 have hf_spec_l09Label := @run_spec_l09Label
 have hf_spec_l09Shape := @run_spec_l09Shape
 have hf_spec_l13NoInstance := @run_spec_l13NoInstance
 have hf_spec_l13NoLabel := @run_spec_l13NoLabel
 have hf_spec_l13NoShape := @run_spec_l13NoShape
 generalize hLEN : @len = LEN at *
 generalize hGD : @gd = GD at *
 generalize hA : std = A at *
 generalize hP : Try.prog = P at *
 cbv
 replace h := of_bind h
 obtain ⟨y1, hy2, h⟩ := h
 obtain ⟨S5, hS6⟩ : ∃ S, S = (sparse 101 [(1, .c (.ptr 64 0)), (19, .c (.v (.bool y1)))] [(64, .var [.v (.int .i64 a0.fKind), .v (.int .i64 a0.fCell), .v (.int .i64 a0.fIndex), .v (.string a0.fName), .v (.int .i64 a0.fShape.fLayer), .v (.int .i64 a0.fShape.fBox.fX0), .v (.int .i64 a0.fShape.fBox.fY0), .v (.int .i64 a0.fShape.fBox.fX1), .v (.int .i64 a0.fShape.fBox.fY1), .v (.int .i64 a0.fLabel.fLayer), .v (.int .i64 a0.fLabel.fAt.fX), .v (.int .i64 a0.fLabel.fAt.fY), .v (.string a0.fLabel.fName), .v (.int .i64 a0.fInstance.fCell), .v (.int .i64 a0.fInstance.fPlace.fOrientation), .v (.int .i64 a0.fInstance.fPlace.fX), .v (.int .i64 a0.fInstance.fPlace.fY), .v (.int .i64 a0.fInstance.fColumns), .v (.int .i64 a0.fInstance.fRows), .v (.int .i64 a0.fInstance.fStepX), .v (.int .i64 a0.fInstance.fStepY)])]) := ⟨_, rfl⟩
 refine ⟨S5, ?_, ?_⟩
 ·clear h
  have h := hy2
  clear hy2
  cbv
  replace h := of_bind h
  obtain ⟨y8, hy9, h⟩ := h
  refine ⟨{ args := [.c (.v (.int .i64 a0.fKind)), .c (.v (.int .i64 1)), .c (.v (.int .i64 9))], o0 := [], r := .c (.v (.bool y8)), o1 := [], fl := true, σ := [], τ := [] }, hf_spec_l09In _ _ _ _ hy9, ⟨les_cons (lR _) (les_cons (lR _) (les_cons (lR _) (les_nil))), trivial, rfl, rfl, rfl, rfl, trivial, rfl⟩, ?_⟩
  cbv
  refine fork (fun b15 => ?_) (fun b15 => ?_)
  ·replace h := of_br_t b15 h
   cbv
   injection h with h
   subst h
   subst hS6
   show St.le _ _
   exact le_sparse rfl ⟨lR _, lR _, trivial⟩ ⟨rfl, trivial⟩ rfl
  ·replace h := of_br_f b15 h
   cbv
   replace h := of_bind h
   obtain ⟨y10, hy11, h⟩ := h
   refine ⟨{ args := [.c (.v (.int .i64 a0.fCell)), .c (.v (.int .i64 0)), .c (.v (.int .i64 8))], o0 := [], r := .c (.v (.bool y10)), o1 := [], fl := true, σ := [], τ := [] }, hf_spec_l09In _ _ _ _ hy11, ⟨les_cons (lR _) (les_cons (lR _) (les_cons (lR _) (les_nil))), trivial, rfl, rfl, rfl, rfl, trivial, rfl⟩, ?_⟩
   cbv
   refine fork (fun b14 => ?_) (fun b14 => ?_)
   ·replace h := of_br_t b14 h
    cbv
    injection h with h
    subst h
    subst hS6
    show St.le _ _
    exact le_sparse rfl ⟨lR _, lR _, trivial⟩ ⟨rfl, trivial⟩ rfl
   ·replace h := of_br_f b14 h
    cbv
    replace h := of_bind h
    obtain ⟨y12, hy13, h⟩ := h
    refine ⟨{ args := [.c (.v (.int .i64 a0.fIndex)), .c (.v (.int .i64 0)), .c (.v (.int .i64 24))], o0 := [], r := .c (.v (.bool y12)), o1 := [], fl := true, σ := [], τ := [] }, hf_spec_l09In _ _ _ _ hy13, ⟨les_cons (lR _) (les_cons (lR _) (les_cons (lR _) (les_nil))), trivial, rfl, rfl, rfl, rfl, trivial, rfl⟩, ?_⟩
    cbv
    injection h with h
    subst h
    subst hS6
    show St.le _ _
    exact le_sparse rfl ⟨lR _, lR _, trivial⟩ ⟨rfl, trivial⟩ rfl
 ·clear hy2
  subst hS6
  replace h := of_let h
  obtain ⟨w7, hw7, h⟩ := h
  have hw7 : w7 = y1 := hw7
  subst hw7
  cbv
  refine fork (fun b88 => ?_) (fun b88 => ?_)
  ·replace h := of_br_t b88 h
   cbv
   injection h with h
   subst h
   refine ⟨(sparse 101 [(2, .c (.v (.bool false)))] []), ?_, ?_⟩
   ·exact le_sparse rfl ⟨lR _, trivial⟩ trivial rfl
   ·exact ⟨lR _, trivial, rfl⟩
  ·replace h := of_br_f b88 h
   cbv
   replace h := of_bind h
   obtain ⟨y16, hy17, h⟩ := h
   obtain ⟨S20, hS21⟩ : ∃ S, S = (sparse 101 [(1, .c (.ptr 64 0)), (27, .c (.v (.bool y16)))] [(64, .var [.v (.int .i64 a0.fKind), .v (.int .i64 a0.fCell), .v (.int .i64 a0.fIndex), .v (.string a0.fName), .v (.int .i64 a0.fShape.fLayer), .v (.int .i64 a0.fShape.fBox.fX0), .v (.int .i64 a0.fShape.fBox.fY0), .v (.int .i64 a0.fShape.fBox.fX1), .v (.int .i64 a0.fShape.fBox.fY1), .v (.int .i64 a0.fLabel.fLayer), .v (.int .i64 a0.fLabel.fAt.fX), .v (.int .i64 a0.fLabel.fAt.fY), .v (.string a0.fLabel.fName), .v (.int .i64 a0.fInstance.fCell), .v (.int .i64 a0.fInstance.fPlace.fOrientation), .v (.int .i64 a0.fInstance.fPlace.fX), .v (.int .i64 a0.fInstance.fPlace.fY), .v (.int .i64 a0.fInstance.fColumns), .v (.int .i64 a0.fInstance.fRows), .v (.int .i64 a0.fInstance.fStepX), .v (.int .i64 a0.fInstance.fStepY)])]) := ⟨_, rfl⟩
   refine ⟨S20, ?_, ?_⟩
   ·clear h
    have h := hy17
    clear hy17
    cbv
    refine fork (fun b23 => ?_) (fun b23 => ?_)
    ·replace h := of_br_t b23 h
     cbv
     injection h with h
     subst h
     subst hS21
     show St.le _ _
     exact le_sparse rfl ⟨lR _, lR _, trivial⟩ ⟨rfl, trivial⟩ rfl
    ·replace h := of_br_f b23 h
     cbv
     injection h with h
     subst h
     subst hS21
     show St.le _ _
     exact le_sparse rfl ⟨lR _, lR _, trivial⟩ ⟨rfl, trivial⟩ rfl
   ·clear hy17
    subst hS21
    replace h := of_let h
    obtain ⟨w22, hw22, h⟩ := h
    have hw22 : w22 = y16 := hw22
    subst hw22
    cbv
    refine fork (fun b87 => ?_) (fun b87 => ?_)
    ·replace h := of_br_t b87 h
     cbv
     injection h with h
     subst h
     refine ⟨(sparse 101 [(2, .c (.v (.bool false)))] []), ?_, ?_⟩
     ·exact le_sparse rfl ⟨lR _, trivial⟩ trivial rfl
     ·exact ⟨lR _, trivial, rfl⟩
    ·replace h := of_br_f b87 h
     cbv
     replace h := of_bind h
     obtain ⟨y24, hy25, h⟩ := h
     obtain ⟨S28, hS29⟩ : ∃ S, S = (sparse 101 [(1, .c (.ptr 64 0)), (3, .c (.v (.bool y24)))] [(64, .var [.v (.int .i64 a0.fKind), .v (.int .i64 a0.fCell), .v (.int .i64 a0.fIndex), .v (.string a0.fName), .v (.int .i64 a0.fShape.fLayer), .v (.int .i64 a0.fShape.fBox.fX0), .v (.int .i64 a0.fShape.fBox.fY0), .v (.int .i64 a0.fShape.fBox.fX1), .v (.int .i64 a0.fShape.fBox.fY1), .v (.int .i64 a0.fLabel.fLayer), .v (.int .i64 a0.fLabel.fAt.fX), .v (.int .i64 a0.fLabel.fAt.fY), .v (.string a0.fLabel.fName), .v (.int .i64 a0.fInstance.fCell), .v (.int .i64 a0.fInstance.fPlace.fOrientation), .v (.int .i64 a0.fInstance.fPlace.fX), .v (.int .i64 a0.fInstance.fPlace.fY), .v (.int .i64 a0.fInstance.fColumns), .v (.int .i64 a0.fInstance.fRows), .v (.int .i64 a0.fInstance.fStepX), .v (.int .i64 a0.fInstance.fStepY)])]) := ⟨_, rfl⟩
     refine ⟨S28, ?_, ?_⟩
     ·clear h
      have h := hy25
      clear hy25
      cbv
      refine fork (fun b31 => ?_) (fun b31 => ?_)
      ·replace h := of_br_t b31 h
       cbv
       injection h with h
       subst h
       subst hS29
       show St.le _ _
       exact le_sparse rfl ⟨lR _, lR _, trivial⟩ ⟨rfl, trivial⟩ rfl
      ·replace h := of_br_f b31 h
       cbv
       injection h with h
       subst h
       subst hS29
       show St.le _ _
       exact le_sparse rfl ⟨lR _, lR _, trivial⟩ ⟨rfl, trivial⟩ rfl
     ·clear hy25
      subst hS29
      replace h := of_let h
      obtain ⟨w30, hw30, h⟩ := h
      have hw30 : w30 = y24 := hw30
      subst hw30
      cbv
      replace h := of_bind h
      obtain ⟨y32, hy33, h⟩ := h
      obtain ⟨S36, hS37⟩ : ∃ S, S = (sparse 101 [(1, .c (.ptr 64 0)), (51, .c (.v (.bool y32)))] [(64, .var [.v (.int .i64 a0.fKind), .v (.int .i64 a0.fCell), .v (.int .i64 a0.fIndex), .v (.string a0.fName), .v (.int .i64 a0.fShape.fLayer), .v (.int .i64 a0.fShape.fBox.fX0), .v (.int .i64 a0.fShape.fBox.fY0), .v (.int .i64 a0.fShape.fBox.fX1), .v (.int .i64 a0.fShape.fBox.fY1), .v (.int .i64 a0.fLabel.fLayer), .v (.int .i64 a0.fLabel.fAt.fX), .v (.int .i64 a0.fLabel.fAt.fY), .v (.string a0.fLabel.fName), .v (.int .i64 a0.fInstance.fCell), .v (.int .i64 a0.fInstance.fPlace.fOrientation), .v (.int .i64 a0.fInstance.fPlace.fX), .v (.int .i64 a0.fInstance.fPlace.fY), .v (.int .i64 a0.fInstance.fColumns), .v (.int .i64 a0.fInstance.fRows), .v (.int .i64 a0.fInstance.fStepX), .v (.int .i64 a0.fInstance.fStepY)])]) := ⟨_, rfl⟩
      refine ⟨S36, ?_, ?_⟩
      ·clear h
       have h := hy33
       clear hy33
       cbv
       refine fork (fun b44 => ?_) (fun b44 => ?_)
       ·replace h := of_br_t b44 h
        cbv
        replace h := of_bind h
        obtain ⟨y39, hy40, h⟩ := h
        refine ⟨{ args := [.c (.v (.string a0.fName))], o0 := [], r := .c (.v (.bool y39)), o1 := [], fl := true, σ := [], τ := [] }, hf_spec_IsName _ _ hy40, ⟨les_cons (lR _) (les_nil), trivial, rfl, rfl, rfl, rfl, trivial, rfl⟩, ?_⟩
        cbv
        refine fork (fun b42 => ?_) (fun b42 => ?_)
        ·replace h := of_br_t b42 h
         cbv
         injection h with h
         subst h
         subst hS37
         show St.le _ _
         exact le_sparse rfl ⟨lR _, lR _, trivial⟩ ⟨rfl, trivial⟩ rfl
        ·replace h := of_br_f b42 h
         cbv
         refine fork (fun b41 => ?_) (fun b41 => ?_)
         ·replace h := of_br_t b41 h
          cbv
          injection h with h
          subst h
          subst hS37
          show St.le _ _
          exact le_sparse rfl ⟨lR _, lR _, trivial⟩ ⟨rfl, trivial⟩ rfl
         ·replace h := of_br_f b41 h
          cbv
          injection h with h
          subst h
          subst hS37
          show St.le _ _
          exact le_sparse rfl ⟨lR _, lR _, trivial⟩ ⟨rfl, trivial⟩ rfl
       ·replace h := of_br_f b44 h
        cbv
        refine fork (fun b43 => ?_) (fun b43 => ?_)
        ·replace h := of_br_t b43 h
         cbv
         injection h with h
         subst h
         subst hS37
         show St.le _ _
         exact le_sparse rfl ⟨lR _, lR _, trivial⟩ ⟨rfl, trivial⟩ rfl
        ·replace h := of_br_f b43 h
         cbv
         injection h with h
         subst h
         subst hS37
         show St.le _ _
         exact le_sparse rfl ⟨lR _, lR _, trivial⟩ ⟨rfl, trivial⟩ rfl
      ·clear hy33
       subst hS37
       replace h := of_let h
       obtain ⟨w38, hw38, h⟩ := h
       have hw38 : w38 = y32 := hw38
       subst hw38
       cbv
       refine fork (fun b86 => ?_) (fun b86 => ?_)
       ·replace h := of_br_t b86 h
        cbv
        injection h with h
        subst h
        refine ⟨(sparse 101 [(2, .c (.v (.bool false)))] []), ?_, ?_⟩
        ·exact le_sparse rfl ⟨lR _, trivial⟩ trivial rfl
        ·exact ⟨lR _, trivial, rfl⟩
       ·replace h := of_br_f b86 h
        cbv
        replace h := of_bind h
        obtain ⟨y45, hy46, h⟩ := h
        obtain ⟨S49, hS50⟩ : ∃ S, S = (sparse 101 [(1, .c (.ptr 64 0)), (71, .c (.v (.bool y45)))] [(64, .var [.v (.int .i64 a0.fKind), .v (.int .i64 a0.fCell), .v (.int .i64 a0.fIndex), .v (.string a0.fName), .v (.int .i64 a0.fShape.fLayer), .v (.int .i64 a0.fShape.fBox.fX0), .v (.int .i64 a0.fShape.fBox.fY0), .v (.int .i64 a0.fShape.fBox.fX1), .v (.int .i64 a0.fShape.fBox.fY1), .v (.int .i64 a0.fLabel.fLayer), .v (.int .i64 a0.fLabel.fAt.fX), .v (.int .i64 a0.fLabel.fAt.fY), .v (.string a0.fLabel.fName), .v (.int .i64 a0.fInstance.fCell), .v (.int .i64 a0.fInstance.fPlace.fOrientation), .v (.int .i64 a0.fInstance.fPlace.fX), .v (.int .i64 a0.fInstance.fPlace.fY), .v (.int .i64 a0.fInstance.fColumns), .v (.int .i64 a0.fInstance.fRows), .v (.int .i64 a0.fInstance.fStepX), .v (.int .i64 a0.fInstance.fStepY)])]) := ⟨_, rfl⟩
        refine ⟨S49, ?_, ?_⟩
        ·clear h
         have h := hy46
         clear hy46
         cbv
         refine fork (fun b61 => ?_) (fun b61 => ?_)
         ·replace h := of_br_t b61 h
          cbv
          replace h := of_bind h
          obtain ⟨y52, hy53, h⟩ := h
          refine ⟨{ args := [.agg [.v (.int .i64 a0.fShape.fLayer), .v (.int .i64 a0.fShape.fBox.fX0), .v (.int .i64 a0.fShape.fBox.fY0), .v (.int .i64 a0.fShape.fBox.fX1), .v (.int .i64 a0.fShape.fBox.fY1)]], o0 := [], r := .c (.v (.bool y52)), o1 := [], fl := true, σ := [], τ := [] }, hf_spec_l09Shape _ _ hy53, ⟨les_cons (lR _) (les_nil), trivial, rfl, rfl, rfl, rfl, trivial, rfl⟩, ?_⟩
          cbv
          refine fork (fun b57 => ?_) (fun b57 => ?_)
          ·replace h := of_br_t b57 h
           cbv
           injection h with h
           subst h
           subst hS50
           show St.le _ _
           exact le_sparse rfl ⟨lR _, lR _, trivial⟩ ⟨rfl, trivial⟩ rfl
          ·replace h := of_br_f b57 h
           cbv
           refine fork (fun b56 => ?_) (fun b56 => ?_)
           ·replace h := of_br_t b56 h
            cbv
            replace h := of_bind h
            obtain ⟨y54, hy55, h⟩ := h
            refine ⟨{ args := [.agg [.v (.int .i64 a0.fShape.fLayer), .v (.int .i64 a0.fShape.fBox.fX0), .v (.int .i64 a0.fShape.fBox.fY0), .v (.int .i64 a0.fShape.fBox.fX1), .v (.int .i64 a0.fShape.fBox.fY1)]], o0 := [], r := .c (.v (.bool y54)), o1 := [], fl := true, σ := [], τ := [] }, hf_spec_l13NoShape _ _ hy55, ⟨les_cons (lR _) (les_nil), trivial, rfl, rfl, rfl, rfl, trivial, rfl⟩, ?_⟩
            cbv
            injection h with h
            subst h
            subst hS50
            show St.le _ _
            exact le_sparse rfl ⟨lR _, lR _, trivial⟩ ⟨rfl, trivial⟩ rfl
           ·replace h := of_br_f b56 h
            cbv
            injection h with h
            subst h
            subst hS50
            show St.le _ _
            exact le_sparse rfl ⟨lR _, lR _, trivial⟩ ⟨rfl, trivial⟩ rfl
         ·replace h := of_br_f b61 h
          cbv
          refine fork (fun b60 => ?_) (fun b60 => ?_)
          ·replace h := of_br_t b60 h
           cbv
           replace h := of_bind h
           obtain ⟨y58, hy59, h⟩ := h
           refine ⟨{ args := [.agg [.v (.int .i64 a0.fShape.fLayer), .v (.int .i64 a0.fShape.fBox.fX0), .v (.int .i64 a0.fShape.fBox.fY0), .v (.int .i64 a0.fShape.fBox.fX1), .v (.int .i64 a0.fShape.fBox.fY1)]], o0 := [], r := .c (.v (.bool y58)), o1 := [], fl := true, σ := [], τ := [] }, hf_spec_l13NoShape _ _ hy59, ⟨les_cons (lR _) (les_nil), trivial, rfl, rfl, rfl, rfl, trivial, rfl⟩, ?_⟩
           cbv
           injection h with h
           subst h
           subst hS50
           show St.le _ _
           exact le_sparse rfl ⟨lR _, lR _, trivial⟩ ⟨rfl, trivial⟩ rfl
          ·replace h := of_br_f b60 h
           cbv
           injection h with h
           subst h
           subst hS50
           show St.le _ _
           exact le_sparse rfl ⟨lR _, lR _, trivial⟩ ⟨rfl, trivial⟩ rfl
        ·clear hy46
         subst hS50
         replace h := of_let h
         obtain ⟨w51, hw51, h⟩ := h
         have hw51 : w51 = y45 := hw51
         subst hw51
         cbv
         refine fork (fun b85 => ?_) (fun b85 => ?_)
         ·replace h := of_br_t b85 h
          cbv
          injection h with h
          subst h
          refine ⟨(sparse 101 [(2, .c (.v (.bool false)))] []), ?_, ?_⟩
          ·exact le_sparse rfl ⟨lR _, trivial⟩ trivial rfl
          ·exact ⟨lR _, trivial, rfl⟩
         ·replace h := of_br_f b85 h
          cbv
          replace h := of_bind h
          obtain ⟨y62, hy63, h⟩ := h
          obtain ⟨S66, hS67⟩ : ∃ S, S = (sparse 101 [(1, .c (.ptr 64 0)), (91, .c (.v (.bool y62)))] [(64, .var [.v (.int .i64 a0.fKind), .v (.int .i64 a0.fCell), .v (.int .i64 a0.fIndex), .v (.string a0.fName), .v (.int .i64 a0.fShape.fLayer), .v (.int .i64 a0.fShape.fBox.fX0), .v (.int .i64 a0.fShape.fBox.fY0), .v (.int .i64 a0.fShape.fBox.fX1), .v (.int .i64 a0.fShape.fBox.fY1), .v (.int .i64 a0.fLabel.fLayer), .v (.int .i64 a0.fLabel.fAt.fX), .v (.int .i64 a0.fLabel.fAt.fY), .v (.string a0.fLabel.fName), .v (.int .i64 a0.fInstance.fCell), .v (.int .i64 a0.fInstance.fPlace.fOrientation), .v (.int .i64 a0.fInstance.fPlace.fX), .v (.int .i64 a0.fInstance.fPlace.fY), .v (.int .i64 a0.fInstance.fColumns), .v (.int .i64 a0.fInstance.fRows), .v (.int .i64 a0.fInstance.fStepX), .v (.int .i64 a0.fInstance.fStepY)])]) := ⟨_, rfl⟩
          refine ⟨S66, ?_, ?_⟩
          ·clear h
           have h := hy63
           clear hy63
           cbv
           refine fork (fun b78 => ?_) (fun b78 => ?_)
           ·replace h := of_br_t b78 h
            cbv
            replace h := of_bind h
            obtain ⟨y69, hy70, h⟩ := h
            refine ⟨{ args := [.agg [.v (.int .i64 a0.fLabel.fLayer), .v (.int .i64 a0.fLabel.fAt.fX), .v (.int .i64 a0.fLabel.fAt.fY), .v (.string a0.fLabel.fName)]], o0 := [], r := .c (.v (.bool y69)), o1 := [], fl := true, σ := [], τ := [] }, hf_spec_l09Label _ _ hy70, ⟨les_cons (lR _) (les_nil), trivial, rfl, rfl, rfl, rfl, trivial, rfl⟩, ?_⟩
            cbv
            refine fork (fun b74 => ?_) (fun b74 => ?_)
            ·replace h := of_br_t b74 h
             cbv
             injection h with h
             subst h
             subst hS67
             show St.le _ _
             exact le_sparse rfl ⟨lR _, lR _, trivial⟩ ⟨rfl, trivial⟩ rfl
            ·replace h := of_br_f b74 h
             cbv
             refine fork (fun b73 => ?_) (fun b73 => ?_)
             ·replace h := of_br_t b73 h
              cbv
              replace h := of_bind h
              obtain ⟨y71, hy72, h⟩ := h
              refine ⟨{ args := [.agg [.v (.int .i64 a0.fLabel.fLayer), .v (.int .i64 a0.fLabel.fAt.fX), .v (.int .i64 a0.fLabel.fAt.fY), .v (.string a0.fLabel.fName)]], o0 := [], r := .c (.v (.bool y71)), o1 := [], fl := true, σ := [], τ := [] }, hf_spec_l13NoLabel _ _ hy72, ⟨les_cons (lR _) (les_nil), trivial, rfl, rfl, rfl, rfl, trivial, rfl⟩, ?_⟩
              cbv
              injection h with h
              subst h
              subst hS67
              show St.le _ _
              exact le_sparse rfl ⟨lR _, lR _, trivial⟩ ⟨rfl, trivial⟩ rfl
             ·replace h := of_br_f b73 h
              cbv
              injection h with h
              subst h
              subst hS67
              show St.le _ _
              exact le_sparse rfl ⟨lR _, lR _, trivial⟩ ⟨rfl, trivial⟩ rfl
           ·replace h := of_br_f b78 h
            cbv
            refine fork (fun b77 => ?_) (fun b77 => ?_)
            ·replace h := of_br_t b77 h
             cbv
             replace h := of_bind h
             obtain ⟨y75, hy76, h⟩ := h
             refine ⟨{ args := [.agg [.v (.int .i64 a0.fLabel.fLayer), .v (.int .i64 a0.fLabel.fAt.fX), .v (.int .i64 a0.fLabel.fAt.fY), .v (.string a0.fLabel.fName)]], o0 := [], r := .c (.v (.bool y75)), o1 := [], fl := true, σ := [], τ := [] }, hf_spec_l13NoLabel _ _ hy76, ⟨les_cons (lR _) (les_nil), trivial, rfl, rfl, rfl, rfl, trivial, rfl⟩, ?_⟩
             cbv
             injection h with h
             subst h
             subst hS67
             show St.le _ _
             exact le_sparse rfl ⟨lR _, lR _, trivial⟩ ⟨rfl, trivial⟩ rfl
            ·replace h := of_br_f b77 h
             cbv
             injection h with h
             subst h
             subst hS67
             show St.le _ _
             exact le_sparse rfl ⟨lR _, lR _, trivial⟩ ⟨rfl, trivial⟩ rfl
          ·clear hy63
           subst hS67
           replace h := of_let h
           obtain ⟨w68, hw68, h⟩ := h
           have hw68 : w68 = y62 := hw68
           subst hw68
           cbv
           refine fork (fun b84 => ?_) (fun b84 => ?_)
           ·replace h := of_br_t b84 h
            cbv
            injection h with h
            subst h
            refine ⟨(sparse 101 [(2, .c (.v (.bool false)))] []), ?_, ?_⟩
            ·exact le_sparse rfl ⟨lR _, trivial⟩ trivial rfl
            ·exact ⟨lR _, trivial, rfl⟩
           ·replace h := of_br_f b84 h
            cbv
            refine fork (fun b83 => ?_) (fun b83 => ?_)
            ·replace h := of_br_t b83 h
             cbv
             replace h := of_bind h
             obtain ⟨y79, hy80, h⟩ := h
             refine ⟨{ args := [.agg [.v (.int .i64 a0.fInstance.fCell), .v (.int .i64 a0.fInstance.fPlace.fOrientation), .v (.int .i64 a0.fInstance.fPlace.fX), .v (.int .i64 a0.fInstance.fPlace.fY), .v (.int .i64 a0.fInstance.fColumns), .v (.int .i64 a0.fInstance.fRows), .v (.int .i64 a0.fInstance.fStepX), .v (.int .i64 a0.fInstance.fStepY)], .c (.v (.int .i64 8))], o0 := [], r := .c (.v (.bool y79)), o1 := [], fl := true, σ := [], τ := [] }, hf_spec_l09Instance _ _ _ hy80, ⟨les_cons (lR _) (les_cons (lR _) (les_nil)), trivial, rfl, rfl, rfl, rfl, trivial, rfl⟩, ?_⟩
             cbv
             injection h with h
             subst h
             refine ⟨(sparse 101 [(2, .c (.v (.bool y79)))] []), ?_, ?_⟩
             ·exact le_sparse rfl ⟨lR _, trivial⟩ trivial rfl
             ·exact ⟨lR _, trivial, rfl⟩
            ·replace h := of_br_f b83 h
             cbv
             replace h := of_bind h
             obtain ⟨y81, hy82, h⟩ := h
             refine ⟨{ args := [.agg [.v (.int .i64 a0.fInstance.fCell), .v (.int .i64 a0.fInstance.fPlace.fOrientation), .v (.int .i64 a0.fInstance.fPlace.fX), .v (.int .i64 a0.fInstance.fPlace.fY), .v (.int .i64 a0.fInstance.fColumns), .v (.int .i64 a0.fInstance.fRows), .v (.int .i64 a0.fInstance.fStepX), .v (.int .i64 a0.fInstance.fStepY)]], o0 := [], r := .c (.v (.bool y81)), o1 := [], fl := true, σ := [], τ := [] }, hf_spec_l13NoInstance _ _ hy82, ⟨les_cons (lR _) (les_nil), trivial, rfl, rfl, rfl, rfl, trivial, rfl⟩, ?_⟩
             cbv
             injection h with h
             subst h
             refine ⟨(sparse 101 [(2, .c (.v (.bool y81)))] []), ?_, ?_⟩
             ·exact le_sparse rfl ⟨lR _, trivial⟩ trivial rfl
             ·exact ⟨lR _, trivial, rfl⟩
noncomputable def L_spec_l13Named_x2 (a0 : TLibrary) (a1 : Int) (a2 : ByteArray) : (Int) → Option ((Int) ⊕ ((Bool) ⊕ (Unit))) := fun x2 =>
 letO x2 fun v1 =>
 br (std.lt v1 (std.ofN (len a0.fCells)))
 (((
    br (std.not (std.eq v1 a1))
    (req (std.inR v1 (len a0.fCells)) <|
    some (std.seq (gd a0.fCells (std.toN v1)).fName a2))
    (some false)
  ) : Option (Bool)).bind fun y14 =>
 letO y14 fun w20 =>
 br w20
 (some (.inr (.inl true)))
 (some (.inl (std.add .i64 v1 1))))
 (some (.inr (.inr ())))
/-- spec.l13Named -/
noncomputable def F_spec_l13Named (a0 : TLibrary) (a1 : Int) (a2 : ByteArray) : Option (Bool) :=
 (whileP (σ := Int) (ρ := (Bool) ⊕ (Unit)) (L_spec_l13Named_x2 a0 a1 a2) 0).bind fun y3 =>
 (match y3 with
  | .inl y3k0 => (
    letO y3k0 fun w25 =>
    some w25)
  | .inr y3m0 =>
    some false)
theorem run_spec_l13Named (a0 : TLibrary) (a1 : Int) (a2 : ByteArray) (r : Bool) (h : F_spec_l13Named a0 a1 a2 = some r) : Fun Try.prog 163 [.agg [.bs (len a0.fCells) 4 (row gd (encCell len gd) a0.fCells)], .c (.v (.int .i64 a1)), .c (.v (.string a2))] [] (.c (.v (.bool r))) [] true := by
 refine Fun.of_wp (oneOf [4]) tok mixed Try.func163 (by kernel_rfl) rfl Try.ntmps163 rfl trivial (fun _ => ⟨trivial, trivial⟩) ?_
 unfold F_spec_l13Named at h
 unfold L_spec_l13Named_x2 at h
 generalize hLEN : @len = LEN at *
 generalize hGD : @gd = GD at *
 generalize hA : std = A at *
 generalize hP : Try.prog = P at *
 cbv
 replace h := of_bind h
 obtain ⟨y3, hr4, hN5⟩ := h
 refine loop_cut hr4 (fun x => (sparse 28 [(1, .c (.v (.int .i64 a1))), (2, .c (.v (.string a2))), (3, .c (.ptr 192 0)), (7, .c (.v (.int .i64 x)))] [(192, .var [.bs (LEN a0.fCells) 4 (row GD (encCell LEN GD) a0.fCells)])])) ?_ (fun y e s => (match y with | .inl w => e = .ret ∧ s.le (sparse 28 [(6, .c (.v (.bool w)))] []) | .inr w0 => (fun (w : Unit) => e = .exit 0 ∧ s.le (sparse 28 [] [])) w0)) ?_ ?_
 ·clear hr4 hN5
  show St.le _ _
  exact le_sparse rfl ⟨lR _, lR _, lR _, lR _, trivial⟩ ⟨rfl, trivial⟩ rfl
 ·clear hr4 hN5
  intro x z9 h K7 hK8 hY6
  replace h := of_let h
  obtain ⟨v1, hv1, h⟩ := h
  have hv1 : v1 = x := hv1
  subst hv1
  cbv
  refine fork (fun b24 => ?_) (fun b24 => ?_)
  ·replace h := of_br_t b24 h
   cbv
   replace h := of_bind h
   obtain ⟨y14, hy15, h⟩ := h
   obtain ⟨S18, hS19⟩ : ∃ S, S = (sparse 28 [(1, .c (.v (.int .i64 a1))), (2, .c (.v (.string a2))), (3, .c (.ptr 192 0)), (7, .c (.v (.int .i64 v1))), (27, .c (.v (.bool y14)))] [(192, .var [.bs (LEN a0.fCells) 4 (row GD (encCell LEN GD) a0.fCells)])]) := ⟨_, rfl⟩
   refine ⟨S18, ?_, ?_⟩
   ·clear h
    have h := hy15
    clear hy15
    cbv
    refine fork (fun b22 => ?_) (fun b22 => ?_)
    ·replace h := of_br_t b22 h
     cbv
     replace h := of_req h
     obtain ⟨c21, h⟩ := h
     refine ⟨⟨c21, trivial⟩, ?_⟩
     injection h with h
     subst h
     subst hS19
     show St.le _ _
     exact le_sparse rfl ⟨lR _, lR _, lR _, lR _, lR _, trivial⟩ ⟨rfl, trivial⟩ rfl
    ·replace h := of_br_f b22 h
     cbv
     injection h with h
     subst h
     subst hS19
     show St.le _ _
     exact le_sparse rfl ⟨lR _, lR _, lR _, lR _, lR _, trivial⟩ ⟨rfl, trivial⟩ rfl
   ·clear hy15
    subst hS19
    replace h := of_let h
    obtain ⟨w20, hw20, h⟩ := h
    have hw20 : w20 = y14 := hw20
    subst hw20
    cbv
    refine fork (fun b23 => ?_) (fun b23 => ?_)
    ·replace h := of_br_t b23 h
     cbv
     injection h with h
     refine hY6 _ h.symm _ _ (And.intro rfl ?_) (by intro hh; cases hh)
     exact le_sparse rfl ⟨lR _, trivial⟩ trivial rfl
    ·replace h := of_br_f b23 h
     cbv
     injection h with h
     refine hK8 _ h.symm _ ?_
     exact le_sparse rfl ⟨lR _, lR _, lR _, lR _, trivial⟩ ⟨rfl, trivial⟩ rfl
  ·replace h := of_br_f b24 h
   cbv
   injection h with h
   refine hY6 _ h.symm _ _ (And.intro rfl ?_) (by intro hh; cases hh)
   exact le_sparse rfl trivial trivial rfl
 ·clear hr4
  have h := hN5
  clear hN5
  intro e12 s13 q11 hne
  rcases y3 with y3k0 | y3m0
  ·replace h := h
   obtain ⟨rfl, q11⟩ := q11
   replace h := of_let h
   obtain ⟨w25, hw25, h⟩ := h
   have hw25 : w25 = y3k0 := hw25
   subst hw25
   cbv
   injection h with h
   subst h
   refine ⟨(sparse 28 [(6, .c (.v (.bool w25)))] []), ?_, ?_⟩
   ·refine St.le_trans q11 ?_
    exact le_sparse rfl ⟨lR _, trivial⟩ trivial rfl
   ·exact ⟨lR _, trivial, rfl⟩
  ·obtain ⟨rfl, q11⟩ := q11
   cbv
   refine ⟨_, q11, ?_⟩
   cbv
   injection h with h
   subst h
   refine ⟨(sparse 28 [(6, .c (.v (.bool false)))] []), ?_, ?_⟩
   ·exact le_sparse rfl ⟨lR _, trivial⟩ trivial rfl
   ·exact ⟨lR _, trivial, rfl⟩

noncomputable def L_spec_l09Uses_x2 (a0 : TCell) (a1 : Int) : (Int) → Option ((Int) ⊕ ((Bool) ⊕ (Unit))) := fun x2 =>
 letO x2 fun v1 =>
 br (std.lt v1 (std.ofN (len a0.fInstances)))
 (req (std.inR v1 (len a0.fInstances)) <|
 br (std.eq (gd a0.fInstances (std.toN v1)).fCell a1)
 (some (.inr (.inl true)))
 (some (.inl (std.add .i64 v1 1))))
 (some (.inr (.inr ())))
/-- spec.l09Uses -/
noncomputable def F_spec_l09Uses (a0 : TCell) (a1 : Int) : Option (Bool) :=
 (whileP (σ := Int) (ρ := (Bool) ⊕ (Unit)) (L_spec_l09Uses_x2 a0 a1) 0).bind fun y3 =>
 (match y3 with
  | .inl y3k0 => (
    letO y3k0 fun w17 =>
    some w17)
  | .inr y3m0 =>
    some false)
theorem run_spec_l09Uses (a0 : TCell) (a1 : Int) (r : Bool) (h : F_spec_l09Uses a0 a1 = some r) : Fun Try.prog 211 [.agg [.v (.string a0.fName), .bs (len a0.fShapes) 5 (row gd (encShape) a0.fShapes), .bs (len a0.fLabels) 4 (row gd (encLabel) a0.fLabels), .bs (len a0.fInstances) 8 (row gd (encInstance) a0.fInstances)], .c (.v (.int .i64 a1))] [] (.c (.v (.bool r))) [] true := by
 refine Fun.of_wp (oneOf []) tok mixed Try.func211 (by kernel_rfl) rfl Try.ntmps211 rfl trivial (fun _ => ⟨trivial, trivial⟩) ?_
 unfold F_spec_l09Uses at h
 unfold L_spec_l09Uses_x2 at h
 generalize hLEN : @len = LEN at *
 generalize hGD : @gd = GD at *
 generalize hA : std = A at *
 generalize hP : Try.prog = P at *
 cbv
 replace h := of_bind h
 obtain ⟨y3, hr4, hN5⟩ := h
 refine loop_cut hr4 (fun x => (sparse 21 [(1, .c (.v (.int .i64 a1))), (2, .c (.ptr 128 0)), (5, .c (.v (.int .i64 x)))] [(128, .var [.v (.string a0.fName), .bs (LEN a0.fShapes) 5 (row GD (encShape) a0.fShapes), .bs (LEN a0.fLabels) 4 (row GD (encLabel) a0.fLabels), .bs (LEN a0.fInstances) 8 (row GD (encInstance) a0.fInstances)])])) ?_ (fun y e s => (match y with | .inl w => e = .ret ∧ s.le (sparse 21 [(4, .c (.v (.bool w)))] []) | .inr w0 => (fun (w : Unit) => e = .exit 0 ∧ s.le (sparse 21 [] [])) w0)) ?_ ?_
 ·clear hr4 hN5
  show St.le _ _
  exact le_sparse rfl ⟨lR _, lR _, lR _, trivial⟩ ⟨rfl, trivial⟩ rfl
 ·clear hr4 hN5
  intro x z9 h K7 hK8 hY6
  replace h := of_let h
  obtain ⟨v1, hv1, h⟩ := h
  have hv1 : v1 = x := hv1
  subst hv1
  cbv
  refine fork (fun b16 => ?_) (fun b16 => ?_)
  ·replace h := of_br_t b16 h
   cbv
   replace h := of_req h
   obtain ⟨c14, h⟩ := h
   refine ⟨⟨c14, trivial⟩, ?_⟩
   refine fork (fun b15 => ?_) (fun b15 => ?_)
   ·replace h := of_br_t b15 h
    cbv
    injection h with h
    refine hY6 _ h.symm _ _ (And.intro rfl ?_) (by intro hh; cases hh)
    exact le_sparse rfl ⟨lR _, trivial⟩ trivial rfl
   ·replace h := of_br_f b15 h
    cbv
    injection h with h
    refine hK8 _ h.symm _ ?_
    exact le_sparse rfl ⟨lR _, lR _, lR _, trivial⟩ ⟨rfl, trivial⟩ rfl
  ·replace h := of_br_f b16 h
   cbv
   injection h with h
   refine hY6 _ h.symm _ _ (And.intro rfl ?_) (by intro hh; cases hh)
   exact le_sparse rfl trivial trivial rfl
 ·clear hr4
  have h := hN5
  clear hN5
  intro e12 s13 q11 hne
  rcases y3 with y3k0 | y3m0
  ·replace h := h
   obtain ⟨rfl, q11⟩ := q11
   replace h := of_let h
   obtain ⟨w17, hw17, h⟩ := h
   have hw17 : w17 = y3k0 := hw17
   subst hw17
   cbv
   injection h with h
   subst h
   refine ⟨(sparse 21 [(4, .c (.v (.bool w17)))] []), ?_, ?_⟩
   ·refine St.le_trans q11 ?_
    exact le_sparse rfl ⟨lR _, trivial⟩ trivial rfl
   ·exact ⟨lR _, trivial, rfl⟩
  ·obtain ⟨rfl, q11⟩ := q11
   cbv
   refine ⟨_, q11, ?_⟩
   cbv
   injection h with h
   subst h
   refine ⟨(sparse 21 [(4, .c (.v (.bool false)))] []), ?_, ?_⟩
   ·exact le_sparse rfl ⟨lR _, trivial⟩ trivial rfl
   ·exact ⟨lR _, trivial, rfl⟩

noncomputable def L_spec_l13Placed_x2 (a0 : TLibrary) (a1 : Int) : (Int) → Option ((Int) ⊕ ((Bool) ⊕ (Unit))) := fun x2 =>
 letO x2 fun v1 =>
 br (std.lt v1 (std.ofN (len a0.fCells)))
 (req (std.inR v1 (len a0.fCells)) <|
 (F_spec_l09Uses (gd a0.fCells (std.toN v1)) a1).bind fun y15 =>
 br y15
 (some (.inr (.inl true)))
 (some (.inl (std.add .i64 v1 1))))
 (some (.inr (.inr ())))
/-- spec.l13Placed -/
noncomputable def F_spec_l13Placed (a0 : TLibrary) (a1 : Int) : Option (Bool) :=
 (whileP (σ := Int) (ρ := (Bool) ⊕ (Unit)) (L_spec_l13Placed_x2 a0 a1) 0).bind fun y3 =>
 (match y3 with
  | .inl y3k0 => (
    letO y3k0 fun w19 =>
    some w19)
  | .inr y3m0 =>
    some false)
theorem run_spec_l13Placed (a0 : TLibrary) (a1 : Int) (r : Bool) (h : F_spec_l13Placed a0 a1 = some r) : Fun Try.prog 164 [.agg [.bs (len a0.fCells) 4 (row gd (encCell len gd) a0.fCells)], .c (.v (.int .i64 a1))] [] (.c (.v (.bool r))) [] true := by
 refine Fun.of_wp (oneOf []) tok mixed Try.func164 (by kernel_rfl) rfl Try.ntmps164 rfl trivial (fun _ => ⟨trivial, trivial⟩) ?_
 unfold F_spec_l13Placed at h
 unfold L_spec_l13Placed_x2 at h
 have hf_spec_l09Uses := @run_spec_l09Uses
 generalize hLEN : @len = LEN at *
 generalize hGD : @gd = GD at *
 generalize hA : std = A at *
 generalize hP : Try.prog = P at *
 cbv
 replace h := of_bind h
 obtain ⟨y3, hr4, hN5⟩ := h
 refine loop_cut hr4 (fun x => (sparse 20 [(1, .c (.v (.int .i64 a1))), (2, .c (.ptr 128 0)), (5, .c (.v (.int .i64 x)))] [(128, .var [.bs (LEN a0.fCells) 4 (row GD (encCell LEN GD) a0.fCells)])])) ?_ (fun y e s => (match y with | .inl w => e = .ret ∧ s.le (sparse 20 [(4, .c (.v (.bool w)))] []) | .inr w0 => (fun (w : Unit) => e = .exit 0 ∧ s.le (sparse 20 [] [])) w0)) ?_ ?_
 ·clear hr4 hN5
  show St.le _ _
  exact le_sparse rfl ⟨lR _, lR _, lR _, trivial⟩ ⟨rfl, trivial⟩ rfl
 ·clear hr4 hN5
  intro x z9 h K7 hK8 hY6
  replace h := of_let h
  obtain ⟨v1, hv1, h⟩ := h
  have hv1 : v1 = x := hv1
  subst hv1
  cbv
  refine fork (fun b18 => ?_) (fun b18 => ?_)
  ·replace h := of_br_t b18 h
   cbv
   replace h := of_req h
   obtain ⟨c14, h⟩ := h
   refine ⟨⟨c14, trivial⟩, ?_⟩
   replace h := of_bind h
   obtain ⟨y15, hy16, h⟩ := h
   refine ⟨{ args := [.agg [.v (.string (GD a0.fCells (A.toN v1)).fName), .bs (LEN (GD a0.fCells (A.toN v1)).fShapes) 5 (row GD (encShape) (GD a0.fCells (A.toN v1)).fShapes), .bs (LEN (GD a0.fCells (A.toN v1)).fLabels) 4 (row GD (encLabel) (GD a0.fCells (A.toN v1)).fLabels), .bs (LEN (GD a0.fCells (A.toN v1)).fInstances) 8 (row GD (encInstance) (GD a0.fCells (A.toN v1)).fInstances)], .c (.v (.int .i64 a1))], o0 := [], r := .c (.v (.bool y15)), o1 := [], fl := true, σ := [], τ := [] }, hf_spec_l09Uses _ _ _ hy16, ⟨les_cons (lR _) (les_cons (lR _) (les_nil)), trivial, rfl, rfl, rfl, rfl, trivial, rfl⟩, ?_⟩
   cbv
   refine fork (fun b17 => ?_) (fun b17 => ?_)
   ·replace h := of_br_t b17 h
    cbv
    injection h with h
    refine hY6 _ h.symm _ _ (And.intro rfl ?_) (by intro hh; cases hh)
    exact le_sparse rfl ⟨lR _, trivial⟩ trivial rfl
   ·replace h := of_br_f b17 h
    cbv
    injection h with h
    refine hK8 _ h.symm _ ?_
    exact le_sparse rfl ⟨lR _, lR _, lR _, trivial⟩ ⟨rfl, trivial⟩ rfl
  ·replace h := of_br_f b18 h
   cbv
   injection h with h
   refine hY6 _ h.symm _ _ (And.intro rfl ?_) (by intro hh; cases hh)
   exact le_sparse rfl trivial trivial rfl
 ·clear hr4
  have h := hN5
  clear hN5
  intro e12 s13 q11 hne
  rcases y3 with y3k0 | y3m0
  ·replace h := h
   obtain ⟨rfl, q11⟩ := q11
   replace h := of_let h
   obtain ⟨w19, hw19, h⟩ := h
   have hw19 : w19 = y3k0 := hw19
   subst hw19
   cbv
   injection h with h
   subst h
   refine ⟨(sparse 20 [(4, .c (.v (.bool w19)))] []), ?_, ?_⟩
   ·refine St.le_trans q11 ?_
    exact le_sparse rfl ⟨lR _, trivial⟩ trivial rfl
   ·exact ⟨lR _, trivial, rfl⟩
  ·obtain ⟨rfl, q11⟩ := q11
   cbv
   refine ⟨_, q11, ?_⟩
   cbv
   injection h with h
   subst h
   refine ⟨(sparse 20 [(4, .c (.v (.bool false)))] []), ?_, ?_⟩
   ·exact le_sparse rfl ⟨lR _, trivial⟩ trivial rfl
   ·exact ⟨lR _, trivial, rfl⟩

/-- spec.l13CellCode -/
noncomputable def F_spec_l13CellCode (a0 : TLibrary) (a1 : TEdit) : Option (Int) :=
 ((
    br (std.eq a1.fKind 8)
    (br (std.lt (std.ofN (len a0.fCells)) a1.fCell)
    (some true)
    (br (std.not (std.eq a1.fKind 8))
    (some (std.le (std.ofN (len a0.fCells)) a1.fCell))
    (some false)))
    (br (std.not (std.eq a1.fKind 8))
    (some (std.le (std.ofN (len a0.fCells)) a1.fCell))
    (some false))
  ) : Option (Bool)).bind fun y1 =>
 letO y1 fun w7 =>
 br w7
 (some 5)
 (((
    br (std.eq a1.fKind 8)
    (some (std.eq (std.ofN (len a0.fCells)) 8))
    (some false)
  ) : Option (Bool)).bind fun y12 =>
 letO y12 fun w18 =>
 br w18
 (some 3)
 (((
    br (std.eq a1.fKind 8)
    ((F_spec_l13Named (TLibrary.mk a0.fCells) (-1) a1.fName).bind fun y27 =>
    some y27)
    (some false)
  ) : Option (Bool)).bind fun y20 =>
 letO y20 fun w26 =>
 br w26
 (some 6)
 (((
    br (std.eq a1.fKind 7)
    ((F_spec_l13Named (TLibrary.mk a0.fCells) a1.fCell a1.fName).bind fun y37 =>
    some y37)
    (some false)
  ) : Option (Bool)).bind fun y30 =>
 letO y30 fun w36 =>
 br w36
 (some 6)
 (((
    br (std.eq a1.fKind 9)
    (req (std.inR a1.fCell (len a0.fCells)) <|
    ((
       br (std.eq (std.ofN (len a0.fCells)) 1)
       (some true)
       (br (std.lt 0 (std.add .i64 (std.add .i64 (std.ofN (len (gd a0.fCells (std.toN a1.fCell)).fShapes)) (std.ofN (len (gd a0.fCells (std.toN a1.fCell)).fLabels))) (std.ofN (len (gd a0.fCells (std.toN a1.fCell)).fInstances))))
       (some true)
       ((F_spec_l13Placed (TLibrary.mk a0.fCells) a1.fCell).bind fun y54 =>
       some y54))
     ) : Option (Bool)).bind fun y47 =>
    letO y47 fun w53 =>
    br w53
    ((some 6).bind fun r58 => some (.inl r58))
    (some (.inr ())))
    (some (.inr ()))
  ) : Option (_ ⊕ Unit)).bind fun z42 => (match z42 with
  | .inl r => some r
  | .inr y40 =>
    some 0)))))
theorem run_spec_l13CellCode (a0 : TLibrary) (a1 : TEdit) (r : Int) (h : F_spec_l13CellCode a0 a1 = some r) : Fun Try.prog 113 [.agg [.bs (len a0.fCells) 4 (row gd (encCell len gd) a0.fCells)], .agg [.v (.int .i64 a1.fKind), .v (.int .i64 a1.fCell), .v (.int .i64 a1.fIndex), .v (.string a1.fName), .v (.int .i64 a1.fShape.fLayer), .v (.int .i64 a1.fShape.fBox.fX0), .v (.int .i64 a1.fShape.fBox.fY0), .v (.int .i64 a1.fShape.fBox.fX1), .v (.int .i64 a1.fShape.fBox.fY1), .v (.int .i64 a1.fLabel.fLayer), .v (.int .i64 a1.fLabel.fAt.fX), .v (.int .i64 a1.fLabel.fAt.fY), .v (.string a1.fLabel.fName), .v (.int .i64 a1.fInstance.fCell), .v (.int .i64 a1.fInstance.fPlace.fOrientation), .v (.int .i64 a1.fInstance.fPlace.fX), .v (.int .i64 a1.fInstance.fPlace.fY), .v (.int .i64 a1.fInstance.fColumns), .v (.int .i64 a1.fInstance.fRows), .v (.int .i64 a1.fInstance.fStepX), .v (.int .i64 a1.fInstance.fStepY)]] [] (.c (.v (.int .i64 r))) [] true := by
 refine Fun.of_wp (oneOf [2, 4, 6, 8, 12, 100061]) tok mixed Try.func113 (by kernel_rfl) rfl Try.ntmps113 rfl trivial (fun _ => ⟨trivial, trivial⟩) ?_
 unfold F_spec_l13CellCode at h
 have hf_spec_l13Named := @run_spec_l13Named
 have hf_spec_l13Placed := @run_spec_l13Placed
 generalize hLEN : @len = LEN at *
 generalize hGD : @gd = GD at *
 generalize hA : std = A at *
 generalize hP : Try.prog = P at *
 cbv
 replace h := of_bind h
 obtain ⟨y1, hy2, h⟩ := h
 obtain ⟨S5, hS6⟩ : ∃ S, S = (sparse 93 [(2, .c (.ptr 128 0)), (3, .c (.ptr 192 0)), (5, .c (.v (.int .i64 (A.ofN (LEN a0.fCells))))), (10, .c (.v (.bool y1)))] [(128, .var [.bs (LEN a0.fCells) 4 (row GD (encCell LEN GD) a0.fCells)]), (192, .var [.v (.int .i64 a1.fKind), .v (.int .i64 a1.fCell), .v (.int .i64 a1.fIndex), .v (.string a1.fName), .v (.int .i64 a1.fShape.fLayer), .v (.int .i64 a1.fShape.fBox.fX0), .v (.int .i64 a1.fShape.fBox.fY0), .v (.int .i64 a1.fShape.fBox.fX1), .v (.int .i64 a1.fShape.fBox.fY1), .v (.int .i64 a1.fLabel.fLayer), .v (.int .i64 a1.fLabel.fAt.fX), .v (.int .i64 a1.fLabel.fAt.fY), .v (.string a1.fLabel.fName), .v (.int .i64 a1.fInstance.fCell), .v (.int .i64 a1.fInstance.fPlace.fOrientation), .v (.int .i64 a1.fInstance.fPlace.fX), .v (.int .i64 a1.fInstance.fPlace.fY), .v (.int .i64 a1.fInstance.fColumns), .v (.int .i64 a1.fInstance.fRows), .v (.int .i64 a1.fInstance.fStepX), .v (.int .i64 a1.fInstance.fStepY)])]) := ⟨_, rfl⟩
 refine ⟨S5, ?_, ?_⟩
 ·clear h
  have h := hy2
  clear hy2
  cbv
  refine fork (fun b11 => ?_) (fun b11 => ?_)
  ·replace h := of_br_t b11 h
   cbv
   refine fork (fun b9 => ?_) (fun b9 => ?_)
   ·replace h := of_br_t b9 h
    cbv
    injection h with h
    subst h
    subst hS6
    show St.le _ _
    exact le_sparse rfl ⟨lR _, lR _, lR _, lR _, trivial⟩ ⟨rfl, rfl, trivial⟩ rfl
   ·replace h := of_br_f b9 h
    cbv
    refine fork (fun b8 => ?_) (fun b8 => ?_)
    ·replace h := of_br_t b8 h
     cbv
     injection h with h
     subst h
     subst hS6
     show St.le _ _
     exact le_sparse rfl ⟨lR _, lR _, lR _, lR _, trivial⟩ ⟨rfl, rfl, trivial⟩ rfl
    ·replace h := of_br_f b8 h
     cbv
     injection h with h
     subst h
     subst hS6
     show St.le _ _
     exact le_sparse rfl ⟨lR _, lR _, lR _, lR _, trivial⟩ ⟨rfl, rfl, trivial⟩ rfl
  ·replace h := of_br_f b11 h
   cbv
   refine fork (fun b10 => ?_) (fun b10 => ?_)
   ·replace h := of_br_t b10 h
    cbv
    injection h with h
    subst h
    subst hS6
    show St.le _ _
    exact le_sparse rfl ⟨lR _, lR _, lR _, lR _, trivial⟩ ⟨rfl, rfl, trivial⟩ rfl
   ·replace h := of_br_f b10 h
    cbv
    injection h with h
    subst h
    subst hS6
    show St.le _ _
    exact le_sparse rfl ⟨lR _, lR _, lR _, lR _, trivial⟩ ⟨rfl, rfl, trivial⟩ rfl
 ·clear hy2
  subst hS6
  replace h := of_let h
  obtain ⟨w7, hw7, h⟩ := h
  have hw7 : w7 = y1 := hw7
  subst hw7
  cbv
  refine fork (fun b66 => ?_) (fun b66 => ?_)
  ·replace h := of_br_t b66 h
   cbv
   injection h with h
   subst h
   refine ⟨(sparse 93 [(4, .c (.v (.int .i64 5)))] []), ?_, ?_⟩
   ·exact le_sparse rfl ⟨lR _, trivial⟩ trivial rfl
   ·exact ⟨lR _, trivial, rfl⟩
  ·replace h := of_br_f b66 h
   cbv
   replace h := of_bind h
   obtain ⟨y12, hy13, h⟩ := h
   obtain ⟨S16, hS17⟩ : ∃ S, S = (sparse 93 [(2, .c (.ptr 128 0)), (3, .c (.ptr 192 0)), (5, .c (.v (.int .i64 (A.ofN (LEN a0.fCells))))), (31, .c (.v (.bool y12)))] [(128, .var [.bs (LEN a0.fCells) 4 (row GD (encCell LEN GD) a0.fCells)]), (192, .var [.v (.int .i64 a1.fKind), .v (.int .i64 a1.fCell), .v (.int .i64 a1.fIndex), .v (.string a1.fName), .v (.int .i64 a1.fShape.fLayer), .v (.int .i64 a1.fShape.fBox.fX0), .v (.int .i64 a1.fShape.fBox.fY0), .v (.int .i64 a1.fShape.fBox.fX1), .v (.int .i64 a1.fShape.fBox.fY1), .v (.int .i64 a1.fLabel.fLayer), .v (.int .i64 a1.fLabel.fAt.fX), .v (.int .i64 a1.fLabel.fAt.fY), .v (.string a1.fLabel.fName), .v (.int .i64 a1.fInstance.fCell), .v (.int .i64 a1.fInstance.fPlace.fOrientation), .v (.int .i64 a1.fInstance.fPlace.fX), .v (.int .i64 a1.fInstance.fPlace.fY), .v (.int .i64 a1.fInstance.fColumns), .v (.int .i64 a1.fInstance.fRows), .v (.int .i64 a1.fInstance.fStepX), .v (.int .i64 a1.fInstance.fStepY)])]) := ⟨_, rfl⟩
   refine ⟨S16, ?_, ?_⟩
   ·clear h
    have h := hy13
    clear hy13
    cbv
    refine fork (fun b19 => ?_) (fun b19 => ?_)
    ·replace h := of_br_t b19 h
     cbv
     injection h with h
     subst h
     subst hS17
     show St.le _ _
     exact le_sparse rfl ⟨lR _, lR _, lR _, lR _, trivial⟩ ⟨rfl, rfl, trivial⟩ rfl
    ·replace h := of_br_f b19 h
     cbv
     injection h with h
     subst h
     subst hS17
     show St.le _ _
     exact le_sparse rfl ⟨lR _, lR _, lR _, lR _, trivial⟩ ⟨rfl, rfl, trivial⟩ rfl
   ·clear hy13
    subst hS17
    replace h := of_let h
    obtain ⟨w18, hw18, h⟩ := h
    have hw18 : w18 = y12 := hw18
    subst hw18
    cbv
    refine fork (fun b65 => ?_) (fun b65 => ?_)
    ·replace h := of_br_t b65 h
     cbv
     injection h with h
     subst h
     refine ⟨(sparse 93 [(4, .c (.v (.int .i64 3)))] []), ?_, ?_⟩
     ·exact le_sparse rfl ⟨lR _, trivial⟩ trivial rfl
     ·exact ⟨lR _, trivial, rfl⟩
    ·replace h := of_br_f b65 h
     cbv
     replace h := of_bind h
     obtain ⟨y20, hy21, h⟩ := h
     obtain ⟨S24, hS25⟩ : ∃ S, S = (sparse 93 [(2, .c (.ptr 128 0)), (3, .c (.ptr 192 0)), (5, .c (.v (.int .i64 (A.ofN (LEN a0.fCells))))), (39, .c (.v (.bool y20)))] [(128, .var [.bs (LEN a0.fCells) 4 (row GD (encCell LEN GD) a0.fCells)]), (192, .var [.v (.int .i64 a1.fKind), .v (.int .i64 a1.fCell), .v (.int .i64 a1.fIndex), .v (.string a1.fName), .v (.int .i64 a1.fShape.fLayer), .v (.int .i64 a1.fShape.fBox.fX0), .v (.int .i64 a1.fShape.fBox.fY0), .v (.int .i64 a1.fShape.fBox.fX1), .v (.int .i64 a1.fShape.fBox.fY1), .v (.int .i64 a1.fLabel.fLayer), .v (.int .i64 a1.fLabel.fAt.fX), .v (.int .i64 a1.fLabel.fAt.fY), .v (.string a1.fLabel.fName), .v (.int .i64 a1.fInstance.fCell), .v (.int .i64 a1.fInstance.fPlace.fOrientation), .v (.int .i64 a1.fInstance.fPlace.fX), .v (.int .i64 a1.fInstance.fPlace.fY), .v (.int .i64 a1.fInstance.fColumns), .v (.int .i64 a1.fInstance.fRows), .v (.int .i64 a1.fInstance.fStepX), .v (.int .i64 a1.fInstance.fStepY)])]) := ⟨_, rfl⟩
     refine ⟨S24, ?_, ?_⟩
     ·clear h
      have h := hy21
      clear hy21
      cbv
      refine fork (fun b29 => ?_) (fun b29 => ?_)
      ·replace h := of_br_t b29 h
       cbv
       replace h := of_bind h
       obtain ⟨y27, hy28, h⟩ := h
       refine ⟨{ args := [.agg [.bs (LEN a0.fCells) 4 (row GD (encCell LEN GD) a0.fCells)], .c (.v (.int .i64 (-1))), .c (.v (.string a1.fName))], o0 := [], r := .c (.v (.bool y27)), o1 := [], fl := true, σ := [], τ := [] }, hf_spec_l13Named _ _ _ _ hy28, ⟨les_cons (lR _) (les_cons (lR _) (les_cons (lR _) (les_nil))), trivial, rfl, rfl, rfl, rfl, trivial, rfl⟩, ?_⟩
       cbv
       injection h with h
       subst h
       subst hS25
       show St.le _ _
       exact le_sparse rfl ⟨lR _, lR _, lR _, lR _, trivial⟩ ⟨rfl, rfl, trivial⟩ rfl
      ·replace h := of_br_f b29 h
       cbv
       injection h with h
       subst h
       subst hS25
       show St.le _ _
       exact le_sparse rfl ⟨lR _, lR _, lR _, lR _, trivial⟩ ⟨rfl, rfl, trivial⟩ rfl
     ·clear hy21
      subst hS25
      replace h := of_let h
      obtain ⟨w26, hw26, h⟩ := h
      have hw26 : w26 = y20 := hw26
      subst hw26
      cbv
      refine fork (fun b64 => ?_) (fun b64 => ?_)
      ·replace h := of_br_t b64 h
       cbv
       injection h with h
       subst h
       refine ⟨(sparse 93 [(4, .c (.v (.int .i64 6)))] []), ?_, ?_⟩
       ·exact le_sparse rfl ⟨lR _, trivial⟩ trivial rfl
       ·exact ⟨lR _, trivial, rfl⟩
      ·replace h := of_br_f b64 h
       cbv
       replace h := of_bind h
       obtain ⟨y30, hy31, h⟩ := h
       obtain ⟨S34, hS35⟩ : ∃ S, S = (sparse 93 [(2, .c (.ptr 128 0)), (3, .c (.ptr 192 0)), (5, .c (.v (.int .i64 (A.ofN (LEN a0.fCells))))), (49, .c (.v (.bool y30)))] [(128, .var [.bs (LEN a0.fCells) 4 (row GD (encCell LEN GD) a0.fCells)]), (192, .var [.v (.int .i64 a1.fKind), .v (.int .i64 a1.fCell), .v (.int .i64 a1.fIndex), .v (.string a1.fName), .v (.int .i64 a1.fShape.fLayer), .v (.int .i64 a1.fShape.fBox.fX0), .v (.int .i64 a1.fShape.fBox.fY0), .v (.int .i64 a1.fShape.fBox.fX1), .v (.int .i64 a1.fShape.fBox.fY1), .v (.int .i64 a1.fLabel.fLayer), .v (.int .i64 a1.fLabel.fAt.fX), .v (.int .i64 a1.fLabel.fAt.fY), .v (.string a1.fLabel.fName), .v (.int .i64 a1.fInstance.fCell), .v (.int .i64 a1.fInstance.fPlace.fOrientation), .v (.int .i64 a1.fInstance.fPlace.fX), .v (.int .i64 a1.fInstance.fPlace.fY), .v (.int .i64 a1.fInstance.fColumns), .v (.int .i64 a1.fInstance.fRows), .v (.int .i64 a1.fInstance.fStepX), .v (.int .i64 a1.fInstance.fStepY)])]) := ⟨_, rfl⟩
       refine ⟨S34, ?_, ?_⟩
       ·clear h
        have h := hy31
        clear hy31
        cbv
        refine fork (fun b39 => ?_) (fun b39 => ?_)
        ·replace h := of_br_t b39 h
         cbv
         replace h := of_bind h
         obtain ⟨y37, hy38, h⟩ := h
         refine ⟨{ args := [.agg [.bs (LEN a0.fCells) 4 (row GD (encCell LEN GD) a0.fCells)], .c (.v (.int .i64 a1.fCell)), .c (.v (.string a1.fName))], o0 := [], r := .c (.v (.bool y37)), o1 := [], fl := true, σ := [], τ := [] }, hf_spec_l13Named _ _ _ _ hy38, ⟨les_cons (lR _) (les_cons (lR _) (les_cons (lR _) (les_nil))), trivial, rfl, rfl, rfl, rfl, trivial, rfl⟩, ?_⟩
         cbv
         injection h with h
         subst h
         subst hS35
         show St.le _ _
         exact le_sparse rfl ⟨lR _, lR _, lR _, lR _, trivial⟩ ⟨rfl, rfl, trivial⟩ rfl
        ·replace h := of_br_f b39 h
         cbv
         injection h with h
         subst h
         subst hS35
         show St.le _ _
         exact le_sparse rfl ⟨lR _, lR _, lR _, lR _, trivial⟩ ⟨rfl, rfl, trivial⟩ rfl
       ·clear hy31
        subst hS35
        replace h := of_let h
        obtain ⟨w36, hw36, h⟩ := h
        have hw36 : w36 = y30 := hw36
        subst hw36
        cbv
        refine fork (fun b63 => ?_) (fun b63 => ?_)
        ·replace h := of_br_t b63 h
         cbv
         injection h with h
         subst h
         refine ⟨(sparse 93 [(4, .c (.v (.int .i64 6)))] []), ?_, ?_⟩
         ·exact le_sparse rfl ⟨lR _, trivial⟩ trivial rfl
         ·exact ⟨lR _, trivial, rfl⟩
        ·replace h := of_br_f b63 h
         cbv
         replace h := of_bind h
         obtain ⟨z42, hy41, hz43⟩ := h
         obtain ⟨S44, hS45⟩ : ∃ S, S = (match z42 with | .inl _ => none | .inr y40 => some (sparse 93 [] [])) := ⟨_, rfl⟩
         refine ⟨S44, ?_, ?_⟩
         ·have h := hy41
          clear hy41
          cbv
          refine fork (fun b62 => ?_) (fun b62 => ?_)
          ·replace h := of_br_t b62 h
           cbv
           replace h := of_req h
           obtain ⟨c46, h⟩ := h
           refine ⟨⟨c46, trivial⟩, ?_⟩
           replace h := of_bind h
           obtain ⟨y47, hy48, h⟩ := h
           obtain ⟨S51, hS52⟩ : ∃ S, S = (sparse 93 [(92, .c (.v (.bool y47)))] []) := ⟨_, rfl⟩
           refine ⟨S51, ?_, ?_⟩
           ·clear h
            have h := hy48
            clear hy48
            cbv
            refine fork (fun b57 => ?_) (fun b57 => ?_)
            ·replace h := of_br_t b57 h
             cbv
             injection h with h
             subst h
             subst hS52
             show St.le _ _
             exact le_sparse rfl ⟨lR _, trivial⟩ trivial rfl
            ·replace h := of_br_f b57 h
             cbv
             refine fork (fun b56 => ?_) (fun b56 => ?_)
             ·replace h := of_br_t b56 h
              cbv
              injection h with h
              subst h
              subst hS52
              show St.le _ _
              exact le_sparse rfl ⟨lR _, trivial⟩ trivial rfl
             ·replace h := of_br_f b56 h
              cbv
              replace h := of_bind h
              obtain ⟨y54, hy55, h⟩ := h
              refine ⟨{ args := [.agg [.bs (LEN a0.fCells) 4 (row GD (encCell LEN GD) a0.fCells)], .c (.v (.int .i64 a1.fCell))], o0 := [], r := .c (.v (.bool y54)), o1 := [], fl := true, σ := [], τ := [] }, hf_spec_l13Placed _ _ _ hy55, ⟨les_cons (lR _) (les_cons (lR _) (les_nil)), trivial, rfl, rfl, rfl, rfl, trivial, rfl⟩, ?_⟩
              cbv
              injection h with h
              subst h
              subst hS52
              show St.le _ _
              exact le_sparse rfl ⟨lR _, trivial⟩ trivial rfl
           ·clear hy48
            subst hS52
            replace h := of_let h
            obtain ⟨w53, hw53, h⟩ := h
            have hw53 : w53 = y47 := hw53
            subst hw53
            cbv
            refine fork (fun b61 => ?_) (fun b61 => ?_)
            ·replace h := of_br_t b61 h
             cbv
             replace h := of_bind h
             obtain ⟨r58, h59, he60⟩ := h
             injection he60 with he60
             subst he60
             injection hz43 with hz43
             subst hz43
             have h := h59
             injection h with h
             subst h
             refine ⟨(sparse 93 [(4, .c (.v (.int .i64 6)))] []), ?_, ?_⟩
             ·exact le_sparse rfl ⟨lR _, trivial⟩ trivial rfl
             ·exact ⟨lR _, trivial, rfl⟩
            ·replace h := of_br_f b61 h
             cbv
             injection h with h
             subst h
             subst hS45
             show St.le _ _
             exact le_sparse rfl trivial trivial rfl
          ·replace h := of_br_f b62 h
           cbv
           injection h with h
           subst h
           subst hS45
           show St.le _ _
           exact le_sparse rfl trivial trivial rfl
         ·clear hy41
          subst hS45
          rcases z42 with _ | y40
          ·trivial
          ·have h := hz43
           clear hz43
           cbv
           injection h with h
           subst h
           refine ⟨(sparse 93 [(4, .c (.v (.int .i64 0)))] []), ?_, ?_⟩
           ·exact le_sparse rfl ⟨lR _, trivial⟩ trivial rfl
           ·exact ⟨lR _, trivial, rfl⟩

/-- spec.l13Counts -/
noncomputable def F_spec_l13Counts (a0 : TCell) (a1 : Int) : Option (Int × Int) :=
 ((
    br (std.eq a1 1)
    (some true)
    (some (std.eq a1 2))
  ) : Option (Bool)).bind fun y1 =>
 letO y1 fun w7 =>
 ((
    br w7
    ((some (std.ofN (len a0.fShapes), (24 : Int))).bind fun r15 => some (.inl r15))
    (((
       br (std.eq a1 3)
       (some true)
       (some (std.eq a1 4))
     ) : Option (Bool)).bind fun y18 =>
    letO y18 fun w24 =>
    ((
       br w24
       (((some (std.ofN (len a0.fLabels), (8 : Int))).bind fun r32 => some (.inl r32)).bind fun r35 => some (.inl r35))
       (some (.inr ()))
     ) : Option (_ ⊕ Unit)).bind fun z28 => (match z28 with
     | .inl r => some r
     | .inr y26 =>
       some (.inr ())))
  ) : Option (_ ⊕ Unit)).bind fun z11 => (match z11 with
  | .inl r => some r
  | .inr y9 =>
    some (std.ofN (len a0.fInstances), (8 : Int)))
theorem run_spec_l13Counts (a0 : TCell) (a1 : Int) (r : Int × Int) (h : F_spec_l13Counts a0 a1 = some r) : Fun Try.prog 114 [.agg [.v (.string a0.fName), .bs (len a0.fShapes) 5 (row gd (encShape) a0.fShapes), .bs (len a0.fLabels) 4 (row gd (encLabel) a0.fLabels), .bs (len a0.fInstances) 8 (row gd (encInstance) a0.fInstances)], .c (.v (.int .i64 a1))] [] (.tup [.c (.v (.int .i64 r.1)), .c (.v (.int .i64 r.2))]) [] true := by
 refine Fun.of_wp (oneOf [100007, 100013]) tok mixed Try.func114 (by kernel_rfl) rfl Try.ntmps114 rfl trivial (fun _ => ⟨(by simp [AV.flat, AV.flat1, AC.flat]), trivial⟩) ?_
 unfold F_spec_l13Counts at h
 generalize hLEN : @len = LEN at *
 generalize hGD : @gd = GD at *
 generalize hA : std = A at *
 generalize hP : Try.prog = P at *
 cbv
 replace h := of_bind h
 obtain ⟨y1, hy2, h⟩ := h
 obtain ⟨S5, hS6⟩ : ∃ S, S = some (sparse 22 [(2, .c (.ptr 128 0)), (6, .c (.v (.int .i64 a1))), (7, .c (.v (.bool y1)))] [(128, .var [.v (.string a0.fName), .bs (LEN a0.fShapes) 5 (row GD (encShape) a0.fShapes), .bs (LEN a0.fLabels) 4 (row GD (encLabel) a0.fLabels), .bs (LEN a0.fInstances) 8 (row GD (encInstance) a0.fInstances)])]) := ⟨_, rfl⟩
 refine ⟨S5, ?_, ?_⟩
 ·clear h
  have h := hy2
  clear hy2
  cbv
  refine fork (fun b8 => ?_) (fun b8 => ?_)
  ·replace h := of_br_t b8 h
   cbv
   injection h with h
   subst h
   subst hS6
   show St.le _ _
   exact le_sparse rfl ⟨lR _, lR _, lR _, trivial⟩ ⟨rfl, trivial⟩ rfl
  ·replace h := of_br_f b8 h
   cbv
   injection h with h
   subst h
   subst hS6
   show St.le _ _
   exact le_sparse rfl ⟨lR _, lR _, lR _, trivial⟩ ⟨rfl, trivial⟩ rfl
 ·clear hy2
  subst hS6
  replace h := of_let h
  obtain ⟨w7, hw7, h⟩ := h
  have hw7 : w7 = y1 := hw7
  subst hw7
  cbv
  replace h := of_bind h
  obtain ⟨z11, hy10, hz12⟩ := h
  obtain ⟨S13, hS14⟩ : ∃ S, S = (match z11 with | .inl _ => none | .inr y9 => some (sparse 22 [(2, .c (.ptr 128 0))] [(128, .var [.v (.string a0.fName), .bs (LEN a0.fShapes) 5 (row GD (encShape) a0.fShapes), .bs (LEN a0.fLabels) 4 (row GD (encLabel) a0.fLabels), .bs (LEN a0.fInstances) 8 (row GD (encInstance) a0.fInstances)])])) := ⟨_, rfl⟩
  refine ⟨S13, ?_, ?_⟩
  ·have h := hy10
   clear hy10
   cbv
   refine fork (fun b39 => ?_) (fun b39 => ?_)
   ·replace h := of_br_t b39 h
    cbv
    replace h := of_bind h
    obtain ⟨r15, h16, he17⟩ := h
    injection he17 with he17
    subst he17
    injection hz12 with hz12
    subst hz12
    have h := h16
    injection h with h
    subst h
    refine ⟨(sparse 22 [(4, .c (.v (.int .i64 (A.ofN (LEN a0.fShapes))))), (5, .c (.v (.int .i64 24)))] []), ?_, ?_⟩
    ·exact le_sparse rfl ⟨lR _, lR _, trivial⟩ trivial rfl
    ·exact ⟨lR _, trivial, rfl⟩
   ·replace h := of_br_f b39 h
    cbv
    replace h := of_bind h
    obtain ⟨y18, hy19, h⟩ := h
    obtain ⟨S22, hS23⟩ : ∃ S, S = some (sparse 22 [(2, .c (.ptr 128 0)), (13, .c (.v (.bool y18)))] [(128, .var [.v (.string a0.fName), .bs (LEN a0.fShapes) 5 (row GD (encShape) a0.fShapes), .bs (LEN a0.fLabels) 4 (row GD (encLabel) a0.fLabels), .bs (LEN a0.fInstances) 8 (row GD (encInstance) a0.fInstances)])]) := ⟨_, rfl⟩
    refine ⟨S22, ?_, ?_⟩
    ·clear h
     have h := hy19
     clear hy19
     cbv
     refine fork (fun b25 => ?_) (fun b25 => ?_)
     ·replace h := of_br_t b25 h
      cbv
      injection h with h
      subst h
      subst hS23
      show St.le _ _
      exact le_sparse rfl ⟨lR _, lR _, trivial⟩ ⟨rfl, trivial⟩ rfl
     ·replace h := of_br_f b25 h
      cbv
      injection h with h
      subst h
      subst hS23
      show St.le _ _
      exact le_sparse rfl ⟨lR _, lR _, trivial⟩ ⟨rfl, trivial⟩ rfl
    ·clear hy19
     subst hS23
     replace h := of_let h
     obtain ⟨w24, hw24, h⟩ := h
     have hw24 : w24 = y18 := hw24
     subst hw24
     cbv
     replace h := of_bind h
     obtain ⟨z28, hy27, hz29⟩ := h
     obtain ⟨S30, hS31⟩ : ∃ S, S = (match z28 with | .inl _ => none | .inr y26 => some (sparse 22 [(2, .c (.ptr 128 0))] [(128, .var [.v (.string a0.fName), .bs (LEN a0.fShapes) 5 (row GD (encShape) a0.fShapes), .bs (LEN a0.fLabels) 4 (row GD (encLabel) a0.fLabels), .bs (LEN a0.fInstances) 8 (row GD (encInstance) a0.fInstances)])])) := ⟨_, rfl⟩
     refine ⟨S30, ?_, ?_⟩
     ·have h := hy27
      clear hy27
      cbv
      refine fork (fun b38 => ?_) (fun b38 => ?_)
      ·replace h := of_br_t b38 h
       cbv
       replace h := of_bind h
       obtain ⟨r35, h36, he37⟩ := h
       injection he37 with he37
       subst he37
       injection hz29 with hz29
       subst hz29
       have h := h36
       replace h := of_bind h
       obtain ⟨r32, h33, he34⟩ := h
       injection he34 with he34
       subst he34
       injection hz12 with hz12
       subst hz12
       have h := h33
       injection h with h
       subst h
       refine ⟨(sparse 22 [(4, .c (.v (.int .i64 (A.ofN (LEN a0.fLabels))))), (5, .c (.v (.int .i64 8)))] []), ?_, ?_⟩
       ·exact le_sparse rfl ⟨lR _, lR _, trivial⟩ trivial rfl
       ·exact ⟨lR _, trivial, rfl⟩
      ·replace h := of_br_f b38 h
       cbv
       injection h with h
       subst h
       subst hS31
       show St.le _ _
       exact le_sparse rfl ⟨lR _, trivial⟩ ⟨rfl, trivial⟩ rfl
     ·clear hy27
      subst hS31
      rcases z28 with _ | y26
      ·trivial
      ·have h := hz29
       clear hz29
       cbv
       injection h with h
       subst h
       subst hS14
       show St.le _ _
       exact le_sparse rfl ⟨lR _, trivial⟩ ⟨rfl, trivial⟩ rfl
  ·clear hy10
   subst hS14
   rcases z11 with _ | y9
   ·trivial
   ·have h := hz12
    clear hz12
    cbv
    injection h with h
    subst h
    refine ⟨(sparse 22 [(4, .c (.v (.int .i64 (A.ofN (LEN a0.fInstances))))), (5, .c (.v (.int .i64 8)))] []), ?_, ?_⟩
    ·exact le_sparse rfl ⟨lR _, lR _, trivial⟩ trivial rfl
    ·exact ⟨lR _, trivial, rfl⟩

/-- spec.l13Code -/
noncomputable def F_spec_l13Code (a0 : TLibrary) (a1 : TEdit) : Option (Int) :=
 ((
    (F_spec_IsValidLibrary (TLibrary.mk a0.fCells)).bind fun y8 =>
    br (!(y8))
    (some true)
    ((F_spec_IsValidEdit a1).bind fun y10 =>
    some (!(y10)))
  ) : Option (Bool)).bind fun y1 =>
 letO y1 fun w7 =>
 br w7
 (some 1)
 (br (std.le 7 a1.fKind)
 ((F_spec_l13CellCode (TLibrary.mk a0.fCells) a1).bind fun y13 =>
 some y13)
 (br (std.le (std.ofN (len a0.fCells)) a1.fCell)
 (some 5)
 (req (std.inR a1.fCell (len a0.fCells)) <|
 (F_spec_l13Counts (gd a0.fCells (std.toN a1.fCell)) a1.fKind).bind fun y16 =>
 ((
    br (std.eq a1.fKind 2)
    (some true)
    (br (std.eq a1.fKind 4)
    (some true)
    (some (std.eq a1.fKind 6)))
  ) : Option (Bool)).bind fun y18 =>
 letO y18 fun w24 =>
 ((
    br w24
    (some (std.le y16.1 a1.fIndex))
    (some false)
  ) : Option (Bool)).bind fun y27 =>
 letO y27 fun w33 =>
 br w33
 (some 5)
 (br w24
 (some 0)
 (br (std.lt y16.1 a1.fIndex)
 (some 2)
 (br (std.eq y16.1 y16.2)
 (some 3)
 (((
    br (std.eq a1.fKind 5)
    (some (std.le a1.fCell a1.fInstance.fCell))
    (some false)
  ) : Option (Bool)).bind fun y35 =>
 letO y35 fun w41 =>
 br w41
 (some 6)
 (some 0))))))))
theorem run_spec_l13Code (a0 : TLibrary) (a1 : TEdit) (r : Int) (h : F_spec_l13Code a0 a1 = some r) : Fun Try.prog 70 [.agg [.bs (len a0.fCells) 4 (row gd (encCell len gd) a0.fCells)], .agg [.v (.int .i64 a1.fKind), .v (.int .i64 a1.fCell), .v (.int .i64 a1.fIndex), .v (.string a1.fName), .v (.int .i64 a1.fShape.fLayer), .v (.int .i64 a1.fShape.fBox.fX0), .v (.int .i64 a1.fShape.fBox.fY0), .v (.int .i64 a1.fShape.fBox.fX1), .v (.int .i64 a1.fShape.fBox.fY1), .v (.int .i64 a1.fLabel.fLayer), .v (.int .i64 a1.fLabel.fAt.fX), .v (.int .i64 a1.fLabel.fAt.fY), .v (.string a1.fLabel.fName), .v (.int .i64 a1.fInstance.fCell), .v (.int .i64 a1.fInstance.fPlace.fOrientation), .v (.int .i64 a1.fInstance.fPlace.fX), .v (.int .i64 a1.fInstance.fPlace.fY), .v (.int .i64 a1.fInstance.fColumns), .v (.int .i64 a1.fInstance.fRows), .v (.int .i64 a1.fInstance.fStepX), .v (.int .i64 a1.fInstance.fStepY)]] [] (.c (.v (.int .i64 r))) [] true := by
 refine Fun.of_wp (oneOf [1, 8, 9, 17]) tok mixed Try.func70 (by kernel_rfl) rfl Try.ntmps70 rfl trivial (fun _ => ⟨trivial, trivial⟩) ?_
 unfold F_spec_l13Code at h
 have hf_spec_IsValidEdit := @run_spec_IsValidEdit
 have hf_spec_IsValidLibrary := @run_spec_IsValidLibrary
 have hf_spec_l13CellCode := @run_spec_l13CellCode
 have hf_spec_l13Counts := @run_spec_l13Counts
 generalize hLEN : @len = LEN at *
 generalize hGD : @gd = GD at *
 generalize hA : std = A at *
 generalize hP : Try.prog = P at *
 cbv
 replace h := of_bind h
 obtain ⟨y1, hy2, h⟩ := h
 obtain ⟨S5, hS6⟩ : ∃ S, S = (sparse 84 [(2, .c (.ptr 128 0)), (3, .c (.ptr 192 0)), (15, .c (.v (.bool y1)))] [(128, .var [.bs (LEN a0.fCells) 4 (row GD (encCell LEN GD) a0.fCells)]), (192, .var [.v (.int .i64 a1.fKind), .v (.int .i64 a1.fCell), .v (.int .i64 a1.fIndex), .v (.string a1.fName), .v (.int .i64 a1.fShape.fLayer), .v (.int .i64 a1.fShape.fBox.fX0), .v (.int .i64 a1.fShape.fBox.fY0), .v (.int .i64 a1.fShape.fBox.fX1), .v (.int .i64 a1.fShape.fBox.fY1), .v (.int .i64 a1.fLabel.fLayer), .v (.int .i64 a1.fLabel.fAt.fX), .v (.int .i64 a1.fLabel.fAt.fY), .v (.string a1.fLabel.fName), .v (.int .i64 a1.fInstance.fCell), .v (.int .i64 a1.fInstance.fPlace.fOrientation), .v (.int .i64 a1.fInstance.fPlace.fX), .v (.int .i64 a1.fInstance.fPlace.fY), .v (.int .i64 a1.fInstance.fColumns), .v (.int .i64 a1.fInstance.fRows), .v (.int .i64 a1.fInstance.fStepX), .v (.int .i64 a1.fInstance.fStepY)])]) := ⟨_, rfl⟩
 refine ⟨S5, ?_, ?_⟩
 ·clear h
  have h := hy2
  clear hy2
  cbv
  replace h := of_bind h
  obtain ⟨y8, hy9, h⟩ := h
  refine ⟨{ args := [.agg [.bs (LEN a0.fCells) 4 (row GD (encCell LEN GD) a0.fCells)]], o0 := [], r := .c (.v (.bool y8)), o1 := [], fl := true, σ := [], τ := [] }, hf_spec_IsValidLibrary _ _ hy9, ⟨les_cons (lR _) (les_nil), trivial, rfl, rfl, rfl, rfl, trivial, rfl⟩, ?_⟩
  cbv
  refine fork (fun b12 => ?_) (fun b12 => ?_)
  ·replace h := of_br_t b12 h
   cbv
   injection h with h
   subst h
   subst hS6
   show St.le _ _
   exact le_sparse rfl ⟨lR _, lR _, lR _, trivial⟩ ⟨rfl, rfl, trivial⟩ rfl
  ·replace h := of_br_f b12 h
   cbv
   replace h := of_bind h
   obtain ⟨y10, hy11, h⟩ := h
   refine ⟨{ args := [.agg [.v (.int .i64 a1.fKind), .v (.int .i64 a1.fCell), .v (.int .i64 a1.fIndex), .v (.string a1.fName), .v (.int .i64 a1.fShape.fLayer), .v (.int .i64 a1.fShape.fBox.fX0), .v (.int .i64 a1.fShape.fBox.fY0), .v (.int .i64 a1.fShape.fBox.fX1), .v (.int .i64 a1.fShape.fBox.fY1), .v (.int .i64 a1.fLabel.fLayer), .v (.int .i64 a1.fLabel.fAt.fX), .v (.int .i64 a1.fLabel.fAt.fY), .v (.string a1.fLabel.fName), .v (.int .i64 a1.fInstance.fCell), .v (.int .i64 a1.fInstance.fPlace.fOrientation), .v (.int .i64 a1.fInstance.fPlace.fX), .v (.int .i64 a1.fInstance.fPlace.fY), .v (.int .i64 a1.fInstance.fColumns), .v (.int .i64 a1.fInstance.fRows), .v (.int .i64 a1.fInstance.fStepX), .v (.int .i64 a1.fInstance.fStepY)]], o0 := [], r := .c (.v (.bool y10)), o1 := [], fl := true, σ := [], τ := [] }, hf_spec_IsValidEdit _ _ hy11, ⟨les_cons (lR _) (les_nil), trivial, rfl, rfl, rfl, rfl, trivial, rfl⟩, ?_⟩
   cbv
   injection h with h
   subst h
   subst hS6
   show St.le _ _
   exact le_sparse rfl ⟨lR _, lR _, lR _, trivial⟩ ⟨rfl, rfl, trivial⟩ rfl
 ·clear hy2
  subst hS6
  replace h := of_let h
  obtain ⟨w7, hw7, h⟩ := h
  have hw7 : w7 = y1 := hw7
  subst hw7
  cbv
  refine fork (fun b50 => ?_) (fun b50 => ?_)
  ·replace h := of_br_t b50 h
   cbv
   injection h with h
   subst h
   refine ⟨(sparse 84 [(4, .c (.v (.int .i64 1)))] []), ?_, ?_⟩
   ·exact le_sparse rfl ⟨lR _, trivial⟩ trivial rfl
   ·exact ⟨lR _, trivial, rfl⟩
  ·replace h := of_br_f b50 h
   cbv
   refine fork (fun b49 => ?_) (fun b49 => ?_)
   ·replace h := of_br_t b49 h
    cbv
    replace h := of_bind h
    obtain ⟨y13, hy14, h⟩ := h
    refine ⟨{ args := [.agg [.bs (LEN a0.fCells) 4 (row GD (encCell LEN GD) a0.fCells)], .agg [.v (.int .i64 a1.fKind), .v (.int .i64 a1.fCell), .v (.int .i64 a1.fIndex), .v (.string a1.fName), .v (.int .i64 a1.fShape.fLayer), .v (.int .i64 a1.fShape.fBox.fX0), .v (.int .i64 a1.fShape.fBox.fY0), .v (.int .i64 a1.fShape.fBox.fX1), .v (.int .i64 a1.fShape.fBox.fY1), .v (.int .i64 a1.fLabel.fLayer), .v (.int .i64 a1.fLabel.fAt.fX), .v (.int .i64 a1.fLabel.fAt.fY), .v (.string a1.fLabel.fName), .v (.int .i64 a1.fInstance.fCell), .v (.int .i64 a1.fInstance.fPlace.fOrientation), .v (.int .i64 a1.fInstance.fPlace.fX), .v (.int .i64 a1.fInstance.fPlace.fY), .v (.int .i64 a1.fInstance.fColumns), .v (.int .i64 a1.fInstance.fRows), .v (.int .i64 a1.fInstance.fStepX), .v (.int .i64 a1.fInstance.fStepY)]], o0 := [], r := .c (.v (.int .i64 y13)), o1 := [], fl := true, σ := [], τ := [] }, hf_spec_l13CellCode _ _ _ hy14, ⟨les_cons (lR _) (les_cons (lR _) (les_nil)), trivial, rfl, rfl, rfl, rfl, trivial, rfl⟩, ?_⟩
    cbv
    injection h with h
    subst h
    refine ⟨(sparse 84 [(4, .c (.v (.int .i64 y13)))] []), ?_, ?_⟩
    ·exact le_sparse rfl ⟨lR _, trivial⟩ trivial rfl
    ·exact ⟨lR _, trivial, rfl⟩
   ·replace h := of_br_f b49 h
    cbv
    refine fork (fun b48 => ?_) (fun b48 => ?_)
    ·replace h := of_br_t b48 h
     cbv
     injection h with h
     subst h
     refine ⟨(sparse 84 [(4, .c (.v (.int .i64 5)))] []), ?_, ?_⟩
     ·exact le_sparse rfl ⟨lR _, trivial⟩ trivial rfl
     ·exact ⟨lR _, trivial, rfl⟩
    ·replace h := of_br_f b48 h
     cbv
     replace h := of_req h
     obtain ⟨c15, h⟩ := h
     refine ⟨⟨c15, trivial⟩, ?_⟩
     replace h := of_bind h
     obtain ⟨y16, hy17, h⟩ := h
     refine ⟨{ args := [.agg [.v (.string (GD a0.fCells (A.toN a1.fCell)).fName), .bs (LEN (GD a0.fCells (A.toN a1.fCell)).fShapes) 5 (row GD (encShape) (GD a0.fCells (A.toN a1.fCell)).fShapes), .bs (LEN (GD a0.fCells (A.toN a1.fCell)).fLabels) 4 (row GD (encLabel) (GD a0.fCells (A.toN a1.fCell)).fLabels), .bs (LEN (GD a0.fCells (A.toN a1.fCell)).fInstances) 8 (row GD (encInstance) (GD a0.fCells (A.toN a1.fCell)).fInstances)], .c (.v (.int .i64 a1.fKind))], o0 := [], r := .tup [.c (.v (.int .i64 y16.1)), .c (.v (.int .i64 y16.2))], o1 := [], fl := true, σ := [], τ := [] }, hf_spec_l13Counts _ _ _ hy17, ⟨les_cons (lR _) (les_cons (lR _) (les_nil)), trivial, rfl, rfl, rfl, rfl, trivial, rfl⟩, ?_⟩
     cbv
     replace h := of_bind h
     obtain ⟨y18, hy19, h⟩ := h
     obtain ⟨S22, hS23⟩ : ∃ S, S = (sparse 84 [(3, .c (.ptr 192 0)), (5, .c (.v (.int .i64 y16.1))), (6, .c (.v (.int .i64 y16.2))), (7, .c (.v (.bool y18)))] [(192, .var [.v (.int .i64 a1.fKind), .v (.int .i64 a1.fCell), .v (.int .i64 a1.fIndex), .v (.string a1.fName), .v (.int .i64 a1.fShape.fLayer), .v (.int .i64 a1.fShape.fBox.fX0), .v (.int .i64 a1.fShape.fBox.fY0), .v (.int .i64 a1.fShape.fBox.fX1), .v (.int .i64 a1.fShape.fBox.fY1), .v (.int .i64 a1.fLabel.fLayer), .v (.int .i64 a1.fLabel.fAt.fX), .v (.int .i64 a1.fLabel.fAt.fY), .v (.string a1.fLabel.fName), .v (.int .i64 a1.fInstance.fCell), .v (.int .i64 a1.fInstance.fPlace.fOrientation), .v (.int .i64 a1.fInstance.fPlace.fX), .v (.int .i64 a1.fInstance.fPlace.fY), .v (.int .i64 a1.fInstance.fColumns), .v (.int .i64 a1.fInstance.fRows), .v (.int .i64 a1.fInstance.fStepX), .v (.int .i64 a1.fInstance.fStepY)])]) := ⟨_, rfl⟩
     refine ⟨S22, ?_, ?_⟩
     ·clear h
      have h := hy19
      clear hy19
      cbv
      refine fork (fun b26 => ?_) (fun b26 => ?_)
      ·replace h := of_br_t b26 h
       cbv
       injection h with h
       subst h
       subst hS23
       show St.le _ _
       exact le_sparse rfl ⟨lR _, lR _, lR _, lR _, trivial⟩ ⟨rfl, trivial⟩ rfl
      ·replace h := of_br_f b26 h
       cbv
       refine fork (fun b25 => ?_) (fun b25 => ?_)
       ·replace h := of_br_t b25 h
        cbv
        injection h with h
        subst h
        subst hS23
        show St.le _ _
        exact le_sparse rfl ⟨lR _, lR _, lR _, lR _, trivial⟩ ⟨rfl, trivial⟩ rfl
       ·replace h := of_br_f b25 h
        cbv
        injection h with h
        subst h
        subst hS23
        show St.le _ _
        exact le_sparse rfl ⟨lR _, lR _, lR _, lR _, trivial⟩ ⟨rfl, trivial⟩ rfl
     ·clear hy19
      subst hS23
      replace h := of_let h
      obtain ⟨w24, hw24, h⟩ := h
      have hw24 : w24 = y18 := hw24
      subst hw24
      cbv
      replace h := of_bind h
      obtain ⟨y27, hy28, h⟩ := h
      obtain ⟨S31, hS32⟩ : ∃ S, S = (sparse 84 [(3, .c (.ptr 192 0)), (5, .c (.v (.int .i64 y16.1))), (6, .c (.v (.int .i64 y16.2))), (7, .c (.v (.bool w24))), (53, .c (.v (.bool y27)))] [(192, .var [.v (.int .i64 a1.fKind), .v (.int .i64 a1.fCell), .v (.int .i64 a1.fIndex), .v (.string a1.fName), .v (.int .i64 a1.fShape.fLayer), .v (.int .i64 a1.fShape.fBox.fX0), .v (.int .i64 a1.fShape.fBox.fY0), .v (.int .i64 a1.fShape.fBox.fX1), .v (.int .i64 a1.fShape.fBox.fY1), .v (.int .i64 a1.fLabel.fLayer), .v (.int .i64 a1.fLabel.fAt.fX), .v (.int .i64 a1.fLabel.fAt.fY), .v (.string a1.fLabel.fName), .v (.int .i64 a1.fInstance.fCell), .v (.int .i64 a1.fInstance.fPlace.fOrientation), .v (.int .i64 a1.fInstance.fPlace.fX), .v (.int .i64 a1.fInstance.fPlace.fY), .v (.int .i64 a1.fInstance.fColumns), .v (.int .i64 a1.fInstance.fRows), .v (.int .i64 a1.fInstance.fStepX), .v (.int .i64 a1.fInstance.fStepY)])]) := ⟨_, rfl⟩
      refine ⟨S31, ?_, ?_⟩
      ·clear h
       have h := hy28
       clear hy28
       cbv
       refine fork (fun b34 => ?_) (fun b34 => ?_)
       ·replace h := of_br_t b34 h
        cbv
        injection h with h
        subst h
        subst hS32
        show St.le _ _
        exact le_sparse rfl ⟨lR _, lR _, lR _, lR _, lR _, trivial⟩ ⟨rfl, trivial⟩ rfl
       ·replace h := of_br_f b34 h
        cbv
        injection h with h
        subst h
        subst hS32
        show St.le _ _
        exact le_sparse rfl ⟨lR _, lR _, lR _, lR _, lR _, trivial⟩ ⟨rfl, trivial⟩ rfl
      ·clear hy28
       subst hS32
       replace h := of_let h
       obtain ⟨w33, hw33, h⟩ := h
       have hw33 : w33 = y27 := hw33
       subst hw33
       cbv
       refine fork (fun b47 => ?_) (fun b47 => ?_)
       ·replace h := of_br_t b47 h
        cbv
        injection h with h
        subst h
        refine ⟨(sparse 84 [(4, .c (.v (.int .i64 5)))] []), ?_, ?_⟩
        ·exact le_sparse rfl ⟨lR _, trivial⟩ trivial rfl
        ·exact ⟨lR _, trivial, rfl⟩
       ·replace h := of_br_f b47 h
        cbv
        refine fork (fun b46 => ?_) (fun b46 => ?_)
        ·replace h := of_br_t b46 h
         cbv
         injection h with h
         subst h
         refine ⟨(sparse 84 [(4, .c (.v (.int .i64 0)))] []), ?_, ?_⟩
         ·exact le_sparse rfl ⟨lR _, trivial⟩ trivial rfl
         ·exact ⟨lR _, trivial, rfl⟩
        ·replace h := of_br_f b46 h
         cbv
         refine fork (fun b45 => ?_) (fun b45 => ?_)
         ·replace h := of_br_t b45 h
          cbv
          injection h with h
          subst h
          refine ⟨(sparse 84 [(4, .c (.v (.int .i64 2)))] []), ?_, ?_⟩
          ·exact le_sparse rfl ⟨lR _, trivial⟩ trivial rfl
          ·exact ⟨lR _, trivial, rfl⟩
         ·replace h := of_br_f b45 h
          cbv
          refine fork (fun b44 => ?_) (fun b44 => ?_)
          ·replace h := of_br_t b44 h
           cbv
           injection h with h
           subst h
           refine ⟨(sparse 84 [(4, .c (.v (.int .i64 3)))] []), ?_, ?_⟩
           ·exact le_sparse rfl ⟨lR _, trivial⟩ trivial rfl
           ·exact ⟨lR _, trivial, rfl⟩
          ·replace h := of_br_f b44 h
           cbv
           replace h := of_bind h
           obtain ⟨y35, hy36, h⟩ := h
           obtain ⟨S39, hS40⟩ : ∃ S, S = (sparse 84 [(72, .c (.v (.bool y35)))] []) := ⟨_, rfl⟩
           refine ⟨S39, ?_, ?_⟩
           ·clear h
            have h := hy36
            clear hy36
            cbv
            refine fork (fun b42 => ?_) (fun b42 => ?_)
            ·replace h := of_br_t b42 h
             cbv
             injection h with h
             subst h
             subst hS40
             show St.le _ _
             exact le_sparse rfl ⟨lR _, trivial⟩ trivial rfl
            ·replace h := of_br_f b42 h
             cbv
             injection h with h
             subst h
             subst hS40
             show St.le _ _
             exact le_sparse rfl ⟨lR _, trivial⟩ trivial rfl
           ·clear hy36
            subst hS40
            replace h := of_let h
            obtain ⟨w41, hw41, h⟩ := h
            have hw41 : w41 = y35 := hw41
            subst hw41
            cbv
            refine fork (fun b43 => ?_) (fun b43 => ?_)
            ·replace h := of_br_t b43 h
             cbv
             injection h with h
             subst h
             refine ⟨(sparse 84 [(4, .c (.v (.int .i64 6)))] []), ?_, ?_⟩
             ·exact le_sparse rfl ⟨lR _, trivial⟩ trivial rfl
             ·exact ⟨lR _, trivial, rfl⟩
            ·replace h := of_br_f b43 h
             cbv
             injection h with h
             subst h
             refine ⟨(sparse 84 [(4, .c (.v (.int .i64 0)))] []), ?_, ?_⟩
             ·exact le_sparse rfl ⟨lR _, trivial⟩ trivial rfl
             ·exact ⟨lR _, trivial, rfl⟩
/-- spec.l13Inverse -/
noncomputable def F_spec_l13Inverse (a0 : TLibrary) (a1 : TEdit) : Option (TEdit) :=
 br (std.eq a1.fKind 8)
 (some (TEdit.mk 9 a1.fCell a1.fIndex (ByteArray.mk #[]) (TShape.mk 0 (TRect.mk 0 0 0 0)) (TLabel.mk 0 (TPoint.mk 0 0) (ByteArray.mk #[])) (TInstance.mk 0 (TTransform.mk 0 0 0) 0 0 0 0)))
 (((
    br (std.eq a1.fKind 1)
    (some true)
    (((
       br (std.eq a1.fKind 3)
       (some true)
       (some (std.eq a1.fKind 5))
     ) : Option (Bool)).bind fun y8 =>
    letO y8 fun w14 =>
    some w14)
  ) : Option (Bool)).bind fun y1 =>
 letO y1 fun w7 =>
 ((
    br w7
    ((some (TEdit.mk (std.add .i64 a1.fKind 1) a1.fCell a1.fIndex (ByteArray.mk #[]) (TShape.mk 0 (TRect.mk 0 0 0 0)) (TLabel.mk 0 (TPoint.mk 0 0) (ByteArray.mk #[])) (TInstance.mk 0 (TTransform.mk 0 0 0) 0 0 0 0))).bind fun r23 => some (.inl r23))
    (some (.inr ()))
  ) : Option (_ ⊕ Unit)).bind fun z19 => (match z19 with
  | .inl r => some r
  | .inr y17 =>
    req (std.inR a1.fCell (len a0.fCells)) <|
    ((
       br (std.eq a1.fKind 2)
       (req (std.inR a1.fIndex (len (gd a0.fCells (std.toN a1.fCell)).fShapes)) <|
       some ((gd (gd a0.fCells (std.toN a1.fCell)).fShapes (std.toN a1.fIndex)).fLayer, (gd (gd a0.fCells (std.toN a1.fCell)).fShapes (std.toN a1.fIndex)).fBox.fX0, (gd (gd a0.fCells (std.toN a1.fCell)).fShapes (std.toN a1.fIndex)).fBox.fY0, (gd (gd a0.fCells (std.toN a1.fCell)).fShapes (std.toN a1.fIndex)).fBox.fX1, (gd (gd a0.fCells (std.toN a1.fCell)).fShapes (std.toN a1.fIndex)).fBox.fY1, (ByteArray.mk #[]), 0, 0, 0, (ByteArray.mk #[]), 0, 0, 0, 0, 0, 0, 0, 0))
       (((
          br (std.eq a1.fKind 4)
          (req (std.inR a1.fIndex (len (gd a0.fCells (std.toN a1.fCell)).fLabels)) <|
          some ((gd (gd a0.fCells (std.toN a1.fCell)).fLabels (std.toN a1.fIndex)).fLayer, (gd (gd a0.fCells (std.toN a1.fCell)).fLabels (std.toN a1.fIndex)).fAt.fX, (gd (gd a0.fCells (std.toN a1.fCell)).fLabels (std.toN a1.fIndex)).fAt.fY, (gd (gd a0.fCells (std.toN a1.fCell)).fLabels (std.toN a1.fIndex)).fName, (ByteArray.mk #[]), 0, 0, 0, 0, 0, 0, 0, 0))
          (((
             br (std.eq a1.fKind 6)
             (req (std.inR a1.fIndex (len (gd a0.fCells (std.toN a1.fCell)).fInstances)) <|
             some ((gd (gd a0.fCells (std.toN a1.fCell)).fInstances (std.toN a1.fIndex)).fCell, (gd (gd a0.fCells (std.toN a1.fCell)).fInstances (std.toN a1.fIndex)).fPlace.fOrientation, (gd (gd a0.fCells (std.toN a1.fCell)).fInstances (std.toN a1.fIndex)).fPlace.fX, (gd (gd a0.fCells (std.toN a1.fCell)).fInstances (std.toN a1.fIndex)).fPlace.fY, (gd (gd a0.fCells (std.toN a1.fCell)).fInstances (std.toN a1.fIndex)).fColumns, (gd (gd a0.fCells (std.toN a1.fCell)).fInstances (std.toN a1.fIndex)).fRows, (gd (gd a0.fCells (std.toN a1.fCell)).fInstances (std.toN a1.fIndex)).fStepX, (gd (gd a0.fCells (std.toN a1.fCell)).fInstances (std.toN a1.fIndex)).fStepY, (ByteArray.mk #[])))
             (some (0, 0, 0, 0, 0, 0, 0, 0, (gd a0.fCells (std.toN a1.fCell)).fName))
           ) : Option (Int × Int × Int × Int × Int × Int × Int × Int × ByteArray)).bind fun y73 =>
          letO y73.1 fun w79 =>
          letO y73.2.1 fun w80 =>
          letO y73.2.2.1 fun w81 =>
          letO y73.2.2.2.1 fun w82 =>
          letO y73.2.2.2.2.1 fun w83 =>
          letO y73.2.2.2.2.2.1 fun w84 =>
          letO y73.2.2.2.2.2.2.1 fun w85 =>
          letO y73.2.2.2.2.2.2.2.1 fun w86 =>
          letO y73.2.2.2.2.2.2.2.2 fun w87 =>
          some (0, 0, 0, (ByteArray.mk #[]), w87, w79, w80, w81, w82, w83, w84, w85, w86))
        ) : Option (Int × Int × Int × ByteArray × ByteArray × Int × Int × Int × Int × Int × Int × Int × Int)).bind fun y53 =>
       letO y53.1 fun w59 =>
       letO y53.2.1 fun w60 =>
       letO y53.2.2.1 fun w61 =>
       letO y53.2.2.2.1 fun w62 =>
       letO y53.2.2.2.2.1 fun w63 =>
       letO y53.2.2.2.2.2.1 fun w64 =>
       letO y53.2.2.2.2.2.2.1 fun w65 =>
       letO y53.2.2.2.2.2.2.2.1 fun w66 =>
       letO y53.2.2.2.2.2.2.2.2.1 fun w67 =>
       letO y53.2.2.2.2.2.2.2.2.2.1 fun w68 =>
       letO y53.2.2.2.2.2.2.2.2.2.2.1 fun w69 =>
       letO y53.2.2.2.2.2.2.2.2.2.2.2.1 fun w70 =>
       letO y53.2.2.2.2.2.2.2.2.2.2.2.2 fun w71 =>
       some (0, 0, 0, 0, 0, w63, w59, w60, w61, w62, w64, w65, w66, w67, w68, w69, w70, w71))
     ) : Option (Int × Int × Int × Int × Int × ByteArray × Int × Int × Int × ByteArray × Int × Int × Int × Int × Int × Int × Int × Int)).bind fun y28 =>
    letO y28.1 fun w34 =>
    letO y28.2.1 fun w35 =>
    letO y28.2.2.1 fun w36 =>
    letO y28.2.2.2.1 fun w37 =>
    letO y28.2.2.2.2.1 fun w38 =>
    letO y28.2.2.2.2.2.1 fun w39 =>
    letO y28.2.2.2.2.2.2.1 fun w40 =>
    letO y28.2.2.2.2.2.2.2.1 fun w41 =>
    letO y28.2.2.2.2.2.2.2.2.1 fun w42 =>
    letO y28.2.2.2.2.2.2.2.2.2.1 fun w43 =>
    letO y28.2.2.2.2.2.2.2.2.2.2.1 fun w44 =>
    letO y28.2.2.2.2.2.2.2.2.2.2.2.1 fun w45 =>
    letO y28.2.2.2.2.2.2.2.2.2.2.2.2.1 fun w46 =>
    letO y28.2.2.2.2.2.2.2.2.2.2.2.2.2.1 fun w47 =>
    letO y28.2.2.2.2.2.2.2.2.2.2.2.2.2.2.1 fun w48 =>
    letO y28.2.2.2.2.2.2.2.2.2.2.2.2.2.2.2.1 fun w49 =>
    letO y28.2.2.2.2.2.2.2.2.2.2.2.2.2.2.2.2.1 fun w50 =>
    letO y28.2.2.2.2.2.2.2.2.2.2.2.2.2.2.2.2.2 fun w51 =>
    ((
       br (std.eq a1.fKind 7)
       (some 7)
       (some (std.sub .i64 a1.fKind 1))
     ) : Option (Int)).bind fun y92 =>
    letO y92 fun w98 =>
    some (TEdit.mk w98 a1.fCell a1.fIndex w39 (TShape.mk w34 (TRect.mk w35 w36 w37 w38)) (TLabel.mk w40 (TPoint.mk w41 w42) w43) (TInstance.mk w44 (TTransform.mk w45 w46 w47) w48 w49 w50 w51))))
theorem run_spec_l13Inverse (a0 : TLibrary) (a1 : TEdit) (r : TEdit) (h : F_spec_l13Inverse a0 a1 = some r) : Fun Try.prog 71 [.agg [.bs (len a0.fCells) 4 (row gd (encCell len gd) a0.fCells)], .agg [.v (.int .i64 a1.fKind), .v (.int .i64 a1.fCell), .v (.int .i64 a1.fIndex), .v (.string a1.fName), .v (.int .i64 a1.fShape.fLayer), .v (.int .i64 a1.fShape.fBox.fX0), .v (.int .i64 a1.fShape.fBox.fY0), .v (.int .i64 a1.fShape.fBox.fX1), .v (.int .i64 a1.fShape.fBox.fY1), .v (.int .i64 a1.fLabel.fLayer), .v (.int .i64 a1.fLabel.fAt.fX), .v (.int .i64 a1.fLabel.fAt.fY), .v (.string a1.fLabel.fName), .v (.int .i64 a1.fInstance.fCell), .v (.int .i64 a1.fInstance.fPlace.fOrientation), .v (.int .i64 a1.fInstance.fPlace.fX), .v (.int .i64 a1.fInstance.fPlace.fY), .v (.int .i64 a1.fInstance.fColumns), .v (.int .i64 a1.fInstance.fRows), .v (.int .i64 a1.fInstance.fStepX), .v (.int .i64 a1.fInstance.fStepY)]] [] (.agg [.v (.int .i64 r.fKind), .v (.int .i64 r.fCell), .v (.int .i64 r.fIndex), .v (.string r.fName), .v (.int .i64 r.fShape.fLayer), .v (.int .i64 r.fShape.fBox.fX0), .v (.int .i64 r.fShape.fBox.fY0), .v (.int .i64 r.fShape.fBox.fX1), .v (.int .i64 r.fShape.fBox.fY1), .v (.int .i64 r.fLabel.fLayer), .v (.int .i64 r.fLabel.fAt.fX), .v (.int .i64 r.fLabel.fAt.fY), .v (.string r.fLabel.fName), .v (.int .i64 r.fInstance.fCell), .v (.int .i64 r.fInstance.fPlace.fOrientation), .v (.int .i64 r.fInstance.fPlace.fX), .v (.int .i64 r.fInstance.fPlace.fY), .v (.int .i64 r.fInstance.fColumns), .v (.int .i64 r.fInstance.fRows), .v (.int .i64 r.fInstance.fStepX), .v (.int .i64 r.fInstance.fStepY)]) [] true := by
 refine Fun.of_wp (oneOf [100018, 100038, 100047, 100056, 100071]) tok mixed Try.func71 (by kernel_rfl) rfl Try.ntmps71 rfl trivial (fun _ => ⟨(by simp [AV.flat, AV.flat1, AC.flat]), trivial⟩) ?_
 unfold F_spec_l13Inverse at h
 generalize hLEN : @len = LEN at *
 generalize hGD : @gd = GD at *
 generalize hA : std = A at *
 generalize hP : Try.prog = P at *
 cbv
 refine fork (fun b100 => ?_) (fun b100 => ?_)
 ·replace h := of_br_t b100 h
  cbv
  injection h with h
  subst h
  refine ⟨(sparse 74 [(4, .c (.ptr 256 0))] [(256, .var [.v (.int .i64 9), .v (.int .i64 a1.fCell), .v (.int .i64 a1.fIndex), .v (.string (ByteArray.mk #[])), .v (.int .i64 0), .v (.int .i64 0), .v (.int .i64 0), .v (.int .i64 0), .v (.int .i64 0), .v (.int .i64 0), .v (.int .i64 0), .v (.int .i64 0), .v (.string (ByteArray.mk #[])), .v (.int .i64 0), .v (.int .i64 0), .v (.int .i64 0), .v (.int .i64 0), .v (.int .i64 0), .v (.int .i64 0), .v (.int .i64 0), .v (.int .i64 0)])]), ?_, ?_⟩
  ·exact le_sparse rfl ⟨lR _, trivial⟩ ⟨rfl, trivial⟩ rfl
  ·exact ⟨lR _, trivial, rfl⟩
 ·replace h := of_br_f b100 h
  cbv
  replace h := of_bind h
  obtain ⟨y1, hy2, h⟩ := h
  obtain ⟨S5, hS6⟩ : ∃ S, S = some (sparse 74 [(2, .c (.ptr 128 0)), (3, .c (.ptr 192 0)), (4, .c (.ptr 256 0)), (5, .c (.ptr 320 0)), (18, .c (.v (.bool y1)))] [(128, .var [.bs (LEN a0.fCells) 4 (row GD (encCell LEN GD) a0.fCells)]), (192, .var [.v (.int .i64 a1.fKind), .v (.int .i64 a1.fCell), .v (.int .i64 a1.fIndex), .v (.string a1.fName), .v (.int .i64 a1.fShape.fLayer), .v (.int .i64 a1.fShape.fBox.fX0), .v (.int .i64 a1.fShape.fBox.fY0), .v (.int .i64 a1.fShape.fBox.fX1), .v (.int .i64 a1.fShape.fBox.fY1), .v (.int .i64 a1.fLabel.fLayer), .v (.int .i64 a1.fLabel.fAt.fX), .v (.int .i64 a1.fLabel.fAt.fY), .v (.string a1.fLabel.fName), .v (.int .i64 a1.fInstance.fCell), .v (.int .i64 a1.fInstance.fPlace.fOrientation), .v (.int .i64 a1.fInstance.fPlace.fX), .v (.int .i64 a1.fInstance.fPlace.fY), .v (.int .i64 a1.fInstance.fColumns), .v (.int .i64 a1.fInstance.fRows), .v (.int .i64 a1.fInstance.fStepX), .v (.int .i64 a1.fInstance.fStepY)]), (256, .var [.v (.int .i64 0), .v (.int .i64 0), .v (.int .i64 0), .v (.string (ByteArray.mk #[])), .v (.int .i64 0), .v (.int .i64 0), .v (.int .i64 0), .v (.int .i64 0), .v (.int .i64 0), .v (.int .i64 0), .v (.int .i64 0), .v (.int .i64 0), .v (.string (ByteArray.mk #[])), .v (.int .i64 0), .v (.int .i64 0), .v (.int .i64 0), .v (.int .i64 0), .v (.int .i64 0), .v (.int .i64 0), .v (.int .i64 0), .v (.int .i64 0)]), (320, .var [.v (.int .i64 0), .v (.int .i64 a1.fCell), .v (.int .i64 a1.fIndex), .v (.string (ByteArray.mk #[])), .v (.int .i64 0), .v (.int .i64 0), .v (.int .i64 0), .v (.int .i64 0), .v (.int .i64 0), .v (.int .i64 0), .v (.int .i64 0), .v (.int .i64 0), .v (.string (ByteArray.mk #[])), .v (.int .i64 0), .v (.int .i64 0), .v (.int .i64 0), .v (.int .i64 0), .v (.int .i64 0), .v (.int .i64 0), .v (.int .i64 0), .v (.int .i64 0)])]) := ⟨_, rfl⟩
  refine ⟨S5, ?_, ?_⟩
  ·clear h
   have h := hy2
   clear hy2
   cbv
   refine fork (fun b16 => ?_) (fun b16 => ?_)
   ·replace h := of_br_t b16 h
    cbv
    injection h with h
    subst h
    subst hS6
    show St.le _ _
    exact le_sparse rfl ⟨lR _, lR _, lR _, lR _, lR _, trivial⟩ ⟨rfl, rfl, rfl, rfl, trivial⟩ rfl
   ·replace h := of_br_f b16 h
    cbv
    replace h := of_bind h
    obtain ⟨y8, hy9, h⟩ := h
    obtain ⟨S12, hS13⟩ : ∃ S, S = some (sparse 74 [(2, .c (.ptr 128 0)), (3, .c (.ptr 192 0)), (4, .c (.ptr 256 0)), (5, .c (.ptr 320 0)), (18, .c (.v (.bool y8)))] [(128, .var [.bs (LEN a0.fCells) 4 (row GD (encCell LEN GD) a0.fCells)]), (192, .var [.v (.int .i64 a1.fKind), .v (.int .i64 a1.fCell), .v (.int .i64 a1.fIndex), .v (.string a1.fName), .v (.int .i64 a1.fShape.fLayer), .v (.int .i64 a1.fShape.fBox.fX0), .v (.int .i64 a1.fShape.fBox.fY0), .v (.int .i64 a1.fShape.fBox.fX1), .v (.int .i64 a1.fShape.fBox.fY1), .v (.int .i64 a1.fLabel.fLayer), .v (.int .i64 a1.fLabel.fAt.fX), .v (.int .i64 a1.fLabel.fAt.fY), .v (.string a1.fLabel.fName), .v (.int .i64 a1.fInstance.fCell), .v (.int .i64 a1.fInstance.fPlace.fOrientation), .v (.int .i64 a1.fInstance.fPlace.fX), .v (.int .i64 a1.fInstance.fPlace.fY), .v (.int .i64 a1.fInstance.fColumns), .v (.int .i64 a1.fInstance.fRows), .v (.int .i64 a1.fInstance.fStepX), .v (.int .i64 a1.fInstance.fStepY)]), (256, .var [.v (.int .i64 0), .v (.int .i64 0), .v (.int .i64 0), .v (.string (ByteArray.mk #[])), .v (.int .i64 0), .v (.int .i64 0), .v (.int .i64 0), .v (.int .i64 0), .v (.int .i64 0), .v (.int .i64 0), .v (.int .i64 0), .v (.int .i64 0), .v (.string (ByteArray.mk #[])), .v (.int .i64 0), .v (.int .i64 0), .v (.int .i64 0), .v (.int .i64 0), .v (.int .i64 0), .v (.int .i64 0), .v (.int .i64 0), .v (.int .i64 0)]), (320, .var [.v (.int .i64 0), .v (.int .i64 a1.fCell), .v (.int .i64 a1.fIndex), .v (.string (ByteArray.mk #[])), .v (.int .i64 0), .v (.int .i64 0), .v (.int .i64 0), .v (.int .i64 0), .v (.int .i64 0), .v (.int .i64 0), .v (.int .i64 0), .v (.int .i64 0), .v (.string (ByteArray.mk #[])), .v (.int .i64 0), .v (.int .i64 0), .v (.int .i64 0), .v (.int .i64 0), .v (.int .i64 0), .v (.int .i64 0), .v (.int .i64 0), .v (.int .i64 0)])]) := ⟨_, rfl⟩
    refine ⟨S12, ?_, ?_⟩
    ·clear h
     have h := hy9
     clear hy9
     cbv
     refine fork (fun b15 => ?_) (fun b15 => ?_)
     ·replace h := of_br_t b15 h
      cbv
      injection h with h
      subst h
      subst hS13
      show St.le _ _
      exact le_sparse rfl ⟨lR _, lR _, lR _, lR _, lR _, trivial⟩ ⟨rfl, rfl, rfl, rfl, trivial⟩ rfl
     ·replace h := of_br_f b15 h
      cbv
      injection h with h
      subst h
      subst hS13
      show St.le _ _
      exact le_sparse rfl ⟨lR _, lR _, lR _, lR _, lR _, trivial⟩ ⟨rfl, rfl, rfl, rfl, trivial⟩ rfl
    ·clear hy9
     subst hS13
     replace h := of_let h
     obtain ⟨w14, hw14, h⟩ := h
     have hw14 : w14 = y8 := hw14
     subst hw14
     cbv
     injection h with h
     subst h
     subst hS6
     show St.le _ _
     exact le_sparse rfl ⟨lR _, lR _, lR _, lR _, lR _, trivial⟩ ⟨rfl, rfl, rfl, rfl, trivial⟩ rfl
  ·clear hy2
   subst hS6
   replace h := of_let h
   obtain ⟨w7, hw7, h⟩ := h
   have hw7 : w7 = y1 := hw7
   subst hw7
   cbv
   replace h := of_bind h
   obtain ⟨z19, hy18, hz20⟩ := h
   obtain ⟨S21, hS22⟩ : ∃ S, S = (match z19 with | .inl _ => none | .inr y17 => some (sparse 74 [(2, .c (.ptr 128 0)), (3, .c (.ptr 192 0)), (4, .c (.ptr 256 0)), (5, .c (.ptr 320 0))] [(128, .var [.bs (LEN a0.fCells) 4 (row GD (encCell LEN GD) a0.fCells)]), (192, .var [.v (.int .i64 a1.fKind), .v (.int .i64 a1.fCell), .v (.int .i64 a1.fIndex), .v (.string a1.fName), .v (.int .i64 a1.fShape.fLayer), .v (.int .i64 a1.fShape.fBox.fX0), .v (.int .i64 a1.fShape.fBox.fY0), .v (.int .i64 a1.fShape.fBox.fX1), .v (.int .i64 a1.fShape.fBox.fY1), .v (.int .i64 a1.fLabel.fLayer), .v (.int .i64 a1.fLabel.fAt.fX), .v (.int .i64 a1.fLabel.fAt.fY), .v (.string a1.fLabel.fName), .v (.int .i64 a1.fInstance.fCell), .v (.int .i64 a1.fInstance.fPlace.fOrientation), .v (.int .i64 a1.fInstance.fPlace.fX), .v (.int .i64 a1.fInstance.fPlace.fY), .v (.int .i64 a1.fInstance.fColumns), .v (.int .i64 a1.fInstance.fRows), .v (.int .i64 a1.fInstance.fStepX), .v (.int .i64 a1.fInstance.fStepY)]), (256, .var [.v (.int .i64 0), .v (.int .i64 0), .v (.int .i64 0), .v (.string (ByteArray.mk #[])), .v (.int .i64 0), .v (.int .i64 0), .v (.int .i64 0), .v (.int .i64 0), .v (.int .i64 0), .v (.int .i64 0), .v (.int .i64 0), .v (.int .i64 0), .v (.string (ByteArray.mk #[])), .v (.int .i64 0), .v (.int .i64 0), .v (.int .i64 0), .v (.int .i64 0), .v (.int .i64 0), .v (.int .i64 0), .v (.int .i64 0), .v (.int .i64 0)]), (320, .var [.v (.int .i64 0), .v (.int .i64 a1.fCell), .v (.int .i64 a1.fIndex), .v (.string (ByteArray.mk #[])), .v (.int .i64 0), .v (.int .i64 0), .v (.int .i64 0), .v (.int .i64 0), .v (.int .i64 0), .v (.int .i64 0), .v (.int .i64 0), .v (.int .i64 0), .v (.string (ByteArray.mk #[])), .v (.int .i64 0), .v (.int .i64 0), .v (.int .i64 0), .v (.int .i64 0), .v (.int .i64 0), .v (.int .i64 0), .v (.int .i64 0), .v (.int .i64 0)])])) := ⟨_, rfl⟩
   refine ⟨S21, ?_, ?_⟩
   ·have h := hy18
    clear hy18
    cbv
    refine fork (fun b26 => ?_) (fun b26 => ?_)
    ·replace h := of_br_t b26 h
     cbv
     replace h := of_bind h
     obtain ⟨r23, h24, he25⟩ := h
     injection he25 with he25
     subst he25
     injection hz20 with hz20
     subst hz20
     have h := h24
     injection h with h
     subst h
     refine ⟨(sparse 74 [(4, .c (.ptr 256 0))] [(256, .var [.v (.int .i64 (A.add .i64 a1.fKind 1)), .v (.int .i64 a1.fCell), .v (.int .i64 a1.fIndex), .v (.string (ByteArray.mk #[])), .v (.int .i64 0), .v (.int .i64 0), .v (.int .i64 0), .v (.int .i64 0), .v (.int .i64 0), .v (.int .i64 0), .v (.int .i64 0), .v (.int .i64 0), .v (.string (ByteArray.mk #[])), .v (.int .i64 0), .v (.int .i64 0), .v (.int .i64 0), .v (.int .i64 0), .v (.int .i64 0), .v (.int .i64 0), .v (.int .i64 0), .v (.int .i64 0)])]), ?_, ?_⟩
     ·exact le_sparse rfl ⟨lR _, trivial⟩ ⟨rfl, trivial⟩ rfl
     ·exact ⟨lR _, trivial, rfl⟩
    ·replace h := of_br_f b26 h
     cbv
     injection h with h
     subst h
     subst hS22
     show St.le _ _
     exact le_sparse rfl ⟨lR _, lR _, lR _, lR _, trivial⟩ ⟨rfl, rfl, rfl, rfl, trivial⟩ rfl
   ·clear hy18
    subst hS22
    rcases z19 with _ | y17
    ·trivial
    ·have h := hz20
     clear hz20
     cbv
     replace h := of_req h
     obtain ⟨c27, h⟩ := h
     refine ⟨⟨c27, trivial⟩, ?_⟩
     replace h := of_bind h
     obtain ⟨y28, hy29, h⟩ := h
     obtain ⟨S32, hS33⟩ : ∃ S, S = some (sparse 74 [(3, .c (.ptr 192 0)), (4, .c (.ptr 256 0)), (5, .c (.ptr 320 0))] [(192, .var [.v (.int .i64 a1.fKind), .v (.int .i64 a1.fCell), .v (.int .i64 a1.fIndex), .v (.string a1.fName), .v (.int .i64 a1.fShape.fLayer), .v (.int .i64 a1.fShape.fBox.fX0), .v (.int .i64 a1.fShape.fBox.fY0), .v (.int .i64 a1.fShape.fBox.fX1), .v (.int .i64 a1.fShape.fBox.fY1), .v (.int .i64 a1.fLabel.fLayer), .v (.int .i64 a1.fLabel.fAt.fX), .v (.int .i64 a1.fLabel.fAt.fY), .v (.string a1.fLabel.fName), .v (.int .i64 a1.fInstance.fCell), .v (.int .i64 a1.fInstance.fPlace.fOrientation), .v (.int .i64 a1.fInstance.fPlace.fX), .v (.int .i64 a1.fInstance.fPlace.fY), .v (.int .i64 a1.fInstance.fColumns), .v (.int .i64 a1.fInstance.fRows), .v (.int .i64 a1.fInstance.fStepX), .v (.int .i64 a1.fInstance.fStepY)]), (256, .var [.v (.int .i64 0), .v (.int .i64 0), .v (.int .i64 0), .v (.string (ByteArray.mk #[])), .v (.int .i64 0), .v (.int .i64 0), .v (.int .i64 0), .v (.int .i64 0), .v (.int .i64 0), .v (.int .i64 0), .v (.int .i64 0), .v (.int .i64 0), .v (.string (ByteArray.mk #[])), .v (.int .i64 0), .v (.int .i64 0), .v (.int .i64 0), .v (.int .i64 0), .v (.int .i64 0), .v (.int .i64 0), .v (.int .i64 0), .v (.int .i64 0)]), (320, .var [.v (.int .i64 0), .v (.int .i64 a1.fCell), .v (.int .i64 a1.fIndex), .v (.string y28.2.2.2.2.2.1), .v (.int .i64 y28.1), .v (.int .i64 y28.2.1), .v (.int .i64 y28.2.2.1), .v (.int .i64 y28.2.2.2.1), .v (.int .i64 y28.2.2.2.2.1), .v (.int .i64 y28.2.2.2.2.2.2.1), .v (.int .i64 y28.2.2.2.2.2.2.2.1), .v (.int .i64 y28.2.2.2.2.2.2.2.2.1), .v (.string y28.2.2.2.2.2.2.2.2.2.1), .v (.int .i64 y28.2.2.2.2.2.2.2.2.2.2.1), .v (.int .i64 y28.2.2.2.2.2.2.2.2.2.2.2.1), .v (.int .i64 y28.2.2.2.2.2.2.2.2.2.2.2.2.1), .v (.int .i64 y28.2.2.2.2.2.2.2.2.2.2.2.2.2.1), .v (.int .i64 y28.2.2.2.2.2.2.2.2.2.2.2.2.2.2.1), .v (.int .i64 y28.2.2.2.2.2.2.2.2.2.2.2.2.2.2.2.1), .v (.int .i64 y28.2.2.2.2.2.2.2.2.2.2.2.2.2.2.2.2.1), .v (.int .i64 y28.2.2.2.2.2.2.2.2.2.2.2.2.2.2.2.2.2)])]) := ⟨_, rfl⟩
     refine ⟨S32, ?_, ?_⟩
     ·clear h
      have h := hy29
      clear hy29
      cbv
      refine fork (fun b91 => ?_) (fun b91 => ?_)
      ·replace h := of_br_t b91 h
       cbv
       replace h := of_req h
       obtain ⟨c52, h⟩ := h
       refine ⟨⟨c52, trivial⟩, ?_⟩
       injection h with h
       subst h
       subst hS33
       show St.le _ _
       exact le_sparse rfl ⟨lR _, lR _, lR _, trivial⟩ ⟨rfl, rfl, rfl, trivial⟩ rfl
      ·replace h := of_br_f b91 h
       cbv
       replace h := of_bind h
       obtain ⟨y53, hy54, h⟩ := h
       obtain ⟨S57, hS58⟩ : ∃ S, S = some (sparse 74 [(3, .c (.ptr 192 0)), (4, .c (.ptr 256 0)), (5, .c (.ptr 320 0))] [(192, .var [.v (.int .i64 a1.fKind), .v (.int .i64 a1.fCell), .v (.int .i64 a1.fIndex), .v (.string a1.fName), .v (.int .i64 a1.fShape.fLayer), .v (.int .i64 a1.fShape.fBox.fX0), .v (.int .i64 a1.fShape.fBox.fY0), .v (.int .i64 a1.fShape.fBox.fX1), .v (.int .i64 a1.fShape.fBox.fY1), .v (.int .i64 a1.fLabel.fLayer), .v (.int .i64 a1.fLabel.fAt.fX), .v (.int .i64 a1.fLabel.fAt.fY), .v (.string a1.fLabel.fName), .v (.int .i64 a1.fInstance.fCell), .v (.int .i64 a1.fInstance.fPlace.fOrientation), .v (.int .i64 a1.fInstance.fPlace.fX), .v (.int .i64 a1.fInstance.fPlace.fY), .v (.int .i64 a1.fInstance.fColumns), .v (.int .i64 a1.fInstance.fRows), .v (.int .i64 a1.fInstance.fStepX), .v (.int .i64 a1.fInstance.fStepY)]), (256, .var [.v (.int .i64 0), .v (.int .i64 0), .v (.int .i64 0), .v (.string (ByteArray.mk #[])), .v (.int .i64 0), .v (.int .i64 0), .v (.int .i64 0), .v (.int .i64 0), .v (.int .i64 0), .v (.int .i64 0), .v (.int .i64 0), .v (.int .i64 0), .v (.string (ByteArray.mk #[])), .v (.int .i64 0), .v (.int .i64 0), .v (.int .i64 0), .v (.int .i64 0), .v (.int .i64 0), .v (.int .i64 0), .v (.int .i64 0), .v (.int .i64 0)]), (320, .var [.v (.int .i64 0), .v (.int .i64 a1.fCell), .v (.int .i64 a1.fIndex), .v (.string y53.2.2.2.2.1), .v (.int .i64 0), .v (.int .i64 0), .v (.int .i64 0), .v (.int .i64 0), .v (.int .i64 0), .v (.int .i64 y53.1), .v (.int .i64 y53.2.1), .v (.int .i64 y53.2.2.1), .v (.string y53.2.2.2.1), .v (.int .i64 y53.2.2.2.2.2.1), .v (.int .i64 y53.2.2.2.2.2.2.1), .v (.int .i64 y53.2.2.2.2.2.2.2.1), .v (.int .i64 y53.2.2.2.2.2.2.2.2.1), .v (.int .i64 y53.2.2.2.2.2.2.2.2.2.1), .v (.int .i64 y53.2.2.2.2.2.2.2.2.2.2.1), .v (.int .i64 y53.2.2.2.2.2.2.2.2.2.2.2.1), .v (.int .i64 y53.2.2.2.2.2.2.2.2.2.2.2.2)])]) := ⟨_, rfl⟩
       refine ⟨S57, ?_, ?_⟩
       ·clear h
        have h := hy54
        clear hy54
        cbv
        refine fork (fun b90 => ?_) (fun b90 => ?_)
        ·replace h := of_br_t b90 h
         cbv
         replace h := of_req h
         obtain ⟨c72, h⟩ := h
         refine ⟨⟨c72, trivial⟩, ?_⟩
         injection h with h
         subst h
         subst hS58
         show St.le _ _
         exact le_sparse rfl ⟨lR _, lR _, lR _, trivial⟩ ⟨rfl, rfl, rfl, trivial⟩ rfl
        ·replace h := of_br_f b90 h
         cbv
         replace h := of_bind h
         obtain ⟨y73, hy74, h⟩ := h
         obtain ⟨S77, hS78⟩ : ∃ S, S = some (sparse 74 [(3, .c (.ptr 192 0)), (4, .c (.ptr 256 0)), (5, .c (.ptr 320 0))] [(192, .var [.v (.int .i64 a1.fKind), .v (.int .i64 a1.fCell), .v (.int .i64 a1.fIndex), .v (.string a1.fName), .v (.int .i64 a1.fShape.fLayer), .v (.int .i64 a1.fShape.fBox.fX0), .v (.int .i64 a1.fShape.fBox.fY0), .v (.int .i64 a1.fShape.fBox.fX1), .v (.int .i64 a1.fShape.fBox.fY1), .v (.int .i64 a1.fLabel.fLayer), .v (.int .i64 a1.fLabel.fAt.fX), .v (.int .i64 a1.fLabel.fAt.fY), .v (.string a1.fLabel.fName), .v (.int .i64 a1.fInstance.fCell), .v (.int .i64 a1.fInstance.fPlace.fOrientation), .v (.int .i64 a1.fInstance.fPlace.fX), .v (.int .i64 a1.fInstance.fPlace.fY), .v (.int .i64 a1.fInstance.fColumns), .v (.int .i64 a1.fInstance.fRows), .v (.int .i64 a1.fInstance.fStepX), .v (.int .i64 a1.fInstance.fStepY)]), (256, .var [.v (.int .i64 0), .v (.int .i64 0), .v (.int .i64 0), .v (.string (ByteArray.mk #[])), .v (.int .i64 0), .v (.int .i64 0), .v (.int .i64 0), .v (.int .i64 0), .v (.int .i64 0), .v (.int .i64 0), .v (.int .i64 0), .v (.int .i64 0), .v (.string (ByteArray.mk #[])), .v (.int .i64 0), .v (.int .i64 0), .v (.int .i64 0), .v (.int .i64 0), .v (.int .i64 0), .v (.int .i64 0), .v (.int .i64 0), .v (.int .i64 0)]), (320, .var [.v (.int .i64 0), .v (.int .i64 a1.fCell), .v (.int .i64 a1.fIndex), .v (.string y73.2.2.2.2.2.2.2.2), .v (.int .i64 0), .v (.int .i64 0), .v (.int .i64 0), .v (.int .i64 0), .v (.int .i64 0), .v (.int .i64 0), .v (.int .i64 0), .v (.int .i64 0), .v (.string (ByteArray.mk #[])), .v (.int .i64 y73.1), .v (.int .i64 y73.2.1), .v (.int .i64 y73.2.2.1), .v (.int .i64 y73.2.2.2.1), .v (.int .i64 y73.2.2.2.2.1), .v (.int .i64 y73.2.2.2.2.2.1), .v (.int .i64 y73.2.2.2.2.2.2.1), .v (.int .i64 y73.2.2.2.2.2.2.2.1)])]) := ⟨_, rfl⟩
         refine ⟨S77, ?_, ?_⟩
         ·clear h
          have h := hy74
          clear hy74
          cbv
          refine fork (fun b89 => ?_) (fun b89 => ?_)
          ·replace h := of_br_t b89 h
           cbv
           replace h := of_req h
           obtain ⟨c88, h⟩ := h
           refine ⟨⟨c88, trivial⟩, ?_⟩
           injection h with h
           subst h
           subst hS78
           show St.le _ _
           exact le_sparse rfl ⟨lR _, lR _, lR _, trivial⟩ ⟨rfl, rfl, rfl, trivial⟩ rfl
          ·replace h := of_br_f b89 h
           cbv
           injection h with h
           subst h
           subst hS78
           show St.le _ _
           exact le_sparse rfl ⟨lR _, lR _, lR _, trivial⟩ ⟨rfl, rfl, rfl, trivial⟩ rfl
         ·clear hy74
          subst hS78
          obtain ⟨y73_0, y73_1, y73_2, y73_3, y73_4, y73_5, y73_6, y73_7, y73_8⟩ := y73
          replace h := of_let h
          obtain ⟨w79, hw79, h⟩ := h
          have hw79 : w79 = y73_0 := hw79
          subst hw79
          replace h := of_let h
          obtain ⟨w80, hw80, h⟩ := h
          have hw80 : w80 = y73_1 := hw80
          subst hw80
          replace h := of_let h
          obtain ⟨w81, hw81, h⟩ := h
          have hw81 : w81 = y73_2 := hw81
          subst hw81
          replace h := of_let h
          obtain ⟨w82, hw82, h⟩ := h
          have hw82 : w82 = y73_3 := hw82
          subst hw82
          replace h := of_let h
          obtain ⟨w83, hw83, h⟩ := h
          have hw83 : w83 = y73_4 := hw83
          subst hw83
          replace h := of_let h
          obtain ⟨w84, hw84, h⟩ := h
          have hw84 : w84 = y73_5 := hw84
          subst hw84
          replace h := of_let h
          obtain ⟨w85, hw85, h⟩ := h
          have hw85 : w85 = y73_6 := hw85
          subst hw85
          replace h := of_let h
          obtain ⟨w86, hw86, h⟩ := h
          have hw86 : w86 = y73_7 := hw86
          subst hw86
          replace h := of_let h
          obtain ⟨w87, hw87, h⟩ := h
          have hw87 : w87 = y73_8 := hw87
          subst hw87
          cbv
          injection h with h
          subst h
          subst hS58
          show St.le _ _
          exact le_sparse rfl ⟨lR _, lR _, lR _, trivial⟩ ⟨rfl, rfl, rfl, trivial⟩ rfl
       ·clear hy54
        subst hS58
        obtain ⟨y53_0, y53_1, y53_2, y53_3, y53_4, y53_5, y53_6, y53_7, y53_8, y53_9, y53_10, y53_11, y53_12⟩ := y53
        replace h := of_let h
        obtain ⟨w59, hw59, h⟩ := h
        have hw59 : w59 = y53_0 := hw59
        subst hw59
        replace h := of_let h
        obtain ⟨w60, hw60, h⟩ := h
        have hw60 : w60 = y53_1 := hw60
        subst hw60
        replace h := of_let h
        obtain ⟨w61, hw61, h⟩ := h
        have hw61 : w61 = y53_2 := hw61
        subst hw61
        replace h := of_let h
        obtain ⟨w62, hw62, h⟩ := h
        have hw62 : w62 = y53_3 := hw62
        subst hw62
        replace h := of_let h
        obtain ⟨w63, hw63, h⟩ := h
        have hw63 : w63 = y53_4 := hw63
        subst hw63
        replace h := of_let h
        obtain ⟨w64, hw64, h⟩ := h
        have hw64 : w64 = y53_5 := hw64
        subst hw64
        replace h := of_let h
        obtain ⟨w65, hw65, h⟩ := h
        have hw65 : w65 = y53_6 := hw65
        subst hw65
        replace h := of_let h
        obtain ⟨w66, hw66, h⟩ := h
        have hw66 : w66 = y53_7 := hw66
        subst hw66
        replace h := of_let h
        obtain ⟨w67, hw67, h⟩ := h
        have hw67 : w67 = y53_8 := hw67
        subst hw67
        replace h := of_let h
        obtain ⟨w68, hw68, h⟩ := h
        have hw68 : w68 = y53_9 := hw68
        subst hw68
        replace h := of_let h
        obtain ⟨w69, hw69, h⟩ := h
        have hw69 : w69 = y53_10 := hw69
        subst hw69
        replace h := of_let h
        obtain ⟨w70, hw70, h⟩ := h
        have hw70 : w70 = y53_11 := hw70
        subst hw70
        replace h := of_let h
        obtain ⟨w71, hw71, h⟩ := h
        have hw71 : w71 = y53_12 := hw71
        subst hw71
        cbv
        injection h with h
        subst h
        subst hS33
        show St.le _ _
        exact le_sparse rfl ⟨lR _, lR _, lR _, trivial⟩ ⟨rfl, rfl, rfl, trivial⟩ rfl
     ·clear hy29
      subst hS33
      obtain ⟨y28_0, y28_1, y28_2, y28_3, y28_4, y28_5, y28_6, y28_7, y28_8, y28_9, y28_10, y28_11, y28_12, y28_13, y28_14, y28_15, y28_16, y28_17⟩ := y28
      replace h := of_let h
      obtain ⟨w34, hw34, h⟩ := h
      have hw34 : w34 = y28_0 := hw34
      subst hw34
      replace h := of_let h
      obtain ⟨w35, hw35, h⟩ := h
      have hw35 : w35 = y28_1 := hw35
      subst hw35
      replace h := of_let h
      obtain ⟨w36, hw36, h⟩ := h
      have hw36 : w36 = y28_2 := hw36
      subst hw36
      replace h := of_let h
      obtain ⟨w37, hw37, h⟩ := h
      have hw37 : w37 = y28_3 := hw37
      subst hw37
      replace h := of_let h
      obtain ⟨w38, hw38, h⟩ := h
      have hw38 : w38 = y28_4 := hw38
      subst hw38
      replace h := of_let h
      obtain ⟨w39, hw39, h⟩ := h
      have hw39 : w39 = y28_5 := hw39
      subst hw39
      replace h := of_let h
      obtain ⟨w40, hw40, h⟩ := h
      have hw40 : w40 = y28_6 := hw40
      subst hw40
      replace h := of_let h
      obtain ⟨w41, hw41, h⟩ := h
      have hw41 : w41 = y28_7 := hw41
      subst hw41
      replace h := of_let h
      obtain ⟨w42, hw42, h⟩ := h
      have hw42 : w42 = y28_8 := hw42
      subst hw42
      replace h := of_let h
      obtain ⟨w43, hw43, h⟩ := h
      have hw43 : w43 = y28_9 := hw43
      subst hw43
      replace h := of_let h
      obtain ⟨w44, hw44, h⟩ := h
      have hw44 : w44 = y28_10 := hw44
      subst hw44
      replace h := of_let h
      obtain ⟨w45, hw45, h⟩ := h
      have hw45 : w45 = y28_11 := hw45
      subst hw45
      replace h := of_let h
      obtain ⟨w46, hw46, h⟩ := h
      have hw46 : w46 = y28_12 := hw46
      subst hw46
      replace h := of_let h
      obtain ⟨w47, hw47, h⟩ := h
      have hw47 : w47 = y28_13 := hw47
      subst hw47
      replace h := of_let h
      obtain ⟨w48, hw48, h⟩ := h
      have hw48 : w48 = y28_14 := hw48
      subst hw48
      replace h := of_let h
      obtain ⟨w49, hw49, h⟩ := h
      have hw49 : w49 = y28_15 := hw49
      subst hw49
      replace h := of_let h
      obtain ⟨w50, hw50, h⟩ := h
      have hw50 : w50 = y28_16 := hw50
      subst hw50
      replace h := of_let h
      obtain ⟨w51, hw51, h⟩ := h
      have hw51 : w51 = y28_17 := hw51
      subst hw51
      cbv
      replace h := of_bind h
      obtain ⟨y92, hy93, h⟩ := h
      obtain ⟨S96, hS97⟩ : ∃ S, S = some (sparse 74 [(4, .c (.ptr 256 0)), (5, .c (.ptr 320 0))] [(256, .var [.v (.int .i64 0), .v (.int .i64 0), .v (.int .i64 0), .v (.string (ByteArray.mk #[])), .v (.int .i64 0), .v (.int .i64 0), .v (.int .i64 0), .v (.int .i64 0), .v (.int .i64 0), .v (.int .i64 0), .v (.int .i64 0), .v (.int .i64 0), .v (.string (ByteArray.mk #[])), .v (.int .i64 0), .v (.int .i64 0), .v (.int .i64 0), .v (.int .i64 0), .v (.int .i64 0), .v (.int .i64 0), .v (.int .i64 0), .v (.int .i64 0)]), (320, .var [.v (.int .i64 y92), .v (.int .i64 a1.fCell), .v (.int .i64 a1.fIndex), .v (.string w39), .v (.int .i64 w34), .v (.int .i64 w35), .v (.int .i64 w36), .v (.int .i64 w37), .v (.int .i64 w38), .v (.int .i64 w40), .v (.int .i64 w41), .v (.int .i64 w42), .v (.string w43), .v (.int .i64 w44), .v (.int .i64 w45), .v (.int .i64 w46), .v (.int .i64 w47), .v (.int .i64 w48), .v (.int .i64 w49), .v (.int .i64 w50), .v (.int .i64 w51)])]) := ⟨_, rfl⟩
      refine ⟨S96, ?_, ?_⟩
      ·clear h
       have h := hy93
       clear hy93
       cbv
       refine fork (fun b99 => ?_) (fun b99 => ?_)
       ·replace h := of_br_t b99 h
        cbv
        injection h with h
        subst h
        subst hS97
        show St.le _ _
        exact le_sparse rfl ⟨lR _, lR _, trivial⟩ ⟨rfl, rfl, trivial⟩ rfl
       ·replace h := of_br_f b99 h
        cbv
        injection h with h
        subst h
        subst hS97
        show St.le _ _
        exact le_sparse rfl ⟨lR _, lR _, trivial⟩ ⟨rfl, rfl, trivial⟩ rfl
      ·clear hy93
       subst hS97
       replace h := of_let h
       obtain ⟨w98, hw98, h⟩ := h
       have hw98 : w98 = y92 := hw98
       subst hw98
       cbv
       injection h with h
       subst h
       refine ⟨(sparse 74 [(4, .c (.ptr 256 0))] [(256, .var [.v (.int .i64 w98), .v (.int .i64 a1.fCell), .v (.int .i64 a1.fIndex), .v (.string w39), .v (.int .i64 w34), .v (.int .i64 w35), .v (.int .i64 w36), .v (.int .i64 w37), .v (.int .i64 w38), .v (.int .i64 w40), .v (.int .i64 w41), .v (.int .i64 w42), .v (.string w43), .v (.int .i64 w44), .v (.int .i64 w45), .v (.int .i64 w46), .v (.int .i64 w47), .v (.int .i64 w48), .v (.int .i64 w49), .v (.int .i64 w50), .v (.int .i64 w51)])]), ?_, ?_⟩
       ·exact le_sparse rfl ⟨lR _, trivial⟩ ⟨rfl, trivial⟩ rfl
       ·exact ⟨lR _, trivial, rfl⟩

/-- spec.InverseEdit -/
noncomputable def F_spec_InverseEdit (a0 : TLibrary) (a1 : TEdit) : Option (TEdit × Int) :=
 (F_spec_l13Code a0 a1).bind fun y1 =>
 br (std.not (std.eq y1 0))
 (some ((TEdit.mk 0 0 0 (ByteArray.mk #[]) (TShape.mk 0 (TRect.mk 0 0 0 0)) (TLabel.mk 0 (TPoint.mk 0 0) (ByteArray.mk #[])) (TInstance.mk 0 (TTransform.mk 0 0 0) 0 0 0 0)), y1))
 ((F_spec_l13Inverse a0 a1).bind fun y3 =>
 some (y3, (0 : Int)))
theorem run_spec_InverseEdit (a0 : TLibrary) (a1 : TEdit) (r : TEdit × Int) (h : F_spec_InverseEdit a0 a1 = some r) : Fun Try.prog 34 [.agg [.bs (len a0.fCells) 4 (row gd (encCell len gd) a0.fCells)], .agg [.v (.int .i64 a1.fKind), .v (.int .i64 a1.fCell), .v (.int .i64 a1.fIndex), .v (.string a1.fName), .v (.int .i64 a1.fShape.fLayer), .v (.int .i64 a1.fShape.fBox.fX0), .v (.int .i64 a1.fShape.fBox.fY0), .v (.int .i64 a1.fShape.fBox.fX1), .v (.int .i64 a1.fShape.fBox.fY1), .v (.int .i64 a1.fLabel.fLayer), .v (.int .i64 a1.fLabel.fAt.fX), .v (.int .i64 a1.fLabel.fAt.fY), .v (.string a1.fLabel.fName), .v (.int .i64 a1.fInstance.fCell), .v (.int .i64 a1.fInstance.fPlace.fOrientation), .v (.int .i64 a1.fInstance.fPlace.fX), .v (.int .i64 a1.fInstance.fPlace.fY), .v (.int .i64 a1.fInstance.fColumns), .v (.int .i64 a1.fInstance.fRows), .v (.int .i64 a1.fInstance.fStepX), .v (.int .i64 a1.fInstance.fStepY)]] [] (.tup [.agg [.v (.int .i64 r.1.fKind), .v (.int .i64 r.1.fCell), .v (.int .i64 r.1.fIndex), .v (.string r.1.fName), .v (.int .i64 r.1.fShape.fLayer), .v (.int .i64 r.1.fShape.fBox.fX0), .v (.int .i64 r.1.fShape.fBox.fY0), .v (.int .i64 r.1.fShape.fBox.fX1), .v (.int .i64 r.1.fShape.fBox.fY1), .v (.int .i64 r.1.fLabel.fLayer), .v (.int .i64 r.1.fLabel.fAt.fX), .v (.int .i64 r.1.fLabel.fAt.fY), .v (.string r.1.fLabel.fName), .v (.int .i64 r.1.fInstance.fCell), .v (.int .i64 r.1.fInstance.fPlace.fOrientation), .v (.int .i64 r.1.fInstance.fPlace.fX), .v (.int .i64 r.1.fInstance.fPlace.fY), .v (.int .i64 r.1.fInstance.fColumns), .v (.int .i64 r.1.fInstance.fRows), .v (.int .i64 r.1.fInstance.fStepX), .v (.int .i64 r.1.fInstance.fStepY)], .c (.v (.int .i64 r.2))]) [] true := by
 refine Fun.of_wp (oneOf []) tok mixed Try.func34 (by kernel_rfl) rfl Try.ntmps34 rfl trivial (fun _ => ⟨(by simp [AV.flat, AV.flat1, AC.flat]), trivial⟩) ?_
 unfold F_spec_InverseEdit at h
 have hf_spec_l13Code := @run_spec_l13Code
 have hf_spec_l13Inverse := @run_spec_l13Inverse
 generalize hLEN : @len = LEN at *
 generalize hGD : @gd = GD at *
 generalize hA : std = A at *
 generalize hP : Try.prog = P at *
 cbv
 replace h := of_bind h
 obtain ⟨y1, hy2, h⟩ := h
 refine ⟨{ args := [.agg [.bs (LEN a0.fCells) 4 (row GD (encCell LEN GD) a0.fCells)], .agg [.v (.int .i64 a1.fKind), .v (.int .i64 a1.fCell), .v (.int .i64 a1.fIndex), .v (.string a1.fName), .v (.int .i64 a1.fShape.fLayer), .v (.int .i64 a1.fShape.fBox.fX0), .v (.int .i64 a1.fShape.fBox.fY0), .v (.int .i64 a1.fShape.fBox.fX1), .v (.int .i64 a1.fShape.fBox.fY1), .v (.int .i64 a1.fLabel.fLayer), .v (.int .i64 a1.fLabel.fAt.fX), .v (.int .i64 a1.fLabel.fAt.fY), .v (.string a1.fLabel.fName), .v (.int .i64 a1.fInstance.fCell), .v (.int .i64 a1.fInstance.fPlace.fOrientation), .v (.int .i64 a1.fInstance.fPlace.fX), .v (.int .i64 a1.fInstance.fPlace.fY), .v (.int .i64 a1.fInstance.fColumns), .v (.int .i64 a1.fInstance.fRows), .v (.int .i64 a1.fInstance.fStepX), .v (.int .i64 a1.fInstance.fStepY)]], o0 := [], r := .c (.v (.int .i64 y1)), o1 := [], fl := true, σ := [], τ := [] }, hf_spec_l13Code _ _ _ hy2, ⟨les_cons (lR _) (les_cons (lR _) (les_nil)), trivial, rfl, rfl, rfl, rfl, trivial, rfl⟩, ?_⟩
 cbv
 refine fork (fun b5 => ?_) (fun b5 => ?_)
 ·replace h := of_br_t b5 h
  cbv
  injection h with h
  subst h
  refine ⟨(sparse 17 [(4, .c (.ptr 256 0)), (5, .c (.v (.int .i64 y1)))] [(256, .var [.v (.int .i64 0), .v (.int .i64 0), .v (.int .i64 0), .v (.string (ByteArray.mk #[])), .v (.int .i64 0), .v (.int .i64 0), .v (.int .i64 0), .v (.int .i64 0), .v (.int .i64 0), .v (.int .i64 0), .v (.int .i64 0), .v (.int .i64 0), .v (.string (ByteArray.mk #[])), .v (.int .i64 0), .v (.int .i64 0), .v (.int .i64 0), .v (.int .i64 0), .v (.int .i64 0), .v (.int .i64 0), .v (.int .i64 0), .v (.int .i64 0)])]), ?_, ?_⟩
  ·exact le_sparse rfl ⟨lR _, lR _, trivial⟩ ⟨rfl, trivial⟩ rfl
  ·exact ⟨lR _, trivial, rfl⟩
 ·replace h := of_br_f b5 h
  cbv
  replace h := of_bind h
  obtain ⟨y3, hy4, h⟩ := h
  refine ⟨{ args := [.agg [.bs (LEN a0.fCells) 4 (row GD (encCell LEN GD) a0.fCells)], .agg [.v (.int .i64 a1.fKind), .v (.int .i64 a1.fCell), .v (.int .i64 a1.fIndex), .v (.string a1.fName), .v (.int .i64 a1.fShape.fLayer), .v (.int .i64 a1.fShape.fBox.fX0), .v (.int .i64 a1.fShape.fBox.fY0), .v (.int .i64 a1.fShape.fBox.fX1), .v (.int .i64 a1.fShape.fBox.fY1), .v (.int .i64 a1.fLabel.fLayer), .v (.int .i64 a1.fLabel.fAt.fX), .v (.int .i64 a1.fLabel.fAt.fY), .v (.string a1.fLabel.fName), .v (.int .i64 a1.fInstance.fCell), .v (.int .i64 a1.fInstance.fPlace.fOrientation), .v (.int .i64 a1.fInstance.fPlace.fX), .v (.int .i64 a1.fInstance.fPlace.fY), .v (.int .i64 a1.fInstance.fColumns), .v (.int .i64 a1.fInstance.fRows), .v (.int .i64 a1.fInstance.fStepX), .v (.int .i64 a1.fInstance.fStepY)]], o0 := [], r := .agg [.v (.int .i64 y3.fKind), .v (.int .i64 y3.fCell), .v (.int .i64 y3.fIndex), .v (.string y3.fName), .v (.int .i64 y3.fShape.fLayer), .v (.int .i64 y3.fShape.fBox.fX0), .v (.int .i64 y3.fShape.fBox.fY0), .v (.int .i64 y3.fShape.fBox.fX1), .v (.int .i64 y3.fShape.fBox.fY1), .v (.int .i64 y3.fLabel.fLayer), .v (.int .i64 y3.fLabel.fAt.fX), .v (.int .i64 y3.fLabel.fAt.fY), .v (.string y3.fLabel.fName), .v (.int .i64 y3.fInstance.fCell), .v (.int .i64 y3.fInstance.fPlace.fOrientation), .v (.int .i64 y3.fInstance.fPlace.fX), .v (.int .i64 y3.fInstance.fPlace.fY), .v (.int .i64 y3.fInstance.fColumns), .v (.int .i64 y3.fInstance.fRows), .v (.int .i64 y3.fInstance.fStepX), .v (.int .i64 y3.fInstance.fStepY)], o1 := [], fl := true, σ := [], τ := [] }, hf_spec_l13Inverse _ _ _ hy4, ⟨les_cons (lR _) (les_cons (lR _) (les_nil)), trivial, rfl, rfl, rfl, rfl, trivial, rfl⟩, ?_⟩
  cbv
  injection h with h
  subst h
  refine ⟨(sparse 17 [(4, .c (.ptr 256 0)), (5, .c (.v (.int .i64 0)))] [(256, .var [.v (.int .i64 y3.fKind), .v (.int .i64 y3.fCell), .v (.int .i64 y3.fIndex), .v (.string y3.fName), .v (.int .i64 y3.fShape.fLayer), .v (.int .i64 y3.fShape.fBox.fX0), .v (.int .i64 y3.fShape.fBox.fY0), .v (.int .i64 y3.fShape.fBox.fX1), .v (.int .i64 y3.fShape.fBox.fY1), .v (.int .i64 y3.fLabel.fLayer), .v (.int .i64 y3.fLabel.fAt.fX), .v (.int .i64 y3.fLabel.fAt.fY), .v (.string y3.fLabel.fName), .v (.int .i64 y3.fInstance.fCell), .v (.int .i64 y3.fInstance.fPlace.fOrientation), .v (.int .i64 y3.fInstance.fPlace.fX), .v (.int .i64 y3.fInstance.fPlace.fY), .v (.int .i64 y3.fInstance.fColumns), .v (.int .i64 y3.fInstance.fRows), .v (.int .i64 y3.fInstance.fStepX), .v (.int .i64 y3.fInstance.fStepY)])]), ?_, ?_⟩
  ·exact le_sparse rfl ⟨lR _, lR _, trivial⟩ ⟨rfl, trivial⟩ rfl
  ·exact ⟨lR _, trivial, rfl⟩

noncomputable def L_impl_IsName_x2 (a0 : ByteArray) : (Int) → Option ((Int) ⊕ ((Unit) ⊕ (Unit))) := fun x2 =>
 letO x2 fun v1 =>
 br (std.lt v1 (std.ofN (std.slen a0)))
 (((
    req (std.inR v1 (std.slen a0)) <|
    br (std.lt (std.sat a0 (std.toN v1)) 97)
    (req (std.inR v1 (std.slen a0)) <|
    br (std.lt (std.sat a0 (std.toN v1)) 48)
    (some true)
    (req (std.inR v1 (std.slen a0)) <|
    some (std.lt 57 (std.sat a0 (std.toN v1)))))
    (req (std.inR v1 (std.slen a0)) <|
    br (std.lt 122 (std.sat a0 (std.toN v1)))
    (req (std.inR v1 (std.slen a0)) <|
    br (std.lt (std.sat a0 (std.toN v1)) 48)
    (some true)
    (req (std.inR v1 (std.slen a0)) <|
    some (std.lt 57 (std.sat a0 (std.toN v1)))))
    (some false))
  ) : Option (Bool)).bind fun y14 =>
 letO y14 fun w20 =>
 br w20
 (some (.inr (.inl ())))
 (some (.inl (std.add .i64 v1 1))))
 (some (.inr (.inr ())))
/-- impl.IsName -/
noncomputable def F_impl_IsName (a0 : ByteArray) : Option (Bool) :=
 (whileP (σ := Int) (ρ := (Unit) ⊕ (Unit)) (L_impl_IsName_x2 a0) 0).bind fun y3 =>
 (match y3 with
  | .inl y3k0 => (
    some false)
  | .inr y3m0 =>
    ((
       br (std.le 1 (std.ofN (std.slen a0)))
       (some (std.le (std.ofN (std.slen a0)) 8))
       (some false)
     ) : Option (Bool)).bind fun y33 =>
    letO y33 fun w39 =>
    some w39)
theorem run_impl_IsName (a0 : ByteArray) (r : Bool) (h : F_impl_IsName a0 = some r) : Fun Try.prog 168 [.c (.v (.string a0))] [] (.c (.v (.bool r))) [] true := by
 refine Fun.of_wp (oneOf [4, 6]) tok mixed Try.func168 (by kernel_rfl) rfl Try.ntmps168 rfl trivial (fun _ => ⟨trivial, trivial⟩) ?_
 unfold F_impl_IsName at h
 unfold L_impl_IsName_x2 at h
 generalize hLEN : @len = LEN at *
 generalize hGD : @gd = GD at *
 generalize hA : std = A at *
 generalize hP : Try.prog = P at *
 cbv
 replace h := of_bind h
 obtain ⟨y3, hr4, hN5⟩ := h
 refine loop_cut hr4 (fun x => (sparse 40 [(0, .c (.v (.string a0))), (3, .c (.v (.int .i64 x)))] [])) ?_ (fun y e s => (match y with | .inl w => e = .ret ∧ s.le (sparse 40 [(2, .c (.v (.bool false)))] []) | .inr w0 => (fun (w : Unit) => e = .exit 0 ∧ s.le (sparse 40 [(0, .c (.v (.string a0)))] [])) w0)) ?_ ?_
 ·clear hr4 hN5
  show St.le _ _
  exact le_sparse rfl ⟨lR _, lR _, trivial⟩ trivial rfl
 ·clear hr4 hN5
  intro x z9 h K7 hK8 hY6
  replace h := of_let h
  obtain ⟨v1, hv1, h⟩ := h
  have hv1 : v1 = x := hv1
  subst hv1
  cbv
  refine fork (fun b32 => ?_) (fun b32 => ?_)
  ·replace h := of_br_t b32 h
   cbv
   replace h := of_bind h
   obtain ⟨y14, hy15, h⟩ := h
   obtain ⟨S18, hS19⟩ : ∃ S, S = (sparse 40 [(0, .c (.v (.string a0))), (3, .c (.v (.int .i64 v1))), (31, .c (.v (.bool y14)))] []) := ⟨_, rfl⟩
   refine ⟨S18, ?_, ?_⟩
   ·clear h
    have h := hy15
    clear hy15
    cbv
    replace h := of_req h
    obtain ⟨c21, h⟩ := h
    refine ⟨c21, ?_⟩
    refine fork (fun b30 => ?_) (fun b30 => ?_)
    ·replace h := of_br_t b30 h
     cbv
     replace h := of_req h
     obtain ⟨c27, h⟩ := h
     refine ⟨c27, ?_⟩
     refine fork (fun b29 => ?_) (fun b29 => ?_)
     ·replace h := of_br_t b29 h
      cbv
      injection h with h
      subst h
      subst hS19
      show St.le _ _
      exact le_sparse rfl ⟨lR _, lR _, lR _, trivial⟩ trivial rfl
     ·replace h := of_br_f b29 h
      cbv
      replace h := of_req h
      obtain ⟨c28, h⟩ := h
      refine ⟨c28, ?_⟩
      injection h with h
      subst h
      subst hS19
      show St.le _ _
      exact le_sparse rfl ⟨lR _, lR _, lR _, trivial⟩ trivial rfl
    ·replace h := of_br_f b30 h
     cbv
     replace h := of_req h
     obtain ⟨c22, h⟩ := h
     refine ⟨c22, ?_⟩
     refine fork (fun b26 => ?_) (fun b26 => ?_)
     ·replace h := of_br_t b26 h
      cbv
      replace h := of_req h
      obtain ⟨c23, h⟩ := h
      refine ⟨c23, ?_⟩
      refine fork (fun b25 => ?_) (fun b25 => ?_)
      ·replace h := of_br_t b25 h
       cbv
       injection h with h
       subst h
       subst hS19
       show St.le _ _
       exact le_sparse rfl ⟨lR _, lR _, lR _, trivial⟩ trivial rfl
      ·replace h := of_br_f b25 h
       cbv
       replace h := of_req h
       obtain ⟨c24, h⟩ := h
       refine ⟨c24, ?_⟩
       injection h with h
       subst h
       subst hS19
       show St.le _ _
       exact le_sparse rfl ⟨lR _, lR _, lR _, trivial⟩ trivial rfl
     ·replace h := of_br_f b26 h
      cbv
      injection h with h
      subst h
      subst hS19
      show St.le _ _
      exact le_sparse rfl ⟨lR _, lR _, lR _, trivial⟩ trivial rfl
   ·clear hy15
    subst hS19
    replace h := of_let h
    obtain ⟨w20, hw20, h⟩ := h
    have hw20 : w20 = y14 := hw20
    subst hw20
    cbv
    refine fork (fun b31 => ?_) (fun b31 => ?_)
    ·replace h := of_br_t b31 h
     cbv
     injection h with h
     refine hY6 _ h.symm _ _ (And.intro rfl ?_) (by intro hh; cases hh)
     exact le_sparse rfl ⟨lR _, trivial⟩ trivial rfl
    ·replace h := of_br_f b31 h
     cbv
     injection h with h
     refine hK8 _ h.symm _ ?_
     exact le_sparse rfl ⟨lR _, lR _, trivial⟩ trivial rfl
  ·replace h := of_br_f b32 h
   cbv
   injection h with h
   refine hY6 _ h.symm _ _ (And.intro rfl ?_) (by intro hh; cases hh)
   exact le_sparse rfl ⟨lR _, trivial⟩ trivial rfl
 ·clear hr4
  have h := hN5
  clear hN5
  intro e12 s13 q11 hne
  rcases y3 with y3k0 | y3m0
  ·replace h := h
   obtain ⟨rfl, q11⟩ := q11
   cbv
   injection h with h
   subst h
   refine ⟨(sparse 40 [(2, .c (.v (.bool false)))] []), ?_, ?_⟩
   ·refine St.le_trans q11 ?_
    exact le_sparse rfl ⟨lR _, trivial⟩ trivial rfl
   ·exact ⟨lR _, trivial, rfl⟩
  ·obtain ⟨rfl, q11⟩ := q11
   cbv
   refine ⟨_, q11, ?_⟩
   cbv
   replace h := of_bind h
   obtain ⟨y33, hy34, h⟩ := h
   obtain ⟨S37, hS38⟩ : ∃ S, S = (sparse 40 [(2, .c (.v (.bool y33)))] []) := ⟨_, rfl⟩
   refine ⟨S37, ?_, ?_⟩
   ·clear h
    have h := hy34
    clear hy34
    cbv
    refine fork (fun b40 => ?_) (fun b40 => ?_)
    ·replace h := of_br_t b40 h
     cbv
     injection h with h
     subst h
     subst hS38
     show St.le _ _
     exact le_sparse rfl ⟨lR _, trivial⟩ trivial rfl
    ·replace h := of_br_f b40 h
     cbv
     injection h with h
     subst h
     subst hS38
     show St.le _ _
     exact le_sparse rfl ⟨lR _, trivial⟩ trivial rfl
   ·clear hy34
    subst hS38
    replace h := of_let h
    obtain ⟨w39, hw39, h⟩ := h
    have hw39 : w39 = y33 := hw39
    subst hw39
    cbv
    injection h with h
    subst h
    refine ⟨(sparse 40 [(2, .c (.v (.bool w39)))] []), ?_, ?_⟩
    ·exact le_sparse rfl ⟨lR _, trivial⟩ trivial rfl
    ·exact ⟨lR _, trivial, rfl⟩

/-- impl.within -/
noncomputable def F_impl_within (a0 : Int) (a1 : Int) (a2 : Int) : Option (Bool) :=
 ((
    br (std.le a1 a0)
    (some (std.le a0 a2))
    (some false)
  ) : Option (Bool)).bind fun y1 =>
 letO y1 fun w7 =>
 some w7
theorem run_impl_within (a0 : Int) (a1 : Int) (a2 : Int) (r : Bool) (h : F_impl_within a0 a1 a2 = some r) : Fun Try.prog 61 [.c (.v (.int .i64 a0)), .c (.v (.int .i64 a1)), .c (.v (.int .i64 a2))] [] (.c (.v (.bool r))) [] true := by
 refine Fun.of_wp (oneOf [1]) tok mixed Try.func61 (by kernel_rfl) rfl Try.ntmps61 rfl trivial (fun _ => ⟨trivial, trivial⟩) ?_
 unfold F_impl_within at h
 generalize hLEN : @len = LEN at *
 generalize hGD : @gd = GD at *
 generalize hA : std = A at *
 generalize hP : Try.prog = P at *
 cbv
 replace h := of_bind h
 obtain ⟨y1, hy2, h⟩ := h
 obtain ⟨S5, hS6⟩ : ∃ S, S = (sparse 15 [(6, .c (.v (.bool y1)))] []) := ⟨_, rfl⟩
 refine ⟨S5, ?_, ?_⟩
 ·clear h
  have h := hy2
  clear hy2
  cbv
  refine fork (fun b8 => ?_) (fun b8 => ?_)
  ·replace h := of_br_t b8 h
   cbv
   injection h with h
   subst h
   subst hS6
   show St.le _ _
   exact le_sparse rfl ⟨lR _, trivial⟩ trivial rfl
  ·replace h := of_br_f b8 h
   cbv
   injection h with h
   subst h
   subst hS6
   show St.le _ _
   exact le_sparse rfl ⟨lR _, trivial⟩ trivial rfl
 ·clear hy2
  subst hS6
  replace h := of_let h
  obtain ⟨w7, hw7, h⟩ := h
  have hw7 : w7 = y1 := hw7
  subst hw7
  cbv
  injection h with h
  subst h
  refine ⟨(sparse 15 [(6, .c (.v (.bool w7)))] []), ?_, ?_⟩
  ·exact le_sparse rfl ⟨lR _, trivial⟩ trivial rfl
  ·exact ⟨lR _, trivial, rfl⟩

/-- impl.IsValidRect -/
noncomputable def F_impl_IsValidRect (a0 : TRect) : Option (Bool) :=
 ((
    br (std.le (-40) a0.fX0)
    (br (std.lt a0.fX0 a0.fX1)
    (br (std.le a0.fX1 40)
    (br (std.le (-40) a0.fY0)
    (br (std.lt a0.fY0 a0.fY1)
    (some (std.le a0.fY1 40))
    (some false))
    (some false))
    (some false))
    (some false))
    (some false)
  ) : Option (Bool)).bind fun y1 =>
 letO y1 fun w7 =>
 some w7
theorem run_impl_IsValidRect (a0 : TRect) (r : Bool) (h : F_impl_IsValidRect a0 = some r) : Fun Try.prog 50 [.agg [.v (.int .i64 a0.fX0), .v (.int .i64 a0.fY0), .v (.int .i64 a0.fX1), .v (.int .i64 a0.fY1)]] [] (.c (.v (.bool r))) [] true := by
 refine Fun.of_wp (oneOf [1]) tok mixed Try.func50 (by kernel_rfl) rfl Try.ntmps50 rfl trivial (fun _ => ⟨trivial, trivial⟩) ?_
 unfold F_impl_IsValidRect at h
 generalize hLEN : @len = LEN at *
 generalize hGD : @gd = GD at *
 generalize hA : std = A at *
 generalize hP : Try.prog = P at *
 cbv
 replace h := of_bind h
 obtain ⟨y1, hy2, h⟩ := h
 obtain ⟨S5, hS6⟩ : ∃ S, S = (sparse 35 [(2, .c (.v (.bool y1)))] []) := ⟨_, rfl⟩
 refine ⟨S5, ?_, ?_⟩
 ·clear h
  have h := hy2
  clear hy2
  cbv
  refine fork (fun b12 => ?_) (fun b12 => ?_)
  ·replace h := of_br_t b12 h
   cbv
   refine fork (fun b11 => ?_) (fun b11 => ?_)
   ·replace h := of_br_t b11 h
    cbv
    refine fork (fun b10 => ?_) (fun b10 => ?_)
    ·replace h := of_br_t b10 h
     cbv
     refine fork (fun b9 => ?_) (fun b9 => ?_)
     ·replace h := of_br_t b9 h
      cbv
      refine fork (fun b8 => ?_) (fun b8 => ?_)
      ·replace h := of_br_t b8 h
       cbv
       injection h with h
       subst h
       subst hS6
       show St.le _ _
       exact le_sparse rfl ⟨lR _, trivial⟩ trivial rfl
      ·replace h := of_br_f b8 h
       cbv
       injection h with h
       subst h
       subst hS6
       show St.le _ _
       exact le_sparse rfl ⟨lR _, trivial⟩ trivial rfl
     ·replace h := of_br_f b9 h
      cbv
      injection h with h
      subst h
      subst hS6
      show St.le _ _
      exact le_sparse rfl ⟨lR _, trivial⟩ trivial rfl
    ·replace h := of_br_f b10 h
     cbv
     injection h with h
     subst h
     subst hS6
     show St.le _ _
     exact le_sparse rfl ⟨lR _, trivial⟩ trivial rfl
   ·replace h := of_br_f b11 h
    cbv
    injection h with h
    subst h
    subst hS6
    show St.le _ _
    exact le_sparse rfl ⟨lR _, trivial⟩ trivial rfl
  ·replace h := of_br_f b12 h
   cbv
   injection h with h
   subst h
   subst hS6
   show St.le _ _
   exact le_sparse rfl ⟨lR _, trivial⟩ trivial rfl
 ·clear hy2
  subst hS6
  replace h := of_let h
  obtain ⟨w7, hw7, h⟩ := h
  have hw7 : w7 = y1 := hw7
  subst hw7
  cbv
  injection h with h
  subst h
  refine ⟨(sparse 35 [(2, .c (.v (.bool w7)))] []), ?_, ?_⟩
  ·exact le_sparse rfl ⟨lR _, trivial⟩ trivial rfl
  ·exact ⟨lR _, trivial, rfl⟩

/-- impl.validShape -/
noncomputable def F_impl_validShape (a0 : TShape) : Option (Bool) :=
 ((
    (F_impl_within a0.fLayer 0 7).bind fun y8 =>
    br y8
    ((F_impl_IsValidRect a0.fBox).bind fun y10 =>
    some y10)
    (some false)
  ) : Option (Bool)).bind fun y1 =>
 letO y1 fun w7 =>
 some w7
theorem run_impl_validShape (a0 : TShape) (r : Bool) (h : F_impl_validShape a0 = some r) : Fun Try.prog 165 [.agg [.v (.int .i64 a0.fLayer), .v (.int .i64 a0.fBox.fX0), .v (.int .i64 a0.fBox.fY0), .v (.int .i64 a0.fBox.fX1), .v (.int .i64 a0.fBox.fY1)]] [] (.c (.v (.bool r))) [] true := by
 refine Fun.of_wp (oneOf [1]) tok mixed Try.func165 (by kernel_rfl) rfl Try.ntmps165 rfl trivial (fun _ => ⟨trivial, trivial⟩) ?_
 unfold F_impl_validShape at h
 have hf_impl_IsValidRect := @run_impl_IsValidRect
 have hf_impl_within := @run_impl_within
 generalize hLEN : @len = LEN at *
 generalize hGD : @gd = GD at *
 generalize hA : std = A at *
 generalize hP : Try.prog = P at *
 cbv
 replace h := of_bind h
 obtain ⟨y1, hy2, h⟩ := h
 obtain ⟨S5, hS6⟩ : ∃ S, S = (sparse 11 [(2, .c (.v (.bool y1)))] []) := ⟨_, rfl⟩
 refine ⟨S5, ?_, ?_⟩
 ·clear h
  have h := hy2
  clear hy2
  cbv
  replace h := of_bind h
  obtain ⟨y8, hy9, h⟩ := h
  refine ⟨{ args := [.c (.v (.int .i64 a0.fLayer)), .c (.v (.int .i64 0)), .c (.v (.int .i64 7))], o0 := [], r := .c (.v (.bool y8)), o1 := [], fl := true, σ := [], τ := [] }, hf_impl_within _ _ _ _ hy9, ⟨les_cons (lR _) (les_cons (lR _) (les_cons (lR _) (les_nil))), trivial, rfl, rfl, rfl, rfl, trivial, rfl⟩, ?_⟩
  cbv
  refine fork (fun b12 => ?_) (fun b12 => ?_)
  ·replace h := of_br_t b12 h
   cbv
   replace h := of_bind h
   obtain ⟨y10, hy11, h⟩ := h
   refine ⟨{ args := [.agg [.v (.int .i64 a0.fBox.fX0), .v (.int .i64 a0.fBox.fY0), .v (.int .i64 a0.fBox.fX1), .v (.int .i64 a0.fBox.fY1)]], o0 := [], r := .c (.v (.bool y10)), o1 := [], fl := true, σ := [], τ := [] }, hf_impl_IsValidRect _ _ hy11, ⟨les_cons (lR _) (les_nil), trivial, rfl, rfl, rfl, rfl, trivial, rfl⟩, ?_⟩
   cbv
   injection h with h
   subst h
   subst hS6
   show St.le _ _
   exact le_sparse rfl ⟨lR _, trivial⟩ trivial rfl
  ·replace h := of_br_f b12 h
   cbv
   injection h with h
   subst h
   subst hS6
   show St.le _ _
   exact le_sparse rfl ⟨lR _, trivial⟩ trivial rfl
 ·clear hy2
  subst hS6
  replace h := of_let h
  obtain ⟨w7, hw7, h⟩ := h
  have hw7 : w7 = y1 := hw7
  subst hw7
  cbv
  injection h with h
  subst h
  refine ⟨(sparse 11 [(2, .c (.v (.bool w7)))] []), ?_, ?_⟩
  ·exact le_sparse rfl ⟨lR _, trivial⟩ trivial rfl
  ·exact ⟨lR _, trivial, rfl⟩
end Go.Proofs.Ytmdlnjeppemipaa.AM
