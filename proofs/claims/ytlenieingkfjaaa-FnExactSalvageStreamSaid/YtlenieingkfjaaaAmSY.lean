/-
  What the functions that the law reaches compute, and that they do. No condition.
-/
import Derived.Test.YtlenieingkfjaaaAmSX
import Derived.Test.YtlenieingkfjaaaAmE
namespace Go.Proofs.Ytlenieingkfjaaa.AM
open Go Go.Proofs Go.RowKit
set_option linter.unusedVariables false
set_option linter.unusedSimpArgs false
set_option maxRecDepth 100000

/-- laws.eqCell -/
noncomputable def F_laws_eqCell (a0 : TCell) (a1 : TCell) : Option (Bool) :=
 br (std.not (std.seq a0.fName a1.fName))
 (some false)
 ((F_laws_eqShapeS a0.fShapes a1.fShapes).bind fun y1 =>
 br (!(y1))
 (some false)
 ((F_laws_eqLabelS a0.fLabels a1.fLabels).bind fun y3 =>
 br (!(y3))
 (some false)
 ((F_laws_eqInstanceS a0.fInstances a1.fInstances).bind fun y5 =>
 br (!(y5))
 (some false)
 (some true))))
set_option maxHeartbeats 4000000 in
theorem run_laws_eqCell (a0 : TCell) (a1 : TCell) (r : Bool) (h : F_laws_eqCell a0 a1 = some r) : Fun Try.prog 165 [.agg [.v (.string a0.fName), .bs (len a0.fShapes) 5 (row gd (encShape) a0.fShapes), .bs (len a0.fLabels) 4 (row gd (encLabel) a0.fLabels), .bs (len a0.fInstances) 8 (row gd (encInstance) a0.fInstances)], .agg [.v (.string a1.fName), .bs (len a1.fShapes) 5 (row gd (encShape) a1.fShapes), .bs (len a1.fLabels) 4 (row gd (encLabel) a1.fLabels), .bs (len a1.fInstances) 8 (row gd (encInstance) a1.fInstances)]] [] (.c (.v (.bool r))) [] true := by
 refine Fun.of_wp (oneOf []) tok mixed Try.func165 (by kernel_rfl) rfl Try.ntmps165 rfl trivial (fun _ => ⟨trivial, trivial⟩) ?_
 unfold F_laws_eqCell at h
 have hf_laws_eqInstanceS := @run_laws_eqInstanceS
 have hf_laws_eqLabelS := @run_laws_eqLabelS
 have hf_laws_eqShapeS := @run_laws_eqShapeS
 generalize hLEN : @len = LEN at *
 generalize hGD : @gd = GD at *
 generalize hA : std = A at *
 generalize hP : Try.prog = P at *
 cbv
 refine fork (fun b10 => ?_) (fun b10 => ?_)
 ·replace h := of_br_t b10 h
  cbv
  injection h with h
  subst h
  refine ⟨(sparse 28 [(4, .c (.v (.bool false)))] []), ?_, ?_⟩
  ·exact le_sparse rfl ⟨lR _, trivial⟩ trivial rfl
  ·exact ⟨lR _, trivial, rfl⟩
 ·replace h := of_br_f b10 h
  cbv
  replace h := of_bind h
  obtain ⟨y1, hy2, h⟩ := h
  refine ⟨{ args := [.c (.bs (LEN a0.fShapes) 5 (row GD (encShape) a0.fShapes)), .c (.bs (LEN a1.fShapes) 5 (row GD (encShape) a1.fShapes))], o0 := [], r := .c (.v (.bool y1)), o1 := [], fl := true, σ := [], τ := [] }, hf_laws_eqShapeS _ _ _ hy2, ⟨les_cons (lR _) (les_cons (lR _) (les_nil)), trivial, rfl, rfl, rfl, rfl, trivial, rfl⟩, ?_⟩
  cbv
  refine fork (fun b9 => ?_) (fun b9 => ?_)
  ·replace h := of_br_t b9 h
   cbv
   injection h with h
   subst h
   refine ⟨(sparse 28 [(4, .c (.v (.bool false)))] []), ?_, ?_⟩
   ·exact le_sparse rfl ⟨lR _, trivial⟩ trivial rfl
   ·exact ⟨lR _, trivial, rfl⟩
  ·replace h := of_br_f b9 h
   cbv
   replace h := of_bind h
   obtain ⟨y3, hy4, h⟩ := h
   refine ⟨{ args := [.c (.bs (LEN a0.fLabels) 4 (row GD (encLabel) a0.fLabels)), .c (.bs (LEN a1.fLabels) 4 (row GD (encLabel) a1.fLabels))], o0 := [], r := .c (.v (.bool y3)), o1 := [], fl := true, σ := [], τ := [] }, hf_laws_eqLabelS _ _ _ hy4, ⟨les_cons (lR _) (les_cons (lR _) (les_nil)), trivial, rfl, rfl, rfl, rfl, trivial, rfl⟩, ?_⟩
   cbv
   refine fork (fun b8 => ?_) (fun b8 => ?_)
   ·replace h := of_br_t b8 h
    cbv
    injection h with h
    subst h
    refine ⟨(sparse 28 [(4, .c (.v (.bool false)))] []), ?_, ?_⟩
    ·exact le_sparse rfl ⟨lR _, trivial⟩ trivial rfl
    ·exact ⟨lR _, trivial, rfl⟩
   ·replace h := of_br_f b8 h
    cbv
    replace h := of_bind h
    obtain ⟨y5, hy6, h⟩ := h
    refine ⟨{ args := [.c (.bs (LEN a0.fInstances) 8 (row GD (encInstance) a0.fInstances)), .c (.bs (LEN a1.fInstances) 8 (row GD (encInstance) a1.fInstances))], o0 := [], r := .c (.v (.bool y5)), o1 := [], fl := true, σ := [], τ := [] }, hf_laws_eqInstanceS _ _ _ hy6, ⟨les_cons (lR _) (les_cons (lR _) (les_nil)), trivial, rfl, rfl, rfl, rfl, trivial, rfl⟩, ?_⟩
    cbv
    refine fork (fun b7 => ?_) (fun b7 => ?_)
    ·replace h := of_br_t b7 h
     cbv
     injection h with h
     subst h
     refine ⟨(sparse 28 [(4, .c (.v (.bool false)))] []), ?_, ?_⟩
     ·exact le_sparse rfl ⟨lR _, trivial⟩ trivial rfl
     ·exact ⟨lR _, trivial, rfl⟩
    ·replace h := of_br_f b7 h
     cbv
     injection h with h
     subst h
     refine ⟨(sparse 28 [(4, .c (.v (.bool true)))] []), ?_, ?_⟩
     ·exact le_sparse rfl ⟨lR _, trivial⟩ trivial rfl
     ·exact ⟨lR _, trivial, rfl⟩

noncomputable def L_laws_eqCellS_x2 (a0 : List TCell) (a1 : List TCell) : (Int) → Option ((Int) ⊕ ((Unit) ⊕ (Unit))) := fun x2 =>
 letO x2 fun v1 =>
 br (std.lt v1 (std.ofN (len a0)))
 (req (std.inR v1 (len a0)) <|
 req (std.inR v1 (len a1)) <|
 (F_laws_eqCell (gd a0 (std.toN v1)) (gd a1 (std.toN v1))).bind fun y16 =>
 br (!(y16))
 (some (.inr (.inl ())))
 (some (.inl (std.add .i64 v1 1))))
 (some (.inr (.inr ())))
/-- laws.eqCellS -/
noncomputable def F_laws_eqCellS (a0 : List TCell) (a1 : List TCell) : Option (Bool) :=
 br (std.not (std.eq (std.ofN (len a0)) (std.ofN (len a1))))
 (some false)
 ((whileP (σ := Int) (ρ := (Unit) ⊕ (Unit)) (L_laws_eqCellS_x2 a0 a1) 0).bind fun y3 =>
 (match y3 with
  | .inl y3k0 => (
    some false)
  | .inr y3m0 =>
    some true))
set_option maxHeartbeats 4000000 in
theorem run_laws_eqCellS (a0 : List TCell) (a1 : List TCell) (r : Bool) (h : F_laws_eqCellS a0 a1 = some r) : Fun Try.prog 107 [.c (.bs (len a0) 4 (row gd (encCell len gd) a0)), .c (.bs (len a1) 4 (row gd (encCell len gd) a1))] [] (.c (.v (.bool r))) [] true := by
 refine Fun.of_wp (oneOf []) tok mixed Try.func107 (by kernel_rfl) rfl Try.ntmps107 rfl trivial (fun _ => ⟨trivial, trivial⟩) ?_
 unfold F_laws_eqCellS at h
 unfold L_laws_eqCellS_x2 at h
 have hf_laws_eqCell := @run_laws_eqCell
 generalize hLEN : @len = LEN at *
 generalize hGD : @gd = GD at *
 generalize hA : std = A at *
 generalize hP : Try.prog = P at *
 cbv
 refine fork (fun b20 => ?_) (fun b20 => ?_)
 ·replace h := of_br_t b20 h
  cbv
  injection h with h
  subst h
  refine ⟨(sparse 27 [(4, .c (.v (.bool false)))] []), ?_, ?_⟩
  ·exact le_sparse rfl ⟨lR _, trivial⟩ trivial rfl
  ·exact ⟨lR _, trivial, rfl⟩
 ·replace h := of_br_f b20 h
  cbv
  replace h := of_bind h
  obtain ⟨y3, hr4, hN5⟩ := h
  refine loop_cut hr4 (fun x => (sparse 27 [(0, .c (.bs (LEN a0) 4 (row GD (encCell LEN GD) a0))), (1, .c (.bs (LEN a1) 4 (row GD (encCell LEN GD) a1))), (5, .c (.v (.int .i64 x)))] [])) ?_ (fun y e s => (match y with | .inl w => e = .ret ∧ s.le (sparse 27 [(4, .c (.v (.bool false)))] []) | .inr w0 => (fun (w : Unit) => e = .exit 0 ∧ s.le (sparse 27 [] [])) w0)) ?_ ?_
  ·clear hr4 hN5
   show St.le _ _
   exact le_sparse rfl ⟨lR _, lR _, lR _, trivial⟩ trivial rfl
  ·clear hr4 hN5
   intro x z9 h K7 hK8 hY6
   replace h := of_let h
   obtain ⟨v1, hv1, h⟩ := h
   have hv1 : v1 = x := hv1
   subst hv1
   cbv
   refine fork (fun b19 => ?_) (fun b19 => ?_)
   ·replace h := of_br_t b19 h
    cbv
    replace h := of_req h
    obtain ⟨c14, h⟩ := h
    refine ⟨⟨c14, trivial⟩, ?_⟩
    replace h := of_req h
    obtain ⟨c15, h⟩ := h
    refine ⟨⟨c15, trivial⟩, ?_⟩
    replace h := of_bind h
    obtain ⟨y16, hy17, h⟩ := h
    refine ⟨{ args := [.agg [.v (.string (GD a0 (A.toN v1)).fName), .bs (LEN (GD a0 (A.toN v1)).fShapes) 5 (row GD (encShape) (GD a0 (A.toN v1)).fShapes), .bs (LEN (GD a0 (A.toN v1)).fLabels) 4 (row GD (encLabel) (GD a0 (A.toN v1)).fLabels), .bs (LEN (GD a0 (A.toN v1)).fInstances) 8 (row GD (encInstance) (GD a0 (A.toN v1)).fInstances)], .agg [.v (.string (GD a1 (A.toN v1)).fName), .bs (LEN (GD a1 (A.toN v1)).fShapes) 5 (row GD (encShape) (GD a1 (A.toN v1)).fShapes), .bs (LEN (GD a1 (A.toN v1)).fLabels) 4 (row GD (encLabel) (GD a1 (A.toN v1)).fLabels), .bs (LEN (GD a1 (A.toN v1)).fInstances) 8 (row GD (encInstance) (GD a1 (A.toN v1)).fInstances)]], o0 := [], r := .c (.v (.bool y16)), o1 := [], fl := true, σ := [], τ := [] }, hf_laws_eqCell _ _ _ hy17, ⟨les_cons (lR _) (les_cons (lR _) (les_nil)), trivial, rfl, rfl, rfl, rfl, trivial, rfl⟩, ?_⟩
    cbv
    refine fork (fun b18 => ?_) (fun b18 => ?_)
    ·replace h := of_br_t b18 h
     cbv
     injection h with h
     refine hY6 _ h.symm _ _ (And.intro rfl ?_) (by intro hh; cases hh)
     exact le_sparse rfl ⟨lR _, trivial⟩ trivial rfl
    ·replace h := of_br_f b18 h
     cbv
     injection h with h
     refine hK8 _ h.symm _ ?_
     exact le_sparse rfl ⟨lR _, lR _, lR _, trivial⟩ trivial rfl
   ·replace h := of_br_f b19 h
    cbv
    injection h with h
    refine hY6 _ h.symm _ _ (And.intro rfl ?_) (by intro hh; cases hh)
    exact le_sparse rfl trivial trivial rfl
  ·clear hr4
   have h := hN5
   clear hN5
   intro e12 s13 q11 hne
   rcases y3 with y3k0 | y3m0
   ·replace h := h
    obtain ⟨rfl, q11⟩ := q11
    cbv
    injection h with h
    subst h
    refine ⟨(sparse 27 [(4, .c (.v (.bool false)))] []), ?_, ?_⟩
    ·refine St.le_trans q11 ?_
     exact le_sparse rfl ⟨lR _, trivial⟩ trivial rfl
    ·exact ⟨lR _, trivial, rfl⟩
   ·obtain ⟨rfl, q11⟩ := q11
    cbv
    refine ⟨_, q11, ?_⟩
    cbv
    injection h with h
    subst h
    refine ⟨(sparse 27 [(4, .c (.v (.bool true)))] []), ?_, ?_⟩
    ·exact le_sparse rfl ⟨lR _, trivial⟩ trivial rfl
    ·exact ⟨lR _, trivial, rfl⟩

/-- laws.eqLibrary -/
noncomputable def F_laws_eqLibrary (a0 : TLibrary) (a1 : TLibrary) : Option (Bool) :=
 (F_laws_eqCellS a0.fCells a1.fCells).bind fun y1 =>
 br (!(y1))
 (some false)
 (some true)
set_option maxHeartbeats 4000000 in
theorem run_laws_eqLibrary (a0 : TLibrary) (a1 : TLibrary) (r : Bool) (h : F_laws_eqLibrary a0 a1 = some r) : Fun Try.prog 47 [.agg [.bs (len a0.fCells) 4 (row gd (encCell len gd) a0.fCells)], .agg [.bs (len a1.fCells) 4 (row gd (encCell len gd) a1.fCells)]] [] (.c (.v (.bool r))) [] true := by
 refine Fun.of_wp (oneOf []) tok mixed Try.func47 (by kernel_rfl) rfl Try.ntmps47 rfl trivial (fun _ => ⟨trivial, trivial⟩) ?_
 unfold F_laws_eqLibrary at h
 have hf_laws_eqCellS := @run_laws_eqCellS
 generalize hLEN : @len = LEN at *
 generalize hGD : @gd = GD at *
 generalize hA : std = A at *
 generalize hP : Try.prog = P at *
 cbv
 replace h := of_bind h
 obtain ⟨y1, hy2, h⟩ := h
 refine ⟨{ args := [.c (.bs (LEN a0.fCells) 4 (row GD (encCell LEN GD) a0.fCells)), .c (.bs (LEN a1.fCells) 4 (row GD (encCell LEN GD) a1.fCells))], o0 := [], r := .c (.v (.bool y1)), o1 := [], fl := true, σ := [], τ := [] }, hf_laws_eqCellS _ _ _ hy2, ⟨les_cons (lR _) (les_cons (lR _) (les_nil)), trivial, rfl, rfl, rfl, rfl, trivial, rfl⟩, ?_⟩
 cbv
 refine fork (fun b3 => ?_) (fun b3 => ?_)
 ·replace h := of_br_t b3 h
  cbv
  injection h with h
  subst h
  refine ⟨(sparse 11 [(4, .c (.v (.bool false)))] []), ?_, ?_⟩
  ·exact le_sparse rfl ⟨lR _, trivial⟩ trivial rfl
  ·exact ⟨lR _, trivial, rfl⟩
 ·replace h := of_br_f b3 h
  cbv
  injection h with h
  subst h
  refine ⟨(sparse 11 [(4, .c (.v (.bool true)))] []), ?_, ?_⟩
  ·exact le_sparse rfl ⟨lR _, trivial⟩ trivial rfl
  ·exact ⟨lR _, trivial, rfl⟩

noncomputable def L_laws_markText_x3  : (Int × ByteArray) → Option ((Int × ByteArray) ⊕ ((ByteArray))) := fun x3 =>
 letO x3.1 fun v1 =>
 letO x3.2 fun v2 =>
 br (std.lt 0 v1)
 (req (std.nz 10) <|
 letO ([std.conv .u8 (std.add .i64 48 (std.rem v1 10))] : List Int) fun l16 =>
 req (std.room (std.nadd (std.slen (std.ofBytes (len l16) (fun i => gd l16 (0 + i)))) (std.slen v2)) 1) <|
 req (std.nz 10) <|
 some (.inl (std.quo .i64 v1 10, std.scat (std.ofBytes (len l16) (fun i => gd l16 (0 + i))) v2)))
 (some (.inr v2))
/-- laws.markText -/
noncomputable def F_laws_markText (a0 : Int) : Option (ByteArray) :=
 br (std.le a0 0)
 (some (ByteArray.mk #[109, 48]))
 ((whileP (σ := Int × ByteArray) (ρ := (ByteArray)) L_laws_markText_x3 (a0, (ByteArray.mk #[]))).bind fun y4 =>
 letO y4 fun y4k0 =>
 letO y4k0 fun w21 =>
 req (std.room (std.nadd (std.slen (ByteArray.mk #[109])) (std.slen w21)) 1) <|
 some (std.scat (ByteArray.mk #[109]) w21))
set_option maxHeartbeats 4000000 in
theorem run_laws_markText (a0 : Int) (r : ByteArray) (h : F_laws_markText a0 = some r) : Fun Try.prog 166 [.c (.v (.int .i64 a0))] [] (.c (.v (.string r))) [] true := by
 refine Fun.of_wp (oneOf []) tok mixed Try.func166 (by kernel_rfl) rfl Try.ntmps166 rfl trivial (fun _ => ⟨trivial, trivial⟩) ?_
 unfold F_laws_markText at h
 unfold L_laws_markText_x3 at h
 generalize hLEN : @len = LEN at *
 generalize hGD : @gd = GD at *
 generalize hA : std = A at *
 generalize hP : Try.prog = P at *
 cbv
 refine fork (fun b23 => ?_) (fun b23 => ?_)
 ·replace h := of_br_t b23 h
  cbv
  injection h with h
  subst h
  refine ⟨(sparse 20 [(2, .c (.v (.string (ByteArray.mk #[109, 48]))))] []), ?_, ?_⟩
  ·exact le_sparse rfl ⟨lR _, trivial⟩ trivial rfl
  ·exact ⟨lR _, trivial, rfl⟩
 ·replace h := of_br_f b23 h
  cbv
  replace h := of_bind h
  obtain ⟨y4, hr5, hN6⟩ := h
  refine loop_cut hr5 (fun x => (sparse 20 [(0, .c (.v (.int .i64 x.1))), (3, .c (.v (.string x.2)))] [])) ?_ (fun y e s => (fun (w : ByteArray) => e = .exit 0 ∧ s.le (sparse 20 [(3, .c (.v (.string w)))] [])) y) ?_ ?_
  ·clear hr5 hN6
   show St.le _ _
   exact le_sparse rfl ⟨lR _, lR _, trivial⟩ trivial rfl
  ·clear hr5 hN6
   intro x z10 h K8 hK9 hY7
   obtain ⟨x0_, x1_⟩ := x
   replace h := of_let h
   obtain ⟨v1, hv1, h⟩ := h
   have hv1 : v1 = x0_ := hv1
   subst hv1
   replace h := of_let h
   obtain ⟨v2, hv2, h⟩ := h
   have hv2 : v2 = x1_ := hv2
   subst hv2
   cbv
   refine fork (fun b20 => ?_) (fun b20 => ?_)
   ·replace h := of_br_t b20 h
    cbv
    replace h := of_req h
    obtain ⟨c15, h⟩ := h
    refine ⟨c15, ?_⟩
    replace h := of_let h
    obtain ⟨l16, hl16, h⟩ := h
    have e17 : 1 = LEN l16 := by subst hl16 hLEN; rfl
    refine ⟨_, congrArg (fun n => AV.c (AC.os 768 0 n)) e17, _, row GD (encI .u8) l16, e17, wkOf ?_, ?_⟩
    ·intro i hi j hj
     rw [← e17] at hi
     subst hl16
     subst hGD
     obtain rfl : i = 0 := (by omega)
     all_goals obtain rfl : j = 0 := by omega
     all_goals rfl
    cbv
    refine ⟨fun _ _ => rfl, ?_⟩
    replace h := of_req h
    obtain ⟨c18, h⟩ := h
    refine ⟨c18, ?_⟩
    replace h := of_req h
    obtain ⟨c19, h⟩ := h
    refine ⟨c19, ?_⟩
    injection h with h
    refine hK9 _ h.symm _ ?_
    exact le_sparse rfl ⟨lR _, lR _, trivial⟩ trivial rfl
   ·replace h := of_br_f b20 h
    cbv
    injection h with h
    refine hY7 _ h.symm _ _ (And.intro rfl ?_) (by intro hh; cases hh)
    exact le_sparse rfl ⟨lR _, trivial⟩ trivial rfl
  ·clear hr5
   have h := hN6
   clear hN6
   intro e13 s14 q12 hne
   replace h := of_let h
   obtain ⟨y4k0, hyk, h⟩ := h
   have hyk : y4k0 = y4 := hyk
   subst hyk
   obtain ⟨rfl, q12⟩ := q12
   replace h := of_let h
   obtain ⟨w21, hw21, h⟩ := h
   have hw21 : w21 = y4k0 := hw21
   subst hw21
   cbv
   refine ⟨_, q12, ?_⟩
   cbv
   replace h := of_req h
   obtain ⟨c22, h⟩ := h
   refine ⟨c22, ?_⟩
   injection h with h
   subst h
   refine ⟨(sparse 20 [(2, .c (.v (.string (A.scat (ByteArray.mk #[109]) w21))))] []), ?_, ?_⟩
   ·exact le_sparse rfl ⟨lR _, trivial⟩ trivial rfl
   ·exact ⟨lR _, trivial, rfl⟩

noncomputable def L_laws_markShapeS_mob_x4 (a0 : List TShape) : (Int × Int × (List TShape)) → Option ((Int × Int × (List TShape)) ⊕ ((Int × (List TShape)))) := fun x4 =>
 letO x4.1 fun v1 =>
 letO x4.2.1 fun v2 =>
 letO x4.2.2 fun v3 =>
 br (std.lt v2 (std.ofN (len a0)))
 (req (std.inR v2 (len a0)) <|
 req (len a0 = len v3) <|
 letO (List.set v3 (std.nadd 0 (std.toN v2)) (TShape.mk v1 (gd v3 (std.nadd 0 (std.toN v2))).fBox)) fun l17 =>
 req (std.inR v2 (len a0)) <|
 req (len a0 = len l17) <|
 letO (List.set l17 (std.nadd 0 (std.toN v2)) (TShape.mk (gd l17 (std.nadd 0 (std.toN v2))).fLayer (TRect.mk (std.add .i64 v1 1) (gd l17 (std.nadd 0 (std.toN v2))).fBox.fY0 (gd l17 (std.nadd 0 (std.toN v2))).fBox.fX1 (gd l17 (std.nadd 0 (std.toN v2))).fBox.fY1))) fun l19 =>
 req (std.inR v2 (len a0)) <|
 req (len a0 = len l19) <|
 letO (List.set l19 (std.nadd 0 (std.toN v2)) (TShape.mk (gd l19 (std.nadd 0 (std.toN v2))).fLayer (TRect.mk (gd l19 (std.nadd 0 (std.toN v2))).fBox.fX0 (std.add .i64 (std.add .i64 v1 1) 1) (gd l19 (std.nadd 0 (std.toN v2))).fBox.fX1 (gd l19 (std.nadd 0 (std.toN v2))).fBox.fY1))) fun l21 =>
 req (std.inR v2 (len a0)) <|
 req (len a0 = len l21) <|
 letO (List.set l21 (std.nadd 0 (std.toN v2)) (TShape.mk (gd l21 (std.nadd 0 (std.toN v2))).fLayer (TRect.mk (gd l21 (std.nadd 0 (std.toN v2))).fBox.fX0 (gd l21 (std.nadd 0 (std.toN v2))).fBox.fY0 (std.add .i64 (std.add .i64 (std.add .i64 v1 1) 1) 1) (gd l21 (std.nadd 0 (std.toN v2))).fBox.fY1))) fun l23 =>
 req (std.inR v2 (len a0)) <|
 req (len a0 = len l23) <|
 letO (List.set l23 (std.nadd 0 (std.toN v2)) (TShape.mk (gd l23 (std.nadd 0 (std.toN v2))).fLayer (TRect.mk (gd l23 (std.nadd 0 (std.toN v2))).fBox.fX0 (gd l23 (std.nadd 0 (std.toN v2))).fBox.fY0 (gd l23 (std.nadd 0 (std.toN v2))).fBox.fX1 (std.add .i64 (std.add .i64 (std.add .i64 (std.add .i64 v1 1) 1) 1) 1)))) fun l25 =>
 some (.inl (std.add .i64 (std.add .i64 (std.add .i64 (std.add .i64 (std.add .i64 v1 1) 1) 1) 1) 1, std.add .i64 v2 1, l25)))
 (some (.inr (v1, v3)))
/-- laws.markShapeS -/
noncomputable def F_laws_markShapeS_mob (a0 : List TShape) (a1 : Int) : Option (Int × (List TShape)) :=
 (whileP (σ := Int × Int × (List TShape)) (ρ := (Int × (List TShape))) (L_laws_markShapeS_mob_x4 a0) (a1, 0, a0)).bind fun y5 =>
 letO y5 fun y5k0 =>
 letO y5k0.1 fun w32 =>
 letO y5k0.2 fun w33 =>
 req (len a0 = len w33) <|
 some (w32, w33)
set_option maxHeartbeats 4000000 in
theorem run_laws_markShapeS_mob (a0 : List TShape) (a1 : Int) (r : Int × (List TShape)) (h : F_laws_markShapeS_mob a0 a1 = some r) : Fun Try.prog 167 [.c (.os 5 0 (len a0)), .c (.v (.int .i64 a1))] [(5, .arr .rw [] (len a0) 5 (row gd (encShape) a0))] (.c (.v (.int .i64 r.1))) [(5, .arr .rw [] (len r.2) 5 (row gd (encShape) r.2))] true := by
 refine Fun.of_wp (oneOf []) tok mixed Try.func167 (by kernel_rfl) rfl Try.ntmps167 rfl ⟨fun i _ j _ k hk => (noref (plain_nil (pl_encShape _ _)) hk).elim, trivial⟩ (fun _ => ⟨trivial, ⟨fun i _ j _ => val_flat (vl_encShape _ _), trivial⟩⟩) ?_
 unfold F_laws_markShapeS_mob at h
 unfold L_laws_markShapeS_mob_x4 at h
 generalize hLEN : @len = LEN at *
 generalize hGD : @gd = GD at *
 generalize hA : std = A at *
 generalize hP : Try.prog = P at *
 cbv
 replace h := of_bind h
 obtain ⟨y5, hr6, hN7⟩ := h
 refine loop_cut hr6 (fun x => (sparse 52 [(0, .c (.os 5 0 (LEN a0))), (1, .c (.v (.int .i64 x.1))), (5, .c (.v (.int .i64 x.2.1)))] [(5, .arr .rw [] (LEN a0) 5 (row GD (encShape) x.2.2))])) ?_ (fun y e s => (fun (w : Int × (List TShape)) => e = .exit 0 ∧ s.le (sparse 52 [(1, .c (.v (.int .i64 w.1)))] [(5, .arr .rw [] (LEN a0) 5 (row GD (encShape) w.2))])) y) ?_ ?_
 ·clear hr6 hN7
  show St.le _ _
  exact le_sparse rfl ⟨lR _, lR _, lR _, trivial⟩ ⟨oS, trivial⟩ rfl
 ·clear hr6 hN7
  intro x z11 h K9 hK10 hY8
  obtain ⟨x0_, x1_, x2_⟩ := x
  replace h := of_let h
  obtain ⟨v1, hv1, h⟩ := h
  have hv1 : v1 = x0_ := hv1
  subst hv1
  replace h := of_let h
  obtain ⟨v2, hv2, h⟩ := h
  have hv2 : v2 = x1_ := hv2
  subst hv2
  replace h := of_let h
  obtain ⟨v3, hv3, h⟩ := h
  have hv3 : v3 = x2_ := hv3
  subst hv3
  cbv
  refine fork (fun b31 => ?_) (fun b31 => ?_)
  ·replace h := of_br_t b31 h
   cbv
   replace h := of_req h
   obtain ⟨c16, h⟩ := h
   refine ⟨⟨c16, trivial⟩, ?_⟩
   replace h := of_req h
   obtain ⟨c30, h⟩ := h
   replace h := of_let h
   obtain ⟨l17, hl17, h⟩ := h
   refine And.intro (by first | exact (by subst hA; exact idx_lt c16) | (refine And.intro (by subst hA; exact idx_lt c16) ?_; first | trivial | exact ⟨trivial, trivial⟩)) ?_
   refine ⟨_, rfl, _, row GD (encShape) l17, rfl, wkOf ?_, ?_⟩
   ·subst hGD hLEN hA
    rw [c30] at c16
    refine upd_set hl17 (idx_lt c16) ?_ ?_
    ·intro b hb hh
     match b, hb, hh with | 0, _, hh => exact rfl | 1, _, hh => exact (absurd hh (show ¬ (0 ≤ 1 ∧ 1 < 0 + 1) from by decide)) | 2, _, hh => exact (absurd hh (show ¬ (0 ≤ 2 ∧ 2 < 0 + 1) from by decide)) | 3, _, hh => exact (absurd hh (show ¬ (0 ≤ 3 ∧ 3 < 0 + 1) from by decide)) | 4, _, hh => exact (absurd hh (show ¬ (0 ≤ 4 ∧ 4 < 0 + 1) from by decide)) | (b_ + 5), h_, _ => exact absurd h_ (by omega)
    ·intro b hb hh
     match b, hb, hh with | 0, _, hh => exact (absurd (show 0 ≤ 0 ∧ 0 < 0 + 1 from by decide) hh) | 1, _, hh => exact rfl | 2, _, hh => exact rfl | 3, _, hh => exact rfl | 4, _, hh => exact rfl | (b_ + 5), h_, _ => exact absurd h_ (by omega)
   cbv
   replace h := of_req h
   obtain ⟨c18, h⟩ := h
   refine ⟨⟨c18, trivial⟩, ?_⟩
   replace h := of_req h
   obtain ⟨c29, h⟩ := h
   replace h := of_let h
   obtain ⟨l19, hl19, h⟩ := h
   refine And.intro (by first | exact (by subst hA; exact idx_lt c18) | (refine And.intro (by subst hA; exact idx_lt c18) ?_; first | trivial | exact ⟨trivial, trivial⟩)) ?_
   refine ⟨_, rfl, _, row GD (encShape) l19, rfl, wkOf ?_, ?_⟩
   ·subst hGD hLEN hA
    rw [c29] at c18
    refine upd_set hl19 (idx_lt c18) ?_ ?_
    ·intro b hb hh
     match b, hb, hh with | 0, _, hh => exact (absurd hh (show ¬ (1 ≤ 0 ∧ 0 < 1 + 1) from by decide)) | 1, _, hh => exact rfl | 2, _, hh => exact (absurd hh (show ¬ (1 ≤ 2 ∧ 2 < 1 + 1) from by decide)) | 3, _, hh => exact (absurd hh (show ¬ (1 ≤ 3 ∧ 3 < 1 + 1) from by decide)) | 4, _, hh => exact (absurd hh (show ¬ (1 ≤ 4 ∧ 4 < 1 + 1) from by decide)) | (b_ + 5), h_, _ => exact absurd h_ (by omega)
    ·intro b hb hh
     match b, hb, hh with | 0, _, hh => exact rfl | 1, _, hh => exact (absurd (show 1 ≤ 1 ∧ 1 < 1 + 1 from by decide) hh) | 2, _, hh => exact rfl | 3, _, hh => exact rfl | 4, _, hh => exact rfl | (b_ + 5), h_, _ => exact absurd h_ (by omega)
   cbv
   replace h := of_req h
   obtain ⟨c20, h⟩ := h
   refine ⟨⟨c20, trivial⟩, ?_⟩
   replace h := of_req h
   obtain ⟨c28, h⟩ := h
   replace h := of_let h
   obtain ⟨l21, hl21, h⟩ := h
   refine And.intro (by first | exact (by subst hA; exact idx_lt c20) | (refine And.intro (by subst hA; exact idx_lt c20) ?_; first | trivial | exact ⟨trivial, trivial⟩)) ?_
   refine ⟨_, rfl, _, row GD (encShape) l21, rfl, wkOf ?_, ?_⟩
   ·subst hGD hLEN hA
    rw [c28] at c20
    refine upd_set hl21 (idx_lt c20) ?_ ?_
    ·intro b hb hh
     match b, hb, hh with | 0, _, hh => exact (absurd hh (show ¬ (2 ≤ 0 ∧ 0 < 2 + 1) from by decide)) | 1, _, hh => exact (absurd hh (show ¬ (2 ≤ 1 ∧ 1 < 2 + 1) from by decide)) | 2, _, hh => exact rfl | 3, _, hh => exact (absurd hh (show ¬ (2 ≤ 3 ∧ 3 < 2 + 1) from by decide)) | 4, _, hh => exact (absurd hh (show ¬ (2 ≤ 4 ∧ 4 < 2 + 1) from by decide)) | (b_ + 5), h_, _ => exact absurd h_ (by omega)
    ·intro b hb hh
     match b, hb, hh with | 0, _, hh => exact rfl | 1, _, hh => exact rfl | 2, _, hh => exact (absurd (show 2 ≤ 2 ∧ 2 < 2 + 1 from by decide) hh) | 3, _, hh => exact rfl | 4, _, hh => exact rfl | (b_ + 5), h_, _ => exact absurd h_ (by omega)
   cbv
   replace h := of_req h
   obtain ⟨c22, h⟩ := h
   refine ⟨⟨c22, trivial⟩, ?_⟩
   replace h := of_req h
   obtain ⟨c27, h⟩ := h
   replace h := of_let h
   obtain ⟨l23, hl23, h⟩ := h
   refine And.intro (by first | exact (by subst hA; exact idx_lt c22) | (refine And.intro (by subst hA; exact idx_lt c22) ?_; first | trivial | exact ⟨trivial, trivial⟩)) ?_
   refine ⟨_, rfl, _, row GD (encShape) l23, rfl, wkOf ?_, ?_⟩
   ·subst hGD hLEN hA
    rw [c27] at c22
    refine upd_set hl23 (idx_lt c22) ?_ ?_
    ·intro b hb hh
     match b, hb, hh with | 0, _, hh => exact (absurd hh (show ¬ (3 ≤ 0 ∧ 0 < 3 + 1) from by decide)) | 1, _, hh => exact (absurd hh (show ¬ (3 ≤ 1 ∧ 1 < 3 + 1) from by decide)) | 2, _, hh => exact (absurd hh (show ¬ (3 ≤ 2 ∧ 2 < 3 + 1) from by decide)) | 3, _, hh => exact rfl | 4, _, hh => exact (absurd hh (show ¬ (3 ≤ 4 ∧ 4 < 3 + 1) from by decide)) | (b_ + 5), h_, _ => exact absurd h_ (by omega)
    ·intro b hb hh
     match b, hb, hh with | 0, _, hh => exact rfl | 1, _, hh => exact rfl | 2, _, hh => exact rfl | 3, _, hh => exact (absurd (show 3 ≤ 3 ∧ 3 < 3 + 1 from by decide) hh) | 4, _, hh => exact rfl | (b_ + 5), h_, _ => exact absurd h_ (by omega)
   cbv
   replace h := of_req h
   obtain ⟨c24, h⟩ := h
   refine ⟨⟨c24, trivial⟩, ?_⟩
   replace h := of_req h
   obtain ⟨c26, h⟩ := h
   replace h := of_let h
   obtain ⟨l25, hl25, h⟩ := h
   refine And.intro (by first | exact (by subst hA; exact idx_lt c24) | (refine And.intro (by subst hA; exact idx_lt c24) ?_; first | trivial | exact ⟨trivial, trivial⟩)) ?_
   refine ⟨_, rfl, _, row GD (encShape) l25, rfl, wkOf ?_, ?_⟩
   ·subst hGD hLEN hA
    rw [c26] at c24
    refine upd_set hl25 (idx_lt c24) ?_ ?_
    ·intro b hb hh
     match b, hb, hh with | 0, _, hh => exact (absurd hh (show ¬ (4 ≤ 0 ∧ 0 < 4 + 1) from by decide)) | 1, _, hh => exact (absurd hh (show ¬ (4 ≤ 1 ∧ 1 < 4 + 1) from by decide)) | 2, _, hh => exact (absurd hh (show ¬ (4 ≤ 2 ∧ 2 < 4 + 1) from by decide)) | 3, _, hh => exact (absurd hh (show ¬ (4 ≤ 3 ∧ 3 < 4 + 1) from by decide)) | 4, _, hh => exact rfl | (b_ + 5), h_, _ => exact absurd h_ (by omega)
    ·intro b hb hh
     match b, hb, hh with | 0, _, hh => exact rfl | 1, _, hh => exact rfl | 2, _, hh => exact rfl | 3, _, hh => exact rfl | 4, _, hh => exact (absurd (show 4 ≤ 4 ∧ 4 < 4 + 1 from by decide) hh) | (b_ + 5), h_, _ => exact absurd h_ (by omega)
   cbv
   injection h with h
   refine hK10 _ h.symm _ ?_
   exact le_sparse rfl ⟨lR _, lR _, lR _, trivial⟩ ⟨oS, trivial⟩ rfl
  ·replace h := of_br_f b31 h
   cbv
   injection h with h
   refine hY8 _ h.symm _ _ (And.intro rfl ?_) (by intro hh; cases hh)
   exact le_sparse rfl ⟨lR _, trivial⟩ ⟨oS, trivial⟩ rfl
 ·clear hr6
  have h := hN7
  clear hN7
  intro e14 s15 q13 hne
  replace h := of_let h
  obtain ⟨y5k0, hyk, h⟩ := h
  have hyk : y5k0 = y5 := hyk
  subst hyk
  obtain ⟨rfl, q13⟩ := q13
  obtain ⟨y5k0_0, y5k0_1⟩ := y5k0
  replace h := of_let h
  obtain ⟨w32, hw32, h⟩ := h
  have hw32 : w32 = y5k0_0 := hw32
  subst hw32
  replace h := of_let h
  obtain ⟨w33, hw33, h⟩ := h
  have hw33 : w33 = y5k0_1 := hw33
  subst hw33
  cbv
  refine ⟨_, q13, ?_⟩
  cbv
  replace h := of_req h
  obtain ⟨c34, h⟩ := h
  injection h with h
  subst h
  refine ⟨(sparse 52 [(4, .c (.v (.int .i64 w32)))] [(5, .arr .rw [] (LEN w33) 5 (row GD (encShape) w33))]), ?_, ?_⟩
  ·rw [c34]
   exact le_sparse rfl ⟨lR _, trivial⟩ ⟨oS, trivial⟩ rfl
  ·exact ⟨lR _, ⟨oS, trivial⟩, rfl⟩

noncomputable def L_laws_markLabelS_mob_x4 (a0 : List TLabel) : (Int × Int × (List TLabel)) → Option ((Int × Int × (List TLabel)) ⊕ ((Int × (List TLabel)))) := fun x4 =>
 letO x4.1 fun v1 =>
 letO x4.2.1 fun v2 =>
 letO x4.2.2 fun v3 =>
 br (std.lt v2 (std.ofN (len a0)))
 (req (std.inR v2 (len a0)) <|
 req (len a0 = len v3) <|
 letO (List.set v3 (std.nadd 0 (std.toN v2)) (TLabel.mk v1 (gd v3 (std.nadd 0 (std.toN v2))).fAt (gd v3 (std.nadd 0 (std.toN v2))).fName)) fun l17 =>
 req (std.inR v2 (len a0)) <|
 req (len a0 = len l17) <|
 letO (List.set l17 (std.nadd 0 (std.toN v2)) (TLabel.mk (gd l17 (std.nadd 0 (std.toN v2))).fLayer (TPoint.mk (std.add .i64 v1 1) (gd l17 (std.nadd 0 (std.toN v2))).fAt.fY) (gd l17 (std.nadd 0 (std.toN v2))).fName)) fun l19 =>
 req (std.inR v2 (len a0)) <|
 req (len a0 = len l19) <|
 letO (List.set l19 (std.nadd 0 (std.toN v2)) (TLabel.mk (gd l19 (std.nadd 0 (std.toN v2))).fLayer (TPoint.mk (gd l19 (std.nadd 0 (std.toN v2))).fAt.fX (std.add .i64 (std.add .i64 v1 1) 1)) (gd l19 (std.nadd 0 (std.toN v2))).fName)) fun l21 =>
 (F_laws_markText (std.add .i64 (std.add .i64 (std.add .i64 v1 1) 1) 1)).bind fun y22 =>
 req (std.inR v2 (len a0)) <|
 req (len a0 = len l21) <|
 letO (List.set l21 (std.nadd 0 (std.toN v2)) (TLabel.mk (gd l21 (std.nadd 0 (std.toN v2))).fLayer (gd l21 (std.nadd 0 (std.toN v2))).fAt y22)) fun l25 =>
 some (.inl (std.add .i64 (std.add .i64 (std.add .i64 (std.add .i64 v1 1) 1) 1) 1, std.add .i64 v2 1, l25)))
 (some (.inr (v1, v3)))
/-- laws.markLabelS -/
noncomputable def F_laws_markLabelS_mob (a0 : List TLabel) (a1 : Int) : Option (Int × (List TLabel)) :=
 (whileP (σ := Int × Int × (List TLabel)) (ρ := (Int × (List TLabel))) (L_laws_markLabelS_mob_x4 a0) (a1, 0, a0)).bind fun y5 =>
 letO y5 fun y5k0 =>
 letO y5k0.1 fun w31 =>
 letO y5k0.2 fun w32 =>
 req (len a0 = len w32) <|
 some (w31, w32)
set_option maxHeartbeats 4000000 in
theorem run_laws_markLabelS_mob (a0 : List TLabel) (a1 : Int) (r : Int × (List TLabel)) (h : F_laws_markLabelS_mob a0 a1 = some r) : Fun Try.prog 168 [.c (.os 5 0 (len a0)), .c (.v (.int .i64 a1))] [(5, .arr .rw [] (len a0) 4 (row gd (encLabel) a0))] (.c (.v (.int .i64 r.1))) [(5, .arr .rw [] (len r.2) 4 (row gd (encLabel) r.2))] true := by
 refine Fun.of_wp (oneOf []) tok mixed Try.func168 (by kernel_rfl) rfl Try.ntmps168 rfl ⟨fun i _ j _ k hk => (noref (plain_nil (pl_encLabel _ _)) hk).elim, trivial⟩ (fun _ => ⟨trivial, ⟨fun i _ j _ => val_flat (vl_encLabel _ _), trivial⟩⟩) ?_
 unfold F_laws_markLabelS_mob at h
 unfold L_laws_markLabelS_mob_x4 at h
 have hf_laws_markText := @run_laws_markText
 generalize hLEN : @len = LEN at *
 generalize hGD : @gd = GD at *
 generalize hA : std = A at *
 generalize hP : Try.prog = P at *
 cbv
 replace h := of_bind h
 obtain ⟨y5, hr6, hN7⟩ := h
 refine loop_cut hr6 (fun x => (sparse 44 [(0, .c (.os 5 0 (LEN a0))), (1, .c (.v (.int .i64 x.1))), (5, .c (.v (.int .i64 x.2.1)))] [(5, .arr .rw [] (LEN a0) 4 (row GD (encLabel) x.2.2))])) ?_ (fun y e s => (fun (w : Int × (List TLabel)) => e = .exit 0 ∧ s.le (sparse 44 [(1, .c (.v (.int .i64 w.1)))] [(5, .arr .rw [] (LEN a0) 4 (row GD (encLabel) w.2))])) y) ?_ ?_
 ·clear hr6 hN7
  show St.le _ _
  exact le_sparse rfl ⟨lR _, lR _, lR _, trivial⟩ ⟨oS, trivial⟩ rfl
 ·clear hr6 hN7
  intro x z11 h K9 hK10 hY8
  obtain ⟨x0_, x1_, x2_⟩ := x
  replace h := of_let h
  obtain ⟨v1, hv1, h⟩ := h
  have hv1 : v1 = x0_ := hv1
  subst hv1
  replace h := of_let h
  obtain ⟨v2, hv2, h⟩ := h
  have hv2 : v2 = x1_ := hv2
  subst hv2
  replace h := of_let h
  obtain ⟨v3, hv3, h⟩ := h
  have hv3 : v3 = x2_ := hv3
  subst hv3
  cbv
  refine fork (fun b30 => ?_) (fun b30 => ?_)
  ·replace h := of_br_t b30 h
   cbv
   replace h := of_req h
   obtain ⟨c16, h⟩ := h
   refine ⟨⟨c16, trivial⟩, ?_⟩
   replace h := of_req h
   obtain ⟨c29, h⟩ := h
   replace h := of_let h
   obtain ⟨l17, hl17, h⟩ := h
   refine And.intro (by first | exact (by subst hA; exact idx_lt c16) | (refine And.intro (by subst hA; exact idx_lt c16) ?_; first | trivial | exact ⟨trivial, trivial⟩)) ?_
   refine ⟨_, rfl, _, row GD (encLabel) l17, rfl, wkOf ?_, ?_⟩
   ·subst hGD hLEN hA
    rw [c29] at c16
    refine upd_set hl17 (idx_lt c16) ?_ ?_
    ·intro b hb hh
     match b, hb, hh with | 0, _, hh => exact rfl | 1, _, hh => exact (absurd hh (show ¬ (0 ≤ 1 ∧ 1 < 0 + 1) from by decide)) | 2, _, hh => exact (absurd hh (show ¬ (0 ≤ 2 ∧ 2 < 0 + 1) from by decide)) | 3, _, hh => exact (absurd hh (show ¬ (0 ≤ 3 ∧ 3 < 0 + 1) from by decide)) | (b_ + 4), h_, _ => exact absurd h_ (by omega)
    ·intro b hb hh
     match b, hb, hh with | 0, _, hh => exact (absurd (show 0 ≤ 0 ∧ 0 < 0 + 1 from by decide) hh) | 1, _, hh => exact rfl | 2, _, hh => exact rfl | 3, _, hh => exact rfl | (b_ + 4), h_, _ => exact absurd h_ (by omega)
   cbv
   replace h := of_req h
   obtain ⟨c18, h⟩ := h
   refine ⟨⟨c18, trivial⟩, ?_⟩
   replace h := of_req h
   obtain ⟨c28, h⟩ := h
   replace h := of_let h
   obtain ⟨l19, hl19, h⟩ := h
   refine And.intro (by first | exact (by subst hA; exact idx_lt c18) | (refine And.intro (by subst hA; exact idx_lt c18) ?_; first | trivial | exact ⟨trivial, trivial⟩)) ?_
   refine ⟨_, rfl, _, row GD (encLabel) l19, rfl, wkOf ?_, ?_⟩
   ·subst hGD hLEN hA
    rw [c28] at c18
    refine upd_set hl19 (idx_lt c18) ?_ ?_
    ·intro b hb hh
     match b, hb, hh with | 0, _, hh => exact (absurd hh (show ¬ (1 ≤ 0 ∧ 0 < 1 + 1) from by decide)) | 1, _, hh => exact rfl | 2, _, hh => exact (absurd hh (show ¬ (1 ≤ 2 ∧ 2 < 1 + 1) from by decide)) | 3, _, hh => exact (absurd hh (show ¬ (1 ≤ 3 ∧ 3 < 1 + 1) from by decide)) | (b_ + 4), h_, _ => exact absurd h_ (by omega)
    ·intro b hb hh
     match b, hb, hh with | 0, _, hh => exact rfl | 1, _, hh => exact (absurd (show 1 ≤ 1 ∧ 1 < 1 + 1 from by decide) hh) | 2, _, hh => exact rfl | 3, _, hh => exact rfl | (b_ + 4), h_, _ => exact absurd h_ (by omega)
   cbv
   replace h := of_req h
   obtain ⟨c20, h⟩ := h
   refine ⟨⟨c20, trivial⟩, ?_⟩
   replace h := of_req h
   obtain ⟨c27, h⟩ := h
   replace h := of_let h
   obtain ⟨l21, hl21, h⟩ := h
   refine And.intro (by first | exact (by subst hA; exact idx_lt c20) | (refine And.intro (by subst hA; exact idx_lt c20) ?_; first | trivial | exact ⟨trivial, trivial⟩)) ?_
   refine ⟨_, rfl, _, row GD (encLabel) l21, rfl, wkOf ?_, ?_⟩
   ·subst hGD hLEN hA
    rw [c27] at c20
    refine upd_set hl21 (idx_lt c20) ?_ ?_
    ·intro b hb hh
     match b, hb, hh with | 0, _, hh => exact (absurd hh (show ¬ (2 ≤ 0 ∧ 0 < 2 + 1) from by decide)) | 1, _, hh => exact (absurd hh (show ¬ (2 ≤ 1 ∧ 1 < 2 + 1) from by decide)) | 2, _, hh => exact rfl | 3, _, hh => exact (absurd hh (show ¬ (2 ≤ 3 ∧ 3 < 2 + 1) from by decide)) | (b_ + 4), h_, _ => exact absurd h_ (by omega)
    ·intro b hb hh
     match b, hb, hh with | 0, _, hh => exact rfl | 1, _, hh => exact rfl | 2, _, hh => exact (absurd (show 2 ≤ 2 ∧ 2 < 2 + 1 from by decide) hh) | 3, _, hh => exact rfl | (b_ + 4), h_, _ => exact absurd h_ (by omega)
   cbv
   replace h := of_bind h
   obtain ⟨y22, hy23, h⟩ := h
   refine ⟨{ args := [.c (.v (.int .i64 (A.add .i64 (A.add .i64 (A.add .i64 v1 1) 1) 1)))], o0 := [], r := .c (.v (.string y22)), o1 := [], fl := true, σ := [], τ := [] }, hf_laws_markText _ _ hy23, ⟨les_cons (lR _) (les_nil), trivial, rfl, rfl, rfl, rfl, trivial, rfl⟩, ?_⟩
   cbv
   replace h := of_req h
   obtain ⟨c24, h⟩ := h
   refine ⟨⟨c24, trivial⟩, ?_⟩
   replace h := of_req h
   obtain ⟨c26, h⟩ := h
   replace h := of_let h
   obtain ⟨l25, hl25, h⟩ := h
   refine And.intro (by first | exact (by subst hA; exact idx_lt c24) | (refine And.intro (by subst hA; exact idx_lt c24) ?_; first | trivial | exact ⟨trivial, trivial⟩)) ?_
   refine ⟨_, rfl, _, row GD (encLabel) l25, rfl, wkOf ?_, ?_⟩
   ·subst hGD hLEN hA
    rw [c26] at c24
    refine upd_set hl25 (idx_lt c24) ?_ ?_
    ·intro b hb hh
     match b, hb, hh with | 0, _, hh => exact (absurd hh (show ¬ (3 ≤ 0 ∧ 0 < 3 + 1) from by decide)) | 1, _, hh => exact (absurd hh (show ¬ (3 ≤ 1 ∧ 1 < 3 + 1) from by decide)) | 2, _, hh => exact (absurd hh (show ¬ (3 ≤ 2 ∧ 2 < 3 + 1) from by decide)) | 3, _, hh => exact rfl | (b_ + 4), h_, _ => exact absurd h_ (by omega)
    ·intro b hb hh
     match b, hb, hh with | 0, _, hh => exact rfl | 1, _, hh => exact rfl | 2, _, hh => exact rfl | 3, _, hh => exact (absurd (show 3 ≤ 3 ∧ 3 < 3 + 1 from by decide) hh) | (b_ + 4), h_, _ => exact absurd h_ (by omega)
   cbv
   injection h with h
   refine hK10 _ h.symm _ ?_
   exact le_sparse rfl ⟨lR _, lR _, lR _, trivial⟩ ⟨oS, trivial⟩ rfl
  ·replace h := of_br_f b30 h
   cbv
   injection h with h
   refine hY8 _ h.symm _ _ (And.intro rfl ?_) (by intro hh; cases hh)
   exact le_sparse rfl ⟨lR _, trivial⟩ ⟨oS, trivial⟩ rfl
 ·clear hr6
  have h := hN7
  clear hN7
  intro e14 s15 q13 hne
  replace h := of_let h
  obtain ⟨y5k0, hyk, h⟩ := h
  have hyk : y5k0 = y5 := hyk
  subst hyk
  obtain ⟨rfl, q13⟩ := q13
  obtain ⟨y5k0_0, y5k0_1⟩ := y5k0
  replace h := of_let h
  obtain ⟨w31, hw31, h⟩ := h
  have hw31 : w31 = y5k0_0 := hw31
  subst hw31
  replace h := of_let h
  obtain ⟨w32, hw32, h⟩ := h
  have hw32 : w32 = y5k0_1 := hw32
  subst hw32
  cbv
  refine ⟨_, q13, ?_⟩
  cbv
  replace h := of_req h
  obtain ⟨c33, h⟩ := h
  injection h with h
  subst h
  refine ⟨(sparse 44 [(4, .c (.v (.int .i64 w31)))] [(5, .arr .rw [] (LEN w32) 4 (row GD (encLabel) w32))]), ?_, ?_⟩
  ·rw [c33]
   exact le_sparse rfl ⟨lR _, trivial⟩ ⟨oS, trivial⟩ rfl
  ·exact ⟨lR _, ⟨oS, trivial⟩, rfl⟩
noncomputable def L_laws_markInstanceS_mob_x4 (a0 : List TInstance) : (Int × Int × (List TInstance)) → Option ((Int × Int × (List TInstance)) ⊕ ((Int × (List TInstance)))) := fun x4 =>
 letO x4.1 fun v1 =>
 letO x4.2.1 fun v2 =>
 letO x4.2.2 fun v3 =>
 br (std.lt v2 (std.ofN (len a0)))
 (req (std.inR v2 (len a0)) <|
 req (len a0 = len v3) <|
 letO (List.set v3 (std.nadd 0 (std.toN v2)) (TInstance.mk v1 (gd v3 (std.nadd 0 (std.toN v2))).fPlace (gd v3 (std.nadd 0 (std.toN v2))).fColumns (gd v3 (std.nadd 0 (std.toN v2))).fRows (gd v3 (std.nadd 0 (std.toN v2))).fStepX (gd v3 (std.nadd 0 (std.toN v2))).fStepY)) fun l17 =>
 req (std.inR v2 (len a0)) <|
 req (len a0 = len l17) <|
 letO (List.set l17 (std.nadd 0 (std.toN v2)) (TInstance.mk (gd l17 (std.nadd 0 (std.toN v2))).fCell (TTransform.mk (std.add .i64 v1 1) (gd l17 (std.nadd 0 (std.toN v2))).fPlace.fX (gd l17 (std.nadd 0 (std.toN v2))).fPlace.fY) (gd l17 (std.nadd 0 (std.toN v2))).fColumns (gd l17 (std.nadd 0 (std.toN v2))).fRows (gd l17 (std.nadd 0 (std.toN v2))).fStepX (gd l17 (std.nadd 0 (std.toN v2))).fStepY)) fun l19 =>
 req (std.inR v2 (len a0)) <|
 req (len a0 = len l19) <|
 letO (List.set l19 (std.nadd 0 (std.toN v2)) (TInstance.mk (gd l19 (std.nadd 0 (std.toN v2))).fCell (TTransform.mk (gd l19 (std.nadd 0 (std.toN v2))).fPlace.fOrientation (std.add .i64 (std.add .i64 v1 1) 1) (gd l19 (std.nadd 0 (std.toN v2))).fPlace.fY) (gd l19 (std.nadd 0 (std.toN v2))).fColumns (gd l19 (std.nadd 0 (std.toN v2))).fRows (gd l19 (std.nadd 0 (std.toN v2))).fStepX (gd l19 (std.nadd 0 (std.toN v2))).fStepY)) fun l21 =>
 req (std.inR v2 (len a0)) <|
 req (len a0 = len l21) <|
 letO (List.set l21 (std.nadd 0 (std.toN v2)) (TInstance.mk (gd l21 (std.nadd 0 (std.toN v2))).fCell (TTransform.mk (gd l21 (std.nadd 0 (std.toN v2))).fPlace.fOrientation (gd l21 (std.nadd 0 (std.toN v2))).fPlace.fX (std.add .i64 (std.add .i64 (std.add .i64 v1 1) 1) 1)) (gd l21 (std.nadd 0 (std.toN v2))).fColumns (gd l21 (std.nadd 0 (std.toN v2))).fRows (gd l21 (std.nadd 0 (std.toN v2))).fStepX (gd l21 (std.nadd 0 (std.toN v2))).fStepY)) fun l23 =>
 req (std.inR v2 (len a0)) <|
 req (len a0 = len l23) <|
 letO (List.set l23 (std.nadd 0 (std.toN v2)) (TInstance.mk (gd l23 (std.nadd 0 (std.toN v2))).fCell (gd l23 (std.nadd 0 (std.toN v2))).fPlace (std.add .i64 (std.add .i64 (std.add .i64 (std.add .i64 v1 1) 1) 1) 1) (gd l23 (std.nadd 0 (std.toN v2))).fRows (gd l23 (std.nadd 0 (std.toN v2))).fStepX (gd l23 (std.nadd 0 (std.toN v2))).fStepY)) fun l25 =>
 req (std.inR v2 (len a0)) <|
 req (len a0 = len l25) <|
 letO (List.set l25 (std.nadd 0 (std.toN v2)) (TInstance.mk (gd l25 (std.nadd 0 (std.toN v2))).fCell (gd l25 (std.nadd 0 (std.toN v2))).fPlace (gd l25 (std.nadd 0 (std.toN v2))).fColumns (std.add .i64 (std.add .i64 (std.add .i64 (std.add .i64 (std.add .i64 v1 1) 1) 1) 1) 1) (gd l25 (std.nadd 0 (std.toN v2))).fStepX (gd l25 (std.nadd 0 (std.toN v2))).fStepY)) fun l27 =>
 req (std.inR v2 (len a0)) <|
 req (len a0 = len l27) <|
 letO (List.set l27 (std.nadd 0 (std.toN v2)) (TInstance.mk (gd l27 (std.nadd 0 (std.toN v2))).fCell (gd l27 (std.nadd 0 (std.toN v2))).fPlace (gd l27 (std.nadd 0 (std.toN v2))).fColumns (gd l27 (std.nadd 0 (std.toN v2))).fRows (std.add .i64 (std.add .i64 (std.add .i64 (std.add .i64 (std.add .i64 (std.add .i64 v1 1) 1) 1) 1) 1) 1) (gd l27 (std.nadd 0 (std.toN v2))).fStepY)) fun l29 =>
 req (std.inR v2 (len a0)) <|
 req (len a0 = len l29) <|
 letO (List.set l29 (std.nadd 0 (std.toN v2)) (TInstance.mk (gd l29 (std.nadd 0 (std.toN v2))).fCell (gd l29 (std.nadd 0 (std.toN v2))).fPlace (gd l29 (std.nadd 0 (std.toN v2))).fColumns (gd l29 (std.nadd 0 (std.toN v2))).fRows (gd l29 (std.nadd 0 (std.toN v2))).fStepX (std.add .i64 (std.add .i64 (std.add .i64 (std.add .i64 (std.add .i64 (std.add .i64 (std.add .i64 v1 1) 1) 1) 1) 1) 1) 1))) fun l31 =>
 some (.inl (std.add .i64 (std.add .i64 (std.add .i64 (std.add .i64 (std.add .i64 (std.add .i64 (std.add .i64 (std.add .i64 v1 1) 1) 1) 1) 1) 1) 1) 1, std.add .i64 v2 1, l31)))
 (some (.inr (v1, v3)))
/-- laws.markInstanceS -/
noncomputable def F_laws_markInstanceS_mob (a0 : List TInstance) (a1 : Int) : Option (Int × (List TInstance)) :=
 (whileP (σ := Int × Int × (List TInstance)) (ρ := (Int × (List TInstance))) (L_laws_markInstanceS_mob_x4 a0) (a1, 0, a0)).bind fun y5 =>
 letO y5 fun y5k0 =>
 letO y5k0.1 fun w41 =>
 letO y5k0.2 fun w42 =>
 req (len a0 = len w42) <|
 some (w41, w42)
set_option maxHeartbeats 4000000 in
theorem run_laws_markInstanceS_mob (a0 : List TInstance) (a1 : Int) (r : Int × (List TInstance)) (h : F_laws_markInstanceS_mob a0 a1 = some r) : Fun Try.prog 169 [.c (.os 5 0 (len a0)), .c (.v (.int .i64 a1))] [(5, .arr .rw [] (len a0) 8 (row gd (encInstance) a0))] (.c (.v (.int .i64 r.1))) [(5, .arr .rw [] (len r.2) 8 (row gd (encInstance) r.2))] true := by
 refine Fun.of_wp (oneOf []) tok mixed Try.func169 (by kernel_rfl) rfl Try.ntmps169 rfl ⟨fun i _ j _ k hk => (noref (plain_nil (pl_encInstance _ _)) hk).elim, trivial⟩ (fun _ => ⟨trivial, ⟨fun i _ j _ => val_flat (vl_encInstance _ _), trivial⟩⟩) ?_
 unfold F_laws_markInstanceS_mob at h
 unfold L_laws_markInstanceS_mob_x4 at h
 generalize hLEN : @len = LEN at *
 generalize hGD : @gd = GD at *
 generalize hA : std = A at *
 generalize hP : Try.prog = P at *
 cbv
 replace h := of_bind h
 obtain ⟨y5, hr6, hN7⟩ := h
 refine loop_cut hr6 (fun x => (sparse 72 [(0, .c (.os 5 0 (LEN a0))), (1, .c (.v (.int .i64 x.1))), (5, .c (.v (.int .i64 x.2.1)))] [(5, .arr .rw [] (LEN a0) 8 (row GD (encInstance) x.2.2))])) ?_ (fun y e s => (fun (w : Int × (List TInstance)) => e = .exit 0 ∧ s.le (sparse 72 [(1, .c (.v (.int .i64 w.1)))] [(5, .arr .rw [] (LEN a0) 8 (row GD (encInstance) w.2))])) y) ?_ ?_
 ·clear hr6 hN7
  show St.le _ _
  exact le_sparse rfl ⟨lR _, lR _, lR _, trivial⟩ ⟨oS, trivial⟩ rfl
 ·clear hr6 hN7
  intro x z11 h K9 hK10 hY8
  obtain ⟨x0_, x1_, x2_⟩ := x
  replace h := of_let h
  obtain ⟨v1, hv1, h⟩ := h
  have hv1 : v1 = x0_ := hv1
  subst hv1
  replace h := of_let h
  obtain ⟨v2, hv2, h⟩ := h
  have hv2 : v2 = x1_ := hv2
  subst hv2
  replace h := of_let h
  obtain ⟨v3, hv3, h⟩ := h
  have hv3 : v3 = x2_ := hv3
  subst hv3
  cbv
  refine fork (fun b40 => ?_) (fun b40 => ?_)
  ·replace h := of_br_t b40 h
   cbv
   replace h := of_req h
   obtain ⟨c16, h⟩ := h
   refine ⟨⟨c16, trivial⟩, ?_⟩
   replace h := of_req h
   obtain ⟨c39, h⟩ := h
   replace h := of_let h
   obtain ⟨l17, hl17, h⟩ := h
   refine And.intro (by first | exact (by subst hA; exact idx_lt c16) | (refine And.intro (by subst hA; exact idx_lt c16) ?_; first | trivial | exact ⟨trivial, trivial⟩)) ?_
   refine ⟨_, rfl, _, row GD (encInstance) l17, rfl, wkOf ?_, ?_⟩
   ·subst hGD hLEN hA
    rw [c39] at c16
    refine upd_set hl17 (idx_lt c16) ?_ ?_
    ·intro b hb hh
     match b, hb, hh with | 0, _, hh => exact rfl | 1, _, hh => exact (absurd hh (show ¬ (0 ≤ 1 ∧ 1 < 0 + 1) from by decide)) | 2, _, hh => exact (absurd hh (show ¬ (0 ≤ 2 ∧ 2 < 0 + 1) from by decide)) | 3, _, hh => exact (absurd hh (show ¬ (0 ≤ 3 ∧ 3 < 0 + 1) from by decide)) | 4, _, hh => exact (absurd hh (show ¬ (0 ≤ 4 ∧ 4 < 0 + 1) from by decide)) | 5, _, hh => exact (absurd hh (show ¬ (0 ≤ 5 ∧ 5 < 0 + 1) from by decide)) | 6, _, hh => exact (absurd hh (show ¬ (0 ≤ 6 ∧ 6 < 0 + 1) from by decide)) | 7, _, hh => exact (absurd hh (show ¬ (0 ≤ 7 ∧ 7 < 0 + 1) from by decide)) | (b_ + 8), h_, _ => exact absurd h_ (by omega)
    ·intro b hb hh
     match b, hb, hh with | 0, _, hh => exact (absurd (show 0 ≤ 0 ∧ 0 < 0 + 1 from by decide) hh) | 1, _, hh => exact rfl | 2, _, hh => exact rfl | 3, _, hh => exact rfl | 4, _, hh => exact rfl | 5, _, hh => exact rfl | 6, _, hh => exact rfl | 7, _, hh => exact rfl | (b_ + 8), h_, _ => exact absurd h_ (by omega)
   cbv
   replace h := of_req h
   obtain ⟨c18, h⟩ := h
   refine ⟨⟨c18, trivial⟩, ?_⟩
   replace h := of_req h
   obtain ⟨c38, h⟩ := h
   replace h := of_let h
   obtain ⟨l19, hl19, h⟩ := h
   refine And.intro (by first | exact (by subst hA; exact idx_lt c18) | (refine And.intro (by subst hA; exact idx_lt c18) ?_; first | trivial | exact ⟨trivial, trivial⟩)) ?_
   refine ⟨_, rfl, _, row GD (encInstance) l19, rfl, wkOf ?_, ?_⟩
   ·subst hGD hLEN hA
    rw [c38] at c18
    refine upd_set hl19 (idx_lt c18) ?_ ?_
    ·intro b hb hh
     match b, hb, hh with | 0, _, hh => exact (absurd hh (show ¬ (1 ≤ 0 ∧ 0 < 1 + 1) from by decide)) | 1, _, hh => exact rfl | 2, _, hh => exact (absurd hh (show ¬ (1 ≤ 2 ∧ 2 < 1 + 1) from by decide)) | 3, _, hh => exact (absurd hh (show ¬ (1 ≤ 3 ∧ 3 < 1 + 1) from by decide)) | 4, _, hh => exact (absurd hh (show ¬ (1 ≤ 4 ∧ 4 < 1 + 1) from by decide)) | 5, _, hh => exact (absurd hh (show ¬ (1 ≤ 5 ∧ 5 < 1 + 1) from by decide)) | 6, _, hh => exact (absurd hh (show ¬ (1 ≤ 6 ∧ 6 < 1 + 1) from by decide)) | 7, _, hh => exact (absurd hh (show ¬ (1 ≤ 7 ∧ 7 < 1 + 1) from by decide)) | (b_ + 8), h_, _ => exact absurd h_ (by omega)
    ·intro b hb hh
     match b, hb, hh with | 0, _, hh => exact rfl | 1, _, hh => exact (absurd (show 1 ≤ 1 ∧ 1 < 1 + 1 from by decide) hh) | 2, _, hh => exact rfl | 3, _, hh => exact rfl | 4, _, hh => exact rfl | 5, _, hh => exact rfl | 6, _, hh => exact rfl | 7, _, hh => exact rfl | (b_ + 8), h_, _ => exact absurd h_ (by omega)
   cbv
   replace h := of_req h
   obtain ⟨c20, h⟩ := h
   refine ⟨⟨c20, trivial⟩, ?_⟩
   replace h := of_req h
   obtain ⟨c37, h⟩ := h
   replace h := of_let h
   obtain ⟨l21, hl21, h⟩ := h
   refine And.intro (by first | exact (by subst hA; exact idx_lt c20) | (refine And.intro (by subst hA; exact idx_lt c20) ?_; first | trivial | exact ⟨trivial, trivial⟩)) ?_
   refine ⟨_, rfl, _, row GD (encInstance) l21, rfl, wkOf ?_, ?_⟩
   ·subst hGD hLEN hA
    rw [c37] at c20
    refine upd_set hl21 (idx_lt c20) ?_ ?_
    ·intro b hb hh
     match b, hb, hh with | 0, _, hh => exact (absurd hh (show ¬ (2 ≤ 0 ∧ 0 < 2 + 1) from by decide)) | 1, _, hh => exact (absurd hh (show ¬ (2 ≤ 1 ∧ 1 < 2 + 1) from by decide)) | 2, _, hh => exact rfl | 3, _, hh => exact (absurd hh (show ¬ (2 ≤ 3 ∧ 3 < 2 + 1) from by decide)) | 4, _, hh => exact (absurd hh (show ¬ (2 ≤ 4 ∧ 4 < 2 + 1) from by decide)) | 5, _, hh => exact (absurd hh (show ¬ (2 ≤ 5 ∧ 5 < 2 + 1) from by decide)) | 6, _, hh => exact (absurd hh (show ¬ (2 ≤ 6 ∧ 6 < 2 + 1) from by decide)) | 7, _, hh => exact (absurd hh (show ¬ (2 ≤ 7 ∧ 7 < 2 + 1) from by decide)) | (b_ + 8), h_, _ => exact absurd h_ (by omega)
    ·intro b hb hh
     match b, hb, hh with | 0, _, hh => exact rfl | 1, _, hh => exact rfl | 2, _, hh => exact (absurd (show 2 ≤ 2 ∧ 2 < 2 + 1 from by decide) hh) | 3, _, hh => exact rfl | 4, _, hh => exact rfl | 5, _, hh => exact rfl | 6, _, hh => exact rfl | 7, _, hh => exact rfl | (b_ + 8), h_, _ => exact absurd h_ (by omega)
   cbv
   replace h := of_req h
   obtain ⟨c22, h⟩ := h
   refine ⟨⟨c22, trivial⟩, ?_⟩
   replace h := of_req h
   obtain ⟨c36, h⟩ := h
   replace h := of_let h
   obtain ⟨l23, hl23, h⟩ := h
   refine And.intro (by first | exact (by subst hA; exact idx_lt c22) | (refine And.intro (by subst hA; exact idx_lt c22) ?_; first | trivial | exact ⟨trivial, trivial⟩)) ?_
   refine ⟨_, rfl, _, row GD (encInstance) l23, rfl, wkOf ?_, ?_⟩
   ·subst hGD hLEN hA
    rw [c36] at c22
    refine upd_set hl23 (idx_lt c22) ?_ ?_
    ·intro b hb hh
     match b, hb, hh with | 0, _, hh => exact (absurd hh (show ¬ (3 ≤ 0 ∧ 0 < 3 + 1) from by decide)) | 1, _, hh => exact (absurd hh (show ¬ (3 ≤ 1 ∧ 1 < 3 + 1) from by decide)) | 2, _, hh => exact (absurd hh (show ¬ (3 ≤ 2 ∧ 2 < 3 + 1) from by decide)) | 3, _, hh => exact rfl | 4, _, hh => exact (absurd hh (show ¬ (3 ≤ 4 ∧ 4 < 3 + 1) from by decide)) | 5, _, hh => exact (absurd hh (show ¬ (3 ≤ 5 ∧ 5 < 3 + 1) from by decide)) | 6, _, hh => exact (absurd hh (show ¬ (3 ≤ 6 ∧ 6 < 3 + 1) from by decide)) | 7, _, hh => exact (absurd hh (show ¬ (3 ≤ 7 ∧ 7 < 3 + 1) from by decide)) | (b_ + 8), h_, _ => exact absurd h_ (by omega)
    ·intro b hb hh
     match b, hb, hh with | 0, _, hh => exact rfl | 1, _, hh => exact rfl | 2, _, hh => exact rfl | 3, _, hh => exact (absurd (show 3 ≤ 3 ∧ 3 < 3 + 1 from by decide) hh) | 4, _, hh => exact rfl | 5, _, hh => exact rfl | 6, _, hh => exact rfl | 7, _, hh => exact rfl | (b_ + 8), h_, _ => exact absurd h_ (by omega)
   cbv
   replace h := of_req h
   obtain ⟨c24, h⟩ := h
   refine ⟨⟨c24, trivial⟩, ?_⟩
   replace h := of_req h
   obtain ⟨c35, h⟩ := h
   replace h := of_let h
   obtain ⟨l25, hl25, h⟩ := h
   refine And.intro (by first | exact (by subst hA; exact idx_lt c24) | (refine And.intro (by subst hA; exact idx_lt c24) ?_; first | trivial | exact ⟨trivial, trivial⟩)) ?_
   refine ⟨_, rfl, _, row GD (encInstance) l25, rfl, wkOf ?_, ?_⟩
   ·subst hGD hLEN hA
    rw [c35] at c24
    refine upd_set hl25 (idx_lt c24) ?_ ?_
    ·intro b hb hh
     match b, hb, hh with | 0, _, hh => exact (absurd hh (show ¬ (4 ≤ 0 ∧ 0 < 4 + 1) from by decide)) | 1, _, hh => exact (absurd hh (show ¬ (4 ≤ 1 ∧ 1 < 4 + 1) from by decide)) | 2, _, hh => exact (absurd hh (show ¬ (4 ≤ 2 ∧ 2 < 4 + 1) from by decide)) | 3, _, hh => exact (absurd hh (show ¬ (4 ≤ 3 ∧ 3 < 4 + 1) from by decide)) | 4, _, hh => exact rfl | 5, _, hh => exact (absurd hh (show ¬ (4 ≤ 5 ∧ 5 < 4 + 1) from by decide)) | 6, _, hh => exact (absurd hh (show ¬ (4 ≤ 6 ∧ 6 < 4 + 1) from by decide)) | 7, _, hh => exact (absurd hh (show ¬ (4 ≤ 7 ∧ 7 < 4 + 1) from by decide)) | (b_ + 8), h_, _ => exact absurd h_ (by omega)
    ·intro b hb hh
     match b, hb, hh with | 0, _, hh => exact rfl | 1, _, hh => exact rfl | 2, _, hh => exact rfl | 3, _, hh => exact rfl | 4, _, hh => exact (absurd (show 4 ≤ 4 ∧ 4 < 4 + 1 from by decide) hh) | 5, _, hh => exact rfl | 6, _, hh => exact rfl | 7, _, hh => exact rfl | (b_ + 8), h_, _ => exact absurd h_ (by omega)
   cbv
   replace h := of_req h
   obtain ⟨c26, h⟩ := h
   refine ⟨⟨c26, trivial⟩, ?_⟩
   replace h := of_req h
   obtain ⟨c34, h⟩ := h
   replace h := of_let h
   obtain ⟨l27, hl27, h⟩ := h
   refine And.intro (by first | exact (by subst hA; exact idx_lt c26) | (refine And.intro (by subst hA; exact idx_lt c26) ?_; first | trivial | exact ⟨trivial, trivial⟩)) ?_
   refine ⟨_, rfl, _, row GD (encInstance) l27, rfl, wkOf ?_, ?_⟩
   ·subst hGD hLEN hA
    rw [c34] at c26
    refine upd_set hl27 (idx_lt c26) ?_ ?_
    ·intro b hb hh
     match b, hb, hh with | 0, _, hh => exact (absurd hh (show ¬ (5 ≤ 0 ∧ 0 < 5 + 1) from by decide)) | 1, _, hh => exact (absurd hh (show ¬ (5 ≤ 1 ∧ 1 < 5 + 1) from by decide)) | 2, _, hh => exact (absurd hh (show ¬ (5 ≤ 2 ∧ 2 < 5 + 1) from by decide)) | 3, _, hh => exact (absurd hh (show ¬ (5 ≤ 3 ∧ 3 < 5 + 1) from by decide)) | 4, _, hh => exact (absurd hh (show ¬ (5 ≤ 4 ∧ 4 < 5 + 1) from by decide)) | 5, _, hh => exact rfl | 6, _, hh => exact (absurd hh (show ¬ (5 ≤ 6 ∧ 6 < 5 + 1) from by decide)) | 7, _, hh => exact (absurd hh (show ¬ (5 ≤ 7 ∧ 7 < 5 + 1) from by decide)) | (b_ + 8), h_, _ => exact absurd h_ (by omega)
    ·intro b hb hh
     match b, hb, hh with | 0, _, hh => exact rfl | 1, _, hh => exact rfl | 2, _, hh => exact rfl | 3, _, hh => exact rfl | 4, _, hh => exact rfl | 5, _, hh => exact (absurd (show 5 ≤ 5 ∧ 5 < 5 + 1 from by decide) hh) | 6, _, hh => exact rfl | 7, _, hh => exact rfl | (b_ + 8), h_, _ => exact absurd h_ (by omega)
   cbv
   replace h := of_req h
   obtain ⟨c28, h⟩ := h
   refine ⟨⟨c28, trivial⟩, ?_⟩
   replace h := of_req h
   obtain ⟨c33, h⟩ := h
   replace h := of_let h
   obtain ⟨l29, hl29, h⟩ := h
   refine And.intro (by first | exact (by subst hA; exact idx_lt c28) | (refine And.intro (by subst hA; exact idx_lt c28) ?_; first | trivial | exact ⟨trivial, trivial⟩)) ?_
   refine ⟨_, rfl, _, row GD (encInstance) l29, rfl, wkOf ?_, ?_⟩
   ·subst hGD hLEN hA
    rw [c33] at c28
    refine upd_set hl29 (idx_lt c28) ?_ ?_
    ·intro b hb hh
     match b, hb, hh with | 0, _, hh => exact (absurd hh (show ¬ (6 ≤ 0 ∧ 0 < 6 + 1) from by decide)) | 1, _, hh => exact (absurd hh (show ¬ (6 ≤ 1 ∧ 1 < 6 + 1) from by decide)) | 2, _, hh => exact (absurd hh (show ¬ (6 ≤ 2 ∧ 2 < 6 + 1) from by decide)) | 3, _, hh => exact (absurd hh (show ¬ (6 ≤ 3 ∧ 3 < 6 + 1) from by decide)) | 4, _, hh => exact (absurd hh (show ¬ (6 ≤ 4 ∧ 4 < 6 + 1) from by decide)) | 5, _, hh => exact (absurd hh (show ¬ (6 ≤ 5 ∧ 5 < 6 + 1) from by decide)) | 6, _, hh => exact rfl | 7, _, hh => exact (absurd hh (show ¬ (6 ≤ 7 ∧ 7 < 6 + 1) from by decide)) | (b_ + 8), h_, _ => exact absurd h_ (by omega)
    ·intro b hb hh
     match b, hb, hh with | 0, _, hh => exact rfl | 1, _, hh => exact rfl | 2, _, hh => exact rfl | 3, _, hh => exact rfl | 4, _, hh => exact rfl | 5, _, hh => exact rfl | 6, _, hh => exact (absurd (show 6 ≤ 6 ∧ 6 < 6 + 1 from by decide) hh) | 7, _, hh => exact rfl | (b_ + 8), h_, _ => exact absurd h_ (by omega)
   cbv
   replace h := of_req h
   obtain ⟨c30, h⟩ := h
   refine ⟨⟨c30, trivial⟩, ?_⟩
   replace h := of_req h
   obtain ⟨c32, h⟩ := h
   replace h := of_let h
   obtain ⟨l31, hl31, h⟩ := h
   refine And.intro (by first | exact (by subst hA; exact idx_lt c30) | (refine And.intro (by subst hA; exact idx_lt c30) ?_; first | trivial | exact ⟨trivial, trivial⟩)) ?_
   refine ⟨_, rfl, _, row GD (encInstance) l31, rfl, wkOf ?_, ?_⟩
   ·subst hGD hLEN hA
    rw [c32] at c30
    refine upd_set hl31 (idx_lt c30) ?_ ?_
    ·intro b hb hh
     match b, hb, hh with | 0, _, hh => exact (absurd hh (show ¬ (7 ≤ 0 ∧ 0 < 7 + 1) from by decide)) | 1, _, hh => exact (absurd hh (show ¬ (7 ≤ 1 ∧ 1 < 7 + 1) from by decide)) | 2, _, hh => exact (absurd hh (show ¬ (7 ≤ 2 ∧ 2 < 7 + 1) from by decide)) | 3, _, hh => exact (absurd hh (show ¬ (7 ≤ 3 ∧ 3 < 7 + 1) from by decide)) | 4, _, hh => exact (absurd hh (show ¬ (7 ≤ 4 ∧ 4 < 7 + 1) from by decide)) | 5, _, hh => exact (absurd hh (show ¬ (7 ≤ 5 ∧ 5 < 7 + 1) from by decide)) | 6, _, hh => exact (absurd hh (show ¬ (7 ≤ 6 ∧ 6 < 7 + 1) from by decide)) | 7, _, hh => exact rfl | (b_ + 8), h_, _ => exact absurd h_ (by omega)
    ·intro b hb hh
     match b, hb, hh with | 0, _, hh => exact rfl | 1, _, hh => exact rfl | 2, _, hh => exact rfl | 3, _, hh => exact rfl | 4, _, hh => exact rfl | 5, _, hh => exact rfl | 6, _, hh => exact rfl | 7, _, hh => exact (absurd (show 7 ≤ 7 ∧ 7 < 7 + 1 from by decide) hh) | (b_ + 8), h_, _ => exact absurd h_ (by omega)
   cbv
   injection h with h
   refine hK10 _ h.symm _ ?_
   exact le_sparse rfl ⟨lR _, lR _, lR _, trivial⟩ ⟨oS, trivial⟩ rfl
  ·replace h := of_br_f b40 h
   cbv
   injection h with h
   refine hY8 _ h.symm _ _ (And.intro rfl ?_) (by intro hh; cases hh)
   exact le_sparse rfl ⟨lR _, trivial⟩ ⟨oS, trivial⟩ rfl
 ·clear hr6
  have h := hN7
  clear hN7
  intro e14 s15 q13 hne
  replace h := of_let h
  obtain ⟨y5k0, hyk, h⟩ := h
  have hyk : y5k0 = y5 := hyk
  subst hyk
  obtain ⟨rfl, q13⟩ := q13
  obtain ⟨y5k0_0, y5k0_1⟩ := y5k0
  replace h := of_let h
  obtain ⟨w41, hw41, h⟩ := h
  have hw41 : w41 = y5k0_0 := hw41
  subst hw41
  replace h := of_let h
  obtain ⟨w42, hw42, h⟩ := h
  have hw42 : w42 = y5k0_1 := hw42
  subst hw42
  cbv
  refine ⟨_, q13, ?_⟩
  cbv
  replace h := of_req h
  obtain ⟨c43, h⟩ := h
  injection h with h
  subst h
  refine ⟨(sparse 72 [(4, .c (.v (.int .i64 w41)))] [(5, .arr .rw [] (LEN w42) 8 (row GD (encInstance) w42))]), ?_, ?_⟩
  ·rw [c43]
   exact le_sparse rfl ⟨lR _, trivial⟩ ⟨oS, trivial⟩ rfl
  ·exact ⟨lR _, ⟨oS, trivial⟩, rfl⟩

noncomputable def L_laws_markCellS_mob_x4 (a0 : List TCell) : (Int × Int × (List TCell)) → Option ((Int × Int × (List TCell)) ⊕ ((Int × (List TCell)))) := fun x4 =>
 letO x4.1 fun v1 =>
 letO x4.2.1 fun v2 =>
 letO x4.2.2 fun v3 =>
 br (std.lt v2 (std.ofN (len a0)))
 (((
    (F_laws_markText v1).bind fun y23 =>
    req (std.inR v2 (len a0)) <|
    req (len a0 = len v3) <|
    letO (List.set v3 (std.nadd 0 (std.toN v2)) (TCell.mk y23 (gd v3 (std.nadd 0 (std.toN v2))).fShapes (gd v3 (std.nadd 0 (std.toN v2))).fLabels (gd v3 (std.nadd 0 (std.toN v2))).fInstances)) fun l26 =>
    some l26
  ) : Option ((List TCell))).bind fun y16 =>
 letO y16 fun w22 =>
 ((
    req (std.inR v2 (len a0)) <|
    (F_laws_markShapeS_mob (gd w22 (std.nadd 0 (std.toN v2))).fShapes (std.add .i64 v1 1)).bind fun y37 =>
    req (len y37.2 = len (gd w22 (std.nadd 0 (std.toN v2))).fShapes) <|
    req (len a0 = len w22) <|
    letO (List.set w22 (std.nadd 0 (std.toN v2)) (TCell.mk (gd w22 (std.nadd 0 (std.toN v2))).fName y37.2 (gd w22 (std.nadd 0 (std.toN v2))).fLabels (gd w22 (std.nadd 0 (std.toN v2))).fInstances)) fun l39 =>
    some (y37.1, l39)
  ) : Option (Int × (List TCell))).bind fun y28 =>
 letO y28.1 fun w34 =>
 letO y28.2 fun w35 =>
 ((
    req (std.inR v2 (len a0)) <|
    (F_laws_markLabelS_mob (gd w35 (std.nadd 0 (std.toN v2))).fLabels w34).bind fun y51 =>
    req (len y51.2 = len (gd w35 (std.nadd 0 (std.toN v2))).fLabels) <|
    req (len a0 = len w35) <|
    letO (List.set w35 (std.nadd 0 (std.toN v2)) (TCell.mk (gd w35 (std.nadd 0 (std.toN v2))).fName (gd w35 (std.nadd 0 (std.toN v2))).fShapes y51.2 (gd w35 (std.nadd 0 (std.toN v2))).fInstances)) fun l53 =>
    some (y51.1, l53)
  ) : Option (Int × (List TCell))).bind fun y42 =>
 letO y42.1 fun w48 =>
 letO y42.2 fun w49 =>
 ((
    req (std.inR v2 (len a0)) <|
    (F_laws_markInstanceS_mob (gd w49 (std.nadd 0 (std.toN v2))).fInstances w48).bind fun y65 =>
    req (len y65.2 = len (gd w49 (std.nadd 0 (std.toN v2))).fInstances) <|
    req (len a0 = len w49) <|
    letO (List.set w49 (std.nadd 0 (std.toN v2)) (TCell.mk (gd w49 (std.nadd 0 (std.toN v2))).fName (gd w49 (std.nadd 0 (std.toN v2))).fShapes (gd w49 (std.nadd 0 (std.toN v2))).fLabels y65.2)) fun l67 =>
    some (y65.1, l67)
  ) : Option (Int × (List TCell))).bind fun y56 =>
 letO y56.1 fun w62 =>
 letO y56.2 fun w63 =>
 some (.inl (w62, std.add .i64 v2 1, w63)))
 (some (.inr (v1, v3)))
/-- laws.markCellS -/
noncomputable def F_laws_markCellS_mob (a0 : List TCell) (a1 : Int) : Option (Int × (List TCell)) :=
 (whileP (σ := Int × Int × (List TCell)) (ρ := (Int × (List TCell))) (L_laws_markCellS_mob_x4 a0) (a1, 0, a0)).bind fun y5 =>
 letO y5 fun y5k0 =>
 letO y5k0.1 fun w71 =>
 letO y5k0.2 fun w72 =>
 req (len a0 = len w72) <|
 some (w71, w72)
set_option maxHeartbeats 4000000 in
theorem run_laws_markCellS_mob (a0 : List TCell) (a1 : Int) (r : Int × (List TCell)) (h : F_laws_markCellS_mob a0 a1 = some r) : Fun Try.prog 108 [.c (.os 5 0 (len a0)), .c (.v (.int .i64 a1))] [(5, .arr .rw [] (len a0) 4 (row gd (oncCell len gd) a0))] (.c (.v (.int .i64 r.1))) [(5, .arr .rw [] (len r.2) 4 (row gd (oncCell len gd) r.2))] true := by
 refine Fun.of_wp (oneOf [4, 6, 7, 8]) tok mixed Try.func108 (by kernel_rfl) rfl Try.ntmps108 rfl ⟨fun i _ j _ k hk => (noref (rf_oncCell _ _) hk).elim, trivial⟩ (fun _ => ⟨trivial, ⟨fun i _ j _ => fl_oncCell _ _, trivial⟩⟩) ?_
 unfold F_laws_markCellS_mob at h
 unfold L_laws_markCellS_mob_x4 at h
 have hf_laws_markInstanceS_mob := @run_laws_markInstanceS_mob
 have hf_laws_markLabelS_mob := @run_laws_markLabelS_mob
 have hf_laws_markShapeS_mob := @run_laws_markShapeS_mob
 have hf_laws_markText := @run_laws_markText
 generalize hLEN : @len = LEN at *
 generalize hGD : @gd = GD at *
 generalize hA : std = A at *
 generalize hP : Try.prog = P at *
 cbv
 replace h := of_bind h
 obtain ⟨y5, hr6, hN7⟩ := h
 refine loop_cut hr6 (fun x => (sparse 42 [(0, .c (.os 5 0 (LEN a0))), (1, .c (.v (.int .i64 x.1))), (5, .c (.v (.int .i64 x.2.1)))] [(5, .arr .rw [] (LEN a0) 4 (row GD (oncCell LEN GD) x.2.2))])) ?_ (fun y e s => (fun (w : Int × (List TCell)) => e = .exit 0 ∧ s.le (sparse 42 [(1, .c (.v (.int .i64 w.1)))] [(5, .arr .rw [] (LEN a0) 4 (row GD (oncCell LEN GD) w.2))])) y) ?_ ?_
 ·clear hr6 hN7
  show St.le _ _
  exact le_sparse rfl ⟨lR _, lR _, lR _, trivial⟩ ⟨oS, trivial⟩ rfl
 ·clear hr6 hN7
  intro x z11 h K9 hK10 hY8
  obtain ⟨x0_, x1_, x2_⟩ := x
  replace h := of_let h
  obtain ⟨v1, hv1, h⟩ := h
  have hv1 : v1 = x0_ := hv1
  subst hv1
  replace h := of_let h
  obtain ⟨v2, hv2, h⟩ := h
  have hv2 : v2 = x1_ := hv2
  subst hv2
  replace h := of_let h
  obtain ⟨v3, hv3, h⟩ := h
  have hv3 : v3 = x2_ := hv3
  subst hv3
  cbv
  refine fork (fun b70 => ?_) (fun b70 => ?_)
  ·replace h := of_br_t b70 h
   cbv
   replace h := of_bind h
   obtain ⟨y16, hy17, h⟩ := h
   obtain ⟨S20, hS21⟩ : ∃ S, S = (sparse 42 [(0, .c (.os 5 0 (LEN a0))), (1, .c (.v (.int .i64 v1))), (5, .c (.v (.int .i64 v2)))] [(5, .arr .rw [] (LEN a0) 4 (row GD (oncCell LEN GD) y16))]) := ⟨_, rfl⟩
   refine ⟨S20, ?_, ?_⟩
   ·clear h
    have h := hy17
    clear hy17
    cbv
    replace h := of_bind h
    obtain ⟨y23, hy24, h⟩ := h
    refine ⟨{ args := [.c (.v (.int .i64 v1))], o0 := [], r := .c (.v (.string y23)), o1 := [], fl := true, σ := [], τ := [] }, hf_laws_markText _ _ hy24, ⟨les_cons (lR _) (les_nil), trivial, rfl, rfl, rfl, rfl, trivial, rfl⟩, ?_⟩
    cbv
    replace h := of_req h
    obtain ⟨c25, h⟩ := h
    refine ⟨⟨c25, trivial⟩, ?_⟩
    refine And.intro (by first | exact (by subst hA; exact idx_lt c25) | (refine And.intro (by subst hA; exact idx_lt c25) ?_; first | trivial | exact ⟨trivial, trivial⟩)) ?_
    refine ⟨_, rfl, _, (patchC (row GD (oncCell LEN GD) v3) (A.nadd 0 (A.toN v2)) [.v (.string y23), .ow (LEN (GD v3 (A.nadd 0 (A.toN v2))).fShapes) 5 (row GD (encShape) (GD v3 (A.nadd 0 (A.toN v2))).fShapes), .ow (LEN (GD v3 (A.nadd 0 (A.toN v2))).fLabels) 4 (row GD (encLabel) (GD v3 (A.nadd 0 (A.toN v2))).fLabels), .ow (LEN (GD v3 (A.nadd 0 (A.toN v2))).fInstances) 8 (row GD (encInstance) (GD v3 (A.nadd 0 (A.toN v2))).fInstances)]), rfl, wkOf ?_, ?_⟩
    ·refine patch_of ?_
     intro j hj
     match j, hj with | 0, _ => (rfl) | 1, _ => (rfl) | 2, _ => (rfl) | 3, _ => (rfl) | (j_ + 4), h_ => exact absurd h_ (by omega)
    cbv
    replace h := of_req h
    obtain ⟨c27, h⟩ := h
    replace h := of_let h
    obtain ⟨l26, hl26, h⟩ := h
    injection h with h
    subst h
    subst hS21
    show St.le _ _
    exact le_sparse rfl ⟨lR _, lR _, lR _, trivial⟩ ⟨⟨fun hw => hw, fun c hc => (by cases hc), .inr (fun i _ j _ z hz => (noref (rf_oncCell _ _) hz).elim), rfl, rfl, (by subst hGD hLEN hA; exact patch_set hl26 (idx_lt (by rw [← c27]; exact c25)) (by intro j hj; match j, hj with | 0, _ => rfl | 1, _ => rfl | 2, _ => rfl | 3, _ => rfl | (j_ + 4), h_ => exact absurd h_ (by omega)))⟩, trivial⟩ rfl
   ·clear hy17
    subst hS21
    replace h := of_let h
    obtain ⟨w22, hw22, h⟩ := h
    have hw22 : w22 = y16 := hw22
    subst hw22
    cbv
    replace h := of_bind h
    obtain ⟨y28, hy29, h⟩ := h
    obtain ⟨S32, hS33⟩ : ∃ S, S = (sparse 42 [(0, .c (.os 5 0 (LEN a0))), (1, .c (.v (.int .i64 y28.1))), (5, .c (.v (.int .i64 v2)))] [(5, .arr .rw [] (LEN a0) 4 (row GD (oncCell LEN GD) y28.2))]) := ⟨_, rfl⟩
    refine ⟨S32, ?_, ?_⟩
    ·clear h
     have h := hy29
     clear hy29
     cbv
     replace h := of_req h
     obtain ⟨c36, h⟩ := h
     refine ⟨⟨c36, trivial⟩, ?_⟩
     refine And.intro (by first | exact (by subst hA; exact idx_lt c36) | (refine And.intro (by subst hA; exact idx_lt c36) ?_; first | trivial | exact ⟨trivial, trivial⟩)) ?_
     refine ⟨_, rfl, _, (patchC (row GD (oncCell LEN GD) w22) (A.nadd 0 (A.toN v2)) [.v (.string (GD w22 (A.nadd 0 (A.toN v2))).fName), .os 1538 0 (LEN (GD w22 (A.nadd 0 (A.toN v2))).fShapes), .ow (LEN (GD w22 (A.nadd 0 (A.toN v2))).fLabels) 4 (row GD (encLabel) (GD w22 (A.nadd 0 (A.toN v2))).fLabels), .ow (LEN (GD w22 (A.nadd 0 (A.toN v2))).fInstances) 8 (row GD (encInstance) (GD w22 (A.nadd 0 (A.toN v2))).fInstances)]), rfl, wkOf ?_, ?_⟩
     ·refine patch_of ?_
      intro j hj
      match j, hj with | 0, _ => (rfl) | 1, _ => (rfl) | 2, _ => (rfl) | 3, _ => (rfl) | (j_ + 4), h_ => exact absurd h_ (by omega)
     refine ⟨_, row GD (encShape) (GD w22 (A.nadd 0 (A.toN v2))).fShapes, rfl, wkOf ?_, ?_⟩
     ·exact fun i _ j _ => plain_cp (pl_encShape _ _)
     cbv
     replace h := of_bind h
     obtain ⟨y37, hy38, h⟩ := h
     replace h := of_req h
     obtain ⟨c41, h⟩ := h
     refine ⟨{ args := [.c (.os 5 0 (LEN (GD w22 (A.nadd 0 (A.toN v2))).fShapes)), .c (.v (.int .i64 (A.add .i64 v1 1)))], o0 := [(5, .arr .rw [] (LEN (GD w22 (A.nadd 0 (A.toN v2))).fShapes) 5 (row GD (encShape) (GD w22 (A.nadd 0 (A.toN v2))).fShapes))], r := .c (.v (.int .i64 y37.1)), o1 := [(5, .arr .rw [] (LEN y37.2) 5 (row GD (encShape) y37.2))], fl := true, σ := [(5, 1538)], τ := [(5, 1538)] }, hf_laws_markShapeS_mob _ _ _ hy38, ⟨les_cons (lR _) (les_cons (lR _) (les_nil)), ⟨oS, trivial⟩, rfl, rfl, rfl, rfl, ⟨fun _ => ⟨c41.symm, rfl, fun c h => h⟩, trivial⟩, rfl⟩, _, rfl, LEN (GD w22 (A.nadd 0 (A.toN v2))).fShapes, _, c41, fun _ _ _ _ => .refl _, ?_⟩
     cbv
     replace h := of_req h
     obtain ⟨c40, h⟩ := h
     replace h := of_let h
     obtain ⟨l39, hl39, h⟩ := h
     injection h with h
     subst h
     subst hS33
     show St.le _ _
     refine St.le_trans (le_foldP 5 1 1538 rfl rfl rfl (by decide) (by subst hA; exact idx_lt c36) (by decide) rfl (fun _ _ => rf_oncCell _ _)) ?_
     exact le_sparse rfl ⟨lR _, lR _, lR _, trivial⟩ ⟨⟨fun hw => hw, fun c hc => (by cases hc), .inr (fun i _ j _ z hz => (noref (rf_oncCell _ _) hz).elim), rfl, rfl, (by subst hGD hLEN hA; exact patch_set hl39 (idx_lt (by rw [← c40]; exact c36)) (by intro j hj; match j, hj with | 0, _ => rfl | 1, _ => exact (by first | rfl | exact congrArg (fun n => AC.ow n _ _) (Eq.symm (by assumption))) | 2, _ => rfl | 3, _ => rfl | (j_ + 4), h_ => exact absurd h_ (by omega)))⟩, trivial⟩ rfl
    ·clear hy29
     subst hS33
     obtain ⟨y28_0, y28_1⟩ := y28
     replace h := of_let h
     obtain ⟨w34, hw34, h⟩ := h
     have hw34 : w34 = y28_0 := hw34
     subst hw34
     replace h := of_let h
     obtain ⟨w35, hw35, h⟩ := h
     have hw35 : w35 = y28_1 := hw35
     subst hw35
     cbv
     replace h := of_bind h
     obtain ⟨y42, hy43, h⟩ := h
     obtain ⟨S46, hS47⟩ : ∃ S, S = (sparse 42 [(0, .c (.os 5 0 (LEN a0))), (1, .c (.v (.int .i64 y42.1))), (5, .c (.v (.int .i64 v2)))] [(5, .arr .rw [] (LEN a0) 4 (row GD (oncCell LEN GD) y42.2))]) := ⟨_, rfl⟩
     refine ⟨S46, ?_, ?_⟩
     ·clear h
      have h := hy43
      clear hy43
      cbv
      replace h := of_req h
      obtain ⟨c50, h⟩ := h
      refine ⟨⟨c50, trivial⟩, ?_⟩
      refine And.intro (by first | exact (by subst hA; exact idx_lt c50) | (refine And.intro (by subst hA; exact idx_lt c50) ?_; first | trivial | exact ⟨trivial, trivial⟩)) ?_
      refine ⟨_, rfl, _, (patchC (row GD (oncCell LEN GD) w35) (A.nadd 0 (A.toN v2)) [.v (.string (GD w35 (A.nadd 0 (A.toN v2))).fName), .ow (LEN (GD w35 (A.nadd 0 (A.toN v2))).fShapes) 5 (row GD (encShape) (GD w35 (A.nadd 0 (A.toN v2))).fShapes), .os 1986 0 (LEN (GD w35 (A.nadd 0 (A.toN v2))).fLabels), .ow (LEN (GD w35 (A.nadd 0 (A.toN v2))).fInstances) 8 (row GD (encInstance) (GD w35 (A.nadd 0 (A.toN v2))).fInstances)]), rfl, wkOf ?_, ?_⟩
      ·refine patch_of ?_
       intro j hj
       match j, hj with | 0, _ => (rfl) | 1, _ => (rfl) | 2, _ => (rfl) | 3, _ => (rfl) | (j_ + 4), h_ => exact absurd h_ (by omega)
      refine ⟨_, row GD (encLabel) (GD w35 (A.nadd 0 (A.toN v2))).fLabels, rfl, wkOf ?_, ?_⟩
      ·exact fun i _ j _ => plain_cp (pl_encLabel _ _)
      cbv
      replace h := of_bind h
      obtain ⟨y51, hy52, h⟩ := h
      replace h := of_req h
      obtain ⟨c55, h⟩ := h
      refine ⟨{ args := [.c (.os 5 0 (LEN (GD w35 (A.nadd 0 (A.toN v2))).fLabels)), .c (.v (.int .i64 w34))], o0 := [(5, .arr .rw [] (LEN (GD w35 (A.nadd 0 (A.toN v2))).fLabels) 4 (row GD (encLabel) (GD w35 (A.nadd 0 (A.toN v2))).fLabels))], r := .c (.v (.int .i64 y51.1)), o1 := [(5, .arr .rw [] (LEN y51.2) 4 (row GD (encLabel) y51.2))], fl := true, σ := [(5, 1986)], τ := [(5, 1986)] }, hf_laws_markLabelS_mob _ _ _ hy52, ⟨les_cons (lR _) (les_cons (lR _) (les_nil)), ⟨oS, trivial⟩, rfl, rfl, rfl, rfl, ⟨fun _ => ⟨c55.symm, rfl, fun c h => h⟩, trivial⟩, rfl⟩, _, rfl, LEN (GD w35 (A.nadd 0 (A.toN v2))).fLabels, _, c55, fun _ _ _ _ => .refl _, ?_⟩
      cbv
      replace h := of_req h
      obtain ⟨c54, h⟩ := h
      replace h := of_let h
      obtain ⟨l53, hl53, h⟩ := h
      injection h with h
      subst h
      subst hS47
      show St.le _ _
      refine St.le_trans (le_foldP 5 2 1986 rfl rfl rfl (by decide) (by subst hA; exact idx_lt c50) (by decide) rfl (fun _ _ => rf_oncCell _ _)) ?_
      exact le_sparse rfl ⟨lR _, lR _, lR _, trivial⟩ ⟨⟨fun hw => hw, fun c hc => (by cases hc), .inr (fun i _ j _ z hz => (noref (rf_oncCell _ _) hz).elim), rfl, rfl, (by subst hGD hLEN hA; exact patch_set hl53 (idx_lt (by rw [← c54]; exact c50)) (by intro j hj; match j, hj with | 0, _ => rfl | 1, _ => rfl | 2, _ => exact (by first | rfl | exact congrArg (fun n => AC.ow n _ _) (Eq.symm (by assumption))) | 3, _ => rfl | (j_ + 4), h_ => exact absurd h_ (by omega)))⟩, trivial⟩ rfl
     ·clear hy43
      subst hS47
      obtain ⟨y42_0, y42_1⟩ := y42
      replace h := of_let h
      obtain ⟨w48, hw48, h⟩ := h
      have hw48 : w48 = y42_0 := hw48
      subst hw48
      replace h := of_let h
      obtain ⟨w49, hw49, h⟩ := h
      have hw49 : w49 = y42_1 := hw49
      subst hw49
      cbv
      replace h := of_bind h
      obtain ⟨y56, hy57, h⟩ := h
      obtain ⟨S60, hS61⟩ : ∃ S, S = (sparse 42 [(0, .c (.os 5 0 (LEN a0))), (1, .c (.v (.int .i64 y56.1))), (5, .c (.v (.int .i64 v2)))] [(5, .arr .rw [] (LEN a0) 4 (row GD (oncCell LEN GD) y56.2))]) := ⟨_, rfl⟩
      refine ⟨S60, ?_, ?_⟩
      ·clear h
       have h := hy57
       clear hy57
       cbv
       replace h := of_req h
       obtain ⟨c64, h⟩ := h
       refine ⟨⟨c64, trivial⟩, ?_⟩
       refine And.intro (by first | exact (by subst hA; exact idx_lt c64) | (refine And.intro (by subst hA; exact idx_lt c64) ?_; first | trivial | exact ⟨trivial, trivial⟩)) ?_
       refine ⟨_, rfl, _, (patchC (row GD (oncCell LEN GD) w49) (A.nadd 0 (A.toN v2)) [.v (.string (GD w49 (A.nadd 0 (A.toN v2))).fName), .ow (LEN (GD w49 (A.nadd 0 (A.toN v2))).fShapes) 5 (row GD (encShape) (GD w49 (A.nadd 0 (A.toN v2))).fShapes), .ow (LEN (GD w49 (A.nadd 0 (A.toN v2))).fLabels) 4 (row GD (encLabel) (GD w49 (A.nadd 0 (A.toN v2))).fLabels), .os 2434 0 (LEN (GD w49 (A.nadd 0 (A.toN v2))).fInstances)]), rfl, wkOf ?_, ?_⟩
       ·refine patch_of ?_
        intro j hj
        match j, hj with | 0, _ => (rfl) | 1, _ => (rfl) | 2, _ => (rfl) | 3, _ => (rfl) | (j_ + 4), h_ => exact absurd h_ (by omega)
       refine ⟨_, row GD (encInstance) (GD w49 (A.nadd 0 (A.toN v2))).fInstances, rfl, wkOf ?_, ?_⟩
       ·exact fun i _ j _ => plain_cp (pl_encInstance _ _)
       cbv
       replace h := of_bind h
       obtain ⟨y65, hy66, h⟩ := h
       replace h := of_req h
       obtain ⟨c69, h⟩ := h
       refine ⟨{ args := [.c (.os 5 0 (LEN (GD w49 (A.nadd 0 (A.toN v2))).fInstances)), .c (.v (.int .i64 w48))], o0 := [(5, .arr .rw [] (LEN (GD w49 (A.nadd 0 (A.toN v2))).fInstances) 8 (row GD (encInstance) (GD w49 (A.nadd 0 (A.toN v2))).fInstances))], r := .c (.v (.int .i64 y65.1)), o1 := [(5, .arr .rw [] (LEN y65.2) 8 (row GD (encInstance) y65.2))], fl := true, σ := [(5, 2434)], τ := [(5, 2434)] }, hf_laws_markInstanceS_mob _ _ _ hy66, ⟨les_cons (lR _) (les_cons (lR _) (les_nil)), ⟨oS, trivial⟩, rfl, rfl, rfl, rfl, ⟨fun _ => ⟨c69.symm, rfl, fun c h => h⟩, trivial⟩, rfl⟩, _, rfl, LEN (GD w49 (A.nadd 0 (A.toN v2))).fInstances, _, c69, fun _ _ _ _ => .refl _, ?_⟩
       cbv
       replace h := of_req h
       obtain ⟨c68, h⟩ := h
       replace h := of_let h
       obtain ⟨l67, hl67, h⟩ := h
       injection h with h
       subst h
       subst hS61
       show St.le _ _
       refine St.le_trans (le_foldP 5 3 2434 rfl rfl rfl (by decide) (by subst hA; exact idx_lt c64) (by decide) rfl (fun _ _ => rf_oncCell _ _)) ?_
       exact le_sparse rfl ⟨lR _, lR _, lR _, trivial⟩ ⟨⟨fun hw => hw, fun c hc => (by cases hc), .inr (fun i _ j _ z hz => (noref (rf_oncCell _ _) hz).elim), rfl, rfl, (by subst hGD hLEN hA; exact patch_set hl67 (idx_lt (by rw [← c68]; exact c64)) (by intro j hj; match j, hj with | 0, _ => rfl | 1, _ => rfl | 2, _ => rfl | 3, _ => exact (by first | rfl | exact congrArg (fun n => AC.ow n _ _) (Eq.symm (by assumption))) | (j_ + 4), h_ => exact absurd h_ (by omega)))⟩, trivial⟩ rfl
      ·clear hy57
       subst hS61
       obtain ⟨y56_0, y56_1⟩ := y56
       replace h := of_let h
       obtain ⟨w62, hw62, h⟩ := h
       have hw62 : w62 = y56_0 := hw62
       subst hw62
       replace h := of_let h
       obtain ⟨w63, hw63, h⟩ := h
       have hw63 : w63 = y56_1 := hw63
       subst hw63
       cbv
       injection h with h
       refine hK10 _ h.symm _ ?_
       exact le_sparse rfl ⟨lR _, lR _, lR _, trivial⟩ ⟨oS, trivial⟩ rfl
  ·replace h := of_br_f b70 h
   cbv
   injection h with h
   refine hY8 _ h.symm _ _ (And.intro rfl ?_) (by intro hh; cases hh)
   exact le_sparse rfl ⟨lR _, trivial⟩ ⟨oS, trivial⟩ rfl
 ·clear hr6
  have h := hN7
  clear hN7
  intro e14 s15 q13 hne
  replace h := of_let h
  obtain ⟨y5k0, hyk, h⟩ := h
  have hyk : y5k0 = y5 := hyk
  subst hyk
  obtain ⟨rfl, q13⟩ := q13
  obtain ⟨y5k0_0, y5k0_1⟩ := y5k0
  replace h := of_let h
  obtain ⟨w71, hw71, h⟩ := h
  have hw71 : w71 = y5k0_0 := hw71
  subst hw71
  replace h := of_let h
  obtain ⟨w72, hw72, h⟩ := h
  have hw72 : w72 = y5k0_1 := hw72
  subst hw72
  cbv
  refine ⟨_, q13, ?_⟩
  cbv
  replace h := of_req h
  obtain ⟨c73, h⟩ := h
  injection h with h
  subst h
  refine ⟨(sparse 42 [(4, .c (.v (.int .i64 w71)))] [(5, .arr .rw [] (LEN w72) 4 (row GD (oncCell LEN GD) w72))]), ?_, ?_⟩
  ·rw [c73]
   exact le_sparse rfl ⟨lR _, trivial⟩ ⟨oS, trivial⟩ rfl
  ·exact ⟨lR _, ⟨oS, trivial⟩, rfl⟩

/-- laws.markLibrary -/
noncomputable def F_laws_markLibrary_mob (a0 : TLibrary) (a1 : Int) : Option (Int × (List TCell)) :=
 (F_laws_markCellS_mob a0.fCells a1).bind fun y1 =>
 req (len y1.2 = len a0.fCells) <|
 req (len a0.fCells = len y1.2) <|
 some (y1.1, y1.2)
set_option maxHeartbeats 4000000 in
theorem run_laws_markLibrary_mob (a0 : TLibrary) (a1 : Int) (r : Int × (List TCell)) (h : F_laws_markLibrary_mob a0 a1 = some r) : Fun Try.prog 48 [.agg [.os 5 0 (len a0.fCells)], .c (.v (.int .i64 a1))] [(5, .arr .rw [] (len a0.fCells) 4 (row gd (oncCell len gd) a0.fCells))] (.c (.v (.int .i64 r.1))) [(5, .arr .rw [] (len r.2) 4 (row gd (oncCell len gd) r.2))] true := by
 refine Fun.of_wp (oneOf []) tok mixed Try.func48 (by kernel_rfl) rfl Try.ntmps48 rfl ⟨fun i _ j _ k hk => (noref (rf_oncCell _ _) hk).elim, trivial⟩ (fun _ => ⟨trivial, ⟨fun i _ j _ => fl_oncCell _ _, trivial⟩⟩) ?_
 unfold F_laws_markLibrary_mob at h
 have hf_laws_markCellS_mob := @run_laws_markCellS_mob
 generalize hLEN : @len = LEN at *
 generalize hGD : @gd = GD at *
 generalize hA : std = A at *
 generalize hP : Try.prog = P at *
 cbv
 replace h := of_bind h
 obtain ⟨y1, hy2, h⟩ := h
 replace h := of_req h
 obtain ⟨c4, h⟩ := h
 refine ⟨{ args := [.c (.os 5 0 (LEN a0.fCells)), .c (.v (.int .i64 a1))], o0 := [(5, .arr .rw [] (LEN a0.fCells) 4 (row GD (oncCell LEN GD) a0.fCells))], r := .c (.v (.int .i64 y1.1)), o1 := [(5, .arr .rw [] (LEN y1.2) 4 (row GD (oncCell LEN GD) y1.2))], fl := true, σ := [(5, 5)], τ := [(5, 5)] }, hf_laws_markCellS_mob _ _ _ hy2, ⟨les_cons (lR _) (les_cons (lR _) (les_nil)), ⟨oS, trivial⟩, rfl, rfl, rfl, rfl, ⟨fun _ => ⟨c4.symm, rfl, fun c h => h⟩, trivial⟩, rfl⟩, _, rfl, LEN a0.fCells, _, c4, fun _ _ _ _ => .refl _, ?_⟩
 cbv
 replace h := of_req h
 obtain ⟨c3, h⟩ := h
 injection h with h
 subst h
 refine ⟨(sparse 10 [(4, .c (.v (.int .i64 y1.1)))] [(5, .arr .rw [] (LEN y1.2) 4 (row GD (oncCell LEN GD) y1.2))]), ?_, ?_⟩
 ·rw [c3]
  exact le_sparse rfl ⟨lR _, trivial⟩ ⟨oS, trivial⟩ rfl
 ·exact ⟨lR _, ⟨oS, trivial⟩, rfl⟩

noncomputable def L_laws_heldShapeS_x3 (a0 : List TShape) : (Int × Int) → Option ((Int × Int) ⊕ ((Int) ⊕ (Int))) := fun x3 =>
 letO x3.1 fun v1 =>
 letO x3.2 fun v2 =>
 br (std.lt v2 (std.ofN (len a0)))
 (req (std.inR v2 (len a0)) <|
 br (std.not (std.eq (gd a0 (std.toN v2)).fLayer v1))
 (some (.inr (.inl (-1))))
 (req (std.inR v2 (len a0)) <|
 br (std.not (std.eq (gd a0 (std.toN v2)).fBox.fX0 (std.add .i64 v1 1)))
 (some (.inr (.inl (-1))))
 (req (std.inR v2 (len a0)) <|
 br (std.not (std.eq (gd a0 (std.toN v2)).fBox.fY0 (std.add .i64 (std.add .i64 v1 1) 1)))
 (some (.inr (.inl (-1))))
 (req (std.inR v2 (len a0)) <|
 br (std.not (std.eq (gd a0 (std.toN v2)).fBox.fX1 (std.add .i64 (std.add .i64 (std.add .i64 v1 1) 1) 1)))
 (some (.inr (.inl (-1))))
 (req (std.inR v2 (len a0)) <|
 br (std.not (std.eq (gd a0 (std.toN v2)).fBox.fY1 (std.add .i64 (std.add .i64 (std.add .i64 (std.add .i64 v1 1) 1) 1) 1)))
 (some (.inr (.inl (-1))))
 (some (.inl (std.add .i64 (std.add .i64 (std.add .i64 (std.add .i64 (std.add .i64 v1 1) 1) 1) 1) 1, std.add .i64 v2 1))))))))
 (some (.inr (.inr v1)))
/-- laws.heldShapeS -/
noncomputable def F_laws_heldShapeS (a0 : List TShape) (a1 : Int) : Option (Int) :=
 (whileP (σ := Int × Int) (ρ := (Int) ⊕ (Int)) (L_laws_heldShapeS_x3 a0) (a1, 0)).bind fun y4 =>
 (match y4 with
  | .inl y4k0 => (
    letO y4k0 fun w26 =>
    some w26)
  | .inr y4m0 =>
    letO y4m0 fun y4k1 =>
    letO y4k1 fun w27 =>
    some w27)
set_option maxHeartbeats 4000000 in
theorem run_laws_heldShapeS (a0 : List TShape) (a1 : Int) (r : Int) (h : F_laws_heldShapeS a0 a1 = some r) : Fun Try.prog 170 [.c (.bs (len a0) 5 (row gd (encShape) a0)), .c (.v (.int .i64 a1))] [] (.c (.v (.int .i64 r))) [] true := by
 refine Fun.of_wp (oneOf []) tok mixed Try.func170 (by kernel_rfl) rfl Try.ntmps170 rfl trivial (fun _ => ⟨trivial, trivial⟩) ?_
 unfold F_laws_heldShapeS at h
 unfold L_laws_heldShapeS_x3 at h
 generalize hLEN : @len = LEN at *
 generalize hGD : @gd = GD at *
 generalize hA : std = A at *
 generalize hP : Try.prog = P at *
 cbv
 replace h := of_bind h
 obtain ⟨y4, hr5, hN6⟩ := h
 refine loop_cut hr5 (fun x => (sparse 62 [(0, .c (.bs (LEN a0) 5 (row GD (encShape) a0))), (1, .c (.v (.int .i64 x.1))), (5, .c (.v (.int .i64 x.2)))] [])) ?_ (fun y e s => (match y with | .inl w => e = .ret ∧ s.le (sparse 62 [(4, .c (.v (.int .i64 w)))] []) | .inr w0 => (fun (w : Int) => e = .exit 0 ∧ s.le (sparse 62 [(1, .c (.v (.int .i64 w)))] [])) w0)) ?_ ?_
 ·clear hr5 hN6
  show St.le _ _
  exact le_sparse rfl ⟨lR _, lR _, lR _, trivial⟩ trivial rfl
 ·clear hr5 hN6
  intro x z10 h K8 hK9 hY7
  obtain ⟨x0_, x1_⟩ := x
  replace h := of_let h
  obtain ⟨v1, hv1, h⟩ := h
  have hv1 : v1 = x0_ := hv1
  subst hv1
  replace h := of_let h
  obtain ⟨v2, hv2, h⟩ := h
  have hv2 : v2 = x1_ := hv2
  subst hv2
  cbv
  refine fork (fun b25 => ?_) (fun b25 => ?_)
  ·replace h := of_br_t b25 h
   cbv
   replace h := of_req h
   obtain ⟨c15, h⟩ := h
   refine ⟨⟨c15, trivial⟩, ?_⟩
   refine fork (fun b24 => ?_) (fun b24 => ?_)
   ·replace h := of_br_t b24 h
    cbv
    injection h with h
    refine hY7 _ h.symm _ _ (And.intro rfl ?_) (by intro hh; cases hh)
    exact le_sparse rfl ⟨lR _, trivial⟩ trivial rfl
   ·replace h := of_br_f b24 h
    cbv
    replace h := of_req h
    obtain ⟨c16, h⟩ := h
    refine ⟨⟨c16, trivial⟩, ?_⟩
    refine fork (fun b23 => ?_) (fun b23 => ?_)
    ·replace h := of_br_t b23 h
     cbv
     injection h with h
     refine hY7 _ h.symm _ _ (And.intro rfl ?_) (by intro hh; cases hh)
     exact le_sparse rfl ⟨lR _, trivial⟩ trivial rfl
    ·replace h := of_br_f b23 h
     cbv
     replace h := of_req h
     obtain ⟨c17, h⟩ := h
     refine ⟨⟨c17, trivial⟩, ?_⟩
     refine fork (fun b22 => ?_) (fun b22 => ?_)
     ·replace h := of_br_t b22 h
      cbv
      injection h with h
      refine hY7 _ h.symm _ _ (And.intro rfl ?_) (by intro hh; cases hh)
      exact le_sparse rfl ⟨lR _, trivial⟩ trivial rfl
     ·replace h := of_br_f b22 h
      cbv
      replace h := of_req h
      obtain ⟨c18, h⟩ := h
      refine ⟨⟨c18, trivial⟩, ?_⟩
      refine fork (fun b21 => ?_) (fun b21 => ?_)
      ·replace h := of_br_t b21 h
       cbv
       injection h with h
       refine hY7 _ h.symm _ _ (And.intro rfl ?_) (by intro hh; cases hh)
       exact le_sparse rfl ⟨lR _, trivial⟩ trivial rfl
      ·replace h := of_br_f b21 h
       cbv
       replace h := of_req h
       obtain ⟨c19, h⟩ := h
       refine ⟨⟨c19, trivial⟩, ?_⟩
       refine fork (fun b20 => ?_) (fun b20 => ?_)
       ·replace h := of_br_t b20 h
        cbv
        injection h with h
        refine hY7 _ h.symm _ _ (And.intro rfl ?_) (by intro hh; cases hh)
        exact le_sparse rfl ⟨lR _, trivial⟩ trivial rfl
       ·replace h := of_br_f b20 h
        cbv
        injection h with h
        refine hK9 _ h.symm _ ?_
        exact le_sparse rfl ⟨lR _, lR _, lR _, trivial⟩ trivial rfl
  ·replace h := of_br_f b25 h
   cbv
   injection h with h
   refine hY7 _ h.symm _ _ (And.intro rfl ?_) (by intro hh; cases hh)
   exact le_sparse rfl ⟨lR _, trivial⟩ trivial rfl
 ·clear hr5
  have h := hN6
  clear hN6
  intro e13 s14 q12 hne
  rcases y4 with y4k0 | y4m0
  ·replace h := h
   obtain ⟨rfl, q12⟩ := q12
   replace h := of_let h
   obtain ⟨w26, hw26, h⟩ := h
   have hw26 : w26 = y4k0 := hw26
   subst hw26
   cbv
   injection h with h
   subst h
   refine ⟨(sparse 62 [(4, .c (.v (.int .i64 w26)))] []), ?_, ?_⟩
   ·refine St.le_trans q12 ?_
    exact le_sparse rfl ⟨lR _, trivial⟩ trivial rfl
   ·exact ⟨lR _, trivial, rfl⟩
  ·replace h := of_let h
   obtain ⟨y4k1, hyk, h⟩ := h
   have hyk : y4k1 = y4m0 := hyk
   subst hyk
   obtain ⟨rfl, q12⟩ := q12
   replace h := of_let h
   obtain ⟨w27, hw27, h⟩ := h
   have hw27 : w27 = y4k1 := hw27
   subst hw27
   cbv
   refine ⟨_, q12, ?_⟩
   cbv
   injection h with h
   subst h
   refine ⟨(sparse 62 [(4, .c (.v (.int .i64 w27)))] []), ?_, ?_⟩
   ·exact le_sparse rfl ⟨lR _, trivial⟩ trivial rfl
   ·exact ⟨lR _, trivial, rfl⟩

noncomputable def L_laws_heldLabelS_x3 (a0 : List TLabel) : (Int × Int) → Option ((Int × Int) ⊕ ((Int) ⊕ (Int))) := fun x3 =>
 letO x3.1 fun v1 =>
 letO x3.2 fun v2 =>
 br (std.lt v2 (std.ofN (len a0)))
 (req (std.inR v2 (len a0)) <|
 br (std.not (std.eq (gd a0 (std.toN v2)).fLayer v1))
 (some (.inr (.inl (-1))))
 (req (std.inR v2 (len a0)) <|
 br (std.not (std.eq (gd a0 (std.toN v2)).fAt.fX (std.add .i64 v1 1)))
 (some (.inr (.inl (-1))))
 (req (std.inR v2 (len a0)) <|
 br (std.not (std.eq (gd a0 (std.toN v2)).fAt.fY (std.add .i64 (std.add .i64 v1 1) 1)))
 (some (.inr (.inl (-1))))
 (req (std.inR v2 (len a0)) <|
 (F_laws_markText (std.add .i64 (std.add .i64 (std.add .i64 v1 1) 1) 1)).bind fun y19 =>
 br (std.not (std.seq (gd a0 (std.toN v2)).fName y19))
 (some (.inr (.inl (-1))))
 (some (.inl (std.add .i64 (std.add .i64 (std.add .i64 (std.add .i64 v1 1) 1) 1) 1, std.add .i64 v2 1)))))))
 (some (.inr (.inr v1)))
/-- laws.heldLabelS -/
noncomputable def F_laws_heldLabelS (a0 : List TLabel) (a1 : Int) : Option (Int) :=
 (whileP (σ := Int × Int) (ρ := (Int) ⊕ (Int)) (L_laws_heldLabelS_x3 a0) (a1, 0)).bind fun y4 =>
 (match y4 with
  | .inl y4k0 => (
    letO y4k0 fun w26 =>
    some w26)
  | .inr y4m0 =>
    letO y4m0 fun y4k1 =>
    letO y4k1 fun w27 =>
    some w27)
set_option maxHeartbeats 4000000 in
theorem run_laws_heldLabelS (a0 : List TLabel) (a1 : Int) (r : Int) (h : F_laws_heldLabelS a0 a1 = some r) : Fun Try.prog 171 [.c (.bs (len a0) 4 (row gd (encLabel) a0)), .c (.v (.int .i64 a1))] [] (.c (.v (.int .i64 r))) [] true := by
 refine Fun.of_wp (oneOf []) tok mixed Try.func171 (by kernel_rfl) rfl Try.ntmps171 rfl trivial (fun _ => ⟨trivial, trivial⟩) ?_
 unfold F_laws_heldLabelS at h
 unfold L_laws_heldLabelS_x3 at h
 have hf_laws_markText := @run_laws_markText
 generalize hLEN : @len = LEN at *
 generalize hGD : @gd = GD at *
 generalize hA : std = A at *
 generalize hP : Try.prog = P at *
 cbv
 replace h := of_bind h
 obtain ⟨y4, hr5, hN6⟩ := h
 refine loop_cut hr5 (fun x => (sparse 52 [(0, .c (.bs (LEN a0) 4 (row GD (encLabel) a0))), (1, .c (.v (.int .i64 x.1))), (5, .c (.v (.int .i64 x.2)))] [])) ?_ (fun y e s => (match y with | .inl w => e = .ret ∧ s.le (sparse 52 [(4, .c (.v (.int .i64 w)))] []) | .inr w0 => (fun (w : Int) => e = .exit 0 ∧ s.le (sparse 52 [(1, .c (.v (.int .i64 w)))] [])) w0)) ?_ ?_
 ·clear hr5 hN6
  show St.le _ _
  exact le_sparse rfl ⟨lR _, lR _, lR _, trivial⟩ trivial rfl
 ·clear hr5 hN6
  intro x z10 h K8 hK9 hY7
  obtain ⟨x0_, x1_⟩ := x
  replace h := of_let h
  obtain ⟨v1, hv1, h⟩ := h
  have hv1 : v1 = x0_ := hv1
  subst hv1
  replace h := of_let h
  obtain ⟨v2, hv2, h⟩ := h
  have hv2 : v2 = x1_ := hv2
  subst hv2
  cbv
  refine fork (fun b25 => ?_) (fun b25 => ?_)
  ·replace h := of_br_t b25 h
   cbv
   replace h := of_req h
   obtain ⟨c15, h⟩ := h
   refine ⟨⟨c15, trivial⟩, ?_⟩
   refine fork (fun b24 => ?_) (fun b24 => ?_)
   ·replace h := of_br_t b24 h
    cbv
    injection h with h
    refine hY7 _ h.symm _ _ (And.intro rfl ?_) (by intro hh; cases hh)
    exact le_sparse rfl ⟨lR _, trivial⟩ trivial rfl
   ·replace h := of_br_f b24 h
    cbv
    replace h := of_req h
    obtain ⟨c16, h⟩ := h
    refine ⟨⟨c16, trivial⟩, ?_⟩
    refine fork (fun b23 => ?_) (fun b23 => ?_)
    ·replace h := of_br_t b23 h
     cbv
     injection h with h
     refine hY7 _ h.symm _ _ (And.intro rfl ?_) (by intro hh; cases hh)
     exact le_sparse rfl ⟨lR _, trivial⟩ trivial rfl
    ·replace h := of_br_f b23 h
     cbv
     replace h := of_req h
     obtain ⟨c17, h⟩ := h
     refine ⟨⟨c17, trivial⟩, ?_⟩
     refine fork (fun b22 => ?_) (fun b22 => ?_)
     ·replace h := of_br_t b22 h
      cbv
      injection h with h
      refine hY7 _ h.symm _ _ (And.intro rfl ?_) (by intro hh; cases hh)
      exact le_sparse rfl ⟨lR _, trivial⟩ trivial rfl
     ·replace h := of_br_f b22 h
      cbv
      replace h := of_req h
      obtain ⟨c18, h⟩ := h
      refine ⟨⟨c18, trivial⟩, ?_⟩
      replace h := of_bind h
      obtain ⟨y19, hy20, h⟩ := h
      refine ⟨{ args := [.c (.v (.int .i64 (A.add .i64 (A.add .i64 (A.add .i64 v1 1) 1) 1)))], o0 := [], r := .c (.v (.string y19)), o1 := [], fl := true, σ := [], τ := [] }, hf_laws_markText _ _ hy20, ⟨les_cons (lR _) (les_nil), trivial, rfl, rfl, rfl, rfl, trivial, rfl⟩, ?_⟩
      cbv
      refine fork (fun b21 => ?_) (fun b21 => ?_)
      ·replace h := of_br_t b21 h
       cbv
       injection h with h
       refine hY7 _ h.symm _ _ (And.intro rfl ?_) (by intro hh; cases hh)
       exact le_sparse rfl ⟨lR _, trivial⟩ trivial rfl
      ·replace h := of_br_f b21 h
       cbv
       injection h with h
       refine hK9 _ h.symm _ ?_
       exact le_sparse rfl ⟨lR _, lR _, lR _, trivial⟩ trivial rfl
  ·replace h := of_br_f b25 h
   cbv
   injection h with h
   refine hY7 _ h.symm _ _ (And.intro rfl ?_) (by intro hh; cases hh)
   exact le_sparse rfl ⟨lR _, trivial⟩ trivial rfl
 ·clear hr5
  have h := hN6
  clear hN6
  intro e13 s14 q12 hne
  rcases y4 with y4k0 | y4m0
  ·replace h := h
   obtain ⟨rfl, q12⟩ := q12
   replace h := of_let h
   obtain ⟨w26, hw26, h⟩ := h
   have hw26 : w26 = y4k0 := hw26
   subst hw26
   cbv
   injection h with h
   subst h
   refine ⟨(sparse 52 [(4, .c (.v (.int .i64 w26)))] []), ?_, ?_⟩
   ·refine St.le_trans q12 ?_
    exact le_sparse rfl ⟨lR _, trivial⟩ trivial rfl
   ·exact ⟨lR _, trivial, rfl⟩
  ·replace h := of_let h
   obtain ⟨y4k1, hyk, h⟩ := h
   have hyk : y4k1 = y4m0 := hyk
   subst hyk
   obtain ⟨rfl, q12⟩ := q12
   replace h := of_let h
   obtain ⟨w27, hw27, h⟩ := h
   have hw27 : w27 = y4k1 := hw27
   subst hw27
   cbv
   refine ⟨_, q12, ?_⟩
   cbv
   injection h with h
   subst h
   refine ⟨(sparse 52 [(4, .c (.v (.int .i64 w27)))] []), ?_, ?_⟩
   ·exact le_sparse rfl ⟨lR _, trivial⟩ trivial rfl
   ·exact ⟨lR _, trivial, rfl⟩

noncomputable def L_laws_heldInstanceS_x3 (a0 : List TInstance) : (Int × Int) → Option ((Int × Int) ⊕ ((Int) ⊕ (Int))) := fun x3 =>
 letO x3.1 fun v1 =>
 letO x3.2 fun v2 =>
 br (std.lt v2 (std.ofN (len a0)))
 (req (std.inR v2 (len a0)) <|
 br (std.not (std.eq (gd a0 (std.toN v2)).fCell v1))
 (some (.inr (.inl (-1))))
 (req (std.inR v2 (len a0)) <|
 br (std.not (std.eq (gd a0 (std.toN v2)).fPlace.fOrientation (std.add .i64 v1 1)))
 (some (.inr (.inl (-1))))
 (req (std.inR v2 (len a0)) <|
 br (std.not (std.eq (gd a0 (std.toN v2)).fPlace.fX (std.add .i64 (std.add .i64 v1 1) 1)))
 (some (.inr (.inl (-1))))
 (req (std.inR v2 (len a0)) <|
 br (std.not (std.eq (gd a0 (std.toN v2)).fPlace.fY (std.add .i64 (std.add .i64 (std.add .i64 v1 1) 1) 1)))
 (some (.inr (.inl (-1))))
 (req (std.inR v2 (len a0)) <|
 br (std.not (std.eq (gd a0 (std.toN v2)).fColumns (std.add .i64 (std.add .i64 (std.add .i64 (std.add .i64 v1 1) 1) 1) 1)))
 (some (.inr (.inl (-1))))
 (req (std.inR v2 (len a0)) <|
 br (std.not (std.eq (gd a0 (std.toN v2)).fRows (std.add .i64 (std.add .i64 (std.add .i64 (std.add .i64 (std.add .i64 v1 1) 1) 1) 1) 1)))
 (some (.inr (.inl (-1))))
 (req (std.inR v2 (len a0)) <|
 br (std.not (std.eq (gd a0 (std.toN v2)).fStepX (std.add .i64 (std.add .i64 (std.add .i64 (std.add .i64 (std.add .i64 (std.add .i64 v1 1) 1) 1) 1) 1) 1)))
 (some (.inr (.inl (-1))))
 (req (std.inR v2 (len a0)) <|
 br (std.not (std.eq (gd a0 (std.toN v2)).fStepY (std.add .i64 (std.add .i64 (std.add .i64 (std.add .i64 (std.add .i64 (std.add .i64 (std.add .i64 v1 1) 1) 1) 1) 1) 1) 1)))
 (some (.inr (.inl (-1))))
 (some (.inl (std.add .i64 (std.add .i64 (std.add .i64 (std.add .i64 (std.add .i64 (std.add .i64 (std.add .i64 (std.add .i64 v1 1) 1) 1) 1) 1) 1) 1) 1, std.add .i64 v2 1)))))))))))
 (some (.inr (.inr v1)))
/-- laws.heldInstanceS -/
noncomputable def F_laws_heldInstanceS (a0 : List TInstance) (a1 : Int) : Option (Int) :=
 (whileP (σ := Int × Int) (ρ := (Int) ⊕ (Int)) (L_laws_heldInstanceS_x3 a0) (a1, 0)).bind fun y4 =>
 (match y4 with
  | .inl y4k0 => (
    letO y4k0 fun w32 =>
    some w32)
  | .inr y4m0 =>
    letO y4m0 fun y4k1 =>
    letO y4k1 fun w33 =>
    some w33)
set_option maxHeartbeats 4000000 in
theorem run_laws_heldInstanceS (a0 : List TInstance) (a1 : Int) (r : Int) (h : F_laws_heldInstanceS a0 a1 = some r) : Fun Try.prog 172 [.c (.bs (len a0) 8 (row gd (encInstance) a0)), .c (.v (.int .i64 a1))] [] (.c (.v (.int .i64 r))) [] true := by
 refine Fun.of_wp (oneOf []) tok mixed Try.func172 (by kernel_rfl) rfl Try.ntmps172 rfl trivial (fun _ => ⟨trivial, trivial⟩) ?_
 unfold F_laws_heldInstanceS at h
 unfold L_laws_heldInstanceS_x3 at h
 generalize hLEN : @len = LEN at *
 generalize hGD : @gd = GD at *
 generalize hA : std = A at *
 generalize hP : Try.prog = P at *
 cbv
 replace h := of_bind h
 obtain ⟨y4, hr5, hN6⟩ := h
 refine loop_cut hr5 (fun x => (sparse 88 [(0, .c (.bs (LEN a0) 8 (row GD (encInstance) a0))), (1, .c (.v (.int .i64 x.1))), (5, .c (.v (.int .i64 x.2)))] [])) ?_ (fun y e s => (match y with | .inl w => e = .ret ∧ s.le (sparse 88 [(4, .c (.v (.int .i64 w)))] []) | .inr w0 => (fun (w : Int) => e = .exit 0 ∧ s.le (sparse 88 [(1, .c (.v (.int .i64 w)))] [])) w0)) ?_ ?_
 ·clear hr5 hN6
  show St.le _ _
  exact le_sparse rfl ⟨lR _, lR _, lR _, trivial⟩ trivial rfl
 ·clear hr5 hN6
  intro x z10 h K8 hK9 hY7
  obtain ⟨x0_, x1_⟩ := x
  replace h := of_let h
  obtain ⟨v1, hv1, h⟩ := h
  have hv1 : v1 = x0_ := hv1
  subst hv1
  replace h := of_let h
  obtain ⟨v2, hv2, h⟩ := h
  have hv2 : v2 = x1_ := hv2
  subst hv2
  cbv
  refine fork (fun b31 => ?_) (fun b31 => ?_)
  ·replace h := of_br_t b31 h
   cbv
   replace h := of_req h
   obtain ⟨c15, h⟩ := h
   refine ⟨⟨c15, trivial⟩, ?_⟩
   refine fork (fun b30 => ?_) (fun b30 => ?_)
   ·replace h := of_br_t b30 h
    cbv
    injection h with h
    refine hY7 _ h.symm _ _ (And.intro rfl ?_) (by intro hh; cases hh)
    exact le_sparse rfl ⟨lR _, trivial⟩ trivial rfl
   ·replace h := of_br_f b30 h
    cbv
    replace h := of_req h
    obtain ⟨c16, h⟩ := h
    refine ⟨⟨c16, trivial⟩, ?_⟩
    refine fork (fun b29 => ?_) (fun b29 => ?_)
    ·replace h := of_br_t b29 h
     cbv
     injection h with h
     refine hY7 _ h.symm _ _ (And.intro rfl ?_) (by intro hh; cases hh)
     exact le_sparse rfl ⟨lR _, trivial⟩ trivial rfl
    ·replace h := of_br_f b29 h
     cbv
     replace h := of_req h
     obtain ⟨c17, h⟩ := h
     refine ⟨⟨c17, trivial⟩, ?_⟩
     refine fork (fun b28 => ?_) (fun b28 => ?_)
     ·replace h := of_br_t b28 h
      cbv
      injection h with h
      refine hY7 _ h.symm _ _ (And.intro rfl ?_) (by intro hh; cases hh)
      exact le_sparse rfl ⟨lR _, trivial⟩ trivial rfl
     ·replace h := of_br_f b28 h
      cbv
      replace h := of_req h
      obtain ⟨c18, h⟩ := h
      refine ⟨⟨c18, trivial⟩, ?_⟩
      refine fork (fun b27 => ?_) (fun b27 => ?_)
      ·replace h := of_br_t b27 h
       cbv
       injection h with h
       refine hY7 _ h.symm _ _ (And.intro rfl ?_) (by intro hh; cases hh)
       exact le_sparse rfl ⟨lR _, trivial⟩ trivial rfl
      ·replace h := of_br_f b27 h
       cbv
       replace h := of_req h
       obtain ⟨c19, h⟩ := h
       refine ⟨⟨c19, trivial⟩, ?_⟩
       refine fork (fun b26 => ?_) (fun b26 => ?_)
       ·replace h := of_br_t b26 h
        cbv
        injection h with h
        refine hY7 _ h.symm _ _ (And.intro rfl ?_) (by intro hh; cases hh)
        exact le_sparse rfl ⟨lR _, trivial⟩ trivial rfl
       ·replace h := of_br_f b26 h
        cbv
        replace h := of_req h
        obtain ⟨c20, h⟩ := h
        refine ⟨⟨c20, trivial⟩, ?_⟩
        refine fork (fun b25 => ?_) (fun b25 => ?_)
        ·replace h := of_br_t b25 h
         cbv
         injection h with h
         refine hY7 _ h.symm _ _ (And.intro rfl ?_) (by intro hh; cases hh)
         exact le_sparse rfl ⟨lR _, trivial⟩ trivial rfl
        ·replace h := of_br_f b25 h
         cbv
         replace h := of_req h
         obtain ⟨c21, h⟩ := h
         refine ⟨⟨c21, trivial⟩, ?_⟩
         refine fork (fun b24 => ?_) (fun b24 => ?_)
         ·replace h := of_br_t b24 h
          cbv
          injection h with h
          refine hY7 _ h.symm _ _ (And.intro rfl ?_) (by intro hh; cases hh)
          exact le_sparse rfl ⟨lR _, trivial⟩ trivial rfl
         ·replace h := of_br_f b24 h
          cbv
          replace h := of_req h
          obtain ⟨c22, h⟩ := h
          refine ⟨⟨c22, trivial⟩, ?_⟩
          refine fork (fun b23 => ?_) (fun b23 => ?_)
          ·replace h := of_br_t b23 h
           cbv
           injection h with h
           refine hY7 _ h.symm _ _ (And.intro rfl ?_) (by intro hh; cases hh)
           exact le_sparse rfl ⟨lR _, trivial⟩ trivial rfl
          ·replace h := of_br_f b23 h
           cbv
           injection h with h
           refine hK9 _ h.symm _ ?_
           exact le_sparse rfl ⟨lR _, lR _, lR _, trivial⟩ trivial rfl
  ·replace h := of_br_f b31 h
   cbv
   injection h with h
   refine hY7 _ h.symm _ _ (And.intro rfl ?_) (by intro hh; cases hh)
   exact le_sparse rfl ⟨lR _, trivial⟩ trivial rfl
 ·clear hr5
  have h := hN6
  clear hN6
  intro e13 s14 q12 hne
  rcases y4 with y4k0 | y4m0
  ·replace h := h
   obtain ⟨rfl, q12⟩ := q12
   replace h := of_let h
   obtain ⟨w32, hw32, h⟩ := h
   have hw32 : w32 = y4k0 := hw32
   subst hw32
   cbv
   injection h with h
   subst h
   refine ⟨(sparse 88 [(4, .c (.v (.int .i64 w32)))] []), ?_, ?_⟩
   ·refine St.le_trans q12 ?_
    exact le_sparse rfl ⟨lR _, trivial⟩ trivial rfl
   ·exact ⟨lR _, trivial, rfl⟩
  ·replace h := of_let h
   obtain ⟨y4k1, hyk, h⟩ := h
   have hyk : y4k1 = y4m0 := hyk
   subst hyk
   obtain ⟨rfl, q12⟩ := q12
   replace h := of_let h
   obtain ⟨w33, hw33, h⟩ := h
   have hw33 : w33 = y4k1 := hw33
   subst hw33
   cbv
   refine ⟨_, q12, ?_⟩
   cbv
   injection h with h
   subst h
   refine ⟨(sparse 88 [(4, .c (.v (.int .i64 w33)))] []), ?_, ?_⟩
   ·exact le_sparse rfl ⟨lR _, trivial⟩ trivial rfl
   ·exact ⟨lR _, trivial, rfl⟩
noncomputable def L_laws_heldCellS_x3 (a0 : List TCell) : (Int × Int) → Option ((Int × Int) ⊕ ((Int) ⊕ (Int))) := fun x3 =>
 letO x3.1 fun v1 =>
 letO x3.2 fun v2 =>
 br (std.lt v2 (std.ofN (len a0)))
 (req (std.inR v2 (len a0)) <|
 (F_laws_markText v1).bind fun y16 =>
 br (std.not (std.seq (gd a0 (std.toN v2)).fName y16))
 (some (.inr (.inl (-1))))
 (req (std.inR v2 (len a0)) <|
 (F_laws_heldShapeS (gd a0 (std.toN v2)).fShapes (std.add .i64 v1 1)).bind fun y19 =>
 br (std.lt y19 0)
 (some (.inr (.inl (-1))))
 (req (std.inR v2 (len a0)) <|
 (F_laws_heldLabelS (gd a0 (std.toN v2)).fLabels y19).bind fun y22 =>
 br (std.lt y22 0)
 (some (.inr (.inl (-1))))
 (req (std.inR v2 (len a0)) <|
 (F_laws_heldInstanceS (gd a0 (std.toN v2)).fInstances y22).bind fun y25 =>
 br (std.lt y25 0)
 (some (.inr (.inl (-1))))
 (some (.inl (y25, std.add .i64 v2 1)))))))
 (some (.inr (.inr v1)))
/-- laws.heldCellS -/
noncomputable def F_laws_heldCellS (a0 : List TCell) (a1 : Int) : Option (Int) :=
 (whileP (σ := Int × Int) (ρ := (Int) ⊕ (Int)) (L_laws_heldCellS_x3 a0) (a1, 0)).bind fun y4 =>
 (match y4 with
  | .inl y4k0 => (
    letO y4k0 fun w32 =>
    some w32)
  | .inr y4m0 =>
    letO y4m0 fun y4k1 =>
    letO y4k1 fun w33 =>
    some w33)
set_option maxHeartbeats 4000000 in
theorem run_laws_heldCellS (a0 : List TCell) (a1 : Int) (r : Int) (h : F_laws_heldCellS a0 a1 = some r) : Fun Try.prog 109 [.c (.bs (len a0) 4 (row gd (encCell len gd) a0)), .c (.v (.int .i64 a1))] [] (.c (.v (.int .i64 r))) [] true := by
 refine Fun.of_wp (oneOf []) tok mixed Try.func109 (by kernel_rfl) rfl Try.ntmps109 rfl trivial (fun _ => ⟨trivial, trivial⟩) ?_
 unfold F_laws_heldCellS at h
 unfold L_laws_heldCellS_x3 at h
 have hf_laws_heldInstanceS := @run_laws_heldInstanceS
 have hf_laws_heldLabelS := @run_laws_heldLabelS
 have hf_laws_heldShapeS := @run_laws_heldShapeS
 have hf_laws_markText := @run_laws_markText
 generalize hLEN : @len = LEN at *
 generalize hGD : @gd = GD at *
 generalize hA : std = A at *
 generalize hP : Try.prog = P at *
 cbv
 replace h := of_bind h
 obtain ⟨y4, hr5, hN6⟩ := h
 refine loop_cut hr5 (fun x => (sparse 50 [(0, .c (.bs (LEN a0) 4 (row GD (encCell LEN GD) a0))), (1, .c (.v (.int .i64 x.1))), (5, .c (.v (.int .i64 x.2)))] [])) ?_ (fun y e s => (match y with | .inl w => e = .ret ∧ s.le (sparse 50 [(4, .c (.v (.int .i64 w)))] []) | .inr w0 => (fun (w : Int) => e = .exit 0 ∧ s.le (sparse 50 [(1, .c (.v (.int .i64 w)))] [])) w0)) ?_ ?_
 ·clear hr5 hN6
  show St.le _ _
  exact le_sparse rfl ⟨lR _, lR _, lR _, trivial⟩ trivial rfl
 ·clear hr5 hN6
  intro x z10 h K8 hK9 hY7
  obtain ⟨x0_, x1_⟩ := x
  replace h := of_let h
  obtain ⟨v1, hv1, h⟩ := h
  have hv1 : v1 = x0_ := hv1
  subst hv1
  replace h := of_let h
  obtain ⟨v2, hv2, h⟩ := h
  have hv2 : v2 = x1_ := hv2
  subst hv2
  cbv
  refine fork (fun b31 => ?_) (fun b31 => ?_)
  ·replace h := of_br_t b31 h
   cbv
   replace h := of_req h
   obtain ⟨c15, h⟩ := h
   refine ⟨⟨c15, trivial⟩, ?_⟩
   replace h := of_bind h
   obtain ⟨y16, hy17, h⟩ := h
   refine ⟨{ args := [.c (.v (.int .i64 v1))], o0 := [], r := .c (.v (.string y16)), o1 := [], fl := true, σ := [], τ := [] }, hf_laws_markText _ _ hy17, ⟨les_cons (lR _) (les_nil), trivial, rfl, rfl, rfl, rfl, trivial, rfl⟩, ?_⟩
   cbv
   refine fork (fun b30 => ?_) (fun b30 => ?_)
   ·replace h := of_br_t b30 h
    cbv
    injection h with h
    refine hY7 _ h.symm _ _ (And.intro rfl ?_) (by intro hh; cases hh)
    exact le_sparse rfl ⟨lR _, trivial⟩ trivial rfl
   ·replace h := of_br_f b30 h
    cbv
    replace h := of_req h
    obtain ⟨c18, h⟩ := h
    refine ⟨⟨c18, trivial⟩, ?_⟩
    replace h := of_bind h
    obtain ⟨y19, hy20, h⟩ := h
    refine ⟨{ args := [.c (.bs (LEN (GD a0 (A.toN v2)).fShapes) 5 (row GD (encShape) (GD a0 (A.toN v2)).fShapes)), .c (.v (.int .i64 (A.add .i64 v1 1)))], o0 := [], r := .c (.v (.int .i64 y19)), o1 := [], fl := true, σ := [], τ := [] }, hf_laws_heldShapeS _ _ _ hy20, ⟨les_cons (lR _) (les_cons (lR _) (les_nil)), trivial, rfl, rfl, rfl, rfl, trivial, rfl⟩, ?_⟩
    cbv
    refine fork (fun b29 => ?_) (fun b29 => ?_)
    ·replace h := of_br_t b29 h
     cbv
     injection h with h
     refine hY7 _ h.symm _ _ (And.intro rfl ?_) (by intro hh; cases hh)
     exact le_sparse rfl ⟨lR _, trivial⟩ trivial rfl
    ·replace h := of_br_f b29 h
     cbv
     replace h := of_req h
     obtain ⟨c21, h⟩ := h
     refine ⟨⟨c21, trivial⟩, ?_⟩
     replace h := of_bind h
     obtain ⟨y22, hy23, h⟩ := h
     refine ⟨{ args := [.c (.bs (LEN (GD a0 (A.toN v2)).fLabels) 4 (row GD (encLabel) (GD a0 (A.toN v2)).fLabels)), .c (.v (.int .i64 y19))], o0 := [], r := .c (.v (.int .i64 y22)), o1 := [], fl := true, σ := [], τ := [] }, hf_laws_heldLabelS _ _ _ hy23, ⟨les_cons (lR _) (les_cons (lR _) (les_nil)), trivial, rfl, rfl, rfl, rfl, trivial, rfl⟩, ?_⟩
     cbv
     refine fork (fun b28 => ?_) (fun b28 => ?_)
     ·replace h := of_br_t b28 h
      cbv
      injection h with h
      refine hY7 _ h.symm _ _ (And.intro rfl ?_) (by intro hh; cases hh)
      exact le_sparse rfl ⟨lR _, trivial⟩ trivial rfl
     ·replace h := of_br_f b28 h
      cbv
      replace h := of_req h
      obtain ⟨c24, h⟩ := h
      refine ⟨⟨c24, trivial⟩, ?_⟩
      replace h := of_bind h
      obtain ⟨y25, hy26, h⟩ := h
      refine ⟨{ args := [.c (.bs (LEN (GD a0 (A.toN v2)).fInstances) 8 (row GD (encInstance) (GD a0 (A.toN v2)).fInstances)), .c (.v (.int .i64 y22))], o0 := [], r := .c (.v (.int .i64 y25)), o1 := [], fl := true, σ := [], τ := [] }, hf_laws_heldInstanceS _ _ _ hy26, ⟨les_cons (lR _) (les_cons (lR _) (les_nil)), trivial, rfl, rfl, rfl, rfl, trivial, rfl⟩, ?_⟩
      cbv
      refine fork (fun b27 => ?_) (fun b27 => ?_)
      ·replace h := of_br_t b27 h
       cbv
       injection h with h
       refine hY7 _ h.symm _ _ (And.intro rfl ?_) (by intro hh; cases hh)
       exact le_sparse rfl ⟨lR _, trivial⟩ trivial rfl
      ·replace h := of_br_f b27 h
       cbv
       injection h with h
       refine hK9 _ h.symm _ ?_
       exact le_sparse rfl ⟨lR _, lR _, lR _, trivial⟩ trivial rfl
  ·replace h := of_br_f b31 h
   cbv
   injection h with h
   refine hY7 _ h.symm _ _ (And.intro rfl ?_) (by intro hh; cases hh)
   exact le_sparse rfl ⟨lR _, trivial⟩ trivial rfl
 ·clear hr5
  have h := hN6
  clear hN6
  intro e13 s14 q12 hne
  rcases y4 with y4k0 | y4m0
  ·replace h := h
   obtain ⟨rfl, q12⟩ := q12
   replace h := of_let h
   obtain ⟨w32, hw32, h⟩ := h
   have hw32 : w32 = y4k0 := hw32
   subst hw32
   cbv
   injection h with h
   subst h
   refine ⟨(sparse 50 [(4, .c (.v (.int .i64 w32)))] []), ?_, ?_⟩
   ·refine St.le_trans q12 ?_
    exact le_sparse rfl ⟨lR _, trivial⟩ trivial rfl
   ·exact ⟨lR _, trivial, rfl⟩
  ·replace h := of_let h
   obtain ⟨y4k1, hyk, h⟩ := h
   have hyk : y4k1 = y4m0 := hyk
   subst hyk
   obtain ⟨rfl, q12⟩ := q12
   replace h := of_let h
   obtain ⟨w33, hw33, h⟩ := h
   have hw33 : w33 = y4k1 := hw33
   subst hw33
   cbv
   refine ⟨_, q12, ?_⟩
   cbv
   injection h with h
   subst h
   refine ⟨(sparse 50 [(4, .c (.v (.int .i64 w33)))] []), ?_, ?_⟩
   ·exact le_sparse rfl ⟨lR _, trivial⟩ trivial rfl
   ·exact ⟨lR _, trivial, rfl⟩

/-- laws.heldLibrary -/
noncomputable def F_laws_heldLibrary (a0 : TLibrary) (a1 : Int) : Option (Int) :=
 (F_laws_heldCellS a0.fCells a1).bind fun y1 =>
 br (std.lt y1 0)
 (some (-1))
 (some y1)
set_option maxHeartbeats 4000000 in
theorem run_laws_heldLibrary (a0 : TLibrary) (a1 : Int) (r : Int) (h : F_laws_heldLibrary a0 a1 = some r) : Fun Try.prog 49 [.agg [.bs (len a0.fCells) 4 (row gd (encCell len gd) a0.fCells)], .c (.v (.int .i64 a1))] [] (.c (.v (.int .i64 r))) [] true := by
 refine Fun.of_wp (oneOf []) tok mixed Try.func49 (by kernel_rfl) rfl Try.ntmps49 rfl trivial (fun _ => ⟨trivial, trivial⟩) ?_
 unfold F_laws_heldLibrary at h
 have hf_laws_heldCellS := @run_laws_heldCellS
 generalize hLEN : @len = LEN at *
 generalize hGD : @gd = GD at *
 generalize hA : std = A at *
 generalize hP : Try.prog = P at *
 cbv
 replace h := of_bind h
 obtain ⟨y1, hy2, h⟩ := h
 refine ⟨{ args := [.c (.bs (LEN a0.fCells) 4 (row GD (encCell LEN GD) a0.fCells)), .c (.v (.int .i64 a1))], o0 := [], r := .c (.v (.int .i64 y1)), o1 := [], fl := true, σ := [], τ := [] }, hf_laws_heldCellS _ _ _ hy2, ⟨les_cons (lR _) (les_cons (lR _) (les_nil)), trivial, rfl, rfl, rfl, rfl, trivial, rfl⟩, ?_⟩
 cbv
 refine fork (fun b3 => ?_) (fun b3 => ?_)
 ·replace h := of_br_t b3 h
  cbv
  injection h with h
  subst h
  refine ⟨(sparse 12 [(4, .c (.v (.int .i64 (-1))))] []), ?_, ?_⟩
  ·exact le_sparse rfl ⟨lR _, trivial⟩ trivial rfl
  ·exact ⟨lR _, trivial, rfl⟩
 ·replace h := of_br_f b3 h
  cbv
  injection h with h
  subst h
  refine ⟨(sparse 12 [(4, .c (.v (.int .i64 y1)))] []), ?_, ?_⟩
  ·exact le_sparse rfl ⟨lR _, trivial⟩ trivial rfl
  ·exact ⟨lR _, trivial, rfl⟩

/-- laws.FnExactSalvageStream -/
noncomputable def F_laws_FnExactSalvageStream (a0 : ByteArray) : Option (Bool) :=
 br (std.lt 1048576 (std.ofN (std.slen a0)))
 (some true)
 ((F_spec_SalvageStream a0).bind fun y1 =>
 (F_impl_SalvageStream a0).bind fun y3 =>
 ((
    (F_laws_eqLibrary y3.1 y1.1).bind fun y12 =>
    br (!(y12))
    (some true)
    (some (std.not (std.eq y3.2 y1.2)))
  ) : Option (Bool)).bind fun y5 =>
 letO y5 fun w11 =>
 br w11
 (some false)
 ((F_laws_markLibrary_mob y3.1 1).bind fun y15 =>
 req (len y15.2 = len y3.1.fCells) <|
 (F_laws_heldLibrary (TLibrary.mk y15.2) 1).bind fun y17 =>
 req (len y3.1.fCells = len y15.2) <|
 br (std.lt y17 0)
 (some false)
 (br (std.not (std.eq y17 y15.1))
 (some false)
 ((F_impl_SalvageStream a0).bind fun y19 =>
 ((
    (F_laws_eqLibrary y19.1 y1.1).bind fun y28 =>
    br (!(y28))
    (some true)
    (some (std.not (std.eq y19.2 y1.2)))
  ) : Option (Bool)).bind fun y21 =>
 letO y21 fun w27 =>
 br w27
 (some false)
 ((F_laws_heldLibrary (TLibrary.mk y15.2) 1).bind fun y31 =>
 req (len y3.1.fCells = len y15.2) <|
 br (std.lt y31 0)
 (some false)
 (br (std.not (std.eq y31 y15.1))
 (some false)
 (some true)))))))
set_option maxHeartbeats 4000000 in
theorem run_laws_FnExactSalvageStream (a0 : ByteArray) (r : Bool) (h : F_laws_FnExactSalvageStream a0 = some r) : Fun Try.prog 11 [.c (.v (.string a0))] [] (.c (.v (.bool r))) [] true := by
 refine Fun.of_wp (oneOf [5, 16]) tok mixed Try.func11 (by kernel_rfl) rfl Try.ntmps11 rfl trivial (fun _ => ⟨trivial, trivial⟩) ?_
 unfold F_laws_FnExactSalvageStream at h
 have hf_impl_SalvageStream := @run_impl_SalvageStream
 have hf_laws_eqLibrary := @run_laws_eqLibrary
 have hf_laws_heldLibrary := @run_laws_heldLibrary
 have hf_laws_markLibrary_mob := @run_laws_markLibrary_mob
 have hf_spec_SalvageStream := @run_spec_SalvageStream
 generalize hLEN : @len = LEN at *
 generalize hGD : @gd = GD at *
 generalize hA : std = A at *
 generalize hP : Try.prog = P at *
 cbv
 refine fork (fun b42 => ?_) (fun b42 => ?_)
 ·replace h := of_br_t b42 h
  cbv
  injection h with h
  subst h
  refine ⟨(sparse 66 [(2, .c (.v (.bool true)))] []), ?_, ?_⟩
  ·exact le_sparse rfl ⟨lR _, trivial⟩ trivial rfl
  ·exact ⟨lR _, trivial, rfl⟩
 ·replace h := of_br_f b42 h
  cbv
  replace h := of_bind h
  obtain ⟨y1, hy2, h⟩ := h
  refine ⟨{ args := [.c (.v (.string a0))], o0 := [], r := .tup [.agg [.bs (LEN y1.1.fCells) 4 (row GD (encCell LEN GD) y1.1.fCells)], .c (.v (.int .i64 y1.2))], o1 := [], fl := false, σ := [], τ := [] }, hf_spec_SalvageStream _ _ hy2, ⟨les_cons (lR _) (les_nil), trivial, rfl, rfl, rfl, rfl, trivial, rfl⟩, ?_⟩
  cbv
  replace h := of_bind h
  obtain ⟨y3, hy4, h⟩ := h
  refine ⟨{ args := [.c (.v (.string a0))], o0 := [], r := .tup [.agg [.os 64000 0 (LEN y3.1.fCells)], .c (.v (.int .i64 y3.2))], o1 := [(64000, .arr .rw [] (LEN y3.1.fCells) 4 (row GD (oncCell LEN GD) y3.1.fCells))], fl := true, σ := [], τ := [(64000, 1344)] }, hf_impl_SalvageStream _ _ hy4, ⟨les_cons (lR _) (les_nil), trivial, rfl, rfl, rfl, rfl, ⟨fun h => absurd (show (64000 : Nat) % 2 = 1 from h) (by decide), trivial⟩, rfl⟩, _, rfl, _, _, rfl, fun _ _ _ _ => .refl _, ?_⟩
  cbv
  replace h := of_bind h
  obtain ⟨y5, hy6, h⟩ := h
  obtain ⟨S9, hS10⟩ : ∃ S, S = (sparse 66 [(0, .c (.v (.string a0))), (3, .c (.ptr 192 0)), (4, .c (.v (.int .i64 y1.2))), (5, .c (.ptr 320 0)), (32, .c (.v (.bool y5)))] [(192, .var [.bs (LEN y1.1.fCells) 4 (row GD (encCell LEN GD) y1.1.fCells)]), (320, .var [.os 1344 0 (LEN y3.1.fCells)]), (1344, .arr .rw [] (LEN y3.1.fCells) 4 (row GD (oncCell LEN GD) y3.1.fCells))]) := ⟨_, rfl⟩
  refine ⟨S9, ?_, ?_⟩
  ·clear h
   have h := hy6
   clear hy6
   cbv
   replace h := of_bind h
   obtain ⟨y12, hy13, h⟩ := h
   refine ⟨{ args := [.agg [.bs (LEN y3.1.fCells) 4 (row GD (encCell LEN GD) y3.1.fCells)], .agg [.bs (LEN y1.1.fCells) 4 (row GD (encCell LEN GD) y1.1.fCells)]], o0 := [], r := .c (.v (.bool y12)), o1 := [], fl := true, σ := [], τ := [] }, hf_laws_eqLibrary _ _ _ hy13, ⟨les_cons (le_agg ⟨give_osD (rf_oncCell) (ln_oncCell) rfl rfl rfl, trivial⟩) (les_cons (lR _) (les_nil)), trivial, rfl, rfl, rfl, rfl, trivial, rfl⟩, ?_⟩
   cbv
   refine fork (fun b14 => ?_) (fun b14 => ?_)
   ·replace h := of_br_t b14 h
    cbv
    injection h with h
    subst h
    subst hS10
    show St.le _ _
    exact le_sparse rfl ⟨lR _, lR _, lR _, lR _, lR _, trivial⟩ ⟨rfl, rfl, oS, trivial⟩ rfl
   ·replace h := of_br_f b14 h
    cbv
    injection h with h
    subst h
    subst hS10
    show St.le _ _
    exact le_sparse rfl ⟨lR _, lR _, lR _, lR _, lR _, trivial⟩ ⟨rfl, rfl, oS, trivial⟩ rfl
  ·clear hy6
   subst hS10
   replace h := of_let h
   obtain ⟨w11, hw11, h⟩ := h
   have hw11 : w11 = y5 := hw11
   subst hw11
   cbv
   refine fork (fun b41 => ?_) (fun b41 => ?_)
   ·replace h := of_br_t b41 h
    cbv
    injection h with h
    subst h
    refine ⟨(sparse 66 [(2, .c (.v (.bool false)))] []), ?_, ?_⟩
    ·exact le_sparse rfl ⟨lR _, trivial⟩ trivial rfl
    ·exact ⟨lR _, trivial, rfl⟩
   ·replace h := of_br_f b41 h
    cbv
    replace h := of_bind h
    obtain ⟨y15, hy16, h⟩ := h
    replace h := of_req h
    obtain ⟨c40, h⟩ := h
    refine ⟨{ args := [.agg [.os 5 0 (LEN y3.1.fCells)], .c (.v (.int .i64 1))], o0 := [(5, .arr .rw [] (LEN y3.1.fCells) 4 (row GD (oncCell LEN GD) y3.1.fCells))], r := .c (.v (.int .i64 y15.1)), o1 := [(5, .arr .rw [] (LEN y15.2) 4 (row GD (oncCell LEN GD) y15.2))], fl := true, σ := [(5, 1344)], τ := [(5, 1344)] }, hf_laws_markLibrary_mob _ _ _ hy16, ⟨les_cons (lR _) (les_cons (lR _) (les_nil)), ⟨oS, trivial⟩, rfl, rfl, rfl, rfl, ⟨fun _ => ⟨c40.symm, rfl, fun c h => h⟩, trivial⟩, rfl⟩, _, rfl, LEN y3.1.fCells, _, c40, fun _ _ _ _ => .refl _, ?_⟩
    cbv
    replace h := of_bind h
    obtain ⟨y17, hy18, h⟩ := h
    replace h := of_req h
    obtain ⟨c39, h⟩ := h
    refine ⟨{ args := [.agg [.bs (LEN y15.2) 4 (row GD (encCell LEN GD) y15.2)], .c (.v (.int .i64 1))], o0 := [], r := .c (.v (.int .i64 y17)), o1 := [], fl := true, σ := [], τ := [] }, hf_laws_heldLibrary _ _ _ hy18, ⟨les_cons (le_agg ⟨give_osD (rf_oncCell) (ln_oncCell) rfl rfl c39, trivial⟩) (les_cons (lR _) (les_nil)), trivial, rfl, rfl, rfl, rfl, trivial, rfl⟩, ?_⟩
    cbv
    refine fork (fun b38 => ?_) (fun b38 => ?_)
    ·replace h := of_br_t b38 h
     cbv
     injection h with h
     subst h
     refine ⟨(sparse 66 [(2, .c (.v (.bool false)))] []), ?_, ?_⟩
     ·exact le_sparse rfl ⟨lR _, trivial⟩ trivial rfl
     ·exact ⟨lR _, trivial, rfl⟩
    ·replace h := of_br_f b38 h
     cbv
     refine fork (fun b37 => ?_) (fun b37 => ?_)
     ·replace h := of_br_t b37 h
      cbv
      injection h with h
      subst h
      refine ⟨(sparse 66 [(2, .c (.v (.bool false)))] []), ?_, ?_⟩
      ·exact le_sparse rfl ⟨lR _, trivial⟩ trivial rfl
      ·exact ⟨lR _, trivial, rfl⟩
     ·replace h := of_br_f b37 h
      cbv
      replace h := of_bind h
      obtain ⟨y19, hy20, h⟩ := h
      refine ⟨{ args := [.c (.v (.string a0))], o0 := [], r := .tup [.agg [.os 64000 0 (LEN y19.1.fCells)], .c (.v (.int .i64 y19.2))], o1 := [(64000, .arr .rw [] (LEN y19.1.fCells) 4 (row GD (oncCell LEN GD) y19.1.fCells))], fl := true, σ := [], τ := [(64000, 2944)] }, hf_impl_SalvageStream _ _ hy20, ⟨les_cons (lR _) (les_nil), trivial, rfl, rfl, rfl, rfl, ⟨fun h => absurd (show (64000 : Nat) % 2 = 1 from h) (by decide), trivial⟩, rfl⟩, _, rfl, _, _, rfl, fun _ _ _ _ => .refl _, ?_⟩
      cbv
      replace h := of_bind h
      obtain ⟨y21, hy22, h⟩ := h
      obtain ⟨S25, hS26⟩ : ∃ S, S = (sparse 66 [(5, .c (.ptr 320 0)), (7, .c (.v (.int .i64 y15.1))), (57, .c (.v (.bool y21)))] [(320, .var [.os 1344 0 (LEN y3.1.fCells)]), (1344, .arr .rw [] (LEN y3.1.fCells) 4 (row GD (oncCell LEN GD) y15.2))]) := ⟨_, rfl⟩
      refine ⟨S25, ?_, ?_⟩
      ·clear h
       have h := hy22
       clear hy22
       cbv
       replace h := of_bind h
       obtain ⟨y28, hy29, h⟩ := h
       refine ⟨{ args := [.agg [.bs (LEN y19.1.fCells) 4 (row GD (encCell LEN GD) y19.1.fCells)], .agg [.bs (LEN y1.1.fCells) 4 (row GD (encCell LEN GD) y1.1.fCells)]], o0 := [], r := .c (.v (.bool y28)), o1 := [], fl := true, σ := [], τ := [] }, hf_laws_eqLibrary _ _ _ hy29, ⟨les_cons (le_agg ⟨give_osD (rf_oncCell) (ln_oncCell) rfl rfl rfl, trivial⟩) (les_cons (lR _) (les_nil)), trivial, rfl, rfl, rfl, rfl, trivial, rfl⟩, ?_⟩
       cbv
       refine fork (fun b30 => ?_) (fun b30 => ?_)
       ·replace h := of_br_t b30 h
        cbv
        injection h with h
        subst h
        subst hS26
        show St.le _ _
        exact le_sparse rfl ⟨lR _, lR _, lR _, trivial⟩ ⟨rfl, oS, trivial⟩ rfl
       ·replace h := of_br_f b30 h
        cbv
        injection h with h
        subst h
        subst hS26
        show St.le _ _
        exact le_sparse rfl ⟨lR _, lR _, lR _, trivial⟩ ⟨rfl, oS, trivial⟩ rfl
      ·clear hy22
       subst hS26
       replace h := of_let h
       obtain ⟨w27, hw27, h⟩ := h
       have hw27 : w27 = y21 := hw27
       subst hw27
       cbv
       refine fork (fun b36 => ?_) (fun b36 => ?_)
       ·replace h := of_br_t b36 h
        cbv
        injection h with h
        subst h
        refine ⟨(sparse 66 [(2, .c (.v (.bool false)))] []), ?_, ?_⟩
        ·exact le_sparse rfl ⟨lR _, trivial⟩ trivial rfl
        ·exact ⟨lR _, trivial, rfl⟩
       ·replace h := of_br_f b36 h
        cbv
        replace h := of_bind h
        obtain ⟨y31, hy32, h⟩ := h
        replace h := of_req h
        obtain ⟨c35, h⟩ := h
        refine ⟨{ args := [.agg [.bs (LEN y15.2) 4 (row GD (encCell LEN GD) y15.2)], .c (.v (.int .i64 1))], o0 := [], r := .c (.v (.int .i64 y31)), o1 := [], fl := true, σ := [], τ := [] }, hf_laws_heldLibrary _ _ _ hy32, ⟨les_cons (le_agg ⟨give_osD (rf_oncCell) (ln_oncCell) rfl rfl c35, trivial⟩) (les_cons (lR _) (les_nil)), trivial, rfl, rfl, rfl, rfl, trivial, rfl⟩, ?_⟩
        cbv
        refine fork (fun b34 => ?_) (fun b34 => ?_)
        ·replace h := of_br_t b34 h
         cbv
         injection h with h
         subst h
         refine ⟨(sparse 66 [(2, .c (.v (.bool false)))] []), ?_, ?_⟩
         ·exact le_sparse rfl ⟨lR _, trivial⟩ trivial rfl
         ·exact ⟨lR _, trivial, rfl⟩
        ·replace h := of_br_f b34 h
         cbv
         refine fork (fun b33 => ?_) (fun b33 => ?_)
         ·replace h := of_br_t b33 h
          cbv
          injection h with h
          subst h
          refine ⟨(sparse 66 [(2, .c (.v (.bool false)))] []), ?_, ?_⟩
          ·exact le_sparse rfl ⟨lR _, trivial⟩ trivial rfl
          ·exact ⟨lR _, trivial, rfl⟩
         ·replace h := of_br_f b33 h
          cbv
          injection h with h
          subst h
          refine ⟨(sparse 66 [(2, .c (.v (.bool true)))] []), ?_, ?_⟩
          ·exact le_sparse rfl ⟨lR _, trivial⟩ trivial rfl
          ·exact ⟨lR _, trivial, rfl⟩
theorem op_9 (d : Nat) : Opens T (d + 1) 9 (clS) (wfS) := op_str (show T 9 = some d9 from rfl) rfl
end Go.Proofs.Ytlenieingkfjaaa.AM
