/-
  What the functions that the law reaches compute, and that they do. No condition.
-/
import Derived.Test.YtohgghncmkiicaaGreatAmSX
namespace Go.Proofs.YtohgghncmkiicaaGreat.AM
noncomputable section
open Go Go.Proofs Go.RowKit
set_option linter.unusedVariables false
set_option linter.unusedSimpArgs false
set_option maxRecDepth 100000

set_option maxHeartbeats 4000000
def Lq21_x34 (a0 : TL) (a1 : Int) (a2 : Int) (v1 : Int) (v2 : List TC) (w30 : Int) : (Int × (List TI)) -> Option ((Int × (List TI)) ⊕ (((List TC)))) := fun x34 =>
 letO x34.1 fun v32 =>
 letO x34.2 fun v33 =>
 br (std.lt v32 w30)
 (((
 req (std.inR v32 (len (gd v2 (std.nadd 0 (std.toN v1))).fI)) <|
 some (std.le a1 (gd v33 (std.nadd 0 (std.toN v32))).fc)
 ) : Option (Bool)).bind fun y46 =>
 letO y46 fun w52 =>
 ((
 br w52
 (((
 req (std.inR v32 (len (gd v2 (std.nadd 0 (std.toN v1))).fI)) <|
 req (std.inR v32 (len (gd v2 (std.nadd 0 (std.toN v1))).fI)) <|
 req (len (gd v2 (std.nadd 0 (std.toN v1))).fI = len v33) <|
 letO (List.set v33 (std.nadd 0 (std.toN v32)) (TI.mk (std.add .i64 (gd v33 (std.nadd 0 (std.toN v32))).fc a2) (gd v33 (std.nadd 0 (std.toN v32))).fp (gd v33 (std.nadd 0 (std.toN v32))).fK (gd v33 (std.nadd 0 (std.toN v32))).fR (gd v33 (std.nadd 0 (std.toN v32))).fu (gd v33 (std.nadd 0 (std.toN v32))).fv)) fun l70 =>
 some l70
 ) : Option ((List TI))).bind fun y61 =>
 letO y61 fun w67 =>
 some w67)
 (some v33)
 ) : Option ((List TI))).bind fun y54 =>
 letO y54 fun w60 =>
 some (.inl (std.add .i64 v32 1, w60)))
 (req (len (gd v2 (std.nadd 0 (std.toN v1))).fI = len v33) <|
 req (len a0.fC = len v2) <|
 letO (List.set v2 (std.nadd 0 (std.toN v1)) (TC.mk (gd v2 (std.nadd 0 (std.toN v1))).fN (gd v2 (std.nadd 0 (std.toN v1))).fS (gd v2 (std.nadd 0 (std.toN v1))).fL v33)) fun l74 =>
 some (.inr l74))
def Lq21_x3 (a0 : TL) (a1 : Int) (a2 : Int) : (Int × (List TC)) -> Option ((Int × (List TC)) ⊕ (((List TC)))) := fun x3 =>
 letO x3.1 fun v1 =>
 letO x3.2 fun v2 =>
 br (std.lt v1 (std.ofN (len a0.fC)))
 (((
 req (std.inR v1 (len a0.fC)) <|
 some ((gd v2 (std.nadd 0 (std.toN v1))).fN)
 ) : Option (ByteArray)).bind fun y15 =>
 letO y15 fun w21 =>
 req (std.inR v1 (len a0.fC)) <|
 ((
 some (std.ofN (len (gd v2 (std.nadd 0 (std.toN v1))).fI), 0)
 ) : Option (Int × Int)).bind fun y24 =>
 letO y24.1 fun w30 =>
 letO y24.2 fun w31 =>
 (whileP (σ := Int × (List TI)) (ρ := ((List TC))) (Lq21_x34 a0 a1 a2 v1 v2 w30) (w31, (gd v2 (std.nadd 0 (std.toN v1))).fI)).bind fun y35 =>
 letO y35 fun y35k0 =>
 letO y35k0 fun w77 =>
 some (.inl (std.add .i64 v1 1, w77)))
 (some (.inr v2))
/-- impl.renumber -/
def Fq21 (a0 : TL) (a1 : Int) (a2 : Int) : Option (List TC) :=
 (whileP (σ := Int × (List TC)) (ρ := ((List TC))) (Lq21_x3 a0 a1 a2) (0, a0.fC)).bind fun y4 =>
 letO y4 fun y4k0 =>
 letO y4k0 fun w79 =>
 req (len a0.fC = len w79) <|
 some w79
theorem runq21 (a0 : TL) (a1 : Int) (a2 : Int) (r : List TC) (h : Fq21 a0 a1 a2 = some r) : Fun Tryz.prog 119 [.agg [.os 5 0 (len a0.fC)], .c (wi a1), .c (wi a2)] [(5, .arr .rw [] (len a0.fC) 4 (row gd (oC len gd) a0.fC))] (.tup []) [(5, .arr .rw [] (len r) 4 (row gd (oC len gd) r))] true := by
 refine Fun.of_wp (oneOf [3, 4, 7, 8, 100029]) tok mixed Tryz.func119 (by kernel_rfl) rfl Tryz.ntmps119 rfl ⟨fun i _ j _ k hk => (noref (rC _ _) hk).elim, tv⟩ (fun _ => ⟨(by simp [AV.flat, AV.flat1, AC.flat]), ⟨fun i _ j _ => fl_oncCell _ _, tv⟩⟩) ?_
 unfold Fq21 at h
 unfold Lq21_x3 at h
 unfold Lq21_x34 at h
 generalize hLEN : @len = LEN, hGD : @gd = GD, hA : std = A, hP : Tryz.prog = P at *
 cbv
 replace h := ob_ h
 obtain ⟨y4, hr5, hN6⟩ := h
 refine loop_cut hr5 (fun x => (sp 42 [(1, .c (wi a1)), (2, .c (wi a2)), (10, .c (.os 5 0 (LEN a0.fC))), (11, .c (wi (A.ofN (LEN a0.fC)))), (12, .c (wi x.1))] [(5, .arr .rw [] (LEN a0.fC) 4 (row GD (oC LEN GD) x.2))])) ?_ (fun y e s => (fun (w : (List TC)) => e = .exit 0 /\ s.le (sp 42 [] [(5, .arr .rw [] (LEN a0.fC) 4 (row GD (oC LEN GD) w))])) y) ?_ ?_
 ·clear hr5 hN6
  show St.le _ _
  exact lsp rfl zl5 ⟨oS, tv⟩ rfl
 ·clear hr5 hN6
  intro x z10 h K8 hK9 hY7
  obtain ⟨x0_, x1_⟩ := x
  replace h := ol h
  obtain ⟨v1, hv1, h⟩ := h
  have hv1 : v1 = x0_ := hv1
  subst hv1
  replace h := ol h
  obtain ⟨v2, hv2, h⟩ := h
  have hv2 : v2 = x1_ := hv2
  subst hv2
  cbv
  refine fork (fun b78 => ?_) (fun b78 => ?_)
  ·replace h := ot b78 h
   cbv
   replace h := ob_ h
   obtain ⟨y15, hy16, h⟩ := h
   obtain ⟨S19, hS20⟩ : ∃ S, S = (sp 42 [(1, .c (wi a1)), (2, .c (wi a2)), (7, .c (.ptr 448 0)), (10, .c (.os 5 0 (LEN a0.fC))), (11, .c (wi (A.ofN (LEN a0.fC)))), (12, .c (wi v1))] [(448, .var [ws y15, .os 964 0 (LEN (GD v2 (A.nadd 0 (A.toN v1))).fS), .os 966 0 (LEN (GD v2 (A.nadd 0 (A.toN v1))).fL), .os 968 0 (LEN (GD v2 (A.nadd 0 (A.toN v1))).fI)]), (5, .arr .rw [964, 966, 968] (LEN a0.fC) 4 (pC (row GD (oC LEN GD) v2) (A.nadd 0 (A.toN v1)) [ws (GD v2 (A.nadd 0 (A.toN v1))).fN, .os 964 0 (LEN (GD v2 (A.nadd 0 (A.toN v1))).fS), .os 966 0 (LEN (GD v2 (A.nadd 0 (A.toN v1))).fL), .os 968 0 (LEN (GD v2 (A.nadd 0 (A.toN v1))).fI)])), (964, .arr .rw [] (LEN (GD v2 (A.nadd 0 (A.toN v1))).fS) 5 (row GD (eS) (GD v2 (A.nadd 0 (A.toN v1))).fS)), (966, .arr .rw [] (LEN (GD v2 (A.nadd 0 (A.toN v1))).fL) 4 (row GD (eL) (GD v2 (A.nadd 0 (A.toN v1))).fL)), (968, .arr .rw [] (LEN (GD v2 (A.nadd 0 (A.toN v1))).fI) 8 (row GD (eI) (GD v2 (A.nadd 0 (A.toN v1))).fI))]) := ⟨_, rfl⟩
   refine ⟨S19, ?_, ?_⟩
   ·clear h
    have h := hy16
    clear hy16
    cbv
    replace h := oq h
    obtain ⟨c22, h⟩ := h
    refine ⟨⟨c22, tv⟩, ?_⟩
    refine And.intro (by subst hA; have p := ix c22; first | exact p | exact ⟨p, tv⟩ | exact ⟨p, trivial, tv⟩) ?_
    refine ⟨_, rfl, _, (pC (row GD (oC LEN GD) v2) (A.nadd 0 (A.toN v1)) [ws (GD v2 (A.nadd 0 (A.toN v1))).fN, .os 964 0 (LEN (GD v2 (A.nadd 0 (A.toN v1))).fS), .os 966 0 (LEN (GD v2 (A.nadd 0 (A.toN v1))).fL), .os 968 0 (LEN (GD v2 (A.nadd 0 (A.toN v1))).fI)]), rfl, wkOf ?_, ?_⟩
    ·refine patch_of ?_
     intro j hj
     match j, hj with | 0, _ => (rfl) | 1, _ => (rfl) | 2, _ => (rfl) | 3, _ => (rfl) | (j_ + 4), h_ => omega
    refine ⟨_, row GD (eS) (GD v2 (A.nadd 0 (A.toN v1))).fS, rfl, wkOf ?_, ?_⟩
    ·exact fun i _ j _ => plain_cp (pl_encShape _ _)
    refine ⟨_, row GD (eL) (GD v2 (A.nadd 0 (A.toN v1))).fL, rfl, wkOf ?_, ?_⟩
    ·exact fun i _ j _ => plain_cp (pl_encLabel _ _)
    refine ⟨_, row GD (eI) (GD v2 (A.nadd 0 (A.toN v1))).fI, rfl, wkOf ?_, ?_⟩
    ·exact fun i _ j _ => plain_cp (pl_encInstance _ _)
    cbv
    injection h with h
    subst h
    subst hS20
    exact lsp rfl zl6 ⟨rfl, oS, oS, oS, oS, tv⟩ rfl
   ·clear hy16
    subst hS20
    replace h := ol h
    obtain ⟨w21, hw21, h⟩ := h
    have hw21 : w21 = y15 := hw21
    subst hw21
    replace h := oq h
    obtain ⟨c23, h⟩ := h
    cbv
    replace h := ob_ h
    obtain ⟨y24, hy25, h⟩ := h
    obtain ⟨S28, hS29⟩ : ∃ S, S = (sp 42 [(1, .c (wi a1)), (2, .c (wi a2)), (7, .c (.ptr 448 0)), (10, .c (.os 5 0 (LEN a0.fC))), (11, .c (wi (A.ofN (LEN a0.fC)))), (12, .c (wi v1)), (18, .c (wi y24.1)), (19, .c (wi y24.2))] [(448, .var [ws w21, .os 964 0 (LEN (GD v2 (A.nadd 0 (A.toN v1))).fS), .os 966 0 (LEN (GD v2 (A.nadd 0 (A.toN v1))).fL), .os 968 0 (LEN (GD v2 (A.nadd 0 (A.toN v1))).fI)]), (5, .arr .rw [964, 966, 968] (LEN a0.fC) 4 (pC (row GD (oC LEN GD) v2) (A.nadd 0 (A.toN v1)) [ws (GD v2 (A.nadd 0 (A.toN v1))).fN, .os 964 0 (LEN (GD v2 (A.nadd 0 (A.toN v1))).fS), .os 966 0 (LEN (GD v2 (A.nadd 0 (A.toN v1))).fL), .os 968 0 (LEN (GD v2 (A.nadd 0 (A.toN v1))).fI)])), (964, .arr .rw [] (LEN (GD v2 (A.nadd 0 (A.toN v1))).fS) 5 (row GD (eS) (GD v2 (A.nadd 0 (A.toN v1))).fS)), (966, .arr .rw [] (LEN (GD v2 (A.nadd 0 (A.toN v1))).fL) 4 (row GD (eL) (GD v2 (A.nadd 0 (A.toN v1))).fL)), (968, .arr .rw [] (LEN (GD v2 (A.nadd 0 (A.toN v1))).fI) 8 (row GD (eI) (GD v2 (A.nadd 0 (A.toN v1))).fI))]) := ⟨_, rfl⟩
    refine ⟨S28, ?_, ?_⟩
    ·clear h
     have h := hy25
     clear hy25
     cbv
     injection h with h
     subst h
     subst hS29
     exact lsp rfl zl8 ⟨rfl, oS, oS, oS, oS, tv⟩ rfl
    ·clear hy25
     subst hS29
     obtain ⟨y24_0, y24_1⟩ := y24
     replace h := ol h
     obtain ⟨w30, hw30, h⟩ := h
     have hw30 : w30 = y24_0 := hw30
     subst hw30
     replace h := ol h
     obtain ⟨w31, hw31, h⟩ := h
     have hw31 : w31 = y24_1 := hw31
     subst hw31
     cbv
     replace h := ob_ h
     obtain ⟨y35, hr36, hN37⟩ := h
     refine loop_cut hr36 (fun x => (sp 42 [(1, .c (wi a1)), (2, .c (wi a2)), (7, .c (.ptr 448 0)), (10, .c (.os 5 0 (LEN a0.fC))), (11, .c (wi (A.ofN (LEN a0.fC)))), (12, .c (wi v1)), (18, .c (wi w30)), (19, .c (wi x.1))] [(448, .var [ws w21, .os 964 0 (LEN (GD v2 (A.nadd 0 (A.toN v1))).fS), .os 966 0 (LEN (GD v2 (A.nadd 0 (A.toN v1))).fL), .os 968 0 (LEN (GD v2 (A.nadd 0 (A.toN v1))).fI)]), (5, .arr .rw [964, 966, 968] (LEN a0.fC) 4 (pC (row GD (oC LEN GD) v2) (A.nadd 0 (A.toN v1)) [ws (GD v2 (A.nadd 0 (A.toN v1))).fN, .os 964 0 (LEN (GD v2 (A.nadd 0 (A.toN v1))).fS), .os 966 0 (LEN (GD v2 (A.nadd 0 (A.toN v1))).fL), .os 968 0 (LEN (GD v2 (A.nadd 0 (A.toN v1))).fI)])), (964, .arr .rw [] (LEN (GD v2 (A.nadd 0 (A.toN v1))).fS) 5 (row GD (eS) (GD v2 (A.nadd 0 (A.toN v1))).fS)), (966, .arr .rw [] (LEN (GD v2 (A.nadd 0 (A.toN v1))).fL) 4 (row GD (eL) (GD v2 (A.nadd 0 (A.toN v1))).fL)), (968, .arr .rw [] (LEN (GD v2 (A.nadd 0 (A.toN v1))).fI) 8 (row GD (eI) x.2))])) ?_ (fun y e s => (fun (w : (List TC)) => e = .exit 2 /\ s.le (sp 42 [(1, .c (wi a1)), (2, .c (wi a2)), (10, .c (.os 5 0 (LEN a0.fC))), (11, .c (wi (A.ofN (LEN a0.fC)))), (12, .c (wi v1))] [(5, .arr .rw [] (LEN a0.fC) 4 (row GD (oC LEN GD) w))])) y) ?_ ?_
     ·clear hr36 hN37
      show St.le _ _
      exact lsp rfl zl8 ⟨rfl, oS, oS, oS, oS, tv⟩ rfl
     ·clear hr36 hN37
      intro x z41 h K39 hK40 hY38
      obtain ⟨x0_, x1_⟩ := x
      replace h := ol h
      obtain ⟨v32, hv32, h⟩ := h
      have hv32 : v32 = x0_ := hv32
      subst hv32
      replace h := ol h
      obtain ⟨v33, hv33, h⟩ := h
      have hv33 : v33 = x1_ := hv33
      subst hv33
      cbv
      refine fork (fun b76 => ?_) (fun b76 => ?_)
      ·replace h := ot b76 h
       cbv
       replace h := ob_ h
       obtain ⟨y46, hy47, h⟩ := h
       obtain ⟨S50, hS51⟩ : ∃ S, S = (sp 42 [(1, .c (wi a1)), (2, .c (wi a2)), (7, .c (.ptr 448 0)), (8, .c (wi v32)), (10, .c (.os 5 0 (LEN a0.fC))), (11, .c (wi (A.ofN (LEN a0.fC)))), (12, .c (wi v1)), (18, .c (wi w30)), (19, .c (wi v32)), (29, .c (.v (.bool y46)))] [(448, .var [ws w21, .os 964 0 (LEN (GD v2 (A.nadd 0 (A.toN v1))).fS), .os 966 0 (LEN (GD v2 (A.nadd 0 (A.toN v1))).fL), .os 968 0 (LEN (GD v2 (A.nadd 0 (A.toN v1))).fI)]), (5, .arr .rw [964, 966, 968] (LEN a0.fC) 4 (pC (row GD (oC LEN GD) v2) (A.nadd 0 (A.toN v1)) [ws (GD v2 (A.nadd 0 (A.toN v1))).fN, .os 964 0 (LEN (GD v2 (A.nadd 0 (A.toN v1))).fS), .os 966 0 (LEN (GD v2 (A.nadd 0 (A.toN v1))).fL), .os 968 0 (LEN (GD v2 (A.nadd 0 (A.toN v1))).fI)])), (964, .arr .rw [] (LEN (GD v2 (A.nadd 0 (A.toN v1))).fS) 5 (row GD (eS) (GD v2 (A.nadd 0 (A.toN v1))).fS)), (966, .arr .rw [] (LEN (GD v2 (A.nadd 0 (A.toN v1))).fL) 4 (row GD (eL) (GD v2 (A.nadd 0 (A.toN v1))).fL)), (968, .arr .rw [] (LEN (GD v2 (A.nadd 0 (A.toN v1))).fI) 8 (row GD (eI) v33))]) := ⟨_, rfl⟩
       refine ⟨S50, ?_, ?_⟩
       ·clear h
        have h := hy47
        clear hy47
        cbv
        replace h := oq h
        obtain ⟨c53, h⟩ := h
        refine ⟨⟨c53, tv⟩, ?_⟩
        refine And.intro (by subst hA; have p := ix c53; first | exact p | exact ⟨p, tv⟩ | exact ⟨p, trivial, tv⟩) ?_
        injection h with h
        subst h
        subst hS51
        exact lsp rfl zl10 ⟨rfl, oS, oS, oS, oS, tv⟩ rfl
       ·clear hy47
        subst hS51
        replace h := ol h
        obtain ⟨w52, hw52, h⟩ := h
        have hw52 : w52 = y46 := hw52
        subst hw52
        cbv
        replace h := ob_ h
        obtain ⟨y54, hy55, h⟩ := h
        obtain ⟨S58, hS59⟩ : ∃ S, S = some (sp 42 [(1, .c (wi a1)), (2, .c (wi a2)), (7, .c (.ptr 448 0)), (10, .c (.os 5 0 (LEN a0.fC))), (11, .c (wi (A.ofN (LEN a0.fC)))), (12, .c (wi v1)), (18, .c (wi w30)), (19, .c (wi v32))] [(448, .var [ws w21, .os 964 0 (LEN (GD v2 (A.nadd 0 (A.toN v1))).fS), .os 966 0 (LEN (GD v2 (A.nadd 0 (A.toN v1))).fL), .os 968 0 (LEN (GD v2 (A.nadd 0 (A.toN v1))).fI)]), (5, .arr .rw [964, 966, 968] (LEN a0.fC) 4 (pC (row GD (oC LEN GD) v2) (A.nadd 0 (A.toN v1)) [ws (GD v2 (A.nadd 0 (A.toN v1))).fN, .os 964 0 (LEN (GD v2 (A.nadd 0 (A.toN v1))).fS), .os 966 0 (LEN (GD v2 (A.nadd 0 (A.toN v1))).fL), .os 968 0 (LEN (GD v2 (A.nadd 0 (A.toN v1))).fI)])), (964, .arr .rw [] (LEN (GD v2 (A.nadd 0 (A.toN v1))).fS) 5 (row GD (eS) (GD v2 (A.nadd 0 (A.toN v1))).fS)), (966, .arr .rw [] (LEN (GD v2 (A.nadd 0 (A.toN v1))).fL) 4 (row GD (eL) (GD v2 (A.nadd 0 (A.toN v1))).fL)), (968, .arr .rw [] (LEN (GD v2 (A.nadd 0 (A.toN v1))).fI) 8 (row GD (eI) y54))]) := ⟨_, rfl⟩
        refine ⟨S58, ?_, ?_⟩
        ·clear h
         have h := hy55
         clear hy55
         cbv
         refine fork (fun b72 => ?_) (fun b72 => ?_)
         ·replace h := ot b72 h
          cbv
          replace h := ob_ h
          obtain ⟨y61, hy62, h⟩ := h
          obtain ⟨S65, hS66⟩ : ∃ S, S = (sp 42 [(1, .c (wi a1)), (2, .c (wi a2)), (7, .c (.ptr 448 0)), (10, .c (.os 5 0 (LEN a0.fC))), (11, .c (wi (A.ofN (LEN a0.fC)))), (12, .c (wi v1)), (18, .c (wi w30)), (19, .c (wi v32))] [(448, .var [ws w21, .os 964 0 (LEN (GD v2 (A.nadd 0 (A.toN v1))).fS), .os 966 0 (LEN (GD v2 (A.nadd 0 (A.toN v1))).fL), .os 968 0 (LEN (GD v2 (A.nadd 0 (A.toN v1))).fI)]), (5, .arr .rw [964, 966, 968] (LEN a0.fC) 4 (pC (row GD (oC LEN GD) v2) (A.nadd 0 (A.toN v1)) [ws (GD v2 (A.nadd 0 (A.toN v1))).fN, .os 964 0 (LEN (GD v2 (A.nadd 0 (A.toN v1))).fS), .os 966 0 (LEN (GD v2 (A.nadd 0 (A.toN v1))).fL), .os 968 0 (LEN (GD v2 (A.nadd 0 (A.toN v1))).fI)])), (964, .arr .rw [] (LEN (GD v2 (A.nadd 0 (A.toN v1))).fS) 5 (row GD (eS) (GD v2 (A.nadd 0 (A.toN v1))).fS)), (966, .arr .rw [] (LEN (GD v2 (A.nadd 0 (A.toN v1))).fL) 4 (row GD (eL) (GD v2 (A.nadd 0 (A.toN v1))).fL)), (968, .arr .rw [] (LEN (GD v2 (A.nadd 0 (A.toN v1))).fI) 8 (row GD (eI) y61))]) := ⟨_, rfl⟩
          refine ⟨S65, ?_, ?_⟩
          ·clear h
           have h := hy62
           clear hy62
           cbv
           replace h := oq h
           obtain ⟨c68, h⟩ := h
           refine ⟨⟨c68, tv⟩, ?_⟩
           refine And.intro (by subst hA; have p := ix c68; first | exact p | exact ⟨p, tv⟩ | exact ⟨p, trivial, tv⟩) ?_
           replace h := oq h
           obtain ⟨c69, h⟩ := h
           refine ⟨⟨c69, tv⟩, ?_⟩
           replace h := oq h
           obtain ⟨c71, h⟩ := h
           replace h := ol h
           obtain ⟨l70, hl70, h⟩ := h
           refine And.intro (by subst hA; have p := ix c69; first | exact p | exact ⟨p, tv⟩ | exact ⟨p, trivial, tv⟩) ?_
           refine ⟨_, rfl, _, row GD (eI) l70, rfl, wkOf ?_, ?_⟩
           ·subst hGD hLEN hA
            rw [c71] at c69
            refine upd_set hl70 (ix c69) ?_ ?_
            ·intro b hb hh
             match b, hb, hh with | 0, _, hh => exact rfl | 1, _, hh => exact (absurd hh (nd rfl)) | 2, _, hh => exact (absurd hh (nd rfl)) | 3, _, hh => exact (absurd hh (nd rfl)) | 4, _, hh => exact (absurd hh (nd rfl)) | 5, _, hh => exact (absurd hh (nd rfl)) | 6, _, hh => exact (absurd hh (nd rfl)) | 7, _, hh => exact (absurd hh (nd rfl)) | (b_ + 8), h_, _ => omega
            ·intro b hb hh
             match b, hb, hh with | 0, _, hh => exact (hh (yd rfl)).elim | 1, _, hh => exact rfl | 2, _, hh => exact rfl | 3, _, hh => exact rfl | 4, _, hh => exact rfl | 5, _, hh => exact rfl | 6, _, hh => exact rfl | 7, _, hh => exact rfl | (b_ + 8), h_, _ => omega
           cbv
           injection h with h
           subst h
           subst hS66
           exact lsp rfl zl8 ⟨rfl, oS, oS, oS, oS, tv⟩ rfl
          ·clear hy62
           subst hS66
           replace h := ol h
           obtain ⟨w67, hw67, h⟩ := h
           have hw67 : w67 = y61 := hw67
           subst hw67
           cbv
           injection h with h
           subst h
           subst hS59
           exact lsp rfl zl8 ⟨rfl, oS, oS, oS, oS, tv⟩ rfl
         ·replace h := og b72 h
          cbv
          injection h with h
          subst h
          subst hS59
          exact lsp rfl zl8 ⟨rfl, oS, oS, oS, oS, tv⟩ rfl
        ·clear hy55
         subst hS59
         replace h := ol h
         obtain ⟨w60, hw60, h⟩ := h
         have hw60 : w60 = y54 := hw60
         subst hw60
         cbv
         injection h with h
         refine hK40 _ h.symm _ ?_
         exact lsp rfl zl8 ⟨rfl, oS, oS, oS, oS, tv⟩ rfl
      ·replace h := og b76 h
       cbv
       replace h := oq h
       obtain ⟨c73, h⟩ := h
       replace h := oq h
       obtain ⟨c75, h⟩ := h
       replace h := ol h
       obtain ⟨l74, hl74, h⟩ := h
       injection h with h
       refine hY38 _ h.symm _ _ (And.intro rfl ?_) (by intro hh; cases hh)
       refine St.le_trans (le_foldP 5 1 964 rfl rfl rfl (by decide) (by subst hA; exact ix c23) (by decide) rfl (fun _ _ => rC _ _)) ?_
       refine St.le_trans (le_foldP 5 2 966 rfl rfl rfl (by decide) (by subst hA; exact ix c23) (by decide) rfl (fun _ _ => rC _ _)) ?_
       refine St.le_trans (le_foldP 5 3 968 rfl rfl rfl (by decide) (by subst hA; exact ix c23) (by decide) rfl (fun _ _ => rC _ _)) ?_
       exact lsp rfl zl5 ⟨⟨fun hw => hw, fun c hc => (by cases hc), .inr (fun i _ j _ z hz => (noref (rC _ _) hz).elim), rfl, rfl, (by subst hGD hLEN hA; exact patch_set hl74 (ix (by rw [<- c75]; exact c23)) (by intro j hj; match j, hj with | 0, _ => rfl | 1, _ => rfl | 2, _ => rfl | 3, _ => exact (by first | rfl | exact congrArg (fun n => AC.ow n _ _) (Eq.symm (by assumption)) | exact congrArg (fun n => AC.ow n _ _) (by assumption)) | (j_ + 4), h_ => omega))⟩, tv⟩ rfl
     ·clear hr36
      have h := hN37
      clear hN37
      intro e44 s45 q43 hne
      replace h := ol h
      obtain ⟨y35k0, hyk, h⟩ := h
      have hyk : y35k0 = y35 := hyk
      subst hyk
      obtain ⟨rfl, q43⟩ := q43
      replace h := ol h
      obtain ⟨w77, hw77, h⟩ := h
      have hw77 : w77 = y35k0 := hw77
      subst hw77
      cbv
      refine ⟨_, q43, ?_⟩
      cbv
      injection h with h
      refine hK9 _ h.symm _ ?_
      exact lsp rfl zl5 ⟨oS, tv⟩ rfl
  ·replace h := og b78 h
   cbv
   injection h with h
   refine hY7 _ h.symm _ _ (And.intro rfl ?_) (by intro hh; cases hh)
   exact lsp rfl trivial ⟨oS, tv⟩ rfl
 ·clear hr5
  have h := hN6
  clear hN6
  intro e13 s14 q12 hne
  replace h := ol h
  obtain ⟨y4k0, hyk, h⟩ := h
  have hyk : y4k0 = y4 := hyk
  subst hyk
  obtain ⟨rfl, q12⟩ := q12
  replace h := ol h
  obtain ⟨w79, hw79, h⟩ := h
  have hw79 : w79 = y4k0 := hw79
  subst hw79
  cbv
  refine ⟨_, q12, ?_⟩
  cbv
  replace h := oq h
  obtain ⟨c80, h⟩ := h
  injection h with h
  subst h
  refine ⟨(sp 42 [] [(5, .arr .rw [] (LEN w79) 4 (row GD (oC LEN GD) w79))]), ?_, ?_⟩
  ·rw [c80]
   exact lsp rfl trivial ⟨oS, tv⟩ rfl
  ·exact ⟨lR _, ⟨oS, tv⟩, rfl⟩

section
open Go.RowKit Go.Lib
set_option maxRecDepth 1000000 in
/-- slices.Delete: the elements behind those that are taken out lie further ahead, the cells behind are emptied -/
theorem calls_slices_Delete_Limpl_Cell_impl_Cell_mobb (blk off cap n i j : Nat) (D : List Value) (w : World) (hlen : D.length = n * 4) (hD : ∀ t u, D[t]? = some u -> w.cell? ⟨blk, off + t, none⟩ = some u) (h1 : ∀ u ∈ D, u.oneCell' = true) (hfz : ∀ t, t < n * 4 -> w.frozen? ⟨blk, off + t, none⟩ = false) (hcap : n <= cap) (hij : i < j) (hj : j <= n) :
  Calls Tryz.prog 198 #[.slice (some ⟨blk, off, none⟩) n cap, .int .i64 i, .int .i64 j] w fun e w' => e = .returned (.slice (some ⟨blk, off, none⟩) (n - (j - i)) cap) /\ ∃ zs : List Value, zs.length = (j - i) * 4 /\ (∀ u ∈ zs, u.oneCell' = true) /\ w' = (w.drew.setCells blk (off + i * 4) (D.drop (j * 4))).setCells blk (off + (i + (n - j)) * 4) zs := by
 obtain ⟨news, hnews⟩ : ∃ news, news = D.drop (j * 4) := ⟨_, rfl⟩
 have hl : news.length = (n - j) * 4 := by rw [hnews, List.length_drop, hlen, Nat.sub_mul]
 obtain ⟨A, hA, hsrc⟩ : ∃ A : Addr, (if cap = j then some (⟨blk, off, none⟩ : Addr) else some ⟨blk, off + j * 4, none⟩) = some A /\ Hid (∀ t u, news[t]? = some u -> w.drew.cell? (A.add t) = some u) := by
  by_cases h : cap = j
  ·refine ⟨⟨blk, off, none⟩, by simp [h], fun t u hu => ?_⟩
   have h00 : n - j = 0 := by omega
   have h0 : news.length = 0 := by rw [hl, h00, Nat.zero_mul]
   rw [List.length_eq_zero_iff.1 h0] at hu
   simp at hu
  ·refine ⟨⟨blk, off + j * 4, none⟩, by simp [h], fun t u hu => ?_⟩
   rw [Addr.add_lit, Nat.add_assoc]
   exact hD _ u (by rw [hnews, List.getElem?_drop] at hu; exact hu)
 have s1 : Hid (news.length = (n - j) * 4) := hl
 have s2 : Hid (∀ u ∈ news, u.oneCell' = true) := fun u hu => h1 u (List.mem_of_mem_drop (by rw [hnews] at hu; exact hu))
 have hex : ∀ t, t < n * 4 -> (w.cell? ⟨blk, off + t, none⟩).isSome = true := fun t ht => by
  rw [hD t (D[t]'(by omega)) (List.getElem?_eq_getElem (by omega))]; rfl
 have s3 : Hid (∀ t, t < news.length -> (w.drew.cell? ⟨blk, off + i * 4 + t, none⟩).isSome = true /\ w.drew.frozen? ⟨blk, off + i * 4 + t, none⟩ = false) := fun t ht => by
  rw [hl] at ht
  rw [Nat.add_assoc]
  exact ⟨hex _ (by omega), hfz _ (by omega)⟩
 obtain ⟨W1, hW1⟩ : ∃ W1, W1 = w.drew.setCells blk (off + i * 4) news := ⟨_, rfl⟩
 have hW : Hid (W1 = w.drew.setCells blk (off + i * 4) news) := hW1
 obtain ⟨z, hz⟩ : ∃ z, z = (Builtin.zeroCells d149.zero.cells (j - i)).toList := ⟨_, rfl⟩
 have hzs : d149.zero.cells.size = 4 := by kernel_rfl
 have hzl : z.length = (j - i) * 4 := by rw [hz, Array.length_toList, size_zeroCells, hzs]
 have hz1 : ∀ v ∈ z, v.oneCell' = true := by
  rw [hz]
  exact zeroCells_one _ (fun v hv => by
   have := Array.all_eq_true_iff_forall_mem.1 (show d149.zero.cells.all Value.oneCell' = true by kernel_rfl) v hv
   exact this) _
 have hcl : ∀ ty, (Builtin.clear_ #[41] ty #[.slice (some ⟨blk, off + (i + (n - j)) * 4, none⟩) (n - (i + (n - j))) (cap - (i + (n - j)))]).run Tryz.prog W1 = .ok (.tuple #[]) (W1.setCells blk (off + (i + (n - j)) * 4) z) := fun ty => by
  have e : n - (i + (n - j)) = j - i := by omega
  rw [e, hz]
  refine run_clear_cells W1 41 149 ty d149.zero (by kernel_rfl) (fun w => ?_) blk _ _ _ (by omega) ?_ ?_ ?_
  ·exact run_zero tok (show T 149 = some d149 from rfl)
  ·rw [<- hz]; exact hz1
  ·intro t ht
   rw [size_zeroCells, hzs] at ht
   rw [hW1, Nat.add_assoc]
   refine isSome_setCells blk _ _ _ (fun q hq => ?_) _ (hex _ ?_)
   ·rw [hl] at hq
    rw [Nat.add_assoc]; exact hex _ (by omega)
   ·omega
  ·intro t ht
   rw [size_zeroCells, hzs] at ht
   rw [hW1, World.frozen?_setCells, Nat.add_assoc]
   exact hfz _ (by omega)
 have hX : Hid (∃ zs : List Value, zs.length = (j - i) * 4 /\ (∀ u ∈ zs, u.oneCell' = true) /\ W1.setCells blk (off + (i + (n - j)) * 4) z = (w.drew.setCells blk (off + i * 4) (D.drop (j * 4))).setCells blk (off + (i + (n - j)) * 4) zs) := ⟨z, hzl, hz1, by rw [hW1, hnews]⟩
 have hic : i <= cap := by omega
 have hjc : j <= cap := by omega
 have hne : ¬ (i = j) := by omega
 have hI : (Tryz.prog.info? 149).map (·.size) = some 4 := by kernel_rfl
 obtain ⟨i0, hi0, hz5⟩ : ∃ i0, Tryz.prog.info? 149 = some i0 /\ i0.size = 4 := by
  cases h : Tryz.prog.info? 149 with
  | none => rw [h] at hI; cases hI
  | some i0 => rw [h] at hI; exact ⟨i0, rfl, by injection hI⟩
 have mixed : Tryz.prog.follows .mixedOrders = true := by kernel_rfl
 clear hW1 hex hzs hnews hl hz hzl hz1 hD h1 hfz
 go_enter Tryz.func198, Tryz.ntmps198
 go_wp2_with fail
 go_region_law_o (refine step_append_room rfl (.tmp 22) (.tmp 25) 41 rfl 149 i0 4 (by kernel_rfl) hi0 hz5 blk off i cap (by simp [Act.eval, Act.put]) A (n - j) (cap - j) news (by simp [Act.eval, Act.put, hA]) s1.out hsrc.out s2.out (by omega) s3.out ?_; rw [<- hW.out])
 go_wp2
 go_ret
 refine ⟨by rw [show n - (j - i) = i + (n - j) by omega]; rfl, hX.out⟩
end
/-- slices.Delete[[]loop.example/g00890/impl.Cell,loop.example/g00890/impl.Cell] -/
def Fq76 (a0 : List TC) (a1 : Int) (a2 : Int) : Option (List TC) :=
 if 0 <= a1 /\ a1 < a2 /\ a2 <= (a0.length : Int) then some (a0.take a1.toNat ++ a0.drop a2.toNat) else none
theorem runq76 (a0 : List TC) (a1 : Int) (a2 : Int) (r : List TC) (h : Fq76 a0 a1 a2 = some r) : Fun Tryz.prog 198 [.c (.os 5 0 (len a0)), .c (wi a1), .c (wi a2)] [(5, .arr .rw [] (len a0) 4 (row gd (oC len gd) a0))] (.c (.os 64000 0 (len r))) [(64000, .arr .rw [] (len r) 4 (row gd (oC len gd) r))] true := by
 unfold Fq76 at h
 split at h
 ·rename_i h1
  injection h with h
  subst h
  obtain ⟨i, rfl⟩ : ∃ i : Nat, a1 = i := ⟨a1.toNat, by omega⟩
  obtain ⟨j, rfl⟩ : ∃ j : Nat, a2 = j := ⟨a2.toNat, by omega⟩
  rw [Int.toNat_natCast, Int.toNat_natCast]
  have e : len (a0.take i ++ a0.drop j) = len a0 - (j - i) := by
   show List.length _ = List.length _ - _
   rw [List.length_append, List.length_take, List.length_drop]; omega
  rw [e]
  exact Fun.delete Tryz.func198 (by kernel_rfl) (by kernel_rfl) 4 (fun blk off cap n i j D w h1 h2 h3 h4 h5 h6 h7 => calls_slices_Delete_Limpl_Cell_impl_Cell_mobb blk off cap n i j D w h1 h2 h3 h4 h5 h6 h7) (len a0) i j _ _ (by omega) (show j <= a0.length by omega)
   (fun t ht q hq => by show oC len gd (gd _ t) q = oC len gd (gd a0 _) q; rw [cut_get a0 i j t (by omega) (by omega)]) (fun t q => rC _ _) (fun t q => fl_oncCell _ _)
 ·cases h

/-- impl.Cell] -/
def Fq112 (a0 : List TC) (a1 : Int) : Option (List TC) :=
 (Fq76 a0 a1 (std.add .i64 a1 1)).bind fun y1 =>
 some y1
theorem runq112 (a0 : List TC) (a1 : Int) (r : List TC) (h : Fq112 a0 a1 = some r) : Fun Tryz.prog 120 [.c (.os 5 0 (len a0)), .c (wi a1)] [(5, .arr .rw [] (len a0) 4 (row gd (oC len gd) a0))] (.c (.os 64000 0 (len r))) [(64000, .arr .rw [] (len r) 4 (row gd (oC len gd) r))] true := by
 refine Fun.of_wp (oneOf []) tok mixed Tryz.func120 (by kernel_rfl) rfl Tryz.ntmps120 rfl ⟨fun i _ j _ k hk => (noref (rC _ _) hk).elim, tv⟩ (fun _ => ⟨trivial, ⟨fun i _ j _ => fl_oncCell _ _, tv⟩⟩) ?_
 unfold Fq112 at h
 have hfq76 := @runq76
 generalize hLEN : @len = LEN, hGD : @gd = GD, hA : std = A, hP : Tryz.prog = P at *
 cbv
 replace h := ob_ h
 obtain ⟨y1, hy2, h⟩ := h
 refine ⟨⟨_, _, _, _, _, [(5, 5)], [(64000, 576)]⟩, hfq76 _ _ _ _ hy2, ⟨zs3, ⟨oS, tv⟩, rfl, rfl, rfl, rfl, ⟨evn 64000 rfl, tv⟩, rfl⟩, _, rfl, _, _, rfl, fun _ _ _ _ => .refl _, ?_⟩
 cbv
 injection h with h
 subst h
 refine ⟨(sp 10 [(4, .c (.os 64000 0 (LEN y1)))] [(64000, .arr .rw [] (LEN y1) 4 (row GD (oC LEN GD) y1))]), ?_, ?_⟩
 ·refine St.le_trans (le_ren 576 64000 (by decide) rfl) ?_
  exact lsp rfl zl1 ⟨oS, tv⟩ rfl
 ·exact ⟨lR _, ⟨oS, tv⟩, rfl⟩

section
open Go.RowKit Go.Lib
set_option maxRecDepth 1000000 in
theorem ins_shift_slices_Insert_Limpl_Shape_impl_Shape_mobo (b off n c i vb voff m vc : Nat) (cs vs : List Value) (w : World) (hi : i < n) (hm : 0 < m) (hroom : n + m <= c) (hc63 : n + m <= 9223372036854775807) (hvb : vb ≠ b)
  (hcl : cs.length = n * 5) (hvl : vs.length = m * 5)
  (hcs : ∀ j v, cs[j]? = some v -> w.cell? ⟨b, off + j, none⟩ = some v) (hsp : ∀ j, j < (n + m) * 5 -> (w.cell? ⟨b, off + j, none⟩).isSome = true) (hfz : ∀ j, j < (n + m) * 5 -> w.frozen? ⟨b, off + j, none⟩ = false)
  (hvs : ∀ j v, vs[j]? = some v -> w.cell? ⟨vb, voff + j, none⟩ = some v) (h1c : ∀ v ∈ cs, v.oneCell' = true) (h1v : ∀ v ∈ vs, v.oneCell' = true)
  (tA tB : TypeId) (kA kB : Nat) (hsa : w.shape? vb = some (tA, kA)) (hsb : w.shape? b = some (tB, kB)) (hkB : kB ≠ 0) (hfa : w.frozen? ⟨vb, voff, none⟩ = false) (hfe : w.frozen? ⟨vb, kA, none⟩ = false) :
  Calls Tryz.prog 121 #[.slice (some ⟨b, off, none⟩) n c, .int .i64 i, .slice (some ⟨vb, voff, none⟩) m vc] w fun e w' =>
   e = .returned (.slice (some ⟨b, off, none⟩) (n + m) c) /\ w' = (w.drew.setCells b (off + (i + m) * 5) (cs.drop (i * 5))).setCells b (off + i * 5) vs := by
 have tSl : Tryz.prog.underlying 145 = some (.slice 49) := by kernel_rfl
 have hz1 : ¬ ((m : Int) = 0) := by omega
 have hz2 : ¬ ((i : Int) = (n : Int)) := by omega
 have hsz : (Tryz.prog.info? 49).map (·.size) = some 5 := by kernel_rfl
 have hov : ∀ lb cb, (callFunc 199 #[.slice (some ⟨vb, voff, none⟩) m vc, .slice (some ⟨b, off + (i + m) * 5, none⟩) lb cb]).run Tryz.prog w = .ok (.value (.bool false)) w := fun lb cb => by
  rw [run_callFunc_extern Tryz.func199 (by kernel_rfl) (by kernel_rfl) (by kernel_rfl) (e := Extern.SlicesOverlaps.overlaps #[145, 145] #[4]) (by kernel_rfl),
   Lib.run_overlaps_apart w 145 4 49 tSl 5 (fun w => run_sizeOf tok (show T 49 = some d49 from rfl)) ⟨vb, voff, none⟩ ⟨b, off + (i + m) * 5, none⟩ m vc lb cb hvb tA tB kA kB hsa hsb hkB hfa hfe]
  rfl
 have hdl : (cs.drop (i * 5)).length = (n - i) * 5 := by rw [List.length_drop, hcl, Nat.sub_mul]
 have mixed : Tryz.prog.follows .mixedOrders = true := by kernel_rfl
 have hw1 : IntKind.i64.wrap ((i : Int) + (m : Int)) = (i : Int) + (m : Int) := by rw [IntKind.wrap_i64]; omega
 have hb1 : (0 : Int) <= (i : Int) + (m : Int) := by omega
 have hin : i <= n := by omega
 have htn : ((i : Int) + (m : Int)).toNat = i + m := by omega
 have hb2 : ¬ (c = i + m) := by omega
 have hb3 : (i : Int) <= (n : Int) + (m : Int) := by omega
 have hb4 : ¬ (c = i) := by omega
 have hcp1 : ∀ ty dc sc, (Builtin.copy_ #[145, 145] ty #[.slice (some ⟨b, off + (i + m) * 5, none⟩) (n + m - (i + m)) dc, .slice (some ⟨b, off + i * 5, none⟩) (n + m - i) sc]).run Tryz.prog w.drew = .ok (goInt (Nat.min (n + m - i) (n + m - (i + m)))) (w.drew.setCells b (off + (i + m) * 5) (cs.drop (i * 5))) := fun ty dc sc =>
  run_copy_cellsN 5 w.drew _ _ ty 49 b (off + (i + m) * 5) (n + m - (i + m)) dc ⟨b, off + i * 5, none⟩ (n + m - i) sc (cs.drop (i * 5)) tSl hsz (by rw [hdl, show Nat.min (n + m - i) (n + m - (i + m)) = n - i by simp only [Nat.min_def]; split <;> omega])
   (fun j v hj => by rw [Addr.add_lit, Nat.add_assoc]; exact hcs (i * 5 + j) v (by rwa [List.getElem?_drop] at hj))
   (fun j hj => by rw [Nat.add_assoc]; exact hsp _ (by omega)) (fun j hj => by rw [Nat.add_assoc]; exact hfz _ (by omega)) (fun v hv => h1c v (List.mem_of_mem_drop hv))
 obtain ⟨W1, hW1⟩ : ∃ W1, W1 = w.drew.setCells b (off + (i + m) * 5) (cs.drop (i * 5)) := ⟨_, rfl⟩
 have hsp1 : ∀ k, k < (n + m) * 5 -> (W1.cell? ⟨b, off + k, none⟩).isSome = true := fun k hk => by
  rw [hW1]
  exact isSome_setCells b _ _ _ (fun j hj => by rw [Nat.add_assoc]; exact hsp _ (by omega)) _ (hsp k hk)
 have hcp2 : ∀ (W : World), (∀ x, W.cell? x = W1.cell? x) -> (∀ x, W.frozen? x = W1.frozen? x) -> ∀ ty dc, (Builtin.copy_ #[145, 145] ty #[.slice (some ⟨b, off + i * 5, none⟩) (n + m - i) dc, .slice (some ⟨vb, voff, none⟩) m vc]).run Tryz.prog W = .ok (goInt (Nat.min m (n + m - i))) (W.setCells b (off + i * 5) vs) := fun W hWc hWf ty dc =>
  run_copy_cellsN 5 W _ _ ty 49 b (off + i * 5) (n + m - i) dc ⟨vb, voff, none⟩ m vc vs tSl hsz (by rw [hvl, show Nat.min m (n + m - i) = m by simp only [Nat.min_def]; split <;> omega])
   (fun j v hj => by
    rw [Addr.add_lit, hWc, hW1, World.cell?_setCells_out b _ _ _ _ (fun h _ => absurd h hvb)]
    exact hvs j v hj)
   (fun j hj => by rw [hWc, Nat.add_assoc]; exact hsp1 _ (by omega)) (fun j hj => by rw [hWf, hW1, World.frozen?_setCells, Nat.add_assoc]; exact hfz _ (by omega)) h1v
 rw [<- hW1] at hcp1
 clear hsp hfz hcs hvs h1c h1v
 go_enter Tryz.func121, Tryz.ntmps121
 go_wp2_with (simp only [hov])
 go_region_law_o (refine step_copy_runI rfl _ _ 145 145 rfl _ _ (by simp [Act.eval, Act.put]) (by simp [Act.eval, Act.put]) (hcp1 _ _ _) ?_)
 go_wp2_with (at_builtin; refine wpList_copy_runI _ rfl _ _ 145 145 rfl _ _ rfl rfl (hcp2 _ (fun _ => rfl) (fun _ => rfl) _ _) ?_)
 go_ret
 first | exact ⟨rfl, rfl⟩ | exact ⟨rfl, by rw [hW1]⟩
set_option maxRecDepth 1000000 in
theorem ins_end_room_slices_Insert_Limpl_Shape_impl_Shape_mobo (b off n c vb voff m vc : Nat) (vs : List Value) (w : World) (hm : 0 < m) (hroom : n + m <= c) (hc63 : n + m <= 9223372036854775807)
  (hvl : vs.length = m * 5) (hsp : ∀ j, j < m * 5 -> (w.cell? ⟨b, off + n * 5 + j, none⟩).isSome = true) (hfz : ∀ j, j < m * 5 -> w.frozen? ⟨b, off + n * 5 + j, none⟩ = false)
  (hvs : ∀ j v, vs[j]? = some v -> w.cell? ⟨vb, voff + j, none⟩ = some v) (h1v : ∀ v ∈ vs, v.oneCell' = true) :
  Calls Tryz.prog 121 #[.slice (some ⟨b, off, none⟩) n c, .int .i64 n, .slice (some ⟨vb, voff, none⟩) m vc] w fun e w' =>
   e = .returned (.slice (some ⟨b, off, none⟩) (n + m) c) /\ w' = w.setCells b (off + n * 5) vs := by
 have tSl : Tryz.prog.underlying 145 = some (.slice 49) := by kernel_rfl
 have mixed : Tryz.prog.follows .mixedOrders = true := by kernel_rfl
 have hI : (Tryz.prog.info? 49).map (·.size) = some 5 := by kernel_rfl
 obtain ⟨i0, hi0, hz5⟩ : ∃ i0, Tryz.prog.info? 49 = some i0 /\ i0.size = 5 := by
  cases h : Tryz.prog.info? 49 with
  | none => rw [h] at hI; cases hI
  | some i0 => rw [h] at hI; exact ⟨i0, rfl, by injection hI⟩
 have hz1 : ¬ ((m : Int) = 0) := by omega
 have hsrc : Src Tryz.prog i0.size 145 (.slice (some ⟨vb, voff, none⟩) m vc) m vs w := Src.ofSlice w tSl ⟨vb, voff, none⟩ m vc vs (by rw [hz5]; exact hvl) (fun j u hj => by rw [Addr.add_lit]; exact hvs j u hj) h1v
 have s1 : Hid (∀ j, j < vs.length -> (w.cell? ⟨b, off + n * i0.size + j, none⟩).isSome = true) := by rw [hvl, hz5]; exact hsp
 have s2 : Hid (∀ j, j < vs.length -> w.frozen? ⟨b, off + n * i0.size + j, none⟩ = false) := by rw [hvl, hz5]; exact hfz
 clear hsp hfz hvs
 go_enter Tryz.func121, Tryz.ntmps121
 go_wp2_with (at_builtin; refine wpList_append_room_src _ rfl _ _ 145 145 rfl 49 i0 tSl hi0 b off n c rfl _ rfl m vs hsrc hroom s1.out s2.out ?_)
 go_ret
 exact ⟨rfl, rfl⟩
set_option maxRecDepth 1000000 in
theorem ins_end_grow_slices_Insert_Limpl_Shape_impl_Shape_mobo (base : Option Addr) (n c vb voff m vc : Nat) (cs vs : List Value) (w : World) (hm : 0 < m) (hnc : n <= c) (hroom : c < n + m) (hbig : (n + m) * 40 <= 140737488355328)
  (hcl : cs.length = n * 5) (hvl : vs.length = m * 5) (hnil : base = none -> n = 0)
  (hcs : ∀ a, base = some a -> ∀ j v, cs[j]? = some v -> w.cell? (a.add j) = some v)
  (hvs : ∀ j v, vs[j]? = some v -> w.cell? ⟨vb, voff + j, none⟩ = some v) (h1v : ∀ v ∈ vs, v.oneCell' = true) :
  Calls Tryz.prog 121 #[.slice base n c, .int .i64 n, .slice (some ⟨vb, voff, none⟩) m vc] w fun e w' =>
   e = .returned (.slice (some ⟨w.heap.size, 0, none⟩) (n + m) (grownCap w (n + m) c 49)) /\
   w' = w.drew.alloc (.cells ((cs ++ vs).toArray ++ Builtin.zeroCells d49.zero.cells (grownCap w (n + m) c 49 - (n + m))) 49) := by
 have tSl : Tryz.prog.underlying 145 = some (.slice 49) := by kernel_rfl
 have mixed : Tryz.prog.follows .mixedOrders = true := by kernel_rfl
 obtain ⟨i0, hi0, hzs, hzb, hz0⟩ := (tok 49 d49 rfl).2.1
 have hzs : i0.size = 5 := hzs
 have hzb : i0.bytes = 40 := hzb
 have hz1 : ¬ ((m : Int) = 0) := by omega
 have hsrc : Src Tryz.prog i0.size 145 (.slice (some ⟨vb, voff, none⟩) m vc) m vs w := Src.ofSlice w tSl ⟨vb, voff, none⟩ m vc vs (by rw [hzs]; exact hvl) (fun j u hj => by rw [Addr.add_lit]; exact hvs j u hj) h1v
 have hold : (Builtin.firstCells i0.size n (.slice base n c)).run Tryz.prog w.drew = .ok cs.toArray w.drew := by
  rw [hzs]
  cases base with
  | none =>
   have h0 := hnil rfl
   subst h0
   have hc0 : cs.length = 0 := by rw [hcl, Nat.zero_mul]
   rw [List.length_eq_zero_iff.1 hc0]
   exact run_firstCells_none w.drew 5 0 0 c
  | some a => exact run_firstCells_some w.drew 5 n a n c cs hcl (fun j v hj => hcs a rfl j v hj)
 have hrun : ∀ ty, (Builtin.append_ #[145, 145] ty #[.slice base n c, .slice (some ⟨vb, voff, none⟩) m vc]).run Tryz.prog w = _ := fun ty =>
  run_append_grow_src w 145 145 ty 49 i0 _ tSl hi0 hz0 base n c cs hold _ m vs hsrc hroom (by omega) (by rw [hzb]; exact growslice_fits hroom hbig)
 go_enter Tryz.func121, Tryz.ntmps121
 cases base with
 | none =>
  have h0 := hnil rfl
  subst h0
  go_wp2_with (at_builtin; refine Lib.wpList_append_run _ rfl _ _ _ _ rfl _ _ rfl rfl _ _ (hrun _) ?_)
  go_ret
  exact ⟨rfl, rfl⟩
 | some a =>
  obtain ⟨ab, ao, asp⟩ := a
  go_wp2_with (at_builtin; refine Lib.wpList_append_run _ rfl _ _ _ _ rfl _ _ rfl rfl _ _ (hrun _) ?_)
  all_goals (go_ret; exact ⟨rfl, rfl⟩)
set_option maxRecDepth 1000000 in
theorem ins_grow_slices_Insert_Limpl_Shape_impl_Shape_mobo (b off n c i vb voff m vc : Nat) (cs vs : List Value) (w : World) (hi : i < n) (hm : 0 < m) (hnc : n <= c) (hroom : c < n + m) (hbig : (n + m) * 40 <= 140737488355328)
  (hcl : cs.length = n * 5) (hvl : vs.length = m * 5)
  (hcs : ∀ j v, cs[j]? = some v -> w.cell? ⟨b, off + j, none⟩ = some v)
  (hvs : ∀ j v, vs[j]? = some v -> w.cell? ⟨vb, voff + j, none⟩ = some v) (h1c : ∀ v ∈ cs, v.oneCell' = true) (h1v : ∀ v ∈ vs, v.oneCell' = true) :
  Calls Tryz.prog 121 #[.slice (some ⟨b, off, none⟩) n c, .int .i64 i, .slice (some ⟨vb, voff, none⟩) m vc] w fun e w' =>
   e = .returned (.slice (some ⟨w.heap.size, 0, none⟩) (n + m) (grownCap w (n + m) c 49)) /\
   w' = (((w.alloc (.cells ((cs.take (i * 5)).toArray ++ Builtin.zeroCells d49.zero.cells (n + m - i) ++ Builtin.zeroCells d49.zero.cells (grownCap w (n + m) c 49 - (n + m))) 49)).drew.setCells w.heap.size (i * 5) vs).drew).setCells w.heap.size ((i + m) * 5) (cs.drop (i * 5)) := by
 have tSl : Tryz.prog.underlying 145 = some (.slice 49) := by kernel_rfl
 have t3 : Tryz.prog.underlying 3 = some (.int .i64) := by kernel_rfl
 have mixed : Tryz.prog.follows .mixedOrders = true := by kernel_rfl
 obtain ⟨i0, hi0, hzs, hzb, hz0⟩ := (tok 49 d49 rfl).2.1
 have hzs : i0.size = 5 := hzs
 have hzb : i0.bytes = 40 := hzb
 have hz5 : d49.zero.cells.size = 5 := by kernel_rfl
 have hz1 : ¬ ((m : Int) = 0) := by omega
 have hz2 : ¬ ((i : Int) = (n : Int)) := by omega
 have hz3 : (c : Int) < (n : Int) + (m : Int) := by omega
 have hsz : (Tryz.prog.info? 49).map (·.size) = some 5 := by rw [hi0]; simp [hzs]
 have hbw : b < w.heap.size := block_lt_of_cell (hcs 0 _ (List.getElem?_eq_getElem (by omega)))
 have hvw : vb < w.heap.size := block_lt_of_cell (hvs 0 _ (List.getElem?_eq_getElem (by omega)))
 have hkk : (n : Int) + (m : Int) - (i : Int) = ((n + m - i : Nat) : Int) := by omega
 have hik : i + (n + m - i) = n + m := by omega
 have htl : (cs.take (i * 5)).length = i * 5 := by rw [List.length_take, hcl]; omega
 have hold : (Builtin.firstCells i0.size i (.slice (some ⟨b, off, none⟩) i c)).run Tryz.prog w.drew = .ok (cs.take (i * 5)).toArray w.drew := by
  rw [hzs]
  exact run_firstCells_some w.drew 5 i ⟨b, off, none⟩ i c (cs.take (i * 5)) htl (fun j v hj => by
   rw [Addr.add_lit]
   rw [List.getElem?_take] at hj
   split at hj
   ·exact hcs j v hj
   ·cases hj)
 have hrz : ∀ ty, (Builtin.append_ #[145, 3] ty #[.slice (some ⟨b, off, none⟩) i c, .int .i64 ((n : Int) + (m : Int) - (i : Int))]).run Tryz.prog w =
   .ok (.slice (some ⟨w.heap.size, 0, none⟩) (n + m) (grownCap w (n + m) c 49)) (w.drew.alloc (.cells ((cs.take (i * 5)).toArray ++ Builtin.zeroCells d49.zero.cells (n + m - i) ++ Builtin.zeroCells d49.zero.cells (grownCap w (n + m) c 49 - (n + m))) 49)) := fun ty => by
  have h := Lib.run_append_grow_zeros w 145 3 ty 49 i0 _ .i64 .i64 tSl t3 hi0 hz0 (some ⟨b, off, none⟩) i c (cs.take (i * 5)) hold (n + m - i) (by omega) (by omega) (by omega) (by omega) (by rw [hzb]; omega) (by rw [hzb, hik]; exact growslice_fits hroom hbig)
  rw [hik] at h
  rw [hkk]
  exact h
 obtain ⟨G, hG⟩ : ∃ G, G = grownCap w (n + m) c 49 := ⟨_, rfl⟩
 obtain ⟨ROW, hROW⟩ : ∃ ROW : Array Value, ROW = (cs.take (i * 5)).toArray ++ Builtin.zeroCells d49.zero.cells (n + m - i) ++ Builtin.zeroCells d49.zero.cells (G - (n + m)) := ⟨_, rfl⟩
 rw [<- hG] at hrz ⊢
 rw [<- hROW] at hrz ⊢
 have hRl : (n + m) * 5 <= ROW.size := by
  rw [hROW, Array.size_append, Array.size_append, size_zeroCells, size_zeroCells, hz5, List.size_toArray, htl]
  omega
 obtain ⟨W1, hW1⟩ : ∃ W1, W1 = w.drew.alloc (.cells ROW 49) := ⟨_, rfl⟩
 rw [<- hW1] at hrz
 have hN : ∀ j, j < (n + m) * 5 -> (W1.cell? ⟨w.heap.size, j, none⟩).isSome = true := fun j hj => by
  rw [hW1, World.cell?_alloc_at (w := w.drew) ROW _ w.heap.size j rfl, Array.getElem?_eq_getElem (by omega)]; rfl
 have hNf : ∀ j, W1.frozen? ⟨w.heap.size, j, none⟩ = false := fun j => by rw [hW1]; exact World.frozen?_alloc_at (w := w.drew) ROW _ w.heap.size j rfl
 have hOb : ∀ j v, w.cell? ⟨b, j, none⟩ = some v -> W1.cell? ⟨b, j, none⟩ = some v := fun j v h => by rw [hW1, World.cell?_alloc_past (w := w.drew) _ b j hbw]; exact h
 have hOv : ∀ j v, w.cell? ⟨vb, j, none⟩ = some v -> W1.cell? ⟨vb, j, none⟩ = some v := fun j v h => by rw [hW1, World.cell?_alloc_past (w := w.drew) _ vb j hvw]; exact h
 have hcpA : ∀ (W : World), (∀ x, W.cell? x = W1.cell? x) -> (∀ x, W.frozen? x = W1.frozen? x) -> ∀ ty dc, (Builtin.copy_ #[145, 145] ty #[.slice (some ⟨w.heap.size, i * 5, none⟩) (n + m - i) dc, .slice (some ⟨vb, voff, none⟩) m vc]).run Tryz.prog W = .ok (goInt (Nat.min m (n + m - i))) (W.setCells w.heap.size (i * 5) vs) := fun W hWc hWf ty dc =>
  run_copy_cellsN 5 W _ _ ty 49 w.heap.size (i * 5) (n + m - i) dc ⟨vb, voff, none⟩ m vc vs tSl hsz (by rw [hvl, show Nat.min m (n + m - i) = m by simp only [Nat.min_def]; split <;> omega])
   (fun j v hj => by rw [Addr.add_lit, hWc]; exact hOv _ v (hvs j v hj))
   (fun j hj => by rw [hWc]; exact hN _ (by omega)) (fun j hj => by rw [hWf]; exact hNf _) h1v
 have hGn : n + m <= G := by rw [hG]; exact grownCap_ge w _ _ _
 have hG63 : G <= 9223372036854775807 := by
  have := grownCap_le_maxLen w (n + m) c 49 (by unfold maxLen; omega)
  rw [<- hG] at this
  unfold maxLen at this
  omega
 have hGi : ¬ (G = i) := by omega
 have hGim : ¬ (G = i + m) := by omega
 have hci : ¬ (c = i) := by omega
 have hbN : b ≠ w.heap.size := by omega
 have hdl : (cs.drop (i * 5)).length = (n - i) * 5 := by rw [List.length_drop, hcl, Nat.sub_mul]
 have hcpB : ∀ (W : World), (∀ x, W.cell? x = (W1.setCells w.heap.size (i * 5) vs).cell? x) -> (∀ x, W.frozen? x = (W1.setCells w.heap.size (i * 5) vs).frozen? x) -> ∀ ty dc sc, (Builtin.copy_ #[145, 145] ty #[.slice (some ⟨w.heap.size, (i + m) * 5, none⟩) (n + m - (i + m)) dc, .slice (some ⟨b, off + i * 5, none⟩) (n - i) sc]).run Tryz.prog W = .ok (goInt (Nat.min (n - i) (n + m - (i + m)))) (W.setCells w.heap.size ((i + m) * 5) (cs.drop (i * 5))) := fun W hWc hWf ty dc sc =>
  run_copy_cellsN 5 W _ _ ty 49 w.heap.size ((i + m) * 5) (n + m - (i + m)) dc ⟨b, off + i * 5, none⟩ (n - i) sc (cs.drop (i * 5)) tSl hsz (by rw [hdl, show Nat.min (n - i) (n + m - (i + m)) = n - i by simp only [Nat.min_def]; split <;> omega])
   (fun j v hj => by
    rw [Addr.add_lit, hWc, World.cell?_setCells_out _ _ _ _ _ (fun h _ => absurd h hbN), Nat.add_assoc]
    exact hOb _ v (hcs (i * 5 + j) v (by rwa [List.getElem?_drop] at hj)))
   (fun j hj => by rw [hWc]; exact isSome_setCells _ _ _ _ (fun t ht => hN _ (by omega)) _ (hN _ (by omega)))
   (fun j hj => by rw [hWf, World.frozen?_setCells]; exact hNf _) (fun v hv => h1c v (List.mem_of_mem_drop hv))
 subst hW1
 have hE1 : ∀ x, ((w.alloc (.cells ROW 49)).drew).cell? x = (w.drew.alloc (.cells ROW 49)).cell? x := fun x => rfl
 have hE2 : ∀ x, ((w.alloc (.cells ROW 49)).drew).frozen? x = (w.drew.alloc (.cells ROW 49)).frozen? x := fun x => rfl
 have hF1 : ∀ x, (((w.alloc (.cells ROW 49)).drew.setCells w.heap.size (i * 5) vs).drew).cell? x = ((w.drew.alloc (.cells ROW 49)).setCells w.heap.size (i * 5) vs).cell? x := fun x => rfl
 have hF2 : ∀ x, (((w.alloc (.cells ROW 49)).drew.setCells w.heap.size (i * 5) vs).drew).frozen? x = ((w.drew.alloc (.cells ROW 49)).setCells w.heap.size (i * 5) vs).frozen? x := fun x => rfl
 have hw1 : IntKind.i64.wrap ((i : Int) + (m : Int)) = (i : Int) + (m : Int) := by rw [IntKind.wrap_i64]; omega
 have hb1 : (0 : Int) <= (i : Int) + (m : Int) := by omega
 have hin : i <= n := by omega
 have htn : ((i : Int) + (m : Int)).toNat = i + m := by omega
 have hb3 : (i : Int) <= (n : Int) := by omega
 clear hkk hik hold hROW hG hRl hcs hvs h1c h1v hN hNf hOb hOv htl hdl
 go_enter Tryz.func121, Tryz.ntmps121
 go_wp2_with (first
  | (at_builtin; refine Lib.wpList_append_run _ rfl _ _ _ _ rfl _ _ rfl rfl _ _ (hrz _) ?_)
  | (at_builtin; refine wpList_copy_runI _ rfl _ _ 145 145 rfl _ _ rfl rfl (hcpA _ hE1 hE2 _ _) ?_)
  | (at_builtin; refine wpList_copy_runI _ rfl _ _ 145 145 rfl _ _ rfl rfl (hcpB _ (fun _ => rfl) (fun _ => rfl) _ _ _) ?_))
 go_region_law_o (refine step_copy_runI rfl _ _ 145 145 rfl (.slice (some ⟨w.heap.size, (i + m) * 5, none⟩) (n + m - (i + m)) (G - (i + m))) (.slice (some ⟨b, off + i * 5, none⟩) (n - i) (c - i)) (by simp [Act.eval, Act.put]) (by simp [Act.eval, Act.put]) (hcpB _ hF1 hF2 3 (G - (i + m)) (c - i)) ?_)
 go_wp2
 go_ret
 exact ⟨rfl, rfl⟩
theorem calls_slices_Insert_Limpl_Shape_impl_Shape_mobo (old : Option (Nat × Nat)) (y : Value) (n cap i vb voff m vc : Nat) (cs vs : List Value) (w : World)
  (hold : (old = none /\ n = 0 /\ cap = 0 /\ ∃ ad, y = .slice ad 0 0) \/ ∃ b off C t, old = some (b, off) /\ y = .slice (some ⟨b, off, none⟩) n cap /\ n <= cap /\ w.heap[b]? = some (.cells C t (0, 0)) /\ off + cap * 5 <= C.size /\ (∀ (q : Nat) u, C[q]? = some u -> u.oneCell' = true) /\ (∀ q, q < n * 5 -> C[off + q]? = cs[q]?) /\ vb ≠ b)
  (hi : i <= n) (hm : 0 < m) (hbig : (n + m) * 40 <= 140737488355328) (hcl : cs.length = n * 5) (hvl : vs.length = m * 5) (hvb : ∃ C2 t2, w.heap[vb]? = some (.cells C2 t2 (0, 0)) /\ ∀ q, q < m * 5 -> C2[voff + q]? = vs[q]?) (h1c : ∀ u ∈ cs, u.oneCell' = true) (h1v : ∀ u ∈ vs, u.oneCell' = true) :
  Calls Tryz.prog 121 #[y, .int .i64 i, .slice (some ⟨vb, voff, none⟩) m vc] w (Inserted w old 5 (n + m) (cs.take (i * 5) ++ vs ++ cs.drop (i * 5))) := by
 obtain ⟨C2, t2, hC2, hvs⟩ := hvb
 have hvcell : ∀ j v, vs[j]? = some v -> w.cell? ⟨vb, voff + j, none⟩ = some v := fun j v h => by
  rw [cell_at hC2, hvs j (by have := (List.getElem?_eq_some_iff.1 h).1; omega)]; exact h
 have hz5 : d49.zero.cells.size = 5 := by kernel_rfl
 have hz1 : ∀ k, ∀ v ∈ (Builtin.zeroCells d49.zero.cells k).toList, v.oneCell' = true := fun k => zeroCells_one _ (fun v hv => by
  have := Array.all_eq_true_iff_forall_mem.1 (show d49.zero.cells.all Value.oneCell' = true by kernel_rfl) v hv
  exact this) _
 have hzn : ∀ k, (Builtin.zeroCells d49.zero.cells k).size = k * 5 := fun k => by rw [size_zeroCells, hz5]
 rcases hold with ⟨ho, h0, hc, ad, rfl⟩ | ⟨b, off, C, t, ho, rfl, hnc, hC, hCs, h1C, hcs, hne⟩
 ·subst h0; subst hc
  obtain rfl : i = 0 := by omega
  have hcs0 : cs = [] := List.length_eq_zero_iff.1 (by omega)
  subst hcs0
  refine (ins_end_grow_slices_Insert_Limpl_Shape_impl_Shape_mobo ad 0 0 vb voff m vc [] vs w hm (Nat.le_refl _) (by omega) hbig hcl hvl (fun _ => rfl) (fun a _ j v h => by simp at h) hvcell h1v).mono ?_
  rintro e w' ⟨rfl, rfl⟩
  exact ins_post_endgrow hcl hvl h1v h1c (grownCap_ge _ _ _ _) (hzn _) (hz1 _)
 ·subst ho
  have hccell : ∀ j v, cs[j]? = some v -> w.cell? ⟨b, off + j, none⟩ = some v := fun j v h => by
   rw [cell_at hC, hcs j (by have := (List.getElem?_eq_some_iff.1 h).1; omega)]; exact h
  by_cases hroom : n + m <= cap
  ·have hsp : ∀ j, j < (n + m) * 5 -> (w.cell? ⟨b, off + j, none⟩).isSome = true := fun j hj => by
    rw [cell_at hC, Array.getElem?_eq_getElem (by omega)]; rfl
   by_cases hin : i = n
   ·subst hin
    refine (ins_end_room_slices_Insert_Limpl_Shape_impl_Shape_mobo b off i cap vb voff m vc vs w hm hroom (by omega) hvl (fun j hj => by rw [Nat.add_assoc]; exact hsp _ (by omega)) (fun j hj => frozen_of hC _) hvcell h1v).mono ?_
    rintro e w' ⟨rfl, rfl⟩
    exact ins_post_end hC hCs h1C hcs hcl hvl h1v hroom
   ·refine (ins_shift_slices_Insert_Limpl_Shape_impl_Shape_mobo b off n cap i vb voff m vc cs vs w (by omega) hm hroom (by omega) hne hcl hvl hccell hsp (fun j hj => frozen_of hC _) hvcell h1c h1v t2 t C2.size C.size (by simp [World.shape?, hC2]) (by simp [World.shape?, hC]) (by omega) (frozen_of hC2 _) (frozen_of hC2 _)).mono ?_
    rintro e w' ⟨rfl, rfl⟩
    exact ins_post_shift hC hCs h1C hcs hcl hvl h1v h1c hi hroom
  ·by_cases hin : i = n
   ·subst hin
    refine (ins_end_grow_slices_Insert_Limpl_Shape_impl_Shape_mobo (some ⟨b, off, none⟩) i cap vb voff m vc cs vs w hm hnc (by omega) hbig hcl hvl (fun h => by cases h) (fun a h j v hv => by injection h with h; subst h; rw [Addr.add_lit]; exact hccell j v hv) hvcell h1v).mono ?_
    rintro e w' ⟨rfl, rfl⟩
    exact ins_post_endgrow hcl hvl h1v h1c (grownCap_ge _ _ _ _) (hzn _) (hz1 _)
   ·refine (ins_grow_slices_Insert_Limpl_Shape_impl_Shape_mobo b off n cap i vb voff m vc cs vs w (by omega) hm hnc (by omega) hbig hcl hvl hccell hvcell h1c h1v).mono ?_
    rintro e w' ⟨rfl, rfl⟩
    exact ins_post_grow hcl hvl h1v h1c hi (grownCap_ge _ _ _ _) (hzn _) (hzn _) (hz1 _) (hz1 _)
end
/-- slices.Insert[[]loop.example/g00890/impl.Shape,loop.example/g00890/impl.Shape] -/
def Fq24 (a0 : List TS) (a1 : Int) (a2 : List TS) : Option (List TS) :=
 if 0 <= a1 /\ a1 <= (a0.length : Int) /\ 0 < a2.length /\ (a0.length + a2.length) * 40 <= 140737488355328 then some (a0.take a1.toNat ++ a2 ++ a0.drop a1.toNat) else none
theorem runq24 (a0 : List TS) (a1 : Int) (a2 : List TS) (r : List TS) (h : Fq24 a0 a1 a2 = some r) : Fun Tryz.prog 121 [.c (.os 5 0 (len a0)), .c (wi a1), .c (.os 7 0 (len a2))] [(5, .arr .rw [] (len a0) 5 (row gd (eS) a0)), (7, .arr .rw [] (len a2) 5 (row gd (eS) a2))] (.c (.os 64000 0 (len r))) [(64000, .arr .rw [] (len r) 5 (row gd (eS) r))] true := by
 unfold Fq24 at h
 split at h
 ·rename_i h1
  injection h with h
  subst h
  obtain ⟨i, rfl⟩ : ∃ i : Nat, a1 = i := ⟨a1.toNat, by omega⟩
  rw [Int.toNat_natCast]
  have e : len (a0.take i ++ a2 ++ a0.drop i) = len a0 + len a2 := by
   show List.length _ = List.length _ + List.length _
   rw [List.length_append, List.length_append, List.length_take, List.length_drop]; omega
  rw [e]
  exact Fun.insert Tryz.func121 (by kernel_rfl) (by kernel_rfl) 5 40 (fun old y n cap i vb voff m vc cs vs w h1 h2 h3 h4 h5 h6 h7 h8 h9 => calls_slices_Insert_Limpl_Shape_impl_Shape_mobo old y n cap i vb voff m vc cs vs w h1 h2 h3 h4 h5 h6 h7 h8 h9) (len a0) i (len a2) _ _ _ (show i <= a0.length by omega) (show 0 < a2.length by omega) (show (a0.length + a2.length) * 40 <= _ by omega)
   (fun t ht q hq => by
    show eS (gd _ t) q = if t < i then eS (gd a0 t) q else if t < i + a2.length then eS (gd a2 (t - i)) q else eS (gd a0 (t - a2.length)) q
    rw [ins_get a0 a2 i t (by omega)]
    split
    ·rfl
    ·split <;> rfl) (fun t q => plain_nil (val_plain (vl_encShape _ _))) (fun t q => plain_nil (val_plain (vl_encShape _ _))) (fun t q => val_flat (vl_encShape _ _))
 ·cases h

section
open Go.RowKit Go.Lib
set_option maxRecDepth 1000000 in
/-- slices.Delete: the elements behind those that are taken out lie further ahead, the cells behind are emptied -/
theorem calls_slices_Delete_Limpl_Shape_impl_Shape_mobb (blk off cap n i j : Nat) (D : List Value) (w : World) (hlen : D.length = n * 5) (hD : ∀ t u, D[t]? = some u -> w.cell? ⟨blk, off + t, none⟩ = some u) (h1 : ∀ u ∈ D, u.oneCell' = true) (hfz : ∀ t, t < n * 5 -> w.frozen? ⟨blk, off + t, none⟩ = false) (hcap : n <= cap) (hij : i < j) (hj : j <= n) :
  Calls Tryz.prog 201 #[.slice (some ⟨blk, off, none⟩) n cap, .int .i64 i, .int .i64 j] w fun e w' => e = .returned (.slice (some ⟨blk, off, none⟩) (n - (j - i)) cap) /\ ∃ zs : List Value, zs.length = (j - i) * 5 /\ (∀ u ∈ zs, u.oneCell' = true) /\ w' = (w.drew.setCells blk (off + i * 5) (D.drop (j * 5))).setCells blk (off + (i + (n - j)) * 5) zs := by
 obtain ⟨news, hnews⟩ : ∃ news, news = D.drop (j * 5) := ⟨_, rfl⟩
 have hl : news.length = (n - j) * 5 := by rw [hnews, List.length_drop, hlen, Nat.sub_mul]
 obtain ⟨A, hA, hsrc⟩ : ∃ A : Addr, (if cap = j then some (⟨blk, off, none⟩ : Addr) else some ⟨blk, off + j * 5, none⟩) = some A /\ Hid (∀ t u, news[t]? = some u -> w.drew.cell? (A.add t) = some u) := by
  by_cases h : cap = j
  ·refine ⟨⟨blk, off, none⟩, by simp [h], fun t u hu => ?_⟩
   have h00 : n - j = 0 := by omega
   have h0 : news.length = 0 := by rw [hl, h00, Nat.zero_mul]
   rw [List.length_eq_zero_iff.1 h0] at hu
   simp at hu
  ·refine ⟨⟨blk, off + j * 5, none⟩, by simp [h], fun t u hu => ?_⟩
   rw [Addr.add_lit, Nat.add_assoc]
   exact hD _ u (by rw [hnews, List.getElem?_drop] at hu; exact hu)
 have s1 : Hid (news.length = (n - j) * 5) := hl
 have s2 : Hid (∀ u ∈ news, u.oneCell' = true) := fun u hu => h1 u (List.mem_of_mem_drop (by rw [hnews] at hu; exact hu))
 have hex : ∀ t, t < n * 5 -> (w.cell? ⟨blk, off + t, none⟩).isSome = true := fun t ht => by
  rw [hD t (D[t]'(by omega)) (List.getElem?_eq_getElem (by omega))]; rfl
 have s3 : Hid (∀ t, t < news.length -> (w.drew.cell? ⟨blk, off + i * 5 + t, none⟩).isSome = true /\ w.drew.frozen? ⟨blk, off + i * 5 + t, none⟩ = false) := fun t ht => by
  rw [hl] at ht
  rw [Nat.add_assoc]
  exact ⟨hex _ (by omega), hfz _ (by omega)⟩
 obtain ⟨W1, hW1⟩ : ∃ W1, W1 = w.drew.setCells blk (off + i * 5) news := ⟨_, rfl⟩
 have hW : Hid (W1 = w.drew.setCells blk (off + i * 5) news) := hW1
 obtain ⟨z, hz⟩ : ∃ z, z = (Builtin.zeroCells d49.zero.cells (j - i)).toList := ⟨_, rfl⟩
 have hzs : d49.zero.cells.size = 5 := by kernel_rfl
 have hzl : z.length = (j - i) * 5 := by rw [hz, Array.length_toList, size_zeroCells, hzs]
 have hz1 : ∀ v ∈ z, v.oneCell' = true := by
  rw [hz]
  exact zeroCells_one _ (fun v hv => by
   have := Array.all_eq_true_iff_forall_mem.1 (show d49.zero.cells.all Value.oneCell' = true by kernel_rfl) v hv
   exact this) _
 have hcl : ∀ ty, (Builtin.clear_ #[145] ty #[.slice (some ⟨blk, off + (i + (n - j)) * 5, none⟩) (n - (i + (n - j))) (cap - (i + (n - j)))]).run Tryz.prog W1 = .ok (.tuple #[]) (W1.setCells blk (off + (i + (n - j)) * 5) z) := fun ty => by
  have e : n - (i + (n - j)) = j - i := by omega
  rw [e, hz]
  refine run_clear_cells W1 145 49 ty d49.zero (by kernel_rfl) (fun w => ?_) blk _ _ _ (by omega) ?_ ?_ ?_
  ·exact run_zero tok (show T 49 = some d49 from rfl)
  ·rw [<- hz]; exact hz1
  ·intro t ht
   rw [size_zeroCells, hzs] at ht
   rw [hW1, Nat.add_assoc]
   refine isSome_setCells blk _ _ _ (fun q hq => ?_) _ (hex _ ?_)
   ·rw [hl] at hq
    rw [Nat.add_assoc]; exact hex _ (by omega)
   ·omega
  ·intro t ht
   rw [size_zeroCells, hzs] at ht
   rw [hW1, World.frozen?_setCells, Nat.add_assoc]
   exact hfz _ (by omega)
 have hX : Hid (∃ zs : List Value, zs.length = (j - i) * 5 /\ (∀ u ∈ zs, u.oneCell' = true) /\ W1.setCells blk (off + (i + (n - j)) * 5) z = (w.drew.setCells blk (off + i * 5) (D.drop (j * 5))).setCells blk (off + (i + (n - j)) * 5) zs) := ⟨z, hzl, hz1, by rw [hW1, hnews]⟩
 have hic : i <= cap := by omega
 have hjc : j <= cap := by omega
 have hne : ¬ (i = j) := by omega
 have hI : (Tryz.prog.info? 49).map (·.size) = some 5 := by kernel_rfl
 obtain ⟨i0, hi0, hz5⟩ : ∃ i0, Tryz.prog.info? 49 = some i0 /\ i0.size = 5 := by
  cases h : Tryz.prog.info? 49 with
  | none => rw [h] at hI; cases hI
  | some i0 => rw [h] at hI; exact ⟨i0, rfl, by injection hI⟩
 have mixed : Tryz.prog.follows .mixedOrders = true := by kernel_rfl
 clear hW1 hex hzs hnews hl hz hzl hz1 hD h1 hfz
 go_enter Tryz.func201, Tryz.ntmps201
 go_wp2_with fail
 go_region_law_o (refine step_append_room rfl (.tmp 22) (.tmp 25) 145 rfl 49 i0 5 (by kernel_rfl) hi0 hz5 blk off i cap (by simp [Act.eval, Act.put]) A (n - j) (cap - j) news (by simp [Act.eval, Act.put, hA]) s1.out hsrc.out s2.out (by omega) s3.out ?_; rw [<- hW.out])
 go_wp2
 go_ret
 refine ⟨by rw [show n - (j - i) = i + (n - j) by omega]; rfl, hX.out⟩
end
/-- slices.Delete[[]loop.example/g00890/impl.Shape,loop.example/g00890/impl.Shape] -/
def Fq74 (a0 : List TS) (a1 : Int) (a2 : Int) : Option (List TS) :=
 if 0 <= a1 /\ a1 < a2 /\ a2 <= (a0.length : Int) then some (a0.take a1.toNat ++ a0.drop a2.toNat) else none
theorem runq74 (a0 : List TS) (a1 : Int) (a2 : Int) (r : List TS) (h : Fq74 a0 a1 a2 = some r) : Fun Tryz.prog 201 [.c (.os 5 0 (len a0)), .c (wi a1), .c (wi a2)] [(5, .arr .rw [] (len a0) 5 (row gd (eS) a0))] (.c (.os 64000 0 (len r))) [(64000, .arr .rw [] (len r) 5 (row gd (eS) r))] true := by
 unfold Fq74 at h
 split at h
 ·rename_i h1
  injection h with h
  subst h
  obtain ⟨i, rfl⟩ : ∃ i : Nat, a1 = i := ⟨a1.toNat, by omega⟩
  obtain ⟨j, rfl⟩ : ∃ j : Nat, a2 = j := ⟨a2.toNat, by omega⟩
  rw [Int.toNat_natCast, Int.toNat_natCast]
  have e : len (a0.take i ++ a0.drop j) = len a0 - (j - i) := by
   show List.length _ = List.length _ - _
   rw [List.length_append, List.length_take, List.length_drop]; omega
  rw [e]
  exact Fun.delete Tryz.func201 (by kernel_rfl) (by kernel_rfl) 5 (fun blk off cap n i j D w h1 h2 h3 h4 h5 h6 h7 => calls_slices_Delete_Limpl_Shape_impl_Shape_mobb blk off cap n i j D w h1 h2 h3 h4 h5 h6 h7) (len a0) i j _ _ (by omega) (show j <= a0.length by omega)
   (fun t ht q hq => by show eS (gd _ t) q = eS (gd a0 _) q; rw [cut_get a0 i j t (by omega) (by omega)]) (fun t q => plain_nil (val_plain (vl_encShape _ _))) (fun t q => val_flat (vl_encShape _ _))
 ·cases h

/-- impl.Shape] -/
def Fq99 (a0 : List TS) (a1 : Int) : Option (List TS) :=
 (Fq74 a0 a1 (std.add .i64 a1 1)).bind fun y1 =>
 some y1
theorem runq99 (a0 : List TS) (a1 : Int) (r : List TS) (h : Fq99 a0 a1 = some r) : Fun Tryz.prog 122 [.c (.os 5 0 (len a0)), .c (wi a1)] [(5, .arr .rw [] (len a0) 5 (row gd (eS) a0))] (.c (.os 64000 0 (len r))) [(64000, .arr .rw [] (len r) 5 (row gd (eS) r))] true := by
 refine Fun.of_wp (oneOf []) tok mixed Tryz.func122 (by kernel_rfl) rfl Tryz.ntmps122 rfl ⟨fun i _ j _ k hk => (noref (plain_nil (pl_encShape _ _)) hk).elim, tv⟩ (fun _ => ⟨trivial, ⟨fun i _ j _ => val_flat (vl_encShape _ _), tv⟩⟩) ?_
 unfold Fq99 at h
 have hfq74 := @runq74
 generalize hLEN : @len = LEN, hGD : @gd = GD, hA : std = A, hP : Tryz.prog = P at *
 cbv
 replace h := ob_ h
 obtain ⟨y1, hy2, h⟩ := h
 refine ⟨⟨_, _, _, _, _, [(5, 5)], [(64000, 576)]⟩, hfq74 _ _ _ _ hy2, ⟨zs3, ⟨oS, tv⟩, rfl, rfl, rfl, rfl, ⟨evn 64000 rfl, tv⟩, rfl⟩, _, rfl, _, _, rfl, fun _ _ _ _ => .refl _, ?_⟩
 cbv
 injection h with h
 subst h
 refine ⟨(sp 10 [(4, .c (.os 64000 0 (LEN y1)))] [(64000, .arr .rw [] (LEN y1) 5 (row GD (eS) y1))]), ?_, ?_⟩
 ·refine St.le_trans (le_ren 576 64000 (by decide) rfl) ?_
  exact lsp rfl zl1 ⟨oS, tv⟩ rfl
 ·exact ⟨lR _, ⟨oS, tv⟩, rfl⟩
set_option maxHeartbeats 4000000
section
open Go.RowKit Go.Lib
set_option maxRecDepth 1000000 in
theorem ins_shift_slices_Insert_Limpl_Label_impl_Label_mobo (b off n c i vb voff m vc : Nat) (cs vs : List Value) (w : World) (hi : i < n) (hm : 0 < m) (hroom : n + m <= c) (hc63 : n + m <= 9223372036854775807) (hvb : vb ≠ b)
  (hcl : cs.length = n * 4) (hvl : vs.length = m * 4)
  (hcs : ∀ j v, cs[j]? = some v -> w.cell? ⟨b, off + j, none⟩ = some v) (hsp : ∀ j, j < (n + m) * 4 -> (w.cell? ⟨b, off + j, none⟩).isSome = true) (hfz : ∀ j, j < (n + m) * 4 -> w.frozen? ⟨b, off + j, none⟩ = false)
  (hvs : ∀ j v, vs[j]? = some v -> w.cell? ⟨vb, voff + j, none⟩ = some v) (h1c : ∀ v ∈ cs, v.oneCell' = true) (h1v : ∀ v ∈ vs, v.oneCell' = true)
  (tA tB : TypeId) (kA kB : Nat) (hsa : w.shape? vb = some (tA, kA)) (hsb : w.shape? b = some (tB, kB)) (hkB : kB ≠ 0) (hfa : w.frozen? ⟨vb, voff, none⟩ = false) (hfe : w.frozen? ⟨vb, kA, none⟩ = false) :
  Calls Tryz.prog 123 #[.slice (some ⟨b, off, none⟩) n c, .int .i64 i, .slice (some ⟨vb, voff, none⟩) m vc] w fun e w' =>
   e = .returned (.slice (some ⟨b, off, none⟩) (n + m) c) /\ w' = (w.drew.setCells b (off + (i + m) * 4) (cs.drop (i * 4))).setCells b (off + i * 4) vs := by
 have tSl : Tryz.prog.underlying 146 = some (.slice 52) := by kernel_rfl
 have hz1 : ¬ ((m : Int) = 0) := by omega
 have hz2 : ¬ ((i : Int) = (n : Int)) := by omega
 have hsz : (Tryz.prog.info? 52).map (·.size) = some 4 := by kernel_rfl
 have hov : ∀ lb cb, (callFunc 202 #[.slice (some ⟨vb, voff, none⟩) m vc, .slice (some ⟨b, off + (i + m) * 4, none⟩) lb cb]).run Tryz.prog w = .ok (.value (.bool false)) w := fun lb cb => by
  rw [run_callFunc_extern Tryz.func202 (by kernel_rfl) (by kernel_rfl) (by kernel_rfl) (e := Extern.SlicesOverlaps.overlaps #[146, 146] #[4]) (by kernel_rfl),
   Lib.run_overlaps_apart w 146 4 52 tSl 4 (fun w => run_sizeOf tok (show T 52 = some d52 from rfl)) ⟨vb, voff, none⟩ ⟨b, off + (i + m) * 4, none⟩ m vc lb cb hvb tA tB kA kB hsa hsb hkB hfa hfe]
  rfl
 have hdl : (cs.drop (i * 4)).length = (n - i) * 4 := by rw [List.length_drop, hcl, Nat.sub_mul]
 have mixed : Tryz.prog.follows .mixedOrders = true := by kernel_rfl
 have hw1 : IntKind.i64.wrap ((i : Int) + (m : Int)) = (i : Int) + (m : Int) := by rw [IntKind.wrap_i64]; omega
 have hb1 : (0 : Int) <= (i : Int) + (m : Int) := by omega
 have hin : i <= n := by omega
 have htn : ((i : Int) + (m : Int)).toNat = i + m := by omega
 have hb2 : ¬ (c = i + m) := by omega
 have hb3 : (i : Int) <= (n : Int) + (m : Int) := by omega
 have hb4 : ¬ (c = i) := by omega
 have hcp1 : ∀ ty dc sc, (Builtin.copy_ #[146, 146] ty #[.slice (some ⟨b, off + (i + m) * 4, none⟩) (n + m - (i + m)) dc, .slice (some ⟨b, off + i * 4, none⟩) (n + m - i) sc]).run Tryz.prog w.drew = .ok (goInt (Nat.min (n + m - i) (n + m - (i + m)))) (w.drew.setCells b (off + (i + m) * 4) (cs.drop (i * 4))) := fun ty dc sc =>
  run_copy_cellsN 4 w.drew _ _ ty 52 b (off + (i + m) * 4) (n + m - (i + m)) dc ⟨b, off + i * 4, none⟩ (n + m - i) sc (cs.drop (i * 4)) tSl hsz (by rw [hdl, show Nat.min (n + m - i) (n + m - (i + m)) = n - i by simp only [Nat.min_def]; split <;> omega])
   (fun j v hj => by rw [Addr.add_lit, Nat.add_assoc]; exact hcs (i * 4 + j) v (by rwa [List.getElem?_drop] at hj))
   (fun j hj => by rw [Nat.add_assoc]; exact hsp _ (by omega)) (fun j hj => by rw [Nat.add_assoc]; exact hfz _ (by omega)) (fun v hv => h1c v (List.mem_of_mem_drop hv))
 obtain ⟨W1, hW1⟩ : ∃ W1, W1 = w.drew.setCells b (off + (i + m) * 4) (cs.drop (i * 4)) := ⟨_, rfl⟩
 have hsp1 : ∀ k, k < (n + m) * 4 -> (W1.cell? ⟨b, off + k, none⟩).isSome = true := fun k hk => by
  rw [hW1]
  exact isSome_setCells b _ _ _ (fun j hj => by rw [Nat.add_assoc]; exact hsp _ (by omega)) _ (hsp k hk)
 have hcp2 : ∀ (W : World), (∀ x, W.cell? x = W1.cell? x) -> (∀ x, W.frozen? x = W1.frozen? x) -> ∀ ty dc, (Builtin.copy_ #[146, 146] ty #[.slice (some ⟨b, off + i * 4, none⟩) (n + m - i) dc, .slice (some ⟨vb, voff, none⟩) m vc]).run Tryz.prog W = .ok (goInt (Nat.min m (n + m - i))) (W.setCells b (off + i * 4) vs) := fun W hWc hWf ty dc =>
  run_copy_cellsN 4 W _ _ ty 52 b (off + i * 4) (n + m - i) dc ⟨vb, voff, none⟩ m vc vs tSl hsz (by rw [hvl, show Nat.min m (n + m - i) = m by simp only [Nat.min_def]; split <;> omega])
   (fun j v hj => by
    rw [Addr.add_lit, hWc, hW1, World.cell?_setCells_out b _ _ _ _ (fun h _ => absurd h hvb)]
    exact hvs j v hj)
   (fun j hj => by rw [hWc, Nat.add_assoc]; exact hsp1 _ (by omega)) (fun j hj => by rw [hWf, hW1, World.frozen?_setCells, Nat.add_assoc]; exact hfz _ (by omega)) h1v
 rw [<- hW1] at hcp1
 clear hsp hfz hcs hvs h1c h1v
 go_enter Tryz.func123, Tryz.ntmps123
 go_wp2_with (simp only [hov])
 go_region_law_o (refine step_copy_runI rfl _ _ 146 146 rfl _ _ (by simp [Act.eval, Act.put]) (by simp [Act.eval, Act.put]) (hcp1 _ _ _) ?_)
 go_wp2_with (at_builtin; refine wpList_copy_runI _ rfl _ _ 146 146 rfl _ _ rfl rfl (hcp2 _ (fun _ => rfl) (fun _ => rfl) _ _) ?_)
 go_ret
 first | exact ⟨rfl, rfl⟩ | exact ⟨rfl, by rw [hW1]⟩
set_option maxRecDepth 1000000 in
theorem ins_end_room_slices_Insert_Limpl_Label_impl_Label_mobo (b off n c vb voff m vc : Nat) (vs : List Value) (w : World) (hm : 0 < m) (hroom : n + m <= c) (hc63 : n + m <= 9223372036854775807)
  (hvl : vs.length = m * 4) (hsp : ∀ j, j < m * 4 -> (w.cell? ⟨b, off + n * 4 + j, none⟩).isSome = true) (hfz : ∀ j, j < m * 4 -> w.frozen? ⟨b, off + n * 4 + j, none⟩ = false)
  (hvs : ∀ j v, vs[j]? = some v -> w.cell? ⟨vb, voff + j, none⟩ = some v) (h1v : ∀ v ∈ vs, v.oneCell' = true) :
  Calls Tryz.prog 123 #[.slice (some ⟨b, off, none⟩) n c, .int .i64 n, .slice (some ⟨vb, voff, none⟩) m vc] w fun e w' =>
   e = .returned (.slice (some ⟨b, off, none⟩) (n + m) c) /\ w' = w.setCells b (off + n * 4) vs := by
 have tSl : Tryz.prog.underlying 146 = some (.slice 52) := by kernel_rfl
 have mixed : Tryz.prog.follows .mixedOrders = true := by kernel_rfl
 have hI : (Tryz.prog.info? 52).map (·.size) = some 4 := by kernel_rfl
 obtain ⟨i0, hi0, hz5⟩ : ∃ i0, Tryz.prog.info? 52 = some i0 /\ i0.size = 4 := by
  cases h : Tryz.prog.info? 52 with
  | none => rw [h] at hI; cases hI
  | some i0 => rw [h] at hI; exact ⟨i0, rfl, by injection hI⟩
 have hz1 : ¬ ((m : Int) = 0) := by omega
 have hsrc : Src Tryz.prog i0.size 146 (.slice (some ⟨vb, voff, none⟩) m vc) m vs w := Src.ofSlice w tSl ⟨vb, voff, none⟩ m vc vs (by rw [hz5]; exact hvl) (fun j u hj => by rw [Addr.add_lit]; exact hvs j u hj) h1v
 have s1 : Hid (∀ j, j < vs.length -> (w.cell? ⟨b, off + n * i0.size + j, none⟩).isSome = true) := by rw [hvl, hz5]; exact hsp
 have s2 : Hid (∀ j, j < vs.length -> w.frozen? ⟨b, off + n * i0.size + j, none⟩ = false) := by rw [hvl, hz5]; exact hfz
 clear hsp hfz hvs
 go_enter Tryz.func123, Tryz.ntmps123
 go_wp2_with (at_builtin; refine wpList_append_room_src _ rfl _ _ 146 146 rfl 52 i0 tSl hi0 b off n c rfl _ rfl m vs hsrc hroom s1.out s2.out ?_)
 go_ret
 exact ⟨rfl, rfl⟩
set_option maxRecDepth 1000000 in
theorem ins_end_grow_slices_Insert_Limpl_Label_impl_Label_mobo (base : Option Addr) (n c vb voff m vc : Nat) (cs vs : List Value) (w : World) (hm : 0 < m) (hnc : n <= c) (hroom : c < n + m) (hbig : (n + m) * 40 <= 140737488355328)
  (hcl : cs.length = n * 4) (hvl : vs.length = m * 4) (hnil : base = none -> n = 0)
  (hcs : ∀ a, base = some a -> ∀ j v, cs[j]? = some v -> w.cell? (a.add j) = some v)
  (hvs : ∀ j v, vs[j]? = some v -> w.cell? ⟨vb, voff + j, none⟩ = some v) (h1v : ∀ v ∈ vs, v.oneCell' = true) :
  Calls Tryz.prog 123 #[.slice base n c, .int .i64 n, .slice (some ⟨vb, voff, none⟩) m vc] w fun e w' =>
   e = .returned (.slice (some ⟨w.heap.size, 0, none⟩) (n + m) (grownCap w (n + m) c 52)) /\
   w' = w.drew.alloc (.cells ((cs ++ vs).toArray ++ Builtin.zeroCells d52.zero.cells (grownCap w (n + m) c 52 - (n + m))) 52) := by
 have tSl : Tryz.prog.underlying 146 = some (.slice 52) := by kernel_rfl
 have mixed : Tryz.prog.follows .mixedOrders = true := by kernel_rfl
 obtain ⟨i0, hi0, hzs, hzb, hz0⟩ := (tok 52 d52 rfl).2.1
 have hzs : i0.size = 4 := hzs
 have hzb : i0.bytes = 40 := hzb
 have hz1 : ¬ ((m : Int) = 0) := by omega
 have hsrc : Src Tryz.prog i0.size 146 (.slice (some ⟨vb, voff, none⟩) m vc) m vs w := Src.ofSlice w tSl ⟨vb, voff, none⟩ m vc vs (by rw [hzs]; exact hvl) (fun j u hj => by rw [Addr.add_lit]; exact hvs j u hj) h1v
 have hold : (Builtin.firstCells i0.size n (.slice base n c)).run Tryz.prog w.drew = .ok cs.toArray w.drew := by
  rw [hzs]
  cases base with
  | none =>
   have h0 := hnil rfl
   subst h0
   have hc0 : cs.length = 0 := by rw [hcl, Nat.zero_mul]
   rw [List.length_eq_zero_iff.1 hc0]
   exact run_firstCells_none w.drew 4 0 0 c
  | some a => exact run_firstCells_some w.drew 4 n a n c cs hcl (fun j v hj => hcs a rfl j v hj)
 have hrun : ∀ ty, (Builtin.append_ #[146, 146] ty #[.slice base n c, .slice (some ⟨vb, voff, none⟩) m vc]).run Tryz.prog w = _ := fun ty =>
  run_append_grow_src w 146 146 ty 52 i0 _ tSl hi0 hz0 base n c cs hold _ m vs hsrc hroom (by omega) (by rw [hzb]; exact growslice_fits hroom hbig)
 go_enter Tryz.func123, Tryz.ntmps123
 cases base with
 | none =>
  have h0 := hnil rfl
  subst h0
  go_wp2_with (at_builtin; refine Lib.wpList_append_run _ rfl _ _ _ _ rfl _ _ rfl rfl _ _ (hrun _) ?_)
  go_ret
  exact ⟨rfl, rfl⟩
 | some a =>
  obtain ⟨ab, ao, asp⟩ := a
  go_wp2_with (at_builtin; refine Lib.wpList_append_run _ rfl _ _ _ _ rfl _ _ rfl rfl _ _ (hrun _) ?_)
  all_goals (go_ret; exact ⟨rfl, rfl⟩)
set_option maxRecDepth 1000000 in
theorem ins_grow_slices_Insert_Limpl_Label_impl_Label_mobo (b off n c i vb voff m vc : Nat) (cs vs : List Value) (w : World) (hi : i < n) (hm : 0 < m) (hnc : n <= c) (hroom : c < n + m) (hbig : (n + m) * 40 <= 140737488355328)
  (hcl : cs.length = n * 4) (hvl : vs.length = m * 4)
  (hcs : ∀ j v, cs[j]? = some v -> w.cell? ⟨b, off + j, none⟩ = some v)
  (hvs : ∀ j v, vs[j]? = some v -> w.cell? ⟨vb, voff + j, none⟩ = some v) (h1c : ∀ v ∈ cs, v.oneCell' = true) (h1v : ∀ v ∈ vs, v.oneCell' = true) :
  Calls Tryz.prog 123 #[.slice (some ⟨b, off, none⟩) n c, .int .i64 i, .slice (some ⟨vb, voff, none⟩) m vc] w fun e w' =>
   e = .returned (.slice (some ⟨w.heap.size, 0, none⟩) (n + m) (grownCap w (n + m) c 52)) /\
   w' = (((w.alloc (.cells ((cs.take (i * 4)).toArray ++ Builtin.zeroCells d52.zero.cells (n + m - i) ++ Builtin.zeroCells d52.zero.cells (grownCap w (n + m) c 52 - (n + m))) 52)).drew.setCells w.heap.size (i * 4) vs).drew).setCells w.heap.size ((i + m) * 4) (cs.drop (i * 4)) := by
 have tSl : Tryz.prog.underlying 146 = some (.slice 52) := by kernel_rfl
 have t3 : Tryz.prog.underlying 3 = some (.int .i64) := by kernel_rfl
 have mixed : Tryz.prog.follows .mixedOrders = true := by kernel_rfl
 obtain ⟨i0, hi0, hzs, hzb, hz0⟩ := (tok 52 d52 rfl).2.1
 have hzs : i0.size = 4 := hzs
 have hzb : i0.bytes = 40 := hzb
 have hz5 : d52.zero.cells.size = 4 := by kernel_rfl
 have hz1 : ¬ ((m : Int) = 0) := by omega
 have hz2 : ¬ ((i : Int) = (n : Int)) := by omega
 have hz3 : (c : Int) < (n : Int) + (m : Int) := by omega
 have hsz : (Tryz.prog.info? 52).map (·.size) = some 4 := by rw [hi0]; simp [hzs]
 have hbw : b < w.heap.size := block_lt_of_cell (hcs 0 _ (List.getElem?_eq_getElem (by omega)))
 have hvw : vb < w.heap.size := block_lt_of_cell (hvs 0 _ (List.getElem?_eq_getElem (by omega)))
 have hkk : (n : Int) + (m : Int) - (i : Int) = ((n + m - i : Nat) : Int) := by omega
 have hik : i + (n + m - i) = n + m := by omega
 have htl : (cs.take (i * 4)).length = i * 4 := by rw [List.length_take, hcl]; omega
 have hold : (Builtin.firstCells i0.size i (.slice (some ⟨b, off, none⟩) i c)).run Tryz.prog w.drew = .ok (cs.take (i * 4)).toArray w.drew := by
  rw [hzs]
  exact run_firstCells_some w.drew 4 i ⟨b, off, none⟩ i c (cs.take (i * 4)) htl (fun j v hj => by
   rw [Addr.add_lit]
   rw [List.getElem?_take] at hj
   split at hj
   ·exact hcs j v hj
   ·cases hj)
 have hrz : ∀ ty, (Builtin.append_ #[146, 3] ty #[.slice (some ⟨b, off, none⟩) i c, .int .i64 ((n : Int) + (m : Int) - (i : Int))]).run Tryz.prog w =
   .ok (.slice (some ⟨w.heap.size, 0, none⟩) (n + m) (grownCap w (n + m) c 52)) (w.drew.alloc (.cells ((cs.take (i * 4)).toArray ++ Builtin.zeroCells d52.zero.cells (n + m - i) ++ Builtin.zeroCells d52.zero.cells (grownCap w (n + m) c 52 - (n + m))) 52)) := fun ty => by
  have h := Lib.run_append_grow_zeros w 146 3 ty 52 i0 _ .i64 .i64 tSl t3 hi0 hz0 (some ⟨b, off, none⟩) i c (cs.take (i * 4)) hold (n + m - i) (by omega) (by omega) (by omega) (by omega) (by rw [hzb]; omega) (by rw [hzb, hik]; exact growslice_fits hroom hbig)
  rw [hik] at h
  rw [hkk]
  exact h
 obtain ⟨G, hG⟩ : ∃ G, G = grownCap w (n + m) c 52 := ⟨_, rfl⟩
 obtain ⟨ROW, hROW⟩ : ∃ ROW : Array Value, ROW = (cs.take (i * 4)).toArray ++ Builtin.zeroCells d52.zero.cells (n + m - i) ++ Builtin.zeroCells d52.zero.cells (G - (n + m)) := ⟨_, rfl⟩
 rw [<- hG] at hrz ⊢
 rw [<- hROW] at hrz ⊢
 have hRl : (n + m) * 4 <= ROW.size := by
  rw [hROW, Array.size_append, Array.size_append, size_zeroCells, size_zeroCells, hz5, List.size_toArray, htl]
  omega
 obtain ⟨W1, hW1⟩ : ∃ W1, W1 = w.drew.alloc (.cells ROW 52) := ⟨_, rfl⟩
 rw [<- hW1] at hrz
 have hN : ∀ j, j < (n + m) * 4 -> (W1.cell? ⟨w.heap.size, j, none⟩).isSome = true := fun j hj => by
  rw [hW1, World.cell?_alloc_at (w := w.drew) ROW _ w.heap.size j rfl, Array.getElem?_eq_getElem (by omega)]; rfl
 have hNf : ∀ j, W1.frozen? ⟨w.heap.size, j, none⟩ = false := fun j => by rw [hW1]; exact World.frozen?_alloc_at (w := w.drew) ROW _ w.heap.size j rfl
 have hOb : ∀ j v, w.cell? ⟨b, j, none⟩ = some v -> W1.cell? ⟨b, j, none⟩ = some v := fun j v h => by rw [hW1, World.cell?_alloc_past (w := w.drew) _ b j hbw]; exact h
 have hOv : ∀ j v, w.cell? ⟨vb, j, none⟩ = some v -> W1.cell? ⟨vb, j, none⟩ = some v := fun j v h => by rw [hW1, World.cell?_alloc_past (w := w.drew) _ vb j hvw]; exact h
 have hcpA : ∀ (W : World), (∀ x, W.cell? x = W1.cell? x) -> (∀ x, W.frozen? x = W1.frozen? x) -> ∀ ty dc, (Builtin.copy_ #[146, 146] ty #[.slice (some ⟨w.heap.size, i * 4, none⟩) (n + m - i) dc, .slice (some ⟨vb, voff, none⟩) m vc]).run Tryz.prog W = .ok (goInt (Nat.min m (n + m - i))) (W.setCells w.heap.size (i * 4) vs) := fun W hWc hWf ty dc =>
  run_copy_cellsN 4 W _ _ ty 52 w.heap.size (i * 4) (n + m - i) dc ⟨vb, voff, none⟩ m vc vs tSl hsz (by rw [hvl, show Nat.min m (n + m - i) = m by simp only [Nat.min_def]; split <;> omega])
   (fun j v hj => by rw [Addr.add_lit, hWc]; exact hOv _ v (hvs j v hj))
   (fun j hj => by rw [hWc]; exact hN _ (by omega)) (fun j hj => by rw [hWf]; exact hNf _) h1v
 have hGn : n + m <= G := by rw [hG]; exact grownCap_ge w _ _ _
 have hG63 : G <= 9223372036854775807 := by
  have := grownCap_le_maxLen w (n + m) c 52 (by unfold maxLen; omega)
  rw [<- hG] at this
  unfold maxLen at this
  omega
 have hGi : ¬ (G = i) := by omega
 have hGim : ¬ (G = i + m) := by omega
 have hci : ¬ (c = i) := by omega
 have hbN : b ≠ w.heap.size := by omega
 have hdl : (cs.drop (i * 4)).length = (n - i) * 4 := by rw [List.length_drop, hcl, Nat.sub_mul]
 have hcpB : ∀ (W : World), (∀ x, W.cell? x = (W1.setCells w.heap.size (i * 4) vs).cell? x) -> (∀ x, W.frozen? x = (W1.setCells w.heap.size (i * 4) vs).frozen? x) -> ∀ ty dc sc, (Builtin.copy_ #[146, 146] ty #[.slice (some ⟨w.heap.size, (i + m) * 4, none⟩) (n + m - (i + m)) dc, .slice (some ⟨b, off + i * 4, none⟩) (n - i) sc]).run Tryz.prog W = .ok (goInt (Nat.min (n - i) (n + m - (i + m)))) (W.setCells w.heap.size ((i + m) * 4) (cs.drop (i * 4))) := fun W hWc hWf ty dc sc =>
  run_copy_cellsN 4 W _ _ ty 52 w.heap.size ((i + m) * 4) (n + m - (i + m)) dc ⟨b, off + i * 4, none⟩ (n - i) sc (cs.drop (i * 4)) tSl hsz (by rw [hdl, show Nat.min (n - i) (n + m - (i + m)) = n - i by simp only [Nat.min_def]; split <;> omega])
   (fun j v hj => by
    rw [Addr.add_lit, hWc, World.cell?_setCells_out _ _ _ _ _ (fun h _ => absurd h hbN), Nat.add_assoc]
    exact hOb _ v (hcs (i * 4 + j) v (by rwa [List.getElem?_drop] at hj)))
   (fun j hj => by rw [hWc]; exact isSome_setCells _ _ _ _ (fun t ht => hN _ (by omega)) _ (hN _ (by omega)))
   (fun j hj => by rw [hWf, World.frozen?_setCells]; exact hNf _) (fun v hv => h1c v (List.mem_of_mem_drop hv))
 subst hW1
 have hE1 : ∀ x, ((w.alloc (.cells ROW 52)).drew).cell? x = (w.drew.alloc (.cells ROW 52)).cell? x := fun x => rfl
 have hE2 : ∀ x, ((w.alloc (.cells ROW 52)).drew).frozen? x = (w.drew.alloc (.cells ROW 52)).frozen? x := fun x => rfl
 have hF1 : ∀ x, (((w.alloc (.cells ROW 52)).drew.setCells w.heap.size (i * 4) vs).drew).cell? x = ((w.drew.alloc (.cells ROW 52)).setCells w.heap.size (i * 4) vs).cell? x := fun x => rfl
 have hF2 : ∀ x, (((w.alloc (.cells ROW 52)).drew.setCells w.heap.size (i * 4) vs).drew).frozen? x = ((w.drew.alloc (.cells ROW 52)).setCells w.heap.size (i * 4) vs).frozen? x := fun x => rfl
 have hw1 : IntKind.i64.wrap ((i : Int) + (m : Int)) = (i : Int) + (m : Int) := by rw [IntKind.wrap_i64]; omega
 have hb1 : (0 : Int) <= (i : Int) + (m : Int) := by omega
 have hin : i <= n := by omega
 have htn : ((i : Int) + (m : Int)).toNat = i + m := by omega
 have hb3 : (i : Int) <= (n : Int) := by omega
 clear hkk hik hold hROW hG hRl hcs hvs h1c h1v hN hNf hOb hOv htl hdl
 go_enter Tryz.func123, Tryz.ntmps123
 go_wp2_with (first
  | (at_builtin; refine Lib.wpList_append_run _ rfl _ _ _ _ rfl _ _ rfl rfl _ _ (hrz _) ?_)
  | (at_builtin; refine wpList_copy_runI _ rfl _ _ 146 146 rfl _ _ rfl rfl (hcpA _ hE1 hE2 _ _) ?_)
  | (at_builtin; refine wpList_copy_runI _ rfl _ _ 146 146 rfl _ _ rfl rfl (hcpB _ (fun _ => rfl) (fun _ => rfl) _ _ _) ?_))
 go_region_law_o (refine step_copy_runI rfl _ _ 146 146 rfl (.slice (some ⟨w.heap.size, (i + m) * 4, none⟩) (n + m - (i + m)) (G - (i + m))) (.slice (some ⟨b, off + i * 4, none⟩) (n - i) (c - i)) (by simp [Act.eval, Act.put]) (by simp [Act.eval, Act.put]) (hcpB _ hF1 hF2 3 (G - (i + m)) (c - i)) ?_)
 go_wp2
 go_ret
 exact ⟨rfl, rfl⟩
theorem calls_slices_Insert_Limpl_Label_impl_Label_mobo (old : Option (Nat × Nat)) (y : Value) (n cap i vb voff m vc : Nat) (cs vs : List Value) (w : World)
  (hold : (old = none /\ n = 0 /\ cap = 0 /\ ∃ ad, y = .slice ad 0 0) \/ ∃ b off C t, old = some (b, off) /\ y = .slice (some ⟨b, off, none⟩) n cap /\ n <= cap /\ w.heap[b]? = some (.cells C t (0, 0)) /\ off + cap * 4 <= C.size /\ (∀ (q : Nat) u, C[q]? = some u -> u.oneCell' = true) /\ (∀ q, q < n * 4 -> C[off + q]? = cs[q]?) /\ vb ≠ b)
  (hi : i <= n) (hm : 0 < m) (hbig : (n + m) * 40 <= 140737488355328) (hcl : cs.length = n * 4) (hvl : vs.length = m * 4) (hvb : ∃ C2 t2, w.heap[vb]? = some (.cells C2 t2 (0, 0)) /\ ∀ q, q < m * 4 -> C2[voff + q]? = vs[q]?) (h1c : ∀ u ∈ cs, u.oneCell' = true) (h1v : ∀ u ∈ vs, u.oneCell' = true) :
  Calls Tryz.prog 123 #[y, .int .i64 i, .slice (some ⟨vb, voff, none⟩) m vc] w (Inserted w old 4 (n + m) (cs.take (i * 4) ++ vs ++ cs.drop (i * 4))) := by
 obtain ⟨C2, t2, hC2, hvs⟩ := hvb
 have hvcell : ∀ j v, vs[j]? = some v -> w.cell? ⟨vb, voff + j, none⟩ = some v := fun j v h => by
  rw [cell_at hC2, hvs j (by have := (List.getElem?_eq_some_iff.1 h).1; omega)]; exact h
 have hz5 : d52.zero.cells.size = 4 := by kernel_rfl
 have hz1 : ∀ k, ∀ v ∈ (Builtin.zeroCells d52.zero.cells k).toList, v.oneCell' = true := fun k => zeroCells_one _ (fun v hv => by
  have := Array.all_eq_true_iff_forall_mem.1 (show d52.zero.cells.all Value.oneCell' = true by kernel_rfl) v hv
  exact this) _
 have hzn : ∀ k, (Builtin.zeroCells d52.zero.cells k).size = k * 4 := fun k => by rw [size_zeroCells, hz5]
 rcases hold with ⟨ho, h0, hc, ad, rfl⟩ | ⟨b, off, C, t, ho, rfl, hnc, hC, hCs, h1C, hcs, hne⟩
 ·subst h0; subst hc
  obtain rfl : i = 0 := by omega
  have hcs0 : cs = [] := List.length_eq_zero_iff.1 (by omega)
  subst hcs0
  refine (ins_end_grow_slices_Insert_Limpl_Label_impl_Label_mobo ad 0 0 vb voff m vc [] vs w hm (Nat.le_refl _) (by omega) hbig hcl hvl (fun _ => rfl) (fun a _ j v h => by simp at h) hvcell h1v).mono ?_
  rintro e w' ⟨rfl, rfl⟩
  exact ins_post_endgrow hcl hvl h1v h1c (grownCap_ge _ _ _ _) (hzn _) (hz1 _)
 ·subst ho
  have hccell : ∀ j v, cs[j]? = some v -> w.cell? ⟨b, off + j, none⟩ = some v := fun j v h => by
   rw [cell_at hC, hcs j (by have := (List.getElem?_eq_some_iff.1 h).1; omega)]; exact h
  by_cases hroom : n + m <= cap
  ·have hsp : ∀ j, j < (n + m) * 4 -> (w.cell? ⟨b, off + j, none⟩).isSome = true := fun j hj => by
    rw [cell_at hC, Array.getElem?_eq_getElem (by omega)]; rfl
   by_cases hin : i = n
   ·subst hin
    refine (ins_end_room_slices_Insert_Limpl_Label_impl_Label_mobo b off i cap vb voff m vc vs w hm hroom (by omega) hvl (fun j hj => by rw [Nat.add_assoc]; exact hsp _ (by omega)) (fun j hj => frozen_of hC _) hvcell h1v).mono ?_
    rintro e w' ⟨rfl, rfl⟩
    exact ins_post_end hC hCs h1C hcs hcl hvl h1v hroom
   ·refine (ins_shift_slices_Insert_Limpl_Label_impl_Label_mobo b off n cap i vb voff m vc cs vs w (by omega) hm hroom (by omega) hne hcl hvl hccell hsp (fun j hj => frozen_of hC _) hvcell h1c h1v t2 t C2.size C.size (by simp [World.shape?, hC2]) (by simp [World.shape?, hC]) (by omega) (frozen_of hC2 _) (frozen_of hC2 _)).mono ?_
    rintro e w' ⟨rfl, rfl⟩
    exact ins_post_shift hC hCs h1C hcs hcl hvl h1v h1c hi hroom
  ·by_cases hin : i = n
   ·subst hin
    refine (ins_end_grow_slices_Insert_Limpl_Label_impl_Label_mobo (some ⟨b, off, none⟩) i cap vb voff m vc cs vs w hm hnc (by omega) hbig hcl hvl (fun h => by cases h) (fun a h j v hv => by injection h with h; subst h; rw [Addr.add_lit]; exact hccell j v hv) hvcell h1v).mono ?_
    rintro e w' ⟨rfl, rfl⟩
    exact ins_post_endgrow hcl hvl h1v h1c (grownCap_ge _ _ _ _) (hzn _) (hz1 _)
   ·refine (ins_grow_slices_Insert_Limpl_Label_impl_Label_mobo b off n cap i vb voff m vc cs vs w (by omega) hm hnc (by omega) hbig hcl hvl hccell hvcell h1c h1v).mono ?_
    rintro e w' ⟨rfl, rfl⟩
    exact ins_post_grow hcl hvl h1v h1c hi (grownCap_ge _ _ _ _) (hzn _) (hzn _) (hz1 _) (hz1 _)
end
/-- slices.Insert[[]loop.example/g00890/impl.Label,loop.example/g00890/impl.Label] -/
def Fq22 (a0 : List TB) (a1 : Int) (a2 : List TB) : Option (List TB) :=
 if 0 <= a1 /\ a1 <= (a0.length : Int) /\ 0 < a2.length /\ (a0.length + a2.length) * 40 <= 140737488355328 then some (a0.take a1.toNat ++ a2 ++ a0.drop a1.toNat) else none
theorem runq22 (a0 : List TB) (a1 : Int) (a2 : List TB) (r : List TB) (h : Fq22 a0 a1 a2 = some r) : Fun Tryz.prog 123 [.c (.os 5 0 (len a0)), .c (wi a1), .c (.os 7 0 (len a2))] [(5, .arr .rw [] (len a0) 4 (row gd (eL) a0)), (7, .arr .rw [] (len a2) 4 (row gd (eL) a2))] (.c (.os 64000 0 (len r))) [(64000, .arr .rw [] (len r) 4 (row gd (eL) r))] true := by
 unfold Fq22 at h
 split at h
 ·rename_i h1
  injection h with h
  subst h
  obtain ⟨i, rfl⟩ : ∃ i : Nat, a1 = i := ⟨a1.toNat, by omega⟩
  rw [Int.toNat_natCast]
  have e : len (a0.take i ++ a2 ++ a0.drop i) = len a0 + len a2 := by
   show List.length _ = List.length _ + List.length _
   rw [List.length_append, List.length_append, List.length_take, List.length_drop]; omega
  rw [e]
  exact Fun.insert Tryz.func123 (by kernel_rfl) (by kernel_rfl) 4 40 (fun old y n cap i vb voff m vc cs vs w h1 h2 h3 h4 h5 h6 h7 h8 h9 => calls_slices_Insert_Limpl_Label_impl_Label_mobo old y n cap i vb voff m vc cs vs w h1 h2 h3 h4 h5 h6 h7 h8 h9) (len a0) i (len a2) _ _ _ (show i <= a0.length by omega) (show 0 < a2.length by omega) (show (a0.length + a2.length) * 40 <= _ by omega)
   (fun t ht q hq => by
    show eL (gd _ t) q = if t < i then eL (gd a0 t) q else if t < i + a2.length then eL (gd a2 (t - i)) q else eL (gd a0 (t - a2.length)) q
    rw [ins_get a0 a2 i t (by omega)]
    split
    ·rfl
    ·split <;> rfl) (fun t q => plain_nil (val_plain (vl_encLabel _ _))) (fun t q => plain_nil (val_plain (vl_encLabel _ _))) (fun t q => val_flat (vl_encLabel _ _))
 ·cases h

section
open Go.RowKit Go.Lib
set_option maxRecDepth 1000000 in
/-- slices.Delete: the elements behind those that are taken out lie further ahead, the cells behind are emptied -/
theorem calls_slices_Delete_Limpl_Label_impl_Label_mobb (blk off cap n i j : Nat) (D : List Value) (w : World) (hlen : D.length = n * 4) (hD : ∀ t u, D[t]? = some u -> w.cell? ⟨blk, off + t, none⟩ = some u) (h1 : ∀ u ∈ D, u.oneCell' = true) (hfz : ∀ t, t < n * 4 -> w.frozen? ⟨blk, off + t, none⟩ = false) (hcap : n <= cap) (hij : i < j) (hj : j <= n) :
  Calls Tryz.prog 204 #[.slice (some ⟨blk, off, none⟩) n cap, .int .i64 i, .int .i64 j] w fun e w' => e = .returned (.slice (some ⟨blk, off, none⟩) (n - (j - i)) cap) /\ ∃ zs : List Value, zs.length = (j - i) * 4 /\ (∀ u ∈ zs, u.oneCell' = true) /\ w' = (w.drew.setCells blk (off + i * 4) (D.drop (j * 4))).setCells blk (off + (i + (n - j)) * 4) zs := by
 obtain ⟨news, hnews⟩ : ∃ news, news = D.drop (j * 4) := ⟨_, rfl⟩
 have hl : news.length = (n - j) * 4 := by rw [hnews, List.length_drop, hlen, Nat.sub_mul]
 obtain ⟨A, hA, hsrc⟩ : ∃ A : Addr, (if cap = j then some (⟨blk, off, none⟩ : Addr) else some ⟨blk, off + j * 4, none⟩) = some A /\ Hid (∀ t u, news[t]? = some u -> w.drew.cell? (A.add t) = some u) := by
  by_cases h : cap = j
  ·refine ⟨⟨blk, off, none⟩, by simp [h], fun t u hu => ?_⟩
   have h00 : n - j = 0 := by omega
   have h0 : news.length = 0 := by rw [hl, h00, Nat.zero_mul]
   rw [List.length_eq_zero_iff.1 h0] at hu
   simp at hu
  ·refine ⟨⟨blk, off + j * 4, none⟩, by simp [h], fun t u hu => ?_⟩
   rw [Addr.add_lit, Nat.add_assoc]
   exact hD _ u (by rw [hnews, List.getElem?_drop] at hu; exact hu)
 have s1 : Hid (news.length = (n - j) * 4) := hl
 have s2 : Hid (∀ u ∈ news, u.oneCell' = true) := fun u hu => h1 u (List.mem_of_mem_drop (by rw [hnews] at hu; exact hu))
 have hex : ∀ t, t < n * 4 -> (w.cell? ⟨blk, off + t, none⟩).isSome = true := fun t ht => by
  rw [hD t (D[t]'(by omega)) (List.getElem?_eq_getElem (by omega))]; rfl
 have s3 : Hid (∀ t, t < news.length -> (w.drew.cell? ⟨blk, off + i * 4 + t, none⟩).isSome = true /\ w.drew.frozen? ⟨blk, off + i * 4 + t, none⟩ = false) := fun t ht => by
  rw [hl] at ht
  rw [Nat.add_assoc]
  exact ⟨hex _ (by omega), hfz _ (by omega)⟩
 obtain ⟨W1, hW1⟩ : ∃ W1, W1 = w.drew.setCells blk (off + i * 4) news := ⟨_, rfl⟩
 have hW : Hid (W1 = w.drew.setCells blk (off + i * 4) news) := hW1
 obtain ⟨z, hz⟩ : ∃ z, z = (Builtin.zeroCells d52.zero.cells (j - i)).toList := ⟨_, rfl⟩
 have hzs : d52.zero.cells.size = 4 := by kernel_rfl
 have hzl : z.length = (j - i) * 4 := by rw [hz, Array.length_toList, size_zeroCells, hzs]
 have hz1 : ∀ v ∈ z, v.oneCell' = true := by
  rw [hz]
  exact zeroCells_one _ (fun v hv => by
   have := Array.all_eq_true_iff_forall_mem.1 (show d52.zero.cells.all Value.oneCell' = true by kernel_rfl) v hv
   exact this) _
 have hcl : ∀ ty, (Builtin.clear_ #[146] ty #[.slice (some ⟨blk, off + (i + (n - j)) * 4, none⟩) (n - (i + (n - j))) (cap - (i + (n - j)))]).run Tryz.prog W1 = .ok (.tuple #[]) (W1.setCells blk (off + (i + (n - j)) * 4) z) := fun ty => by
  have e : n - (i + (n - j)) = j - i := by omega
  rw [e, hz]
  refine run_clear_cells W1 146 52 ty d52.zero (by kernel_rfl) (fun w => ?_) blk _ _ _ (by omega) ?_ ?_ ?_
  ·exact run_zero tok (show T 52 = some d52 from rfl)
  ·rw [<- hz]; exact hz1
  ·intro t ht
   rw [size_zeroCells, hzs] at ht
   rw [hW1, Nat.add_assoc]
   refine isSome_setCells blk _ _ _ (fun q hq => ?_) _ (hex _ ?_)
   ·rw [hl] at hq
    rw [Nat.add_assoc]; exact hex _ (by omega)
   ·omega
  ·intro t ht
   rw [size_zeroCells, hzs] at ht
   rw [hW1, World.frozen?_setCells, Nat.add_assoc]
   exact hfz _ (by omega)
 have hX : Hid (∃ zs : List Value, zs.length = (j - i) * 4 /\ (∀ u ∈ zs, u.oneCell' = true) /\ W1.setCells blk (off + (i + (n - j)) * 4) z = (w.drew.setCells blk (off + i * 4) (D.drop (j * 4))).setCells blk (off + (i + (n - j)) * 4) zs) := ⟨z, hzl, hz1, by rw [hW1, hnews]⟩
 have hic : i <= cap := by omega
 have hjc : j <= cap := by omega
 have hne : ¬ (i = j) := by omega
 have hI : (Tryz.prog.info? 52).map (·.size) = some 4 := by kernel_rfl
 obtain ⟨i0, hi0, hz5⟩ : ∃ i0, Tryz.prog.info? 52 = some i0 /\ i0.size = 4 := by
  cases h : Tryz.prog.info? 52 with
  | none => rw [h] at hI; cases hI
  | some i0 => rw [h] at hI; exact ⟨i0, rfl, by injection hI⟩
 have mixed : Tryz.prog.follows .mixedOrders = true := by kernel_rfl
 clear hW1 hex hzs hnews hl hz hzl hz1 hD h1 hfz
 go_enter Tryz.func204, Tryz.ntmps204
 go_wp2_with fail
 go_region_law_o (refine step_append_room rfl (.tmp 22) (.tmp 25) 146 rfl 52 i0 4 (by kernel_rfl) hi0 hz5 blk off i cap (by simp [Act.eval, Act.put]) A (n - j) (cap - j) news (by simp [Act.eval, Act.put, hA]) s1.out hsrc.out s2.out (by omega) s3.out ?_; rw [<- hW.out])
 go_wp2
 go_ret
 refine ⟨by rw [show n - (j - i) = i + (n - j) by omega]; rfl, hX.out⟩
end
/-- slices.Delete[[]loop.example/g00890/impl.Label,loop.example/g00890/impl.Label] -/
def Fq73 (a0 : List TB) (a1 : Int) (a2 : Int) : Option (List TB) :=
 if 0 <= a1 /\ a1 < a2 /\ a2 <= (a0.length : Int) then some (a0.take a1.toNat ++ a0.drop a2.toNat) else none
theorem runq73 (a0 : List TB) (a1 : Int) (a2 : Int) (r : List TB) (h : Fq73 a0 a1 a2 = some r) : Fun Tryz.prog 204 [.c (.os 5 0 (len a0)), .c (wi a1), .c (wi a2)] [(5, .arr .rw [] (len a0) 4 (row gd (eL) a0))] (.c (.os 64000 0 (len r))) [(64000, .arr .rw [] (len r) 4 (row gd (eL) r))] true := by
 unfold Fq73 at h
 split at h
 ·rename_i h1
  injection h with h
  subst h
  obtain ⟨i, rfl⟩ : ∃ i : Nat, a1 = i := ⟨a1.toNat, by omega⟩
  obtain ⟨j, rfl⟩ : ∃ j : Nat, a2 = j := ⟨a2.toNat, by omega⟩
  rw [Int.toNat_natCast, Int.toNat_natCast]
  have e : len (a0.take i ++ a0.drop j) = len a0 - (j - i) := by
   show List.length _ = List.length _ - _
   rw [List.length_append, List.length_take, List.length_drop]; omega
  rw [e]
  exact Fun.delete Tryz.func204 (by kernel_rfl) (by kernel_rfl) 4 (fun blk off cap n i j D w h1 h2 h3 h4 h5 h6 h7 => calls_slices_Delete_Limpl_Label_impl_Label_mobb blk off cap n i j D w h1 h2 h3 h4 h5 h6 h7) (len a0) i j _ _ (by omega) (show j <= a0.length by omega)
   (fun t ht q hq => by show eL (gd _ t) q = eL (gd a0 _) q; rw [cut_get a0 i j t (by omega) (by omega)]) (fun t q => plain_nil (val_plain (vl_encLabel _ _))) (fun t q => val_flat (vl_encLabel _ _))
 ·cases h

/-- impl.Label] -/
def Fq87 (a0 : List TB) (a1 : Int) : Option (List TB) :=
 (Fq73 a0 a1 (std.add .i64 a1 1)).bind fun y1 =>
 some y1
theorem runq87 (a0 : List TB) (a1 : Int) (r : List TB) (h : Fq87 a0 a1 = some r) : Fun Tryz.prog 124 [.c (.os 5 0 (len a0)), .c (wi a1)] [(5, .arr .rw [] (len a0) 4 (row gd (eL) a0))] (.c (.os 64000 0 (len r))) [(64000, .arr .rw [] (len r) 4 (row gd (eL) r))] true := by
 refine Fun.of_wp (oneOf []) tok mixed Tryz.func124 (by kernel_rfl) rfl Tryz.ntmps124 rfl ⟨fun i _ j _ k hk => (noref (plain_nil (pl_encLabel _ _)) hk).elim, tv⟩ (fun _ => ⟨trivial, ⟨fun i _ j _ => val_flat (vl_encLabel _ _), tv⟩⟩) ?_
 unfold Fq87 at h
 have hfq73 := @runq73
 generalize hLEN : @len = LEN, hGD : @gd = GD, hA : std = A, hP : Tryz.prog = P at *
 cbv
 replace h := ob_ h
 obtain ⟨y1, hy2, h⟩ := h
 refine ⟨⟨_, _, _, _, _, [(5, 5)], [(64000, 576)]⟩, hfq73 _ _ _ _ hy2, ⟨zs3, ⟨oS, tv⟩, rfl, rfl, rfl, rfl, ⟨evn 64000 rfl, tv⟩, rfl⟩, _, rfl, _, _, rfl, fun _ _ _ _ => .refl _, ?_⟩
 cbv
 injection h with h
 subst h
 refine ⟨(sp 10 [(4, .c (.os 64000 0 (LEN y1)))] [(64000, .arr .rw [] (LEN y1) 4 (row GD (eL) y1))]), ?_, ?_⟩
 ·refine St.le_trans (le_ren 576 64000 (by decide) rfl) ?_
  exact lsp rfl zl1 ⟨oS, tv⟩ rfl
 ·exact ⟨lR _, ⟨oS, tv⟩, rfl⟩

section
open Go.RowKit Go.Lib
set_option maxRecDepth 1000000 in
theorem ins_shift_slices_Insert_Limpl_Instance_impl_Instance_mobo (b off n c i vb voff m vc : Nat) (cs vs : List Value) (w : World) (hi : i < n) (hm : 0 < m) (hroom : n + m <= c) (hc63 : n + m <= 9223372036854775807) (hvb : vb ≠ b)
  (hcl : cs.length = n * 8) (hvl : vs.length = m * 8)
  (hcs : ∀ j v, cs[j]? = some v -> w.cell? ⟨b, off + j, none⟩ = some v) (hsp : ∀ j, j < (n + m) * 8 -> (w.cell? ⟨b, off + j, none⟩).isSome = true) (hfz : ∀ j, j < (n + m) * 8 -> w.frozen? ⟨b, off + j, none⟩ = false)
  (hvs : ∀ j v, vs[j]? = some v -> w.cell? ⟨vb, voff + j, none⟩ = some v) (h1c : ∀ v ∈ cs, v.oneCell' = true) (h1v : ∀ v ∈ vs, v.oneCell' = true)
  (tA tB : TypeId) (kA kB : Nat) (hsa : w.shape? vb = some (tA, kA)) (hsb : w.shape? b = some (tB, kB)) (hkB : kB ≠ 0) (hfa : w.frozen? ⟨vb, voff, none⟩ = false) (hfe : w.frozen? ⟨vb, kA, none⟩ = false) :
  Calls Tryz.prog 125 #[.slice (some ⟨b, off, none⟩) n c, .int .i64 i, .slice (some ⟨vb, voff, none⟩) m vc] w fun e w' =>
   e = .returned (.slice (some ⟨b, off, none⟩) (n + m) c) /\ w' = (w.drew.setCells b (off + (i + m) * 8) (cs.drop (i * 8))).setCells b (off + i * 8) vs := by
 have tSl : Tryz.prog.underlying 147 = some (.slice 55) := by kernel_rfl
 have hz1 : ¬ ((m : Int) = 0) := by omega
 have hz2 : ¬ ((i : Int) = (n : Int)) := by omega
 have hsz : (Tryz.prog.info? 55).map (·.size) = some 8 := by kernel_rfl
 have hov : ∀ lb cb, (callFunc 205 #[.slice (some ⟨vb, voff, none⟩) m vc, .slice (some ⟨b, off + (i + m) * 8, none⟩) lb cb]).run Tryz.prog w = .ok (.value (.bool false)) w := fun lb cb => by
  rw [run_callFunc_extern Tryz.func205 (by kernel_rfl) (by kernel_rfl) (by kernel_rfl) (e := Extern.SlicesOverlaps.overlaps #[147, 147] #[4]) (by kernel_rfl),
   Lib.run_overlaps_apart w 147 4 55 tSl 8 (fun w => run_sizeOf tok (show T 55 = some d55 from rfl)) ⟨vb, voff, none⟩ ⟨b, off + (i + m) * 8, none⟩ m vc lb cb hvb tA tB kA kB hsa hsb hkB hfa hfe]
  rfl
 have hdl : (cs.drop (i * 8)).length = (n - i) * 8 := by rw [List.length_drop, hcl, Nat.sub_mul]
 have mixed : Tryz.prog.follows .mixedOrders = true := by kernel_rfl
 have hw1 : IntKind.i64.wrap ((i : Int) + (m : Int)) = (i : Int) + (m : Int) := by rw [IntKind.wrap_i64]; omega
 have hb1 : (0 : Int) <= (i : Int) + (m : Int) := by omega
 have hin : i <= n := by omega
 have htn : ((i : Int) + (m : Int)).toNat = i + m := by omega
 have hb2 : ¬ (c = i + m) := by omega
 have hb3 : (i : Int) <= (n : Int) + (m : Int) := by omega
 have hb4 : ¬ (c = i) := by omega
 have hcp1 : ∀ ty dc sc, (Builtin.copy_ #[147, 147] ty #[.slice (some ⟨b, off + (i + m) * 8, none⟩) (n + m - (i + m)) dc, .slice (some ⟨b, off + i * 8, none⟩) (n + m - i) sc]).run Tryz.prog w.drew = .ok (goInt (Nat.min (n + m - i) (n + m - (i + m)))) (w.drew.setCells b (off + (i + m) * 8) (cs.drop (i * 8))) := fun ty dc sc =>
  run_copy_cellsN 8 w.drew _ _ ty 55 b (off + (i + m) * 8) (n + m - (i + m)) dc ⟨b, off + i * 8, none⟩ (n + m - i) sc (cs.drop (i * 8)) tSl hsz (by rw [hdl, show Nat.min (n + m - i) (n + m - (i + m)) = n - i by simp only [Nat.min_def]; split <;> omega])
   (fun j v hj => by rw [Addr.add_lit, Nat.add_assoc]; exact hcs (i * 8 + j) v (by rwa [List.getElem?_drop] at hj))
   (fun j hj => by rw [Nat.add_assoc]; exact hsp _ (by omega)) (fun j hj => by rw [Nat.add_assoc]; exact hfz _ (by omega)) (fun v hv => h1c v (List.mem_of_mem_drop hv))
 obtain ⟨W1, hW1⟩ : ∃ W1, W1 = w.drew.setCells b (off + (i + m) * 8) (cs.drop (i * 8)) := ⟨_, rfl⟩
 have hsp1 : ∀ k, k < (n + m) * 8 -> (W1.cell? ⟨b, off + k, none⟩).isSome = true := fun k hk => by
  rw [hW1]
  exact isSome_setCells b _ _ _ (fun j hj => by rw [Nat.add_assoc]; exact hsp _ (by omega)) _ (hsp k hk)
 have hcp2 : ∀ (W : World), (∀ x, W.cell? x = W1.cell? x) -> (∀ x, W.frozen? x = W1.frozen? x) -> ∀ ty dc, (Builtin.copy_ #[147, 147] ty #[.slice (some ⟨b, off + i * 8, none⟩) (n + m - i) dc, .slice (some ⟨vb, voff, none⟩) m vc]).run Tryz.prog W = .ok (goInt (Nat.min m (n + m - i))) (W.setCells b (off + i * 8) vs) := fun W hWc hWf ty dc =>
  run_copy_cellsN 8 W _ _ ty 55 b (off + i * 8) (n + m - i) dc ⟨vb, voff, none⟩ m vc vs tSl hsz (by rw [hvl, show Nat.min m (n + m - i) = m by simp only [Nat.min_def]; split <;> omega])
   (fun j v hj => by
    rw [Addr.add_lit, hWc, hW1, World.cell?_setCells_out b _ _ _ _ (fun h _ => absurd h hvb)]
    exact hvs j v hj)
   (fun j hj => by rw [hWc, Nat.add_assoc]; exact hsp1 _ (by omega)) (fun j hj => by rw [hWf, hW1, World.frozen?_setCells, Nat.add_assoc]; exact hfz _ (by omega)) h1v
 rw [<- hW1] at hcp1
 clear hsp hfz hcs hvs h1c h1v
 go_enter Tryz.func125, Tryz.ntmps125
 go_wp2_with (simp only [hov])
 go_region_law_o (refine step_copy_runI rfl _ _ 147 147 rfl _ _ (by simp [Act.eval, Act.put]) (by simp [Act.eval, Act.put]) (hcp1 _ _ _) ?_)
 go_wp2_with (at_builtin; refine wpList_copy_runI _ rfl _ _ 147 147 rfl _ _ rfl rfl (hcp2 _ (fun _ => rfl) (fun _ => rfl) _ _) ?_)
 go_ret
 first | exact ⟨rfl, rfl⟩ | exact ⟨rfl, by rw [hW1]⟩
set_option maxRecDepth 1000000 in
theorem ins_end_room_slices_Insert_Limpl_Instance_impl_Instance_mobo (b off n c vb voff m vc : Nat) (vs : List Value) (w : World) (hm : 0 < m) (hroom : n + m <= c) (hc63 : n + m <= 9223372036854775807)
  (hvl : vs.length = m * 8) (hsp : ∀ j, j < m * 8 -> (w.cell? ⟨b, off + n * 8 + j, none⟩).isSome = true) (hfz : ∀ j, j < m * 8 -> w.frozen? ⟨b, off + n * 8 + j, none⟩ = false)
  (hvs : ∀ j v, vs[j]? = some v -> w.cell? ⟨vb, voff + j, none⟩ = some v) (h1v : ∀ v ∈ vs, v.oneCell' = true) :
  Calls Tryz.prog 125 #[.slice (some ⟨b, off, none⟩) n c, .int .i64 n, .slice (some ⟨vb, voff, none⟩) m vc] w fun e w' =>
   e = .returned (.slice (some ⟨b, off, none⟩) (n + m) c) /\ w' = w.setCells b (off + n * 8) vs := by
 have tSl : Tryz.prog.underlying 147 = some (.slice 55) := by kernel_rfl
 have mixed : Tryz.prog.follows .mixedOrders = true := by kernel_rfl
 have hI : (Tryz.prog.info? 55).map (·.size) = some 8 := by kernel_rfl
 obtain ⟨i0, hi0, hz5⟩ : ∃ i0, Tryz.prog.info? 55 = some i0 /\ i0.size = 8 := by
  cases h : Tryz.prog.info? 55 with
  | none => rw [h] at hI; cases hI
  | some i0 => rw [h] at hI; exact ⟨i0, rfl, by injection hI⟩
 have hz1 : ¬ ((m : Int) = 0) := by omega
 have hsrc : Src Tryz.prog i0.size 147 (.slice (some ⟨vb, voff, none⟩) m vc) m vs w := Src.ofSlice w tSl ⟨vb, voff, none⟩ m vc vs (by rw [hz5]; exact hvl) (fun j u hj => by rw [Addr.add_lit]; exact hvs j u hj) h1v
 have s1 : Hid (∀ j, j < vs.length -> (w.cell? ⟨b, off + n * i0.size + j, none⟩).isSome = true) := by rw [hvl, hz5]; exact hsp
 have s2 : Hid (∀ j, j < vs.length -> w.frozen? ⟨b, off + n * i0.size + j, none⟩ = false) := by rw [hvl, hz5]; exact hfz
 clear hsp hfz hvs
 go_enter Tryz.func125, Tryz.ntmps125
 go_wp2_with (at_builtin; refine wpList_append_room_src _ rfl _ _ 147 147 rfl 55 i0 tSl hi0 b off n c rfl _ rfl m vs hsrc hroom s1.out s2.out ?_)
 go_ret
 exact ⟨rfl, rfl⟩
set_option maxRecDepth 1000000 in
theorem ins_end_grow_slices_Insert_Limpl_Instance_impl_Instance_mobo (base : Option Addr) (n c vb voff m vc : Nat) (cs vs : List Value) (w : World) (hm : 0 < m) (hnc : n <= c) (hroom : c < n + m) (hbig : (n + m) * 64 <= 140737488355328)
  (hcl : cs.length = n * 8) (hvl : vs.length = m * 8) (hnil : base = none -> n = 0)
  (hcs : ∀ a, base = some a -> ∀ j v, cs[j]? = some v -> w.cell? (a.add j) = some v)
  (hvs : ∀ j v, vs[j]? = some v -> w.cell? ⟨vb, voff + j, none⟩ = some v) (h1v : ∀ v ∈ vs, v.oneCell' = true) :
  Calls Tryz.prog 125 #[.slice base n c, .int .i64 n, .slice (some ⟨vb, voff, none⟩) m vc] w fun e w' =>
   e = .returned (.slice (some ⟨w.heap.size, 0, none⟩) (n + m) (grownCap w (n + m) c 55)) /\
   w' = w.drew.alloc (.cells ((cs ++ vs).toArray ++ Builtin.zeroCells d55.zero.cells (grownCap w (n + m) c 55 - (n + m))) 55) := by
 have tSl : Tryz.prog.underlying 147 = some (.slice 55) := by kernel_rfl
 have mixed : Tryz.prog.follows .mixedOrders = true := by kernel_rfl
 obtain ⟨i0, hi0, hzs, hzb, hz0⟩ := (tok 55 d55 rfl).2.1
 have hzs : i0.size = 8 := hzs
 have hzb : i0.bytes = 64 := hzb
 have hz1 : ¬ ((m : Int) = 0) := by omega
 have hsrc : Src Tryz.prog i0.size 147 (.slice (some ⟨vb, voff, none⟩) m vc) m vs w := Src.ofSlice w tSl ⟨vb, voff, none⟩ m vc vs (by rw [hzs]; exact hvl) (fun j u hj => by rw [Addr.add_lit]; exact hvs j u hj) h1v
 have hold : (Builtin.firstCells i0.size n (.slice base n c)).run Tryz.prog w.drew = .ok cs.toArray w.drew := by
  rw [hzs]
  cases base with
  | none =>
   have h0 := hnil rfl
   subst h0
   have hc0 : cs.length = 0 := by rw [hcl, Nat.zero_mul]
   rw [List.length_eq_zero_iff.1 hc0]
   exact run_firstCells_none w.drew 8 0 0 c
  | some a => exact run_firstCells_some w.drew 8 n a n c cs hcl (fun j v hj => hcs a rfl j v hj)
 have hrun : ∀ ty, (Builtin.append_ #[147, 147] ty #[.slice base n c, .slice (some ⟨vb, voff, none⟩) m vc]).run Tryz.prog w = _ := fun ty =>
  run_append_grow_src w 147 147 ty 55 i0 _ tSl hi0 hz0 base n c cs hold _ m vs hsrc hroom (by omega) (by rw [hzb]; exact growslice_fits hroom hbig)
 go_enter Tryz.func125, Tryz.ntmps125
 cases base with
 | none =>
  have h0 := hnil rfl
  subst h0
  go_wp2_with (at_builtin; refine Lib.wpList_append_run _ rfl _ _ _ _ rfl _ _ rfl rfl _ _ (hrun _) ?_)
  go_ret
  exact ⟨rfl, rfl⟩
 | some a =>
  obtain ⟨ab, ao, asp⟩ := a
  go_wp2_with (at_builtin; refine Lib.wpList_append_run _ rfl _ _ _ _ rfl _ _ rfl rfl _ _ (hrun _) ?_)
  all_goals (go_ret; exact ⟨rfl, rfl⟩)
set_option maxRecDepth 1000000 in
theorem ins_grow_slices_Insert_Limpl_Instance_impl_Instance_mobo (b off n c i vb voff m vc : Nat) (cs vs : List Value) (w : World) (hi : i < n) (hm : 0 < m) (hnc : n <= c) (hroom : c < n + m) (hbig : (n + m) * 64 <= 140737488355328)
  (hcl : cs.length = n * 8) (hvl : vs.length = m * 8)
  (hcs : ∀ j v, cs[j]? = some v -> w.cell? ⟨b, off + j, none⟩ = some v)
  (hvs : ∀ j v, vs[j]? = some v -> w.cell? ⟨vb, voff + j, none⟩ = some v) (h1c : ∀ v ∈ cs, v.oneCell' = true) (h1v : ∀ v ∈ vs, v.oneCell' = true) :
  Calls Tryz.prog 125 #[.slice (some ⟨b, off, none⟩) n c, .int .i64 i, .slice (some ⟨vb, voff, none⟩) m vc] w fun e w' =>
   e = .returned (.slice (some ⟨w.heap.size, 0, none⟩) (n + m) (grownCap w (n + m) c 55)) /\
   w' = (((w.alloc (.cells ((cs.take (i * 8)).toArray ++ Builtin.zeroCells d55.zero.cells (n + m - i) ++ Builtin.zeroCells d55.zero.cells (grownCap w (n + m) c 55 - (n + m))) 55)).drew.setCells w.heap.size (i * 8) vs).drew).setCells w.heap.size ((i + m) * 8) (cs.drop (i * 8)) := by
 have tSl : Tryz.prog.underlying 147 = some (.slice 55) := by kernel_rfl
 have t3 : Tryz.prog.underlying 3 = some (.int .i64) := by kernel_rfl
 have mixed : Tryz.prog.follows .mixedOrders = true := by kernel_rfl
 obtain ⟨i0, hi0, hzs, hzb, hz0⟩ := (tok 55 d55 rfl).2.1
 have hzs : i0.size = 8 := hzs
 have hzb : i0.bytes = 64 := hzb
 have hz5 : d55.zero.cells.size = 8 := by kernel_rfl
 have hz1 : ¬ ((m : Int) = 0) := by omega
 have hz2 : ¬ ((i : Int) = (n : Int)) := by omega
 have hz3 : (c : Int) < (n : Int) + (m : Int) := by omega
 have hsz : (Tryz.prog.info? 55).map (·.size) = some 8 := by rw [hi0]; simp [hzs]
 have hbw : b < w.heap.size := block_lt_of_cell (hcs 0 _ (List.getElem?_eq_getElem (by omega)))
 have hvw : vb < w.heap.size := block_lt_of_cell (hvs 0 _ (List.getElem?_eq_getElem (by omega)))
 have hkk : (n : Int) + (m : Int) - (i : Int) = ((n + m - i : Nat) : Int) := by omega
 have hik : i + (n + m - i) = n + m := by omega
 have htl : (cs.take (i * 8)).length = i * 8 := by rw [List.length_take, hcl]; omega
 have hold : (Builtin.firstCells i0.size i (.slice (some ⟨b, off, none⟩) i c)).run Tryz.prog w.drew = .ok (cs.take (i * 8)).toArray w.drew := by
  rw [hzs]
  exact run_firstCells_some w.drew 8 i ⟨b, off, none⟩ i c (cs.take (i * 8)) htl (fun j v hj => by
   rw [Addr.add_lit]
   rw [List.getElem?_take] at hj
   split at hj
   ·exact hcs j v hj
   ·cases hj)
 have hrz : ∀ ty, (Builtin.append_ #[147, 3] ty #[.slice (some ⟨b, off, none⟩) i c, .int .i64 ((n : Int) + (m : Int) - (i : Int))]).run Tryz.prog w =
   .ok (.slice (some ⟨w.heap.size, 0, none⟩) (n + m) (grownCap w (n + m) c 55)) (w.drew.alloc (.cells ((cs.take (i * 8)).toArray ++ Builtin.zeroCells d55.zero.cells (n + m - i) ++ Builtin.zeroCells d55.zero.cells (grownCap w (n + m) c 55 - (n + m))) 55)) := fun ty => by
  have h := Lib.run_append_grow_zeros w 147 3 ty 55 i0 _ .i64 .i64 tSl t3 hi0 hz0 (some ⟨b, off, none⟩) i c (cs.take (i * 8)) hold (n + m - i) (by omega) (by omega) (by omega) (by omega) (by rw [hzb]; omega) (by rw [hzb, hik]; exact growslice_fits hroom hbig)
  rw [hik] at h
  rw [hkk]
  exact h
 obtain ⟨G, hG⟩ : ∃ G, G = grownCap w (n + m) c 55 := ⟨_, rfl⟩
 obtain ⟨ROW, hROW⟩ : ∃ ROW : Array Value, ROW = (cs.take (i * 8)).toArray ++ Builtin.zeroCells d55.zero.cells (n + m - i) ++ Builtin.zeroCells d55.zero.cells (G - (n + m)) := ⟨_, rfl⟩
 rw [<- hG] at hrz ⊢
 rw [<- hROW] at hrz ⊢
 have hRl : (n + m) * 8 <= ROW.size := by
  rw [hROW, Array.size_append, Array.size_append, size_zeroCells, size_zeroCells, hz5, List.size_toArray, htl]
  omega
 obtain ⟨W1, hW1⟩ : ∃ W1, W1 = w.drew.alloc (.cells ROW 55) := ⟨_, rfl⟩
 rw [<- hW1] at hrz
 have hN : ∀ j, j < (n + m) * 8 -> (W1.cell? ⟨w.heap.size, j, none⟩).isSome = true := fun j hj => by
  rw [hW1, World.cell?_alloc_at (w := w.drew) ROW _ w.heap.size j rfl, Array.getElem?_eq_getElem (by omega)]; rfl
 have hNf : ∀ j, W1.frozen? ⟨w.heap.size, j, none⟩ = false := fun j => by rw [hW1]; exact World.frozen?_alloc_at (w := w.drew) ROW _ w.heap.size j rfl
 have hOb : ∀ j v, w.cell? ⟨b, j, none⟩ = some v -> W1.cell? ⟨b, j, none⟩ = some v := fun j v h => by rw [hW1, World.cell?_alloc_past (w := w.drew) _ b j hbw]; exact h
 have hOv : ∀ j v, w.cell? ⟨vb, j, none⟩ = some v -> W1.cell? ⟨vb, j, none⟩ = some v := fun j v h => by rw [hW1, World.cell?_alloc_past (w := w.drew) _ vb j hvw]; exact h
 have hcpA : ∀ (W : World), (∀ x, W.cell? x = W1.cell? x) -> (∀ x, W.frozen? x = W1.frozen? x) -> ∀ ty dc, (Builtin.copy_ #[147, 147] ty #[.slice (some ⟨w.heap.size, i * 8, none⟩) (n + m - i) dc, .slice (some ⟨vb, voff, none⟩) m vc]).run Tryz.prog W = .ok (goInt (Nat.min m (n + m - i))) (W.setCells w.heap.size (i * 8) vs) := fun W hWc hWf ty dc =>
  run_copy_cellsN 8 W _ _ ty 55 w.heap.size (i * 8) (n + m - i) dc ⟨vb, voff, none⟩ m vc vs tSl hsz (by rw [hvl, show Nat.min m (n + m - i) = m by simp only [Nat.min_def]; split <;> omega])
   (fun j v hj => by rw [Addr.add_lit, hWc]; exact hOv _ v (hvs j v hj))
   (fun j hj => by rw [hWc]; exact hN _ (by omega)) (fun j hj => by rw [hWf]; exact hNf _) h1v
 have hGn : n + m <= G := by rw [hG]; exact grownCap_ge w _ _ _
 have hG63 : G <= 9223372036854775807 := by
  have := grownCap_le_maxLen w (n + m) c 55 (by unfold maxLen; omega)
  rw [<- hG] at this
  unfold maxLen at this
  omega
 have hGi : ¬ (G = i) := by omega
 have hGim : ¬ (G = i + m) := by omega
 have hci : ¬ (c = i) := by omega
 have hbN : b ≠ w.heap.size := by omega
 have hdl : (cs.drop (i * 8)).length = (n - i) * 8 := by rw [List.length_drop, hcl, Nat.sub_mul]
 have hcpB : ∀ (W : World), (∀ x, W.cell? x = (W1.setCells w.heap.size (i * 8) vs).cell? x) -> (∀ x, W.frozen? x = (W1.setCells w.heap.size (i * 8) vs).frozen? x) -> ∀ ty dc sc, (Builtin.copy_ #[147, 147] ty #[.slice (some ⟨w.heap.size, (i + m) * 8, none⟩) (n + m - (i + m)) dc, .slice (some ⟨b, off + i * 8, none⟩) (n - i) sc]).run Tryz.prog W = .ok (goInt (Nat.min (n - i) (n + m - (i + m)))) (W.setCells w.heap.size ((i + m) * 8) (cs.drop (i * 8))) := fun W hWc hWf ty dc sc =>
  run_copy_cellsN 8 W _ _ ty 55 w.heap.size ((i + m) * 8) (n + m - (i + m)) dc ⟨b, off + i * 8, none⟩ (n - i) sc (cs.drop (i * 8)) tSl hsz (by rw [hdl, show Nat.min (n - i) (n + m - (i + m)) = n - i by simp only [Nat.min_def]; split <;> omega])
   (fun j v hj => by
    rw [Addr.add_lit, hWc, World.cell?_setCells_out _ _ _ _ _ (fun h _ => absurd h hbN), Nat.add_assoc]
    exact hOb _ v (hcs (i * 8 + j) v (by rwa [List.getElem?_drop] at hj)))
   (fun j hj => by rw [hWc]; exact isSome_setCells _ _ _ _ (fun t ht => hN _ (by omega)) _ (hN _ (by omega)))
   (fun j hj => by rw [hWf, World.frozen?_setCells]; exact hNf _) (fun v hv => h1c v (List.mem_of_mem_drop hv))
 subst hW1
 have hE1 : ∀ x, ((w.alloc (.cells ROW 55)).drew).cell? x = (w.drew.alloc (.cells ROW 55)).cell? x := fun x => rfl
 have hE2 : ∀ x, ((w.alloc (.cells ROW 55)).drew).frozen? x = (w.drew.alloc (.cells ROW 55)).frozen? x := fun x => rfl
 have hF1 : ∀ x, (((w.alloc (.cells ROW 55)).drew.setCells w.heap.size (i * 8) vs).drew).cell? x = ((w.drew.alloc (.cells ROW 55)).setCells w.heap.size (i * 8) vs).cell? x := fun x => rfl
 have hF2 : ∀ x, (((w.alloc (.cells ROW 55)).drew.setCells w.heap.size (i * 8) vs).drew).frozen? x = ((w.drew.alloc (.cells ROW 55)).setCells w.heap.size (i * 8) vs).frozen? x := fun x => rfl
 have hw1 : IntKind.i64.wrap ((i : Int) + (m : Int)) = (i : Int) + (m : Int) := by rw [IntKind.wrap_i64]; omega
 have hb1 : (0 : Int) <= (i : Int) + (m : Int) := by omega
 have hin : i <= n := by omega
 have htn : ((i : Int) + (m : Int)).toNat = i + m := by omega
 have hb3 : (i : Int) <= (n : Int) := by omega
 clear hkk hik hold hROW hG hRl hcs hvs h1c h1v hN hNf hOb hOv htl hdl
 go_enter Tryz.func125, Tryz.ntmps125
 go_wp2_with (first
  | (at_builtin; refine Lib.wpList_append_run _ rfl _ _ _ _ rfl _ _ rfl rfl _ _ (hrz _) ?_)
  | (at_builtin; refine wpList_copy_runI _ rfl _ _ 147 147 rfl _ _ rfl rfl (hcpA _ hE1 hE2 _ _) ?_)
  | (at_builtin; refine wpList_copy_runI _ rfl _ _ 147 147 rfl _ _ rfl rfl (hcpB _ (fun _ => rfl) (fun _ => rfl) _ _ _) ?_))
 go_region_law_o (refine step_copy_runI rfl _ _ 147 147 rfl (.slice (some ⟨w.heap.size, (i + m) * 8, none⟩) (n + m - (i + m)) (G - (i + m))) (.slice (some ⟨b, off + i * 8, none⟩) (n - i) (c - i)) (by simp [Act.eval, Act.put]) (by simp [Act.eval, Act.put]) (hcpB _ hF1 hF2 3 (G - (i + m)) (c - i)) ?_)
 go_wp2
 go_ret
 exact ⟨rfl, rfl⟩
theorem calls_slices_Insert_Limpl_Instance_impl_Instance_mobo (old : Option (Nat × Nat)) (y : Value) (n cap i vb voff m vc : Nat) (cs vs : List Value) (w : World)
  (hold : (old = none /\ n = 0 /\ cap = 0 /\ ∃ ad, y = .slice ad 0 0) \/ ∃ b off C t, old = some (b, off) /\ y = .slice (some ⟨b, off, none⟩) n cap /\ n <= cap /\ w.heap[b]? = some (.cells C t (0, 0)) /\ off + cap * 8 <= C.size /\ (∀ (q : Nat) u, C[q]? = some u -> u.oneCell' = true) /\ (∀ q, q < n * 8 -> C[off + q]? = cs[q]?) /\ vb ≠ b)
  (hi : i <= n) (hm : 0 < m) (hbig : (n + m) * 64 <= 140737488355328) (hcl : cs.length = n * 8) (hvl : vs.length = m * 8) (hvb : ∃ C2 t2, w.heap[vb]? = some (.cells C2 t2 (0, 0)) /\ ∀ q, q < m * 8 -> C2[voff + q]? = vs[q]?) (h1c : ∀ u ∈ cs, u.oneCell' = true) (h1v : ∀ u ∈ vs, u.oneCell' = true) :
  Calls Tryz.prog 125 #[y, .int .i64 i, .slice (some ⟨vb, voff, none⟩) m vc] w (Inserted w old 8 (n + m) (cs.take (i * 8) ++ vs ++ cs.drop (i * 8))) := by
 obtain ⟨C2, t2, hC2, hvs⟩ := hvb
 have hvcell : ∀ j v, vs[j]? = some v -> w.cell? ⟨vb, voff + j, none⟩ = some v := fun j v h => by
  rw [cell_at hC2, hvs j (by have := (List.getElem?_eq_some_iff.1 h).1; omega)]; exact h
 have hz5 : d55.zero.cells.size = 8 := by kernel_rfl
 have hz1 : ∀ k, ∀ v ∈ (Builtin.zeroCells d55.zero.cells k).toList, v.oneCell' = true := fun k => zeroCells_one _ (fun v hv => by
  have := Array.all_eq_true_iff_forall_mem.1 (show d55.zero.cells.all Value.oneCell' = true by kernel_rfl) v hv
  exact this) _
 have hzn : ∀ k, (Builtin.zeroCells d55.zero.cells k).size = k * 8 := fun k => by rw [size_zeroCells, hz5]
 rcases hold with ⟨ho, h0, hc, ad, rfl⟩ | ⟨b, off, C, t, ho, rfl, hnc, hC, hCs, h1C, hcs, hne⟩
 ·subst h0; subst hc
  obtain rfl : i = 0 := by omega
  have hcs0 : cs = [] := List.length_eq_zero_iff.1 (by omega)
  subst hcs0
  refine (ins_end_grow_slices_Insert_Limpl_Instance_impl_Instance_mobo ad 0 0 vb voff m vc [] vs w hm (Nat.le_refl _) (by omega) hbig hcl hvl (fun _ => rfl) (fun a _ j v h => by simp at h) hvcell h1v).mono ?_
  rintro e w' ⟨rfl, rfl⟩
  exact ins_post_endgrow hcl hvl h1v h1c (grownCap_ge _ _ _ _) (hzn _) (hz1 _)
 ·subst ho
  have hccell : ∀ j v, cs[j]? = some v -> w.cell? ⟨b, off + j, none⟩ = some v := fun j v h => by
   rw [cell_at hC, hcs j (by have := (List.getElem?_eq_some_iff.1 h).1; omega)]; exact h
  by_cases hroom : n + m <= cap
  ·have hsp : ∀ j, j < (n + m) * 8 -> (w.cell? ⟨b, off + j, none⟩).isSome = true := fun j hj => by
    rw [cell_at hC, Array.getElem?_eq_getElem (by omega)]; rfl
   by_cases hin : i = n
   ·subst hin
    refine (ins_end_room_slices_Insert_Limpl_Instance_impl_Instance_mobo b off i cap vb voff m vc vs w hm hroom (by omega) hvl (fun j hj => by rw [Nat.add_assoc]; exact hsp _ (by omega)) (fun j hj => frozen_of hC _) hvcell h1v).mono ?_
    rintro e w' ⟨rfl, rfl⟩
    exact ins_post_end hC hCs h1C hcs hcl hvl h1v hroom
   ·refine (ins_shift_slices_Insert_Limpl_Instance_impl_Instance_mobo b off n cap i vb voff m vc cs vs w (by omega) hm hroom (by omega) hne hcl hvl hccell hsp (fun j hj => frozen_of hC _) hvcell h1c h1v t2 t C2.size C.size (by simp [World.shape?, hC2]) (by simp [World.shape?, hC]) (by omega) (frozen_of hC2 _) (frozen_of hC2 _)).mono ?_
    rintro e w' ⟨rfl, rfl⟩
    exact ins_post_shift hC hCs h1C hcs hcl hvl h1v h1c hi hroom
  ·by_cases hin : i = n
   ·subst hin
    refine (ins_end_grow_slices_Insert_Limpl_Instance_impl_Instance_mobo (some ⟨b, off, none⟩) i cap vb voff m vc cs vs w hm hnc (by omega) hbig hcl hvl (fun h => by cases h) (fun a h j v hv => by injection h with h; subst h; rw [Addr.add_lit]; exact hccell j v hv) hvcell h1v).mono ?_
    rintro e w' ⟨rfl, rfl⟩
    exact ins_post_endgrow hcl hvl h1v h1c (grownCap_ge _ _ _ _) (hzn _) (hz1 _)
   ·refine (ins_grow_slices_Insert_Limpl_Instance_impl_Instance_mobo b off n cap i vb voff m vc cs vs w (by omega) hm hnc (by omega) hbig hcl hvl hccell hvcell h1c h1v).mono ?_
    rintro e w' ⟨rfl, rfl⟩
    exact ins_post_grow hcl hvl h1v h1c hi (grownCap_ge _ _ _ _) (hzn _) (hzn _) (hz1 _) (hz1 _)
end
/-- slices.Insert[[]loop.example/g00890/impl.Instance,loop.example/g00890/impl.Instance] -/
def Fq23 (a0 : List TI) (a1 : Int) (a2 : List TI) : Option (List TI) :=
 if 0 <= a1 /\ a1 <= (a0.length : Int) /\ 0 < a2.length /\ (a0.length + a2.length) * 64 <= 140737488355328 then some (a0.take a1.toNat ++ a2 ++ a0.drop a1.toNat) else none
theorem runq23 (a0 : List TI) (a1 : Int) (a2 : List TI) (r : List TI) (h : Fq23 a0 a1 a2 = some r) : Fun Tryz.prog 125 [.c (.os 5 0 (len a0)), .c (wi a1), .c (.os 7 0 (len a2))] [(5, .arr .rw [] (len a0) 8 (row gd (eI) a0)), (7, .arr .rw [] (len a2) 8 (row gd (eI) a2))] (.c (.os 64000 0 (len r))) [(64000, .arr .rw [] (len r) 8 (row gd (eI) r))] true := by
 unfold Fq23 at h
 split at h
 ·rename_i h1
  injection h with h
  subst h
  obtain ⟨i, rfl⟩ : ∃ i : Nat, a1 = i := ⟨a1.toNat, by omega⟩
  rw [Int.toNat_natCast]
  have e : len (a0.take i ++ a2 ++ a0.drop i) = len a0 + len a2 := by
   show List.length _ = List.length _ + List.length _
   rw [List.length_append, List.length_append, List.length_take, List.length_drop]; omega
  rw [e]
  exact Fun.insert Tryz.func125 (by kernel_rfl) (by kernel_rfl) 8 64 (fun old y n cap i vb voff m vc cs vs w h1 h2 h3 h4 h5 h6 h7 h8 h9 => calls_slices_Insert_Limpl_Instance_impl_Instance_mobo old y n cap i vb voff m vc cs vs w h1 h2 h3 h4 h5 h6 h7 h8 h9) (len a0) i (len a2) _ _ _ (show i <= a0.length by omega) (show 0 < a2.length by omega) (show (a0.length + a2.length) * 64 <= _ by omega)
   (fun t ht q hq => by
    show eI (gd _ t) q = if t < i then eI (gd a0 t) q else if t < i + a2.length then eI (gd a2 (t - i)) q else eI (gd a0 (t - a2.length)) q
    rw [ins_get a0 a2 i t (by omega)]
    split
    ·rfl
    ·split <;> rfl) (fun t q => plain_nil (val_plain (vl_encInstance _ _))) (fun t q => plain_nil (val_plain (vl_encInstance _ _))) (fun t q => val_flat (vl_encInstance _ _))
 ·cases h

section
open Go.RowKit Go.Lib
set_option maxRecDepth 1000000 in
/-- slices.Delete: the elements behind those that are taken out lie further ahead, the cells behind are emptied -/
theorem calls_slices_Delete_Limpl_Instance_impl_Instance_mobb (blk off cap n i j : Nat) (D : List Value) (w : World) (hlen : D.length = n * 8) (hD : ∀ t u, D[t]? = some u -> w.cell? ⟨blk, off + t, none⟩ = some u) (h1 : ∀ u ∈ D, u.oneCell' = true) (hfz : ∀ t, t < n * 8 -> w.frozen? ⟨blk, off + t, none⟩ = false) (hcap : n <= cap) (hij : i < j) (hj : j <= n) :
  Calls Tryz.prog 207 #[.slice (some ⟨blk, off, none⟩) n cap, .int .i64 i, .int .i64 j] w fun e w' => e = .returned (.slice (some ⟨blk, off, none⟩) (n - (j - i)) cap) /\ ∃ zs : List Value, zs.length = (j - i) * 8 /\ (∀ u ∈ zs, u.oneCell' = true) /\ w' = (w.drew.setCells blk (off + i * 8) (D.drop (j * 8))).setCells blk (off + (i + (n - j)) * 8) zs := by
 obtain ⟨news, hnews⟩ : ∃ news, news = D.drop (j * 8) := ⟨_, rfl⟩
 have hl : news.length = (n - j) * 8 := by rw [hnews, List.length_drop, hlen, Nat.sub_mul]
 obtain ⟨A, hA, hsrc⟩ : ∃ A : Addr, (if cap = j then some (⟨blk, off, none⟩ : Addr) else some ⟨blk, off + j * 8, none⟩) = some A /\ Hid (∀ t u, news[t]? = some u -> w.drew.cell? (A.add t) = some u) := by
  by_cases h : cap = j
  ·refine ⟨⟨blk, off, none⟩, by simp [h], fun t u hu => ?_⟩
   have h00 : n - j = 0 := by omega
   have h0 : news.length = 0 := by rw [hl, h00, Nat.zero_mul]
   rw [List.length_eq_zero_iff.1 h0] at hu
   simp at hu
  ·refine ⟨⟨blk, off + j * 8, none⟩, by simp [h], fun t u hu => ?_⟩
   rw [Addr.add_lit, Nat.add_assoc]
   exact hD _ u (by rw [hnews, List.getElem?_drop] at hu; exact hu)
 have s1 : Hid (news.length = (n - j) * 8) := hl
 have s2 : Hid (∀ u ∈ news, u.oneCell' = true) := fun u hu => h1 u (List.mem_of_mem_drop (by rw [hnews] at hu; exact hu))
 have hex : ∀ t, t < n * 8 -> (w.cell? ⟨blk, off + t, none⟩).isSome = true := fun t ht => by
  rw [hD t (D[t]'(by omega)) (List.getElem?_eq_getElem (by omega))]; rfl
 have s3 : Hid (∀ t, t < news.length -> (w.drew.cell? ⟨blk, off + i * 8 + t, none⟩).isSome = true /\ w.drew.frozen? ⟨blk, off + i * 8 + t, none⟩ = false) := fun t ht => by
  rw [hl] at ht
  rw [Nat.add_assoc]
  exact ⟨hex _ (by omega), hfz _ (by omega)⟩
 obtain ⟨W1, hW1⟩ : ∃ W1, W1 = w.drew.setCells blk (off + i * 8) news := ⟨_, rfl⟩
 have hW : Hid (W1 = w.drew.setCells blk (off + i * 8) news) := hW1
 obtain ⟨z, hz⟩ : ∃ z, z = (Builtin.zeroCells d55.zero.cells (j - i)).toList := ⟨_, rfl⟩
 have hzs : d55.zero.cells.size = 8 := by kernel_rfl
 have hzl : z.length = (j - i) * 8 := by rw [hz, Array.length_toList, size_zeroCells, hzs]
 have hz1 : ∀ v ∈ z, v.oneCell' = true := by
  rw [hz]
  exact zeroCells_one _ (fun v hv => by
   have := Array.all_eq_true_iff_forall_mem.1 (show d55.zero.cells.all Value.oneCell' = true by kernel_rfl) v hv
   exact this) _
 have hcl : ∀ ty, (Builtin.clear_ #[147] ty #[.slice (some ⟨blk, off + (i + (n - j)) * 8, none⟩) (n - (i + (n - j))) (cap - (i + (n - j)))]).run Tryz.prog W1 = .ok (.tuple #[]) (W1.setCells blk (off + (i + (n - j)) * 8) z) := fun ty => by
  have e : n - (i + (n - j)) = j - i := by omega
  rw [e, hz]
  refine run_clear_cells W1 147 55 ty d55.zero (by kernel_rfl) (fun w => ?_) blk _ _ _ (by omega) ?_ ?_ ?_
  ·exact run_zero tok (show T 55 = some d55 from rfl)
  ·rw [<- hz]; exact hz1
  ·intro t ht
   rw [size_zeroCells, hzs] at ht
   rw [hW1, Nat.add_assoc]
   refine isSome_setCells blk _ _ _ (fun q hq => ?_) _ (hex _ ?_)
   ·rw [hl] at hq
    rw [Nat.add_assoc]; exact hex _ (by omega)
   ·omega
  ·intro t ht
   rw [size_zeroCells, hzs] at ht
   rw [hW1, World.frozen?_setCells, Nat.add_assoc]
   exact hfz _ (by omega)
 have hX : Hid (∃ zs : List Value, zs.length = (j - i) * 8 /\ (∀ u ∈ zs, u.oneCell' = true) /\ W1.setCells blk (off + (i + (n - j)) * 8) z = (w.drew.setCells blk (off + i * 8) (D.drop (j * 8))).setCells blk (off + (i + (n - j)) * 8) zs) := ⟨z, hzl, hz1, by rw [hW1, hnews]⟩
 have hic : i <= cap := by omega
 have hjc : j <= cap := by omega
 have hne : ¬ (i = j) := by omega
 have hI : (Tryz.prog.info? 55).map (·.size) = some 8 := by kernel_rfl
 obtain ⟨i0, hi0, hz5⟩ : ∃ i0, Tryz.prog.info? 55 = some i0 /\ i0.size = 8 := by
  cases h : Tryz.prog.info? 55 with
  | none => rw [h] at hI; cases hI
  | some i0 => rw [h] at hI; exact ⟨i0, rfl, by injection hI⟩
 have mixed : Tryz.prog.follows .mixedOrders = true := by kernel_rfl
 clear hW1 hex hzs hnews hl hz hzl hz1 hD h1 hfz
 go_enter Tryz.func207, Tryz.ntmps207
 go_wp2_with fail
 go_region_law_o (refine step_append_room rfl (.tmp 22) (.tmp 25) 147 rfl 55 i0 8 (by kernel_rfl) hi0 hz5 blk off i cap (by simp [Act.eval, Act.put]) A (n - j) (cap - j) news (by simp [Act.eval, Act.put, hA]) s1.out hsrc.out s2.out (by omega) s3.out ?_; rw [<- hW.out])
 go_wp2
 go_ret
 refine ⟨by rw [show n - (j - i) = i + (n - j) by omega]; rfl, hX.out⟩
end
/-- slices.Delete[[]loop.example/g00890/impl.Instance,loop.example/g00890/impl.Instance] -/
def Fq75 (a0 : List TI) (a1 : Int) (a2 : Int) : Option (List TI) :=
 if 0 <= a1 /\ a1 < a2 /\ a2 <= (a0.length : Int) then some (a0.take a1.toNat ++ a0.drop a2.toNat) else none
theorem runq75 (a0 : List TI) (a1 : Int) (a2 : Int) (r : List TI) (h : Fq75 a0 a1 a2 = some r) : Fun Tryz.prog 207 [.c (.os 5 0 (len a0)), .c (wi a1), .c (wi a2)] [(5, .arr .rw [] (len a0) 8 (row gd (eI) a0))] (.c (.os 64000 0 (len r))) [(64000, .arr .rw [] (len r) 8 (row gd (eI) r))] true := by
 unfold Fq75 at h
 split at h
 ·rename_i h1
  injection h with h
  subst h
  obtain ⟨i, rfl⟩ : ∃ i : Nat, a1 = i := ⟨a1.toNat, by omega⟩
  obtain ⟨j, rfl⟩ : ∃ j : Nat, a2 = j := ⟨a2.toNat, by omega⟩
  rw [Int.toNat_natCast, Int.toNat_natCast]
  have e : len (a0.take i ++ a0.drop j) = len a0 - (j - i) := by
   show List.length _ = List.length _ - _
   rw [List.length_append, List.length_take, List.length_drop]; omega
  rw [e]
  exact Fun.delete Tryz.func207 (by kernel_rfl) (by kernel_rfl) 8 (fun blk off cap n i j D w h1 h2 h3 h4 h5 h6 h7 => calls_slices_Delete_Limpl_Instance_impl_Instance_mobb blk off cap n i j D w h1 h2 h3 h4 h5 h6 h7) (len a0) i j _ _ (by omega) (show j <= a0.length by omega)
   (fun t ht q hq => by show eI (gd _ t) q = eI (gd a0 _) q; rw [cut_get a0 i j t (by omega) (by omega)]) (fun t q => plain_nil (val_plain (vl_encInstance _ _))) (fun t q => val_flat (vl_encInstance _ _))
 ·cases h

/-- impl.Instance] -/
def Fq100 (a0 : List TI) (a1 : Int) : Option (List TI) :=
 (Fq75 a0 a1 (std.add .i64 a1 1)).bind fun y1 =>
 some y1
theorem runq100 (a0 : List TI) (a1 : Int) (r : List TI) (h : Fq100 a0 a1 = some r) : Fun Tryz.prog 126 [.c (.os 5 0 (len a0)), .c (wi a1)] [(5, .arr .rw [] (len a0) 8 (row gd (eI) a0))] (.c (.os 64000 0 (len r))) [(64000, .arr .rw [] (len r) 8 (row gd (eI) r))] true := by
 refine Fun.of_wp (oneOf []) tok mixed Tryz.func126 (by kernel_rfl) rfl Tryz.ntmps126 rfl ⟨fun i _ j _ k hk => (noref (plain_nil (pl_encInstance _ _)) hk).elim, tv⟩ (fun _ => ⟨trivial, ⟨fun i _ j _ => val_flat (vl_encInstance _ _), tv⟩⟩) ?_
 unfold Fq100 at h
 have hfq75 := @runq75
 generalize hLEN : @len = LEN, hGD : @gd = GD, hA : std = A, hP : Tryz.prog = P at *
 cbv
 replace h := ob_ h
 obtain ⟨y1, hy2, h⟩ := h
 refine ⟨⟨_, _, _, _, _, [(5, 5)], [(64000, 576)]⟩, hfq75 _ _ _ _ hy2, ⟨zs3, ⟨oS, tv⟩, rfl, rfl, rfl, rfl, ⟨evn 64000 rfl, tv⟩, rfl⟩, _, rfl, _, _, rfl, fun _ _ _ _ => .refl _, ?_⟩
 cbv
 injection h with h
 subst h
 refine ⟨(sp 10 [(4, .c (.os 64000 0 (LEN y1)))] [(64000, .arr .rw [] (LEN y1) 8 (row GD (eI) y1))]), ?_, ?_⟩
 ·refine St.le_trans (le_ren 576 64000 (by decide) rfl) ?_
  exact lsp rfl zl1 ⟨oS, tv⟩ rfl
 ·exact ⟨lR _, ⟨oS, tv⟩, rfl⟩
set_option maxHeartbeats 4000000
/-- impl.edited -/
def Fq103 (a0 : TL) (a1 : TE) : Option (TL) :=
 (Fq35 a0).bind fun y1 =>
 br (std.eq a1.fk 8)
 (letO ([(TC.mk a1.fN ([] : List TS) ([] : List TB) ([] : List TI))] : List TC) fun l3 =>
 (Fq26 y1.fC a1.fc l3).bind fun y5 =>
 (Fq21 (TL.mk y5) a1.fc 1).bind fun y7 =>
 req (len y7 = len y5) <|
 req (len y5 = len y7) <|
 some (TL.mk y7))
 (br (std.eq a1.fk 9)
 ((Fq112 y1.fC a1.fc).bind fun y11 =>
 (Fq21 (TL.mk y11) a1.fc (-1)).bind fun y13 =>
 req (len y13 = len y11) <|
 req (len y11 = len y13) <|
 some (TL.mk y13))
 (req (std.inR a1.fc (len y1.fC)) <|
 ((
 br (std.eq a1.fk 1)
 (((
 letO ([a1.fs_] : List TS) fun l32 =>
 (Fq24 (gd y1.fC (std.nadd 0 (std.toN a1.fc))).fS a1.fx l32).bind fun y34 =>
 letO (List.set y1.fC (std.nadd 0 (std.toN a1.fc)) (TC.mk (gd y1.fC (std.nadd 0 (std.toN a1.fc))).fN y34 (gd y1.fC (std.nadd 0 (std.toN a1.fc))).fL (gd y1.fC (std.nadd 0 (std.toN a1.fc))).fI)) fun l36 =>
 some l36
 ) : Option ((List TC))).bind fun y25 =>
 letO y25 fun w31 =>
 some w31)
 (((
 br (std.eq a1.fk 2)
 (((
 (Fq99 (gd y1.fC (std.nadd 0 (std.toN a1.fc))).fS a1.fx).bind fun y51 =>
 letO (List.set y1.fC (std.nadd 0 (std.toN a1.fc)) (TC.mk (gd y1.fC (std.nadd 0 (std.toN a1.fc))).fN y51 (gd y1.fC (std.nadd 0 (std.toN a1.fc))).fL (gd y1.fC (std.nadd 0 (std.toN a1.fc))).fI)) fun l53 =>
 some l53
 ) : Option ((List TC))).bind fun y44 =>
 letO y44 fun w50 =>
 some w50)
 (((
 br (std.eq a1.fk 3)
 (((
 letO ([a1.fl_] : List TB) fun l68 =>
 (Fq22 (gd y1.fC (std.nadd 0 (std.toN a1.fc))).fL a1.fx l68).bind fun y70 =>
 letO (List.set y1.fC (std.nadd 0 (std.toN a1.fc)) (TC.mk (gd y1.fC (std.nadd 0 (std.toN a1.fc))).fN (gd y1.fC (std.nadd 0 (std.toN a1.fc))).fS y70 (gd y1.fC (std.nadd 0 (std.toN a1.fc))).fI)) fun l72 =>
 some l72
 ) : Option ((List TC))).bind fun y61 =>
 letO y61 fun w67 =>
 some w67)
 (((
 br (std.eq a1.fk 4)
 (((
 (Fq87 (gd y1.fC (std.nadd 0 (std.toN a1.fc))).fL a1.fx).bind fun y87 =>
 letO (List.set y1.fC (std.nadd 0 (std.toN a1.fc)) (TC.mk (gd y1.fC (std.nadd 0 (std.toN a1.fc))).fN (gd y1.fC (std.nadd 0 (std.toN a1.fc))).fS y87 (gd y1.fC (std.nadd 0 (std.toN a1.fc))).fI)) fun l89 =>
 some l89
 ) : Option ((List TC))).bind fun y80 =>
 letO y80 fun w86 =>
 some w86)
 (((
 br (std.eq a1.fk 5)
 (((
 letO ([a1.fi_] : List TI) fun l104 =>
 (Fq23 (gd y1.fC (std.nadd 0 (std.toN a1.fc))).fI a1.fx l104).bind fun y106 =>
 letO (List.set y1.fC (std.nadd 0 (std.toN a1.fc)) (TC.mk (gd y1.fC (std.nadd 0 (std.toN a1.fc))).fN (gd y1.fC (std.nadd 0 (std.toN a1.fc))).fS (gd y1.fC (std.nadd 0 (std.toN a1.fc))).fL y106)) fun l108 =>
 some l108
 ) : Option ((List TC))).bind fun y97 =>
 letO y97 fun w103 =>
 some w103)
 (((
 br (std.eq a1.fk 6)
 (((
 (Fq100 (gd y1.fC (std.nadd 0 (std.toN a1.fc))).fI a1.fx).bind fun y123 =>
 letO (List.set y1.fC (std.nadd 0 (std.toN a1.fc)) (TC.mk (gd y1.fC (std.nadd 0 (std.toN a1.fc))).fN (gd y1.fC (std.nadd 0 (std.toN a1.fc))).fS (gd y1.fC (std.nadd 0 (std.toN a1.fc))).fL y123)) fun l125 =>
 some l125
 ) : Option ((List TC))).bind fun y116 =>
 letO y116 fun w122 =>
 some w122)
 (((
 br (std.eq a1.fk 7)
 (((
 letO (List.set y1.fC (std.nadd 0 (std.toN a1.fc)) (TC.mk a1.fN (gd y1.fC (std.nadd 0 (std.toN a1.fc))).fS (gd y1.fC (std.nadd 0 (std.toN a1.fc))).fL (gd y1.fC (std.nadd 0 (std.toN a1.fc))).fI)) fun l140 =>
 some l140
 ) : Option ((List TC))).bind fun y133 =>
 letO y133 fun w139 =>
 some w139)
 (some y1.fC)
 ) : Option ((List TC))).bind fun y126 =>
 letO y126 fun w132 =>
 some w132)
 ) : Option ((List TC))).bind fun y109 =>
 letO y109 fun w115 =>
 some w115)
 ) : Option ((List TC))).bind fun y90 =>
 letO y90 fun w96 =>
 some w96)
 ) : Option ((List TC))).bind fun y73 =>
 letO y73 fun w79 =>
 some w79)
 ) : Option ((List TC))).bind fun y54 =>
 letO y54 fun w60 =>
 some w60)
 ) : Option ((List TC))).bind fun y37 =>
 letO y37 fun w43 =>
 some w43)
 ) : Option ((List TC))).bind fun y18 =>
 letO y18 fun w24 =>
 req (len y1.fC = len w24) <|
 some (TL.mk w24)))
theorem runq103 (a0 : TL) (a1 : TE) (r : TL) (h : Fq103 a0 a1 = some r) : Fun Tryz.prog 65 [.agg [.bs (len a0.fC) 4 (row gd (eC len gd) a0.fC)], .agg (cE a1)] [] (.agg [.os 64000 0 (len r.fC)]) [(64000, .arr .rw [] (len r.fC) 4 (row gd (oC len gd) r.fC))] true := by
 refine Fun.of_wp (oneOf [13, 15, 17, 19, 21, 23, 25, 100048, 100063, 100075, 100090, 100102, 100117, 100129]) tok mixed Tryz.func65 (by kernel_rfl) rfl Tryz.ntmps65 rfl trivial (fun _ => ⟨(by simp [AV.flat, AV.flat1, AC.flat]), ⟨fun i _ j _ => fl_oncCell _ _, tv⟩⟩) ?_
 unfold Fq103 at h
 have hfq35 := @runq35
 have hfq112 := @runq112
 have hfq100 := @runq100
 have hfq87 := @runq87
 have hfq99 := @runq99
 have hfq21 := @runq21
 have hfq26 := @runq26
 have hfq23 := @runq23
 have hfq22 := @runq22
 have hfq24 := @runq24
 generalize hLEN : @len = LEN, hGD : @gd = GD, hA : std = A, hP : Tryz.prog = P at *
 cbv
 replace h := ob_ h
 obtain ⟨y1, hy2, h⟩ := h
 refine ⟨⟨_, _, _, _, _, [], [(64000, 512)]⟩, hfq35 _ _ hy2, ⟨zs1, trivial, rfl, rfl, rfl, rfl, ⟨evn 64000 rfl, tv⟩, rfl⟩, _, rfl, _, _, rfl, fun _ _ _ _ => .refl _, ?_⟩
 cbv
 refine fork (fun b150 => ?_) (fun b150 => ?_)
 ·replace h := ot b150 h
  cbv
  replace h := ol h
  obtain ⟨l3, hl3, h⟩ := h
  have e4 : 1 = LEN l3 := by subst hl3 hLEN; rfl
  refine ⟨_, congrArg (fun n => AV.c (AC.os 1216 0 n)) e4, _, row GD (oC LEN GD) l3, e4, ?_, ?_⟩
  ·intro i hi j hj
   rw [<- e4] at hi
   subst hl3
   subst hGD hLEN
   obtain rfl : i = 0 := (by omega) <;> obtain rfl | rfl | rfl | rfl : j = 0 \/ j = 1 \/ j = 2 \/ j = 3 := (by omega)
   all_goals first | rfl | exact AC.wk.refl _ | exact AC.wk.ow | exact AC.wk.bs
  cbv
  replace h := ob_ h
  obtain ⟨y5, hy6, h⟩ := h
  refine ⟨⟨_, _, _, _, _, [(5, 512), (7, 1216)], [(64000, 1280)]⟩, hfq26 _ _ _ _ hy6, ⟨zs3, ⟨oS, oS, tv⟩, rfl, rfl, rfl, rfl, ⟨evn 64000 rfl, tv⟩, rfl⟩, _, rfl, _, _, rfl, fun _ _ _ _ => .refl _, ?_⟩
  cbv
  replace h := ob_ h
  obtain ⟨y7, hy8, h⟩ := h
  replace h := oq h
  obtain ⟨c10, h⟩ := h
  refine ⟨⟨_, _, _, _, _, [(5, 1280)], [(5, 1280)]⟩, hfq21 _ _ _ _ hy8, ⟨zs3, ⟨oS, tv⟩, rfl, rfl, rfl, rfl, ⟨fun _ => ⟨c10.symm, rfl, fun c h => h⟩, tv⟩, rfl⟩, _, rfl, LEN y5, _, c10, fun _ _ _ _ => .refl _, ?_⟩
  cbv
  replace h := oq h
  obtain ⟨c9, h⟩ := h
  injection h with h
  subst h
  refine ⟨(sp 137 [(4, .c (.ptr 256 0))] [(256, .var [.os 64000 0 (LEN y7)]), (64000, .arr .rw [] (LEN y7) 4 (row GD (oC LEN GD) y7))]), ?_, ?_⟩
  ·refine St.le_trans (le_ren 1280 64000 (by decide) rfl) ?_
   rw [c9]
   exact lsp rfl zl1 ⟨rfl, oS, tv⟩ rfl
  ·exact ⟨lR _, ⟨oS, tv⟩, rfl⟩
 ·replace h := og b150 h
  cbv
  refine fork (fun b149 => ?_) (fun b149 => ?_)
  ·replace h := ot b149 h
   cbv
   replace h := ob_ h
   obtain ⟨y11, hy12, h⟩ := h
   refine ⟨⟨_, _, _, _, _, [(5, 512)], [(64000, 2176)]⟩, hfq112 _ _ _ hy12, ⟨zs2, ⟨oS, tv⟩, rfl, rfl, rfl, rfl, ⟨evn 64000 rfl, tv⟩, rfl⟩, _, rfl, _, _, rfl, fun _ _ _ _ => .refl _, ?_⟩
   cbv
   replace h := ob_ h
   obtain ⟨y13, hy14, h⟩ := h
   replace h := oq h
   obtain ⟨c16, h⟩ := h
   refine ⟨⟨_, _, _, _, _, [(5, 2176)], [(5, 2176)]⟩, hfq21 _ _ _ _ hy14, ⟨zs3, ⟨oS, tv⟩, rfl, rfl, rfl, rfl, ⟨fun _ => ⟨c16.symm, rfl, fun c h => h⟩, tv⟩, rfl⟩, _, rfl, LEN y11, _, c16, fun _ _ _ _ => .refl _, ?_⟩
   cbv
   replace h := oq h
   obtain ⟨c15, h⟩ := h
   injection h with h
   subst h
   refine ⟨(sp 137 [(4, .c (.ptr 256 0))] [(256, .var [.os 64000 0 (LEN y13)]), (64000, .arr .rw [] (LEN y13) 4 (row GD (oC LEN GD) y13))]), ?_, ?_⟩
   ·refine St.le_trans (le_ren 2176 64000 (by decide) rfl) ?_
    rw [c15]
    exact lsp rfl zl1 ⟨rfl, oS, tv⟩ rfl
   ·exact ⟨lR _, ⟨oS, tv⟩, rfl⟩
  ·replace h := og b149 h
   cbv
   replace h := oq h
   obtain ⟨c17, h⟩ := h
   refine ⟨⟨c17, tv⟩, ?_⟩
   replace h := ob_ h
   obtain ⟨y18, hy19, h⟩ := h
   obtain ⟨S22, hS23⟩ : ∃ S, S = some (sp 137 [(4, .c (.ptr 256 0)), (5, .c (.ptr 320 0))] [(256, .var [.v (.slice none 0 0)]), (320, .var [.os 512 0 (LEN y1.fC)]), (512, .arr .rw [] (LEN y1.fC) 4 (row GD (oC LEN GD) y18))]) := ⟨_, rfl⟩
   refine ⟨S22, ?_, ?_⟩
   ·clear h
    have h := hy19
    clear hy19
    cbv
    refine fork (fun b147 => ?_) (fun b147 => ?_)
    ·replace h := ot b147 h
     cbv
     replace h := ob_ h
     obtain ⟨y25, hy26, h⟩ := h
     obtain ⟨S29, hS30⟩ : ∃ S, S = (sp 137 [(4, .c (.ptr 256 0)), (5, .c (.ptr 320 0))] [(256, .var [.v (.slice none 0 0)]), (320, .var [.os 512 0 (LEN y1.fC)]), (512, .arr .rw [] (LEN y1.fC) 4 (row GD (oC LEN GD) y25))]) := ⟨_, rfl⟩
     refine ⟨S29, ?_, ?_⟩
     ·clear h
      have h := hy26
      clear hy26
      cbv
      refine And.intro (by subst hA; have p := ix c17; first | exact p | exact ⟨p, tv⟩ | exact ⟨p, trivial, tv⟩) ?_
      refine ⟨_, rfl, _, (pC (row GD (oC LEN GD) y1.fC) (A.nadd 0 (A.toN a1.fc)) [ws (GD y1.fC (A.nadd 0 (A.toN a1.fc))).fN, .os 3458 0 (LEN (GD y1.fC (A.nadd 0 (A.toN a1.fc))).fS), .ow (LEN (GD y1.fC (A.nadd 0 (A.toN a1.fc))).fL) 4 (row GD (eL) (GD y1.fC (A.nadd 0 (A.toN a1.fc))).fL), .ow (LEN (GD y1.fC (A.nadd 0 (A.toN a1.fc))).fI) 8 (row GD (eI) (GD y1.fC (A.nadd 0 (A.toN a1.fc))).fI)]), rfl, wkOf ?_, ?_⟩
      ·refine patch_of ?_
       intro j hj
       match j, hj with | 0, _ => (rfl) | 1, _ => (rfl) | 2, _ => (rfl) | 3, _ => (rfl) | (j_ + 4), h_ => omega
      refine ⟨_, row GD (eS) (GD y1.fC (A.nadd 0 (A.toN a1.fc))).fS, rfl, wkOf ?_, ?_⟩
      ·exact fun i _ j _ => plain_cp (pl_encShape _ _)
      cbv
      replace h := ol h
      obtain ⟨l32, hl32, h⟩ := h
      have e33 : 1 = LEN l32 := by subst hl32 hLEN; rfl
      refine ⟨_, congrArg (fun n => AV.c (AC.os 3776 0 n)) e33, _, row GD (eS) l32, e33, wkOf ?_, ?_⟩
      ·intro i hi j hj
       rw [<- e33] at hi
       subst hl32
       subst hGD
       obtain rfl : i = 0 := (by omega) <;> obtain rfl | rfl | rfl | rfl | rfl : j = 0 \/ j = 1 \/ j = 2 \/ j = 3 \/ j = 4 := (by omega)
       all_goals rfl
      cbv
      replace h := ob_ h
      obtain ⟨y34, hy35, h⟩ := h
      refine ⟨⟨_, _, _, _, _, [(5, 3458), (7, 3776)], [(64000, 3840)]⟩, hfq24 _ _ _ _ hy35, ⟨zs3, ⟨oS, oS, tv⟩, rfl, rfl, rfl, rfl, ⟨evn 64000 rfl, tv⟩, rfl⟩, _, rfl, _, _, rfl, fun _ _ _ _ => .refl _, ?_⟩
      cbv
      refine And.intro (by subst hA; have p := ix c17; first | exact p | exact ⟨p, tv⟩ | exact ⟨p, trivial, tv⟩) ?_
      refine ⟨_, rfl, _, (pC (row GD (oC LEN GD) y1.fC) (A.nadd 0 (A.toN a1.fc)) [ws (GD y1.fC (A.nadd 0 (A.toN a1.fc))).fN, .os 3840 0 (LEN y34), .ow (LEN (GD y1.fC (A.nadd 0 (A.toN a1.fc))).fL) 4 (row GD (eL) (GD y1.fC (A.nadd 0 (A.toN a1.fc))).fL), .ow (LEN (GD y1.fC (A.nadd 0 (A.toN a1.fc))).fI) 8 (row GD (eI) (GD y1.fC (A.nadd 0 (A.toN a1.fc))).fI)]), rfl, wkOf ?_, ?_⟩
      ·first | refine patch_of2 ?_ | refine patch_of2K (fun _ _ => rC _ _) ?_
       intro j hj
       match j, hj with | 0, _ => (rfl) | 1, _ => (rfl) | 2, _ => (rfl) | 3, _ => (rfl) | (j_ + 4), h_ => omega
      cbv
      replace h := ol h
      obtain ⟨l36, hl36, h⟩ := h
      injection h with h
      subst h
      subst hS30
      refine St.le_trans (le_foldP 512 1 3840 rfl rfl rfl (by decide) (by subst hA; exact ix c17) (by decide) rfl (fun _ _ => rC _ _)) ?_
      exact lsp rfl zl2 ⟨rfl, rfl, ⟨fun hw => hw, fun c hc => (by cases hc), .inr (fun i _ j _ z hz => (noref (rC _ _) hz).elim), rfl, rfl, (by subst hGD hLEN hA; exact patch_set hl36 (ix c17) (by intro j hj; match j, hj with | 0, _ => rfl | 1, _ => rfl | 2, _ => rfl | 3, _ => rfl | (j_ + 4), h_ => omega))⟩, tv⟩ rfl
     ·clear hy26
      subst hS30
      replace h := ol h
      obtain ⟨w31, hw31, h⟩ := h
      have hw31 : w31 = y25 := hw31
      subst hw31
      cbv
      injection h with h
      subst h
      subst hS23
      exact lsp rfl zl2 ⟨rfl, rfl, oS, tv⟩ rfl
    ·replace h := og b147 h
     cbv
     replace h := ob_ h
     obtain ⟨y37, hy38, h⟩ := h
     obtain ⟨S41, hS42⟩ : ∃ S, S = some (sp 137 [(4, .c (.ptr 256 0)), (5, .c (.ptr 320 0))] [(256, .var [.v (.slice none 0 0)]), (320, .var [.os 512 0 (LEN y1.fC)]), (512, .arr .rw [] (LEN y1.fC) 4 (row GD (oC LEN GD) y37))]) := ⟨_, rfl⟩
     refine ⟨S41, ?_, ?_⟩
     ·clear h
      have h := hy38
      clear hy38
      cbv
      refine fork (fun b146 => ?_) (fun b146 => ?_)
      ·replace h := ot b146 h
       cbv
       replace h := ob_ h
       obtain ⟨y44, hy45, h⟩ := h
       obtain ⟨S48, hS49⟩ : ∃ S, S = (sp 137 [(4, .c (.ptr 256 0)), (5, .c (.ptr 320 0))] [(256, .var [.v (.slice none 0 0)]), (320, .var [.os 512 0 (LEN y1.fC)]), (512, .arr .rw [] (LEN y1.fC) 4 (row GD (oC LEN GD) y44))]) := ⟨_, rfl⟩
       refine ⟨S48, ?_, ?_⟩
       ·clear h
        have h := hy45
        clear hy45
        cbv
        refine And.intro (by subst hA; have p := ix c17; first | exact p | exact ⟨p, tv⟩ | exact ⟨p, trivial, tv⟩) ?_
        refine ⟨_, rfl, _, (pC (row GD (oC LEN GD) y1.fC) (A.nadd 0 (A.toN a1.fc)) [ws (GD y1.fC (A.nadd 0 (A.toN a1.fc))).fN, .os 4418 0 (LEN (GD y1.fC (A.nadd 0 (A.toN a1.fc))).fS), .ow (LEN (GD y1.fC (A.nadd 0 (A.toN a1.fc))).fL) 4 (row GD (eL) (GD y1.fC (A.nadd 0 (A.toN a1.fc))).fL), .ow (LEN (GD y1.fC (A.nadd 0 (A.toN a1.fc))).fI) 8 (row GD (eI) (GD y1.fC (A.nadd 0 (A.toN a1.fc))).fI)]), rfl, wkOf ?_, ?_⟩
        ·refine patch_of ?_
         intro j hj
         match j, hj with | 0, _ => (rfl) | 1, _ => (rfl) | 2, _ => (rfl) | 3, _ => (rfl) | (j_ + 4), h_ => omega
        refine ⟨_, row GD (eS) (GD y1.fC (A.nadd 0 (A.toN a1.fc))).fS, rfl, wkOf ?_, ?_⟩
        ·exact fun i _ j _ => plain_cp (pl_encShape _ _)
        cbv
        replace h := ob_ h
        obtain ⟨y51, hy52, h⟩ := h
        refine ⟨⟨_, _, _, _, _, [(5, 4418)], [(64000, 4608)]⟩, hfq99 _ _ _ hy52, ⟨zs2, ⟨oS, tv⟩, rfl, rfl, rfl, rfl, ⟨evn 64000 rfl, tv⟩, rfl⟩, _, rfl, _, _, rfl, fun _ _ _ _ => .refl _, ?_⟩
        cbv
        refine And.intro (by subst hA; have p := ix c17; first | exact p | exact ⟨p, tv⟩ | exact ⟨p, trivial, tv⟩) ?_
        refine ⟨_, rfl, _, (pC (row GD (oC LEN GD) y1.fC) (A.nadd 0 (A.toN a1.fc)) [ws (GD y1.fC (A.nadd 0 (A.toN a1.fc))).fN, .os 4608 0 (LEN y51), .ow (LEN (GD y1.fC (A.nadd 0 (A.toN a1.fc))).fL) 4 (row GD (eL) (GD y1.fC (A.nadd 0 (A.toN a1.fc))).fL), .ow (LEN (GD y1.fC (A.nadd 0 (A.toN a1.fc))).fI) 8 (row GD (eI) (GD y1.fC (A.nadd 0 (A.toN a1.fc))).fI)]), rfl, wkOf ?_, ?_⟩
        ·first | refine patch_of2 ?_ | refine patch_of2K (fun _ _ => rC _ _) ?_
         intro j hj
         match j, hj with | 0, _ => (rfl) | 1, _ => (rfl) | 2, _ => (rfl) | 3, _ => (rfl) | (j_ + 4), h_ => omega
        cbv
        replace h := ol h
        obtain ⟨l53, hl53, h⟩ := h
        injection h with h
        subst h
        subst hS49
        refine St.le_trans (le_foldP 512 1 4608 rfl rfl rfl (by decide) (by subst hA; exact ix c17) (by decide) rfl (fun _ _ => rC _ _)) ?_
        exact lsp rfl zl2 ⟨rfl, rfl, ⟨fun hw => hw, fun c hc => (by cases hc), .inr (fun i _ j _ z hz => (noref (rC _ _) hz).elim), rfl, rfl, (by subst hGD hLEN hA; exact patch_set hl53 (ix c17) (by intro j hj; match j, hj with | 0, _ => rfl | 1, _ => rfl | 2, _ => rfl | 3, _ => rfl | (j_ + 4), h_ => omega))⟩, tv⟩ rfl
       ·clear hy45
        subst hS49
        replace h := ol h
        obtain ⟨w50, hw50, h⟩ := h
        have hw50 : w50 = y44 := hw50
        subst hw50
        cbv
        injection h with h
        subst h
        subst hS42
        exact lsp rfl zl2 ⟨rfl, rfl, oS, tv⟩ rfl
      ·replace h := og b146 h
       cbv
       replace h := ob_ h
       obtain ⟨y54, hy55, h⟩ := h
       obtain ⟨S58, hS59⟩ : ∃ S, S = some (sp 137 [(4, .c (.ptr 256 0)), (5, .c (.ptr 320 0))] [(256, .var [.v (.slice none 0 0)]), (320, .var [.os 512 0 (LEN y1.fC)]), (512, .arr .rw [] (LEN y1.fC) 4 (row GD (oC LEN GD) y54))]) := ⟨_, rfl⟩
       refine ⟨S58, ?_, ?_⟩
       ·clear h
        have h := hy55
        clear hy55
        cbv
        refine fork (fun b145 => ?_) (fun b145 => ?_)
        ·replace h := ot b145 h
         cbv
         replace h := ob_ h
         obtain ⟨y61, hy62, h⟩ := h
         obtain ⟨S65, hS66⟩ : ∃ S, S = (sp 137 [(4, .c (.ptr 256 0)), (5, .c (.ptr 320 0))] [(256, .var [.v (.slice none 0 0)]), (320, .var [.os 512 0 (LEN y1.fC)]), (512, .arr .rw [] (LEN y1.fC) 4 (row GD (oC LEN GD) y61))]) := ⟨_, rfl⟩
         refine ⟨S65, ?_, ?_⟩
         ·clear h
          have h := hy62
          clear hy62
          cbv
          refine And.intro (by subst hA; have p := ix c17; first | exact p | exact ⟨p, tv⟩ | exact ⟨p, trivial, tv⟩) ?_
          refine ⟨_, rfl, _, (pC (row GD (oC LEN GD) y1.fC) (A.nadd 0 (A.toN a1.fc)) [ws (GD y1.fC (A.nadd 0 (A.toN a1.fc))).fN, .ow (LEN (GD y1.fC (A.nadd 0 (A.toN a1.fc))).fS) 5 (row GD (eS) (GD y1.fC (A.nadd 0 (A.toN a1.fc))).fS), .os 5186 0 (LEN (GD y1.fC (A.nadd 0 (A.toN a1.fc))).fL), .ow (LEN (GD y1.fC (A.nadd 0 (A.toN a1.fc))).fI) 8 (row GD (eI) (GD y1.fC (A.nadd 0 (A.toN a1.fc))).fI)]), rfl, wkOf ?_, ?_⟩
          ·refine patch_of ?_
           intro j hj
           match j, hj with | 0, _ => (rfl) | 1, _ => (rfl) | 2, _ => (rfl) | 3, _ => (rfl) | (j_ + 4), h_ => omega
          refine ⟨_, row GD (eL) (GD y1.fC (A.nadd 0 (A.toN a1.fc))).fL, rfl, wkOf ?_, ?_⟩
          ·exact fun i _ j _ => plain_cp (pl_encLabel _ _)
          cbv
          replace h := ol h
          obtain ⟨l68, hl68, h⟩ := h
          have e69 : 1 = LEN l68 := by subst hl68 hLEN; rfl
          refine ⟨_, congrArg (fun n => AV.c (AC.os 5504 0 n)) e69, _, row GD (eL) l68, e69, wkOf ?_, ?_⟩
          ·intro i hi j hj
           rw [<- e69] at hi
           subst hl68
           subst hGD
           obtain rfl : i = 0 := (by omega) <;> obtain rfl | rfl | rfl | rfl : j = 0 \/ j = 1 \/ j = 2 \/ j = 3 := (by omega)
           all_goals rfl
          cbv
          replace h := ob_ h
          obtain ⟨y70, hy71, h⟩ := h
          refine ⟨⟨_, _, _, _, _, [(5, 5186), (7, 5504)], [(64000, 5568)]⟩, hfq22 _ _ _ _ hy71, ⟨zs3, ⟨oS, oS, tv⟩, rfl, rfl, rfl, rfl, ⟨evn 64000 rfl, tv⟩, rfl⟩, _, rfl, _, _, rfl, fun _ _ _ _ => .refl _, ?_⟩
          cbv
          refine And.intro (by subst hA; have p := ix c17; first | exact p | exact ⟨p, tv⟩ | exact ⟨p, trivial, tv⟩) ?_
          refine ⟨_, rfl, _, (pC (row GD (oC LEN GD) y1.fC) (A.nadd 0 (A.toN a1.fc)) [ws (GD y1.fC (A.nadd 0 (A.toN a1.fc))).fN, .ow (LEN (GD y1.fC (A.nadd 0 (A.toN a1.fc))).fS) 5 (row GD (eS) (GD y1.fC (A.nadd 0 (A.toN a1.fc))).fS), .os 5568 0 (LEN y70), .ow (LEN (GD y1.fC (A.nadd 0 (A.toN a1.fc))).fI) 8 (row GD (eI) (GD y1.fC (A.nadd 0 (A.toN a1.fc))).fI)]), rfl, wkOf ?_, ?_⟩
          ·first | refine patch_of2 ?_ | refine patch_of2K (fun _ _ => rC _ _) ?_
           intro j hj
           match j, hj with | 0, _ => (rfl) | 1, _ => (rfl) | 2, _ => (rfl) | 3, _ => (rfl) | (j_ + 4), h_ => omega
          cbv
          replace h := ol h
          obtain ⟨l72, hl72, h⟩ := h
          injection h with h
          subst h
          subst hS66
          refine St.le_trans (le_foldP 512 2 5568 rfl rfl rfl (by decide) (by subst hA; exact ix c17) (by decide) rfl (fun _ _ => rC _ _)) ?_
          exact lsp rfl zl2 ⟨rfl, rfl, ⟨fun hw => hw, fun c hc => (by cases hc), .inr (fun i _ j _ z hz => (noref (rC _ _) hz).elim), rfl, rfl, (by subst hGD hLEN hA; exact patch_set hl72 (ix c17) (by intro j hj; match j, hj with | 0, _ => rfl | 1, _ => rfl | 2, _ => rfl | 3, _ => rfl | (j_ + 4), h_ => omega))⟩, tv⟩ rfl
         ·clear hy62
          subst hS66
          replace h := ol h
          obtain ⟨w67, hw67, h⟩ := h
          have hw67 : w67 = y61 := hw67
          subst hw67
          cbv
          injection h with h
          subst h
          subst hS59
          exact lsp rfl zl2 ⟨rfl, rfl, oS, tv⟩ rfl
        ·replace h := og b145 h
         cbv
         replace h := ob_ h
         obtain ⟨y73, hy74, h⟩ := h
         obtain ⟨S77, hS78⟩ : ∃ S, S = some (sp 137 [(4, .c (.ptr 256 0)), (5, .c (.ptr 320 0))] [(256, .var [.v (.slice none 0 0)]), (320, .var [.os 512 0 (LEN y1.fC)]), (512, .arr .rw [] (LEN y1.fC) 4 (row GD (oC LEN GD) y73))]) := ⟨_, rfl⟩
         refine ⟨S77, ?_, ?_⟩
         ·clear h
          have h := hy74
          clear hy74
          cbv
          refine fork (fun b144 => ?_) (fun b144 => ?_)
          ·replace h := ot b144 h
           cbv
           replace h := ob_ h
           obtain ⟨y80, hy81, h⟩ := h
           obtain ⟨S84, hS85⟩ : ∃ S, S = (sp 137 [(4, .c (.ptr 256 0)), (5, .c (.ptr 320 0))] [(256, .var [.v (.slice none 0 0)]), (320, .var [.os 512 0 (LEN y1.fC)]), (512, .arr .rw [] (LEN y1.fC) 4 (row GD (oC LEN GD) y80))]) := ⟨_, rfl⟩
           refine ⟨S84, ?_, ?_⟩
           ·clear h
            have h := hy81
            clear hy81
            cbv
            refine And.intro (by subst hA; have p := ix c17; first | exact p | exact ⟨p, tv⟩ | exact ⟨p, trivial, tv⟩) ?_
            refine ⟨_, rfl, _, (pC (row GD (oC LEN GD) y1.fC) (A.nadd 0 (A.toN a1.fc)) [ws (GD y1.fC (A.nadd 0 (A.toN a1.fc))).fN, .ow (LEN (GD y1.fC (A.nadd 0 (A.toN a1.fc))).fS) 5 (row GD (eS) (GD y1.fC (A.nadd 0 (A.toN a1.fc))).fS), .os 6146 0 (LEN (GD y1.fC (A.nadd 0 (A.toN a1.fc))).fL), .ow (LEN (GD y1.fC (A.nadd 0 (A.toN a1.fc))).fI) 8 (row GD (eI) (GD y1.fC (A.nadd 0 (A.toN a1.fc))).fI)]), rfl, wkOf ?_, ?_⟩
            ·refine patch_of ?_
             intro j hj
             match j, hj with | 0, _ => (rfl) | 1, _ => (rfl) | 2, _ => (rfl) | 3, _ => (rfl) | (j_ + 4), h_ => omega
            refine ⟨_, row GD (eL) (GD y1.fC (A.nadd 0 (A.toN a1.fc))).fL, rfl, wkOf ?_, ?_⟩
            ·exact fun i _ j _ => plain_cp (pl_encLabel _ _)
            cbv
            replace h := ob_ h
            obtain ⟨y87, hy88, h⟩ := h
            refine ⟨⟨_, _, _, _, _, [(5, 6146)], [(64000, 6336)]⟩, hfq87 _ _ _ hy88, ⟨zs2, ⟨oS, tv⟩, rfl, rfl, rfl, rfl, ⟨evn 64000 rfl, tv⟩, rfl⟩, _, rfl, _, _, rfl, fun _ _ _ _ => .refl _, ?_⟩
            cbv
            refine And.intro (by subst hA; have p := ix c17; first | exact p | exact ⟨p, tv⟩ | exact ⟨p, trivial, tv⟩) ?_
            refine ⟨_, rfl, _, (pC (row GD (oC LEN GD) y1.fC) (A.nadd 0 (A.toN a1.fc)) [ws (GD y1.fC (A.nadd 0 (A.toN a1.fc))).fN, .ow (LEN (GD y1.fC (A.nadd 0 (A.toN a1.fc))).fS) 5 (row GD (eS) (GD y1.fC (A.nadd 0 (A.toN a1.fc))).fS), .os 6336 0 (LEN y87), .ow (LEN (GD y1.fC (A.nadd 0 (A.toN a1.fc))).fI) 8 (row GD (eI) (GD y1.fC (A.nadd 0 (A.toN a1.fc))).fI)]), rfl, wkOf ?_, ?_⟩
            ·first | refine patch_of2 ?_ | refine patch_of2K (fun _ _ => rC _ _) ?_
             intro j hj
             match j, hj with | 0, _ => (rfl) | 1, _ => (rfl) | 2, _ => (rfl) | 3, _ => (rfl) | (j_ + 4), h_ => omega
            cbv
            replace h := ol h
            obtain ⟨l89, hl89, h⟩ := h
            injection h with h
            subst h
            subst hS85
            refine St.le_trans (le_foldP 512 2 6336 rfl rfl rfl (by decide) (by subst hA; exact ix c17) (by decide) rfl (fun _ _ => rC _ _)) ?_
            exact lsp rfl zl2 ⟨rfl, rfl, ⟨fun hw => hw, fun c hc => (by cases hc), .inr (fun i _ j _ z hz => (noref (rC _ _) hz).elim), rfl, rfl, (by subst hGD hLEN hA; exact patch_set hl89 (ix c17) (by intro j hj; match j, hj with | 0, _ => rfl | 1, _ => rfl | 2, _ => rfl | 3, _ => rfl | (j_ + 4), h_ => omega))⟩, tv⟩ rfl
           ·clear hy81
            subst hS85
            replace h := ol h
            obtain ⟨w86, hw86, h⟩ := h
            have hw86 : w86 = y80 := hw86
            subst hw86
            cbv
            injection h with h
            subst h
            subst hS78
            exact lsp rfl zl2 ⟨rfl, rfl, oS, tv⟩ rfl
          ·replace h := og b144 h
           cbv
           replace h := ob_ h
           obtain ⟨y90, hy91, h⟩ := h
           obtain ⟨S94, hS95⟩ : ∃ S, S = some (sp 137 [(4, .c (.ptr 256 0)), (5, .c (.ptr 320 0))] [(256, .var [.v (.slice none 0 0)]), (320, .var [.os 512 0 (LEN y1.fC)]), (512, .arr .rw [] (LEN y1.fC) 4 (row GD (oC LEN GD) y90))]) := ⟨_, rfl⟩
           refine ⟨S94, ?_, ?_⟩
           ·clear h
            have h := hy91
            clear hy91
            cbv
            refine fork (fun b143 => ?_) (fun b143 => ?_)
            ·replace h := ot b143 h
             cbv
             replace h := ob_ h
             obtain ⟨y97, hy98, h⟩ := h
             obtain ⟨S101, hS102⟩ : ∃ S, S = (sp 137 [(4, .c (.ptr 256 0)), (5, .c (.ptr 320 0))] [(256, .var [.v (.slice none 0 0)]), (320, .var [.os 512 0 (LEN y1.fC)]), (512, .arr .rw [] (LEN y1.fC) 4 (row GD (oC LEN GD) y97))]) := ⟨_, rfl⟩
             refine ⟨S101, ?_, ?_⟩
             ·clear h
              have h := hy98
              clear hy98
              cbv
              refine And.intro (by subst hA; have p := ix c17; first | exact p | exact ⟨p, tv⟩ | exact ⟨p, trivial, tv⟩) ?_
              refine ⟨_, rfl, _, (pC (row GD (oC LEN GD) y1.fC) (A.nadd 0 (A.toN a1.fc)) [ws (GD y1.fC (A.nadd 0 (A.toN a1.fc))).fN, .ow (LEN (GD y1.fC (A.nadd 0 (A.toN a1.fc))).fS) 5 (row GD (eS) (GD y1.fC (A.nadd 0 (A.toN a1.fc))).fS), .ow (LEN (GD y1.fC (A.nadd 0 (A.toN a1.fc))).fL) 4 (row GD (eL) (GD y1.fC (A.nadd 0 (A.toN a1.fc))).fL), .os 6914 0 (LEN (GD y1.fC (A.nadd 0 (A.toN a1.fc))).fI)]), rfl, wkOf ?_, ?_⟩
              ·refine patch_of ?_
               intro j hj
               match j, hj with | 0, _ => (rfl) | 1, _ => (rfl) | 2, _ => (rfl) | 3, _ => (rfl) | (j_ + 4), h_ => omega
              refine ⟨_, row GD (eI) (GD y1.fC (A.nadd 0 (A.toN a1.fc))).fI, rfl, wkOf ?_, ?_⟩
              ·exact fun i _ j _ => plain_cp (pl_encInstance _ _)
              cbv
              replace h := ol h
              obtain ⟨l104, hl104, h⟩ := h
              have e105 : 1 = LEN l104 := by subst hl104 hLEN; rfl
              refine ⟨_, congrArg (fun n => AV.c (AC.os 7232 0 n)) e105, _, row GD (eI) l104, e105, wkOf ?_, ?_⟩
              ·intro i hi j hj
               rw [<- e105] at hi
               subst hl104
               subst hGD
               obtain rfl : i = 0 := (by omega) <;> obtain rfl | rfl | rfl | rfl | rfl | rfl | rfl | rfl : j = 0 \/ j = 1 \/ j = 2 \/ j = 3 \/ j = 4 \/ j = 5 \/ j = 6 \/ j = 7 := (by omega)
               all_goals rfl
              cbv
              replace h := ob_ h
              obtain ⟨y106, hy107, h⟩ := h
              refine ⟨⟨_, _, _, _, _, [(5, 6914), (7, 7232)], [(64000, 7296)]⟩, hfq23 _ _ _ _ hy107, ⟨zs3, ⟨oS, oS, tv⟩, rfl, rfl, rfl, rfl, ⟨evn 64000 rfl, tv⟩, rfl⟩, _, rfl, _, _, rfl, fun _ _ _ _ => .refl _, ?_⟩
              cbv
              refine And.intro (by subst hA; have p := ix c17; first | exact p | exact ⟨p, tv⟩ | exact ⟨p, trivial, tv⟩) ?_
              refine ⟨_, rfl, _, (pC (row GD (oC LEN GD) y1.fC) (A.nadd 0 (A.toN a1.fc)) [ws (GD y1.fC (A.nadd 0 (A.toN a1.fc))).fN, .ow (LEN (GD y1.fC (A.nadd 0 (A.toN a1.fc))).fS) 5 (row GD (eS) (GD y1.fC (A.nadd 0 (A.toN a1.fc))).fS), .ow (LEN (GD y1.fC (A.nadd 0 (A.toN a1.fc))).fL) 4 (row GD (eL) (GD y1.fC (A.nadd 0 (A.toN a1.fc))).fL), .os 7296 0 (LEN y106)]), rfl, wkOf ?_, ?_⟩
              ·first | refine patch_of2 ?_ | refine patch_of2K (fun _ _ => rC _ _) ?_
               intro j hj
               match j, hj with | 0, _ => (rfl) | 1, _ => (rfl) | 2, _ => (rfl) | 3, _ => (rfl) | (j_ + 4), h_ => omega
              cbv
              replace h := ol h
              obtain ⟨l108, hl108, h⟩ := h
              injection h with h
              subst h
              subst hS102
              refine St.le_trans (le_foldP 512 3 7296 rfl rfl rfl (by decide) (by subst hA; exact ix c17) (by decide) rfl (fun _ _ => rC _ _)) ?_
              exact lsp rfl zl2 ⟨rfl, rfl, ⟨fun hw => hw, fun c hc => (by cases hc), .inr (fun i _ j _ z hz => (noref (rC _ _) hz).elim), rfl, rfl, (by subst hGD hLEN hA; exact patch_set hl108 (ix c17) (by intro j hj; match j, hj with | 0, _ => rfl | 1, _ => rfl | 2, _ => rfl | 3, _ => rfl | (j_ + 4), h_ => omega))⟩, tv⟩ rfl
             ·clear hy98
              subst hS102
              replace h := ol h
              obtain ⟨w103, hw103, h⟩ := h
              have hw103 : w103 = y97 := hw103
              subst hw103
              cbv
              injection h with h
              subst h
              subst hS95
              exact lsp rfl zl2 ⟨rfl, rfl, oS, tv⟩ rfl
            ·replace h := og b143 h
             cbv
             replace h := ob_ h
             obtain ⟨y109, hy110, h⟩ := h
             obtain ⟨S113, hS114⟩ : ∃ S, S = some (sp 137 [(4, .c (.ptr 256 0)), (5, .c (.ptr 320 0))] [(256, .var [.v (.slice none 0 0)]), (320, .var [.os 512 0 (LEN y1.fC)]), (512, .arr .rw [] (LEN y1.fC) 4 (row GD (oC LEN GD) y109))]) := ⟨_, rfl⟩
             refine ⟨S113, ?_, ?_⟩
             ·clear h
              have h := hy110
              clear hy110
              cbv
              refine fork (fun b142 => ?_) (fun b142 => ?_)
              ·replace h := ot b142 h
               cbv
               replace h := ob_ h
               obtain ⟨y116, hy117, h⟩ := h
               obtain ⟨S120, hS121⟩ : ∃ S, S = (sp 137 [(4, .c (.ptr 256 0)), (5, .c (.ptr 320 0))] [(256, .var [.v (.slice none 0 0)]), (320, .var [.os 512 0 (LEN y1.fC)]), (512, .arr .rw [] (LEN y1.fC) 4 (row GD (oC LEN GD) y116))]) := ⟨_, rfl⟩
               refine ⟨S120, ?_, ?_⟩
               ·clear h
                have h := hy117
                clear hy117
                cbv
                refine And.intro (by subst hA; have p := ix c17; first | exact p | exact ⟨p, tv⟩ | exact ⟨p, trivial, tv⟩) ?_
                refine ⟨_, rfl, _, (pC (row GD (oC LEN GD) y1.fC) (A.nadd 0 (A.toN a1.fc)) [ws (GD y1.fC (A.nadd 0 (A.toN a1.fc))).fN, .ow (LEN (GD y1.fC (A.nadd 0 (A.toN a1.fc))).fS) 5 (row GD (eS) (GD y1.fC (A.nadd 0 (A.toN a1.fc))).fS), .ow (LEN (GD y1.fC (A.nadd 0 (A.toN a1.fc))).fL) 4 (row GD (eL) (GD y1.fC (A.nadd 0 (A.toN a1.fc))).fL), .os 7874 0 (LEN (GD y1.fC (A.nadd 0 (A.toN a1.fc))).fI)]), rfl, wkOf ?_, ?_⟩
                ·refine patch_of ?_
                 intro j hj
                 match j, hj with | 0, _ => (rfl) | 1, _ => (rfl) | 2, _ => (rfl) | 3, _ => (rfl) | (j_ + 4), h_ => omega
                refine ⟨_, row GD (eI) (GD y1.fC (A.nadd 0 (A.toN a1.fc))).fI, rfl, wkOf ?_, ?_⟩
                ·exact fun i _ j _ => plain_cp (pl_encInstance _ _)
                cbv
                replace h := ob_ h
                obtain ⟨y123, hy124, h⟩ := h
                refine ⟨⟨_, _, _, _, _, [(5, 7874)], [(64000, 8064)]⟩, hfq100 _ _ _ hy124, ⟨zs2, ⟨oS, tv⟩, rfl, rfl, rfl, rfl, ⟨evn 64000 rfl, tv⟩, rfl⟩, _, rfl, _, _, rfl, fun _ _ _ _ => .refl _, ?_⟩
                cbv
                refine And.intro (by subst hA; have p := ix c17; first | exact p | exact ⟨p, tv⟩ | exact ⟨p, trivial, tv⟩) ?_
                refine ⟨_, rfl, _, (pC (row GD (oC LEN GD) y1.fC) (A.nadd 0 (A.toN a1.fc)) [ws (GD y1.fC (A.nadd 0 (A.toN a1.fc))).fN, .ow (LEN (GD y1.fC (A.nadd 0 (A.toN a1.fc))).fS) 5 (row GD (eS) (GD y1.fC (A.nadd 0 (A.toN a1.fc))).fS), .ow (LEN (GD y1.fC (A.nadd 0 (A.toN a1.fc))).fL) 4 (row GD (eL) (GD y1.fC (A.nadd 0 (A.toN a1.fc))).fL), .os 8064 0 (LEN y123)]), rfl, wkOf ?_, ?_⟩
                ·first | refine patch_of2 ?_ | refine patch_of2K (fun _ _ => rC _ _) ?_
                 intro j hj
                 match j, hj with | 0, _ => (rfl) | 1, _ => (rfl) | 2, _ => (rfl) | 3, _ => (rfl) | (j_ + 4), h_ => omega
                cbv
                replace h := ol h
                obtain ⟨l125, hl125, h⟩ := h
                injection h with h
                subst h
                subst hS121
                refine St.le_trans (le_foldP 512 3 8064 rfl rfl rfl (by decide) (by subst hA; exact ix c17) (by decide) rfl (fun _ _ => rC _ _)) ?_
                exact lsp rfl zl2 ⟨rfl, rfl, ⟨fun hw => hw, fun c hc => (by cases hc), .inr (fun i _ j _ z hz => (noref (rC _ _) hz).elim), rfl, rfl, (by subst hGD hLEN hA; exact patch_set hl125 (ix c17) (by intro j hj; match j, hj with | 0, _ => rfl | 1, _ => rfl | 2, _ => rfl | 3, _ => rfl | (j_ + 4), h_ => omega))⟩, tv⟩ rfl
               ·clear hy117
                subst hS121
                replace h := ol h
                obtain ⟨w122, hw122, h⟩ := h
                have hw122 : w122 = y116 := hw122
                subst hw122
                cbv
                injection h with h
                subst h
                subst hS114
                exact lsp rfl zl2 ⟨rfl, rfl, oS, tv⟩ rfl
              ·replace h := og b142 h
               cbv
               replace h := ob_ h
               obtain ⟨y126, hy127, h⟩ := h
               obtain ⟨S130, hS131⟩ : ∃ S, S = some (sp 137 [(4, .c (.ptr 256 0)), (5, .c (.ptr 320 0))] [(256, .var [.v (.slice none 0 0)]), (320, .var [.os 512 0 (LEN y1.fC)]), (512, .arr .rw [] (LEN y1.fC) 4 (row GD (oC LEN GD) y126))]) := ⟨_, rfl⟩
               refine ⟨S130, ?_, ?_⟩
               ·clear h
                have h := hy127
                clear hy127
                cbv
                refine fork (fun b141 => ?_) (fun b141 => ?_)
                ·replace h := ot b141 h
                 cbv
                 replace h := ob_ h
                 obtain ⟨y133, hy134, h⟩ := h
                 obtain ⟨S137, hS138⟩ : ∃ S, S = (sp 137 [(4, .c (.ptr 256 0)), (5, .c (.ptr 320 0))] [(256, .var [.v (.slice none 0 0)]), (320, .var [.os 512 0 (LEN y1.fC)]), (512, .arr .rw [] (LEN y1.fC) 4 (row GD (oC LEN GD) y133))]) := ⟨_, rfl⟩
                 refine ⟨S137, ?_, ?_⟩
                 ·clear h
                  have h := hy134
                  clear hy134
                  cbv
                  refine And.intro (by subst hA; have p := ix c17; first | exact p | exact ⟨p, tv⟩ | exact ⟨p, trivial, tv⟩) ?_
                  refine ⟨_, rfl, _, (pC (row GD (oC LEN GD) y1.fC) (A.nadd 0 (A.toN a1.fc)) [ws a1.fN, .ow (LEN (GD y1.fC (A.nadd 0 (A.toN a1.fc))).fS) 5 (row GD (eS) (GD y1.fC (A.nadd 0 (A.toN a1.fc))).fS), .ow (LEN (GD y1.fC (A.nadd 0 (A.toN a1.fc))).fL) 4 (row GD (eL) (GD y1.fC (A.nadd 0 (A.toN a1.fc))).fL), .ow (LEN (GD y1.fC (A.nadd 0 (A.toN a1.fc))).fI) 8 (row GD (eI) (GD y1.fC (A.nadd 0 (A.toN a1.fc))).fI)]), rfl, wkOf ?_, ?_⟩
                  ·refine patch_of ?_
                   intro j hj
                   match j, hj with | 0, _ => (rfl) | 1, _ => (rfl) | 2, _ => (rfl) | 3, _ => (rfl) | (j_ + 4), h_ => omega
                  cbv
                  replace h := ol h
                  obtain ⟨l140, hl140, h⟩ := h
                  injection h with h
                  subst h
                  subst hS138
                  exact lsp rfl zl2 ⟨rfl, rfl, ⟨fun hw => hw, fun c hc => (by cases hc), .inr (fun i _ j _ z hz => (noref (rC _ _) hz).elim), rfl, rfl, (by subst hGD hLEN hA; exact patch_set hl140 (ix c17) (by intro j hj; match j, hj with | 0, _ => rfl | 1, _ => rfl | 2, _ => rfl | 3, _ => rfl | (j_ + 4), h_ => omega))⟩, tv⟩ rfl
                 ·clear hy134
                  subst hS138
                  replace h := ol h
                  obtain ⟨w139, hw139, h⟩ := h
                  have hw139 : w139 = y133 := hw139
                  subst hw139
                  cbv
                  injection h with h
                  subst h
                  subst hS131
                  exact lsp rfl zl2 ⟨rfl, rfl, oS, tv⟩ rfl
                ·replace h := og b141 h
                 cbv
                 injection h with h
                 subst h
                 subst hS131
                 exact lsp rfl zl2 ⟨rfl, rfl, oS, tv⟩ rfl
               ·clear hy127
                subst hS131
                replace h := ol h
                obtain ⟨w132, hw132, h⟩ := h
                have hw132 : w132 = y126 := hw132
                subst hw132
                cbv
                injection h with h
                subst h
                subst hS114
                exact lsp rfl zl2 ⟨rfl, rfl, oS, tv⟩ rfl
             ·clear hy110
              subst hS114
              replace h := ol h
              obtain ⟨w115, hw115, h⟩ := h
              have hw115 : w115 = y109 := hw115
              subst hw115
              cbv
              injection h with h
              subst h
              subst hS95
              exact lsp rfl zl2 ⟨rfl, rfl, oS, tv⟩ rfl
           ·clear hy91
            subst hS95
            replace h := ol h
            obtain ⟨w96, hw96, h⟩ := h
            have hw96 : w96 = y90 := hw96
            subst hw96
            cbv
            injection h with h
            subst h
            subst hS78
            exact lsp rfl zl2 ⟨rfl, rfl, oS, tv⟩ rfl
         ·clear hy74
          subst hS78
          replace h := ol h
          obtain ⟨w79, hw79, h⟩ := h
          have hw79 : w79 = y73 := hw79
          subst hw79
          cbv
          injection h with h
          subst h
          subst hS59
          exact lsp rfl zl2 ⟨rfl, rfl, oS, tv⟩ rfl
       ·clear hy55
        subst hS59
        replace h := ol h
        obtain ⟨w60, hw60, h⟩ := h
        have hw60 : w60 = y54 := hw60
        subst hw60
        cbv
        injection h with h
        subst h
        subst hS42
        exact lsp rfl zl2 ⟨rfl, rfl, oS, tv⟩ rfl
     ·clear hy38
      subst hS42
      replace h := ol h
      obtain ⟨w43, hw43, h⟩ := h
      have hw43 : w43 = y37 := hw43
      subst hw43
      cbv
      injection h with h
      subst h
      subst hS23
      exact lsp rfl zl2 ⟨rfl, rfl, oS, tv⟩ rfl
   ·clear hy19
    subst hS23
    replace h := ol h
    obtain ⟨w24, hw24, h⟩ := h
    have hw24 : w24 = y18 := hw24
    subst hw24
    cbv
    replace h := oq h
    obtain ⟨c148, h⟩ := h
    injection h with h
    subst h
    refine ⟨(sp 137 [(4, .c (.ptr 256 0))] [(256, .var [.os 64000 0 (LEN w24)]), (64000, .arr .rw [] (LEN w24) 4 (row GD (oC LEN GD) w24))]), ?_, ?_⟩
    ·refine St.le_trans (le_ren 512 64000 (by decide) rfl) ?_
     rw [c148]
     exact lsp rfl zl1 ⟨rfl, oS, tv⟩ rfl
    ·exact ⟨lR _, ⟨oS, tv⟩, rfl⟩

/-- impl.ApplyEdit -/
def Fq68 (a0 : TL) (a1 : TE) : Option (TL × Int) :=
 (Fq107 a0 a1).bind fun y1 =>
 br (std.not (std.eq y1 0))
 (some ((TL.mk ([] : List TC)), y1))
 ((Fq103 a0 a1).bind fun y3 =>
 some (y3, (0 : Int)))
theorem runq68 (a0 : TL) (a1 : TE) (r : TL × Int) (h : Fq68 a0 a1 = some r) : Fun Tryz.prog 19 [.agg [.bs (len a0.fC) 4 (row gd (eC len gd) a0.fC)], .agg (cE a1)] [] (.tup [.agg [.os 64000 0 (len r.1.fC)], .c (wi r.2)]) [(64000, .arr .rw [] (len r.1.fC) 4 (row gd (oC len gd) r.1.fC))] true := by
 refine Fun.of_wp (oneOf []) tok mixed Tryz.func19 (by kernel_rfl) rfl Tryz.ntmps19 rfl trivial (fun _ => ⟨(by simp [AV.flat, AV.flat1, AC.flat]), ⟨fun i _ j _ => fl_oncCell _ _, tv⟩⟩) ?_
 unfold Fq68 at h
 have hfq107 := @runq107
 have hfq103 := @runq103
 generalize hLEN : @len = LEN, hGD : @gd = GD, hA : std = A, hP : Tryz.prog = P at *
 cbv
 replace h := ob_ h
 obtain ⟨y1, hy2, h⟩ := h
 refine ⟨⟨_, _, _, _, _, [], []⟩, hfq107 _ _ _ hy2, ⟨zs2, trivial, rfl, rfl, rfl, rfl, trivial, rfl⟩, ?_⟩
 cbv
 refine fork (fun b5 => ?_) (fun b5 => ?_)
 ·replace h := ot b5 h
  cbv
  injection h with h
  subst h
  refine ⟨(sp 17 [(4, .c (.ptr 256 0)), (5, .c (wi y1))] [(256, .var [.os 64000 0 (LEN ([] : List TC))]), (64000, .arr .rw [] (LEN ([] : List TC)) 4 (row GD (oC LEN GD) ([] : List TC)))]), ?_, ?_⟩
  ·refine St.le_trans (le_nilV 256 0 64000 4 (row GD (oC LEN GD) ([] : List TC)) (by decide) (by decide) rfl rfl) ?_
   subst hLEN
   exact lsp rfl zl2 ⟨rfl, oS, tv⟩ rfl
  ·subst hLEN
   exact ⟨lR _, ⟨oS, tv⟩, rfl⟩
 ·replace h := og b5 h
  cbv
  replace h := ob_ h
  obtain ⟨y3, hy4, h⟩ := h
  refine ⟨⟨_, _, _, _, _, [], [(64000, 1024)]⟩, hfq103 _ _ _ hy4, ⟨zs2, trivial, rfl, rfl, rfl, rfl, ⟨evn 64000 rfl, tv⟩, rfl⟩, _, rfl, _, _, rfl, fun _ _ _ _ => .refl _, ?_⟩
  cbv
  injection h with h
  subst h
  refine ⟨(sp 17 [(4, .c (.ptr 256 0)), (5, .c (wi 0))] [(256, .var [.os 64000 0 (LEN y3.fC)]), (64000, .arr .rw [] (LEN y3.fC) 4 (row GD (oC LEN GD) y3.fC))]), ?_, ?_⟩
  ·refine St.le_trans (le_ren 1024 64000 (by decide) rfl) ?_
   exact lsp rfl zl2 ⟨rfl, oS, tv⟩ rfl
  ·exact ⟨lR _, ⟨oS, tv⟩, rfl⟩

/-- laws.eqRect -/
def Fq95 (a0 : TRect) (a1 : TRect) : Option (Bool) :=
 br (std.not (std.eq a0.fX0 a1.fX0))
 (some false)
 (br (std.not (std.eq a0.fY0 a1.fY0))
 (some false)
 (br (std.not (std.eq a0.fX1 a1.fX1))
 (some false)
 (br (std.not (std.eq a0.fY1 a1.fY1))
 (some false)
 (some true))))
theorem runq95 (a0 : TRect) (a1 : TRect) (r : Bool) (h : Fq95 a0 a1 = some r) : Fun Tryz.prog 211 [.agg [wi a0.fX0, wi a0.fY0, wi a0.fX1, wi a0.fY1], .agg [wi a1.fX0, wi a1.fY0, wi a1.fX1, wi a1.fY1]] [] (.c (.v (.bool r))) [] true := by
 refine Fun.of_wp (oneOf []) tok mixed Tryz.func211 (by kernel_rfl) rfl Tryz.ntmps211 rfl trivial (fun _ => ⟨trivial, tv⟩) ?_
 unfold Fq95 at h
 generalize hLEN : @len = LEN, hGD : @gd = GD, hA : std = A, hP : Tryz.prog = P at *
 cbv
 refine fork (fun b4 => ?_) (fun b4 => ?_)
 ·replace h := ot b4 h
  cbv
  injection h with h
  subst h
  refine ⟨(sp 25 [(4, .c (.v (.bool false)))] []), ?_, ?_⟩
  ·exact lsp rfl zl1 trivial rfl
  ·exact ⟨lR _, trivial, rfl⟩
 ·replace h := og b4 h
  cbv
  refine fork (fun b3 => ?_) (fun b3 => ?_)
  ·replace h := ot b3 h
   cbv
   injection h with h
   subst h
   refine ⟨(sp 25 [(4, .c (.v (.bool false)))] []), ?_, ?_⟩
   ·exact lsp rfl zl1 trivial rfl
   ·exact ⟨lR _, trivial, rfl⟩
  ·replace h := og b3 h
   cbv
   refine fork (fun b2 => ?_) (fun b2 => ?_)
   ·replace h := ot b2 h
    cbv
    injection h with h
    subst h
    refine ⟨(sp 25 [(4, .c (.v (.bool false)))] []), ?_, ?_⟩
    ·exact lsp rfl zl1 trivial rfl
    ·exact ⟨lR _, trivial, rfl⟩
   ·replace h := og b2 h
    cbv
    refine fork (fun b1 => ?_) (fun b1 => ?_)
    ·replace h := ot b1 h
     cbv
     injection h with h
     subst h
     refine ⟨(sp 25 [(4, .c (.v (.bool false)))] []), ?_, ?_⟩
     ·exact lsp rfl zl1 trivial rfl
     ·exact ⟨lR _, trivial, rfl⟩
    ·replace h := og b1 h
     cbv
     injection h with h
     subst h
     refine ⟨(sp 25 [(4, .c (.v (.bool true)))] []), ?_, ?_⟩
     ·exact lsp rfl zl1 trivial rfl
     ·exact ⟨lR _, trivial, rfl⟩

/-- laws.eqShape -/
def Fq14 (a0 : TS) (a1 : TS) : Option (Bool) :=
 br (std.not (std.eq a0.fy a1.fy))
 (some false)
 ((Fq95 a0.fb a1.fb).bind fun y1 =>
 br (!(y1))
 (some false)
 (some true))
theorem runq14 (a0 : TS) (a1 : TS) (r : Bool) (h : Fq14 a0 a1 = some r) : Fun Tryz.prog 137 [.agg [wi a0.fy, wi a0.fb.fX0, wi a0.fb.fY0, wi a0.fb.fX1, wi a0.fb.fY1], .agg [wi a1.fy, wi a1.fb.fX0, wi a1.fb.fY0, wi a1.fb.fX1, wi a1.fb.fY1]] [] (.c (.v (.bool r))) [] true := by
 refine Fun.of_wp (oneOf []) tok mixed Tryz.func137 (by kernel_rfl) rfl Tryz.ntmps137 rfl trivial (fun _ => ⟨trivial, tv⟩) ?_
 unfold Fq14 at h
 have hfq95 := @runq95
 generalize hLEN : @len = LEN, hGD : @gd = GD, hA : std = A, hP : Tryz.prog = P at *
 cbv
 refine fork (fun b4 => ?_) (fun b4 => ?_)
 ·replace h := ot b4 h
  cbv
  injection h with h
  subst h
  refine ⟨(sp 16 [(4, .c (.v (.bool false)))] []), ?_, ?_⟩
  ·exact lsp rfl zl1 trivial rfl
  ·exact ⟨lR _, trivial, rfl⟩
 ·replace h := og b4 h
  cbv
  replace h := ob_ h
  obtain ⟨y1, hy2, h⟩ := h
  refine ⟨⟨_, _, _, _, _, [], []⟩, hfq95 _ _ _ hy2, ⟨zs2, trivial, rfl, rfl, rfl, rfl, trivial, rfl⟩, ?_⟩
  cbv
  refine fork (fun b3 => ?_) (fun b3 => ?_)
  ·replace h := ot b3 h
   cbv
   injection h with h
   subst h
   refine ⟨(sp 16 [(4, .c (.v (.bool false)))] []), ?_, ?_⟩
   ·exact lsp rfl zl1 trivial rfl
   ·exact ⟨lR _, trivial, rfl⟩
  ·replace h := og b3 h
   cbv
   injection h with h
   subst h
   refine ⟨(sp 16 [(4, .c (.v (.bool true)))] []), ?_, ?_⟩
   ·exact lsp rfl zl1 trivial rfl
   ·exact ⟨lR _, trivial, rfl⟩

def Lq38_x2 (a0 : List TS) (a1 : List TS) : (Int) -> Option ((Int) ⊕ ((Unit) ⊕ (Unit))) := fun x2 =>
 letO x2 fun v1 =>
 br (std.lt v1 (std.ofN (len a0)))
 (req (std.inR v1 (len a0)) <|
 req (std.inR v1 (len a1)) <|
 (Fq14 (gd a0 (std.toN v1)) (gd a1 (std.toN v1))).bind fun y16 =>
 br (!(y16))
 (some (.inr (.inl ())))
 (some (.inl (std.add .i64 v1 1))))
 (some (.inr (.inr ())))
/-- laws.eqShapeS -/
def Fq38 (a0 : List TS) (a1 : List TS) : Option (Bool) :=
 br (std.not (std.eq (std.ofN (len a0)) (std.ofN (len a1))))
 (some false)
 ((whileP (σ := Int) (ρ := (Unit) ⊕ (Unit)) (Lq38_x2 a0 a1) 0).bind fun y3 =>
 (match y3 with
 | .inl y3k0 => (
 some false)
 | .inr y3m0 =>
 some true))
theorem runq38 (a0 : List TS) (a1 : List TS) (r : Bool) (h : Fq38 a0 a1 = some r) : Fun Tryz.prog 208 [.c (.bs (len a0) 5 (row gd (eS) a0)), .c (.bs (len a1) 5 (row gd (eS) a1))] [] (.c (.v (.bool r))) [] true := by
 refine Fun.of_wp (oneOf []) tok mixed Tryz.func208 (by kernel_rfl) rfl Tryz.ntmps208 rfl trivial (fun _ => ⟨trivial, tv⟩) ?_
 unfold Fq38 at h
 unfold Lq38_x2 at h
 have hfq14 := @runq14
 generalize hLEN : @len = LEN, hGD : @gd = GD, hA : std = A, hP : Tryz.prog = P at *
 cbv
 refine fork (fun b20 => ?_) (fun b20 => ?_)
 ·replace h := ot b20 h
  cbv
  injection h with h
  subst h
  refine ⟨(sp 27 [(4, .c (.v (.bool false)))] []), ?_, ?_⟩
  ·exact lsp rfl zl1 trivial rfl
  ·exact ⟨lR _, trivial, rfl⟩
 ·replace h := og b20 h
  cbv
  replace h := ob_ h
  obtain ⟨y3, hr4, hN5⟩ := h
  refine loop_cut hr4 (fun x => (sp 27 [(0, .c (.bs (LEN a0) 5 (row GD (eS) a0))), (1, .c (.bs (LEN a1) 5 (row GD (eS) a1))), (5, .c (wi x))] [])) ?_ (fun y e s => (match y with | .inl w => e = .ret /\ s.le (sp 27 [(4, .c (.v (.bool false)))] []) | .inr w0 => (fun (w : Unit) => e = .exit 0 /\ s.le (sp 27 [] [])) w0)) ?_ ?_
  ·clear hr4 hN5
   show St.le _ _
   exact lsp rfl zl3 trivial rfl
  ·clear hr4 hN5
   intro x z9 h K7 hK8 hY6
   replace h := ol h
   obtain ⟨v1, hv1, h⟩ := h
   have hv1 : v1 = x := hv1
   subst hv1
   cbv
   refine fork (fun b19 => ?_) (fun b19 => ?_)
   ·replace h := ot b19 h
    cbv
    replace h := oq h
    obtain ⟨c14, h⟩ := h
    refine ⟨⟨c14, tv⟩, ?_⟩
    replace h := oq h
    obtain ⟨c15, h⟩ := h
    refine ⟨⟨c15, tv⟩, ?_⟩
    replace h := ob_ h
    obtain ⟨y16, hy17, h⟩ := h
    refine ⟨⟨_, _, _, _, _, [], []⟩, hfq14 _ _ _ hy17, ⟨zs2, trivial, rfl, rfl, rfl, rfl, trivial, rfl⟩, ?_⟩
    cbv
    refine fork (fun b18 => ?_) (fun b18 => ?_)
    ·replace h := ot b18 h
     cbv
     injection h with h
     refine hY6 _ h.symm _ _ (And.intro rfl ?_) (by intro hh; cases hh)
     exact lsp rfl zl1 trivial rfl
    ·replace h := og b18 h
     cbv
     injection h with h
     refine hK8 _ h.symm _ ?_
     exact lsp rfl zl3 trivial rfl
   ·replace h := og b19 h
    cbv
    injection h with h
    refine hY6 _ h.symm _ _ (And.intro rfl ?_) (by intro hh; cases hh)
    exact lsp rfl trivial trivial rfl
  ·clear hr4
   have h := hN5
   clear hN5
   intro e12 s13 q11 hne
   rcases y3 with y3k0 | y3m0
   ·replace h := h
    obtain ⟨rfl, q11⟩ := q11
    cbv
    injection h with h
    subst h
    refine ⟨(sp 27 [(4, .c (.v (.bool false)))] []), ?_, ?_⟩
    ·refine St.le_trans q11 ?_
     exact lsp rfl zl1 trivial rfl
    ·exact ⟨lR _, trivial, rfl⟩
   ·obtain ⟨rfl, q11⟩ := q11
    cbv
    refine ⟨_, q11, ?_⟩
    cbv
    injection h with h
    subst h
    refine ⟨(sp 27 [(4, .c (.v (.bool true)))] []), ?_, ?_⟩
    ·exact lsp rfl zl1 trivial rfl
    ·exact ⟨lR _, trivial, rfl⟩

/-- laws.eqPoint -/
def Fq83 (a0 : TPoint) (a1 : TPoint) : Option (Bool) :=
 br (std.not (std.eq a0.fX a1.fX))
 (some false)
 (br (std.not (std.eq a0.fY a1.fY))
 (some false)
 (some true))
theorem runq83 (a0 : TPoint) (a1 : TPoint) (r : Bool) (h : Fq83 a0 a1 = some r) : Fun Tryz.prog 212 [.agg [wi a0.fX, wi a0.fY], .agg [wi a1.fX, wi a1.fY]] [] (.c (.v (.bool r))) [] true := by
 refine Fun.of_wp (oneOf []) tok mixed Tryz.func212 (by kernel_rfl) rfl Tryz.ntmps212 rfl trivial (fun _ => ⟨trivial, tv⟩) ?_
 unfold Fq83 at h
 generalize hLEN : @len = LEN, hGD : @gd = GD, hA : std = A, hP : Tryz.prog = P at *
 cbv
 refine fork (fun b2 => ?_) (fun b2 => ?_)
 ·replace h := ot b2 h
  cbv
  injection h with h
  subst h
  refine ⟨(sp 15 [(4, .c (.v (.bool false)))] []), ?_, ?_⟩
  ·exact lsp rfl zl1 trivial rfl
  ·exact ⟨lR _, trivial, rfl⟩
 ·replace h := og b2 h
  cbv
  refine fork (fun b1 => ?_) (fun b1 => ?_)
  ·replace h := ot b1 h
   cbv
   injection h with h
   subst h
   refine ⟨(sp 15 [(4, .c (.v (.bool false)))] []), ?_, ?_⟩
   ·exact lsp rfl zl1 trivial rfl
   ·exact ⟨lR _, trivial, rfl⟩
  ·replace h := og b1 h
   cbv
   injection h with h
   subst h
   refine ⟨(sp 15 [(4, .c (.v (.bool true)))] []), ?_, ?_⟩
   ·exact lsp rfl zl1 trivial rfl
   ·exact ⟨lR _, trivial, rfl⟩
end
end Go.Proofs.YtohgghncmkiicaaGreat.AM
