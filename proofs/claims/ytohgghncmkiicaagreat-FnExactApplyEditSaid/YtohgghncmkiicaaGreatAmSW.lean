/-
  What the functions that the law reaches compute, and that they do. No condition.
-/
import Derived.Test.YtohgghncmkiicaaGreatAmSV
namespace Go.Proofs.YtohgghncmkiicaaGreat.AM
noncomputable section
open Go Go.Proofs Go.RowKit
set_option linter.unusedVariables false
set_option linter.unusedSimpArgs false
set_option maxRecDepth 100000

set_option maxHeartbeats 4000000
def Lq28_x2 (a0 : TL) (a1 : Int) (a2 : ByteArray) : (Int) -> Option ((Int) ⊕ ((Bool) ⊕ (Unit))) := fun x2 =>
 letO x2 fun v1 =>
 br (std.lt v1 (std.ofN (len a0.fC)))
 (((
 br (std.not (std.eq v1 a1))
 (req (std.inR v1 (len a0.fC)) <|
 some (std.seq (gd a0.fC (std.toN v1)).fN a2))
 (some false)
 ) : Option (Bool)).bind fun y14 =>
 letO y14 fun w20 =>
 br w20
 (some (.inr (.inl true)))
 (some (.inl (std.add .i64 v1 1))))
 (some (.inr (.inr ())))
/-- spec.l13Named -/
def Fq28 (a0 : TL) (a1 : Int) (a2 : ByteArray) : Option (Bool) :=
 (whileP (σ := Int) (ρ := (Bool) ⊕ (Unit)) (Lq28_x2 a0 a1 a2) 0).bind fun y3 =>
 (match y3 with
 | .inl y3k0 => (
 letO y3k0 fun w25 =>
 some w25)
 | .inr y3m0 =>
 some false)
theorem runq28 (a0 : TL) (a1 : Int) (a2 : ByteArray) (r : Bool) (h : Fq28 a0 a1 a2 = some r) : Fun Tryz.prog 189 [.agg [.bs (len a0.fC) 4 (row gd (eC len gd) a0.fC)], .c (wi a1), .c (ws a2)] [] (.c (.v (.bool r))) [] true := by
 refine Fun.of_wp (oneOf [4]) tok mixed Tryz.func189 (by kernel_rfl) rfl Tryz.ntmps189 rfl trivial (fun _ => ⟨trivial, tv⟩) ?_
 unfold Fq28 at h
 unfold Lq28_x2 at h
 generalize hLEN : @len = LEN, hGD : @gd = GD, hA : std = A, hP : Tryz.prog = P at *
 cbv
 replace h := ob_ h
 obtain ⟨y3, hr4, hN5⟩ := h
 refine loop_cut hr4 (fun x => (sp 28 [(1, .c (wi a1)), (2, .c (ws a2)), (3, .c (.ptr 192 0)), (7, .c (wi x))] [(192, .var [.bs (LEN a0.fC) 4 (row GD (eC LEN GD) a0.fC)])])) ?_ (fun y e s => (match y with | .inl w => e = .ret /\ s.le (sp 28 [(6, .c (.v (.bool w)))] []) | .inr w0 => (fun (w : Unit) => e = .exit 0 /\ s.le (sp 28 [] [])) w0)) ?_ ?_
 ·clear hr4 hN5
  show St.le _ _
  exact lsp rfl zl4 ⟨rfl, tv⟩ rfl
 ·clear hr4 hN5
  intro x z9 h K7 hK8 hY6
  replace h := ol h
  obtain ⟨v1, hv1, h⟩ := h
  have hv1 : v1 = x := hv1
  subst hv1
  cbv
  refine fork (fun b24 => ?_) (fun b24 => ?_)
  ·replace h := ot b24 h
   cbv
   replace h := ob_ h
   obtain ⟨y14, hy15, h⟩ := h
   obtain ⟨S18, hS19⟩ : ∃ S, S = (sp 28 [(1, .c (wi a1)), (2, .c (ws a2)), (3, .c (.ptr 192 0)), (7, .c (wi v1)), (27, .c (.v (.bool y14)))] [(192, .var [.bs (LEN a0.fC) 4 (row GD (eC LEN GD) a0.fC)])]) := ⟨_, rfl⟩
   refine ⟨S18, ?_, ?_⟩
   ·clear h
    have h := hy15
    clear hy15
    cbv
    refine fork (fun b22 => ?_) (fun b22 => ?_)
    ·replace h := ot b22 h
     cbv
     replace h := oq h
     obtain ⟨c21, h⟩ := h
     refine ⟨⟨c21, tv⟩, ?_⟩
     injection h with h
     subst h
     subst hS19
     exact lsp rfl zl5 ⟨rfl, tv⟩ rfl
    ·replace h := og b22 h
     cbv
     injection h with h
     subst h
     subst hS19
     exact lsp rfl zl5 ⟨rfl, tv⟩ rfl
   ·clear hy15
    subst hS19
    replace h := ol h
    obtain ⟨w20, hw20, h⟩ := h
    have hw20 : w20 = y14 := hw20
    subst hw20
    cbv
    refine fork (fun b23 => ?_) (fun b23 => ?_)
    ·replace h := ot b23 h
     cbv
     injection h with h
     refine hY6 _ h.symm _ _ (And.intro rfl ?_) (by intro hh; cases hh)
     exact lsp rfl zl1 trivial rfl
    ·replace h := og b23 h
     cbv
     injection h with h
     refine hK8 _ h.symm _ ?_
     exact lsp rfl zl4 ⟨rfl, tv⟩ rfl
  ·replace h := og b24 h
   cbv
   injection h with h
   refine hY6 _ h.symm _ _ (And.intro rfl ?_) (by intro hh; cases hh)
   exact lsp rfl trivial trivial rfl
 ·clear hr4
  have h := hN5
  clear hN5
  intro e12 s13 q11 hne
  rcases y3 with y3k0 | y3m0
  ·replace h := h
   obtain ⟨rfl, q11⟩ := q11
   replace h := ol h
   obtain ⟨w25, hw25, h⟩ := h
   have hw25 : w25 = y3k0 := hw25
   subst hw25
   cbv
   injection h with h
   subst h
   refine ⟨(sp 28 [(6, .c (.v (.bool w25)))] []), ?_, ?_⟩
   ·refine St.le_trans q11 ?_
    exact lsp rfl zl1 trivial rfl
   ·exact ⟨lR _, trivial, rfl⟩
  ·obtain ⟨rfl, q11⟩ := q11
   cbv
   refine ⟨_, q11, ?_⟩
   cbv
   injection h with h
   subst h
   refine ⟨(sp 28 [(6, .c (.v (.bool false)))] []), ?_, ?_⟩
   ·exact lsp rfl zl1 trivial rfl
   ·exact ⟨lR _, trivial, rfl⟩

def Lq48_x2 (a0 : TC) (a1 : Int) : (Int) -> Option ((Int) ⊕ ((Bool) ⊕ (Unit))) := fun x2 =>
 letO x2 fun v1 =>
 br (std.lt v1 (std.ofN (len a0.fI)))
 (req (std.inR v1 (len a0.fI)) <|
 br (std.eq (gd a0.fI (std.toN v1)).fc a1)
 (some (.inr (.inl true)))
 (some (.inl (std.add .i64 v1 1))))
 (some (.inr (.inr ())))
/-- spec.l09Uses -/
def Fq48 (a0 : TC) (a1 : Int) : Option (Bool) :=
 (whileP (σ := Int) (ρ := (Bool) ⊕ (Unit)) (Lq48_x2 a0 a1) 0).bind fun y3 =>
 (match y3 with
 | .inl y3k0 => (
 letO y3k0 fun w17 =>
 some w17)
 | .inr y3m0 =>
 some false)
theorem runq48 (a0 : TC) (a1 : Int) (r : Bool) (h : Fq48 a0 a1 = some r) : Fun Tryz.prog 246 [.agg [ws a0.fN, .bs (len a0.fS) 5 (row gd (eS) a0.fS), .bs (len a0.fL) 4 (row gd (eL) a0.fL), .bs (len a0.fI) 8 (row gd (eI) a0.fI)], .c (wi a1)] [] (.c (.v (.bool r))) [] true := by
 refine Fun.of_wp (oneOf []) tok mixed Tryz.func246 (by kernel_rfl) rfl Tryz.ntmps246 rfl trivial (fun _ => ⟨trivial, tv⟩) ?_
 unfold Fq48 at h
 unfold Lq48_x2 at h
 generalize hLEN : @len = LEN, hGD : @gd = GD, hA : std = A, hP : Tryz.prog = P at *
 cbv
 replace h := ob_ h
 obtain ⟨y3, hr4, hN5⟩ := h
 refine loop_cut hr4 (fun x => (sp 21 [(1, .c (wi a1)), (2, .c (.ptr 128 0)), (5, .c (wi x))] [(128, .var [ws a0.fN, .bs (LEN a0.fS) 5 (row GD (eS) a0.fS), .bs (LEN a0.fL) 4 (row GD (eL) a0.fL), .bs (LEN a0.fI) 8 (row GD (eI) a0.fI)])])) ?_ (fun y e s => (match y with | .inl w => e = .ret /\ s.le (sp 21 [(4, .c (.v (.bool w)))] []) | .inr w0 => (fun (w : Unit) => e = .exit 0 /\ s.le (sp 21 [] [])) w0)) ?_ ?_
 ·clear hr4 hN5
  show St.le _ _
  exact lsp rfl zl3 ⟨rfl, tv⟩ rfl
 ·clear hr4 hN5
  intro x z9 h K7 hK8 hY6
  replace h := ol h
  obtain ⟨v1, hv1, h⟩ := h
  have hv1 : v1 = x := hv1
  subst hv1
  cbv
  refine fork (fun b16 => ?_) (fun b16 => ?_)
  ·replace h := ot b16 h
   cbv
   replace h := oq h
   obtain ⟨c14, h⟩ := h
   refine ⟨⟨c14, tv⟩, ?_⟩
   refine fork (fun b15 => ?_) (fun b15 => ?_)
   ·replace h := ot b15 h
    cbv
    injection h with h
    refine hY6 _ h.symm _ _ (And.intro rfl ?_) (by intro hh; cases hh)
    exact lsp rfl zl1 trivial rfl
   ·replace h := og b15 h
    cbv
    injection h with h
    refine hK8 _ h.symm _ ?_
    exact lsp rfl zl3 ⟨rfl, tv⟩ rfl
  ·replace h := og b16 h
   cbv
   injection h with h
   refine hY6 _ h.symm _ _ (And.intro rfl ?_) (by intro hh; cases hh)
   exact lsp rfl trivial trivial rfl
 ·clear hr4
  have h := hN5
  clear hN5
  intro e12 s13 q11 hne
  rcases y3 with y3k0 | y3m0
  ·replace h := h
   obtain ⟨rfl, q11⟩ := q11
   replace h := ol h
   obtain ⟨w17, hw17, h⟩ := h
   have hw17 : w17 = y3k0 := hw17
   subst hw17
   cbv
   injection h with h
   subst h
   refine ⟨(sp 21 [(4, .c (.v (.bool w17)))] []), ?_, ?_⟩
   ·refine St.le_trans q11 ?_
    exact lsp rfl zl1 trivial rfl
   ·exact ⟨lR _, trivial, rfl⟩
  ·obtain ⟨rfl, q11⟩ := q11
   cbv
   refine ⟨_, q11, ?_⟩
   cbv
   injection h with h
   subst h
   refine ⟨(sp 21 [(4, .c (.v (.bool false)))] []), ?_, ?_⟩
   ·exact lsp rfl zl1 trivial rfl
   ·exact ⟨lR _, trivial, rfl⟩

def Lq49_x2 (a0 : TL) (a1 : Int) : (Int) -> Option ((Int) ⊕ ((Bool) ⊕ (Unit))) := fun x2 =>
 letO x2 fun v1 =>
 br (std.lt v1 (std.ofN (len a0.fC)))
 (req (std.inR v1 (len a0.fC)) <|
 (Fq48 (gd a0.fC (std.toN v1)) a1).bind fun y15 =>
 br y15
 (some (.inr (.inl true)))
 (some (.inl (std.add .i64 v1 1))))
 (some (.inr (.inr ())))
/-- spec.l13Placed -/
def Fq49 (a0 : TL) (a1 : Int) : Option (Bool) :=
 (whileP (σ := Int) (ρ := (Bool) ⊕ (Unit)) (Lq49_x2 a0 a1) 0).bind fun y3 =>
 (match y3 with
 | .inl y3k0 => (
 letO y3k0 fun w19 =>
 some w19)
 | .inr y3m0 =>
 some false)
theorem runq49 (a0 : TL) (a1 : Int) (r : Bool) (h : Fq49 a0 a1 = some r) : Fun Tryz.prog 190 [.agg [.bs (len a0.fC) 4 (row gd (eC len gd) a0.fC)], .c (wi a1)] [] (.c (.v (.bool r))) [] true := by
 refine Fun.of_wp (oneOf []) tok mixed Tryz.func190 (by kernel_rfl) rfl Tryz.ntmps190 rfl trivial (fun _ => ⟨trivial, tv⟩) ?_
 unfold Fq49 at h
 unfold Lq49_x2 at h
 have hfq48 := @runq48
 generalize hLEN : @len = LEN, hGD : @gd = GD, hA : std = A, hP : Tryz.prog = P at *
 cbv
 replace h := ob_ h
 obtain ⟨y3, hr4, hN5⟩ := h
 refine loop_cut hr4 (fun x => (sp 20 [(1, .c (wi a1)), (2, .c (.ptr 128 0)), (5, .c (wi x))] [(128, .var [.bs (LEN a0.fC) 4 (row GD (eC LEN GD) a0.fC)])])) ?_ (fun y e s => (match y with | .inl w => e = .ret /\ s.le (sp 20 [(4, .c (.v (.bool w)))] []) | .inr w0 => (fun (w : Unit) => e = .exit 0 /\ s.le (sp 20 [] [])) w0)) ?_ ?_
 ·clear hr4 hN5
  show St.le _ _
  exact lsp rfl zl3 ⟨rfl, tv⟩ rfl
 ·clear hr4 hN5
  intro x z9 h K7 hK8 hY6
  replace h := ol h
  obtain ⟨v1, hv1, h⟩ := h
  have hv1 : v1 = x := hv1
  subst hv1
  cbv
  refine fork (fun b18 => ?_) (fun b18 => ?_)
  ·replace h := ot b18 h
   cbv
   replace h := oq h
   obtain ⟨c14, h⟩ := h
   refine ⟨⟨c14, tv⟩, ?_⟩
   replace h := ob_ h
   obtain ⟨y15, hy16, h⟩ := h
   refine ⟨⟨_, _, _, _, _, [], []⟩, hfq48 _ _ _ hy16, ⟨zs2, trivial, rfl, rfl, rfl, rfl, trivial, rfl⟩, ?_⟩
   cbv
   refine fork (fun b17 => ?_) (fun b17 => ?_)
   ·replace h := ot b17 h
    cbv
    injection h with h
    refine hY6 _ h.symm _ _ (And.intro rfl ?_) (by intro hh; cases hh)
    exact lsp rfl zl1 trivial rfl
   ·replace h := og b17 h
    cbv
    injection h with h
    refine hK8 _ h.symm _ ?_
    exact lsp rfl zl3 ⟨rfl, tv⟩ rfl
  ·replace h := og b18 h
   cbv
   injection h with h
   refine hY6 _ h.symm _ _ (And.intro rfl ?_) (by intro hh; cases hh)
   exact lsp rfl trivial trivial rfl
 ·clear hr4
  have h := hN5
  clear hN5
  intro e12 s13 q11 hne
  rcases y3 with y3k0 | y3m0
  ·replace h := h
   obtain ⟨rfl, q11⟩ := q11
   replace h := ol h
   obtain ⟨w19, hw19, h⟩ := h
   have hw19 : w19 = y3k0 := hw19
   subst hw19
   cbv
   injection h with h
   subst h
   refine ⟨(sp 20 [(4, .c (.v (.bool w19)))] []), ?_, ?_⟩
   ·refine St.le_trans q11 ?_
    exact lsp rfl zl1 trivial rfl
   ·exact ⟨lR _, trivial, rfl⟩
  ·obtain ⟨rfl, q11⟩ := q11
   cbv
   refine ⟨_, q11, ?_⟩
   cbv
   injection h with h
   subst h
   refine ⟨(sp 20 [(4, .c (.v (.bool false)))] []), ?_, ?_⟩
   ·exact lsp rfl zl1 trivial rfl
   ·exact ⟨lR _, trivial, rfl⟩

/-- spec.l13CellCode -/
def Fq77 (a0 : TL) (a1 : TE) : Option (Int) :=
 ((
 br (std.eq a1.fk 8)
 (br (std.lt (std.ofN (len a0.fC)) a1.fc)
 (some true)
 (br (std.not (std.eq a1.fk 8))
 (some (std.le (std.ofN (len a0.fC)) a1.fc))
 (some false)))
 (br (std.not (std.eq a1.fk 8))
 (some (std.le (std.ofN (len a0.fC)) a1.fc))
 (some false))
 ) : Option (Bool)).bind fun y1 =>
 letO y1 fun w7 =>
 br w7
 (some 5)
 (((
 br (std.eq a1.fk 8)
 (some (std.eq (std.ofN (len a0.fC)) 8))
 (some false)
 ) : Option (Bool)).bind fun y12 =>
 letO y12 fun w18 =>
 br w18
 (some 3)
 (((
 br (std.eq a1.fk 8)
 ((Fq28 (TL.mk a0.fC) (-1) a1.fN).bind fun y27 =>
 some y27)
 (some false)
 ) : Option (Bool)).bind fun y20 =>
 letO y20 fun w26 =>
 br w26
 (some 6)
 (((
 br (std.eq a1.fk 7)
 ((Fq28 (TL.mk a0.fC) a1.fc a1.fN).bind fun y37 =>
 some y37)
 (some false)
 ) : Option (Bool)).bind fun y30 =>
 letO y30 fun w36 =>
 br w36
 (some 6)
 (((
 br (std.eq a1.fk 9)
 (req (std.inR a1.fc (len a0.fC)) <|
 ((
 br (std.eq (std.ofN (len a0.fC)) 1)
 (some true)
 (br (std.lt 0 (std.add .i64 (std.add .i64 (std.ofN (len (gd a0.fC (std.toN a1.fc)).fS)) (std.ofN (len (gd a0.fC (std.toN a1.fc)).fL))) (std.ofN (len (gd a0.fC (std.toN a1.fc)).fI))))
 (some true)
 ((Fq49 (TL.mk a0.fC) a1.fc).bind fun y54 =>
 some y54))
 ) : Option (Bool)).bind fun y47 =>
 letO y47 fun w53 =>
 br w53
 ((some 6).bind fun r58 => some (.inl r58))
 (some (.inr ())))
 (some (.inr ()))
 ) : Option (_ ⊕ Unit)).bind fun z42 => (match z42 with
 | .inl r => some r
 | .inr y40 =>
 some 0)))))
theorem runq77 (a0 : TL) (a1 : TE) (r : Int) (h : Fq77 a0 a1 = some r) : Fun Tryz.prog 106 [.agg [.bs (len a0.fC) 4 (row gd (eC len gd) a0.fC)], .agg (cE a1)] [] (.c (wi r)) [] true := by
 refine Fun.of_wp (oneOf [2, 4, 6, 8, 12, 100061]) tok mixed Tryz.func106 (by kernel_rfl) rfl Tryz.ntmps106 rfl trivial (fun _ => ⟨trivial, tv⟩) ?_
 unfold Fq77 at h
 have hfq28 := @runq28
 have hfq49 := @runq49
 generalize hLEN : @len = LEN, hGD : @gd = GD, hA : std = A, hP : Tryz.prog = P at *
 cbv
 replace h := ob_ h
 obtain ⟨y1, hy2, h⟩ := h
 obtain ⟨S5, hS6⟩ : ∃ S, S = (sp 93 [(2, .c (.ptr 128 0)), (3, .c (.ptr 192 0)), (5, .c (wi (A.ofN (LEN a0.fC)))), (10, .c (.v (.bool y1)))] [(128, .var [.bs (LEN a0.fC) 4 (row GD (eC LEN GD) a0.fC)]), (192, .var (cE a1))]) := ⟨_, rfl⟩
 refine ⟨S5, ?_, ?_⟩
 ·clear h
  have h := hy2
  clear hy2
  cbv
  refine fork (fun b11 => ?_) (fun b11 => ?_)
  ·replace h := ot b11 h
   cbv
   refine fork (fun b9 => ?_) (fun b9 => ?_)
   ·replace h := ot b9 h
    cbv
    injection h with h
    subst h
    subst hS6
    exact lsp rfl zl4 ⟨rfl, rfl, tv⟩ rfl
   ·replace h := og b9 h
    cbv
    refine fork (fun b8 => ?_) (fun b8 => ?_)
    ·replace h := ot b8 h
     cbv
     injection h with h
     subst h
     subst hS6
     exact lsp rfl zl4 ⟨rfl, rfl, tv⟩ rfl
    ·replace h := og b8 h
     cbv
     injection h with h
     subst h
     subst hS6
     exact lsp rfl zl4 ⟨rfl, rfl, tv⟩ rfl
  ·replace h := og b11 h
   cbv
   refine fork (fun b10 => ?_) (fun b10 => ?_)
   ·replace h := ot b10 h
    cbv
    injection h with h
    subst h
    subst hS6
    exact lsp rfl zl4 ⟨rfl, rfl, tv⟩ rfl
   ·replace h := og b10 h
    cbv
    injection h with h
    subst h
    subst hS6
    exact lsp rfl zl4 ⟨rfl, rfl, tv⟩ rfl
 ·clear hy2
  subst hS6
  replace h := ol h
  obtain ⟨w7, hw7, h⟩ := h
  have hw7 : w7 = y1 := hw7
  subst hw7
  cbv
  refine fork (fun b66 => ?_) (fun b66 => ?_)
  ·replace h := ot b66 h
   cbv
   injection h with h
   subst h
   refine ⟨(sp 93 [(4, .c (wi 5))] []), ?_, ?_⟩
   ·exact lsp rfl zl1 trivial rfl
   ·exact ⟨lR _, trivial, rfl⟩
  ·replace h := og b66 h
   cbv
   replace h := ob_ h
   obtain ⟨y12, hy13, h⟩ := h
   obtain ⟨S16, hS17⟩ : ∃ S, S = (sp 93 [(2, .c (.ptr 128 0)), (3, .c (.ptr 192 0)), (5, .c (wi (A.ofN (LEN a0.fC)))), (31, .c (.v (.bool y12)))] [(128, .var [.bs (LEN a0.fC) 4 (row GD (eC LEN GD) a0.fC)]), (192, .var (cE a1))]) := ⟨_, rfl⟩
   refine ⟨S16, ?_, ?_⟩
   ·clear h
    have h := hy13
    clear hy13
    cbv
    refine fork (fun b19 => ?_) (fun b19 => ?_)
    ·replace h := ot b19 h
     cbv
     injection h with h
     subst h
     subst hS17
     exact lsp rfl zl4 ⟨rfl, rfl, tv⟩ rfl
    ·replace h := og b19 h
     cbv
     injection h with h
     subst h
     subst hS17
     exact lsp rfl zl4 ⟨rfl, rfl, tv⟩ rfl
   ·clear hy13
    subst hS17
    replace h := ol h
    obtain ⟨w18, hw18, h⟩ := h
    have hw18 : w18 = y12 := hw18
    subst hw18
    cbv
    refine fork (fun b65 => ?_) (fun b65 => ?_)
    ·replace h := ot b65 h
     cbv
     injection h with h
     subst h
     refine ⟨(sp 93 [(4, .c (wi 3))] []), ?_, ?_⟩
     ·exact lsp rfl zl1 trivial rfl
     ·exact ⟨lR _, trivial, rfl⟩
    ·replace h := og b65 h
     cbv
     replace h := ob_ h
     obtain ⟨y20, hy21, h⟩ := h
     obtain ⟨S24, hS25⟩ : ∃ S, S = (sp 93 [(2, .c (.ptr 128 0)), (3, .c (.ptr 192 0)), (5, .c (wi (A.ofN (LEN a0.fC)))), (39, .c (.v (.bool y20)))] [(128, .var [.bs (LEN a0.fC) 4 (row GD (eC LEN GD) a0.fC)]), (192, .var (cE a1))]) := ⟨_, rfl⟩
     refine ⟨S24, ?_, ?_⟩
     ·clear h
      have h := hy21
      clear hy21
      cbv
      refine fork (fun b29 => ?_) (fun b29 => ?_)
      ·replace h := ot b29 h
       cbv
       replace h := ob_ h
       obtain ⟨y27, hy28, h⟩ := h
       refine ⟨⟨_, _, _, _, _, [], []⟩, hfq28 _ _ _ _ hy28, ⟨zs3, trivial, rfl, rfl, rfl, rfl, trivial, rfl⟩, ?_⟩
       cbv
       injection h with h
       subst h
       subst hS25
       exact lsp rfl zl4 ⟨rfl, rfl, tv⟩ rfl
      ·replace h := og b29 h
       cbv
       injection h with h
       subst h
       subst hS25
       exact lsp rfl zl4 ⟨rfl, rfl, tv⟩ rfl
     ·clear hy21
      subst hS25
      replace h := ol h
      obtain ⟨w26, hw26, h⟩ := h
      have hw26 : w26 = y20 := hw26
      subst hw26
      cbv
      refine fork (fun b64 => ?_) (fun b64 => ?_)
      ·replace h := ot b64 h
       cbv
       injection h with h
       subst h
       refine ⟨(sp 93 [(4, .c (wi 6))] []), ?_, ?_⟩
       ·exact lsp rfl zl1 trivial rfl
       ·exact ⟨lR _, trivial, rfl⟩
      ·replace h := og b64 h
       cbv
       replace h := ob_ h
       obtain ⟨y30, hy31, h⟩ := h
       obtain ⟨S34, hS35⟩ : ∃ S, S = (sp 93 [(2, .c (.ptr 128 0)), (3, .c (.ptr 192 0)), (5, .c (wi (A.ofN (LEN a0.fC)))), (49, .c (.v (.bool y30)))] [(128, .var [.bs (LEN a0.fC) 4 (row GD (eC LEN GD) a0.fC)]), (192, .var (cE a1))]) := ⟨_, rfl⟩
       refine ⟨S34, ?_, ?_⟩
       ·clear h
        have h := hy31
        clear hy31
        cbv
        refine fork (fun b39 => ?_) (fun b39 => ?_)
        ·replace h := ot b39 h
         cbv
         replace h := ob_ h
         obtain ⟨y37, hy38, h⟩ := h
         refine ⟨⟨_, _, _, _, _, [], []⟩, hfq28 _ _ _ _ hy38, ⟨zs3, trivial, rfl, rfl, rfl, rfl, trivial, rfl⟩, ?_⟩
         cbv
         injection h with h
         subst h
         subst hS35
         exact lsp rfl zl4 ⟨rfl, rfl, tv⟩ rfl
        ·replace h := og b39 h
         cbv
         injection h with h
         subst h
         subst hS35
         exact lsp rfl zl4 ⟨rfl, rfl, tv⟩ rfl
       ·clear hy31
        subst hS35
        replace h := ol h
        obtain ⟨w36, hw36, h⟩ := h
        have hw36 : w36 = y30 := hw36
        subst hw36
        cbv
        refine fork (fun b63 => ?_) (fun b63 => ?_)
        ·replace h := ot b63 h
         cbv
         injection h with h
         subst h
         refine ⟨(sp 93 [(4, .c (wi 6))] []), ?_, ?_⟩
         ·exact lsp rfl zl1 trivial rfl
         ·exact ⟨lR _, trivial, rfl⟩
        ·replace h := og b63 h
         cbv
         replace h := ob_ h
         obtain ⟨z42, hy41, hz43⟩ := h
         obtain ⟨S44, hS45⟩ : ∃ S, S = (match z42 with | .inl _ => none | .inr y40 => some (sp 93 [] [])) := ⟨_, rfl⟩
         refine ⟨S44, ?_, ?_⟩
         ·have h := hy41
          clear hy41
          cbv
          refine fork (fun b62 => ?_) (fun b62 => ?_)
          ·replace h := ot b62 h
           cbv
           replace h := oq h
           obtain ⟨c46, h⟩ := h
           refine ⟨⟨c46, tv⟩, ?_⟩
           replace h := ob_ h
           obtain ⟨y47, hy48, h⟩ := h
           obtain ⟨S51, hS52⟩ : ∃ S, S = (sp 93 [(92, .c (.v (.bool y47)))] []) := ⟨_, rfl⟩
           refine ⟨S51, ?_, ?_⟩
           ·clear h
            have h := hy48
            clear hy48
            cbv
            refine fork (fun b57 => ?_) (fun b57 => ?_)
            ·replace h := ot b57 h
             cbv
             injection h with h
             subst h
             subst hS52
             exact lsp rfl zl1 trivial rfl
            ·replace h := og b57 h
             cbv
             refine fork (fun b56 => ?_) (fun b56 => ?_)
             ·replace h := ot b56 h
              cbv
              injection h with h
              subst h
              subst hS52
              exact lsp rfl zl1 trivial rfl
             ·replace h := og b56 h
              cbv
              replace h := ob_ h
              obtain ⟨y54, hy55, h⟩ := h
              refine ⟨⟨_, _, _, _, _, [], []⟩, hfq49 _ _ _ hy55, ⟨zs2, trivial, rfl, rfl, rfl, rfl, trivial, rfl⟩, ?_⟩
              cbv
              injection h with h
              subst h
              subst hS52
              exact lsp rfl zl1 trivial rfl
           ·clear hy48
            subst hS52
            replace h := ol h
            obtain ⟨w53, hw53, h⟩ := h
            have hw53 : w53 = y47 := hw53
            subst hw53
            cbv
            refine fork (fun b61 => ?_) (fun b61 => ?_)
            ·replace h := ot b61 h
             cbv
             replace h := ob_ h
             obtain ⟨r58, h59, he60⟩ := h
             injection he60 with he60
             subst he60
             injection hz43 with hz43
             subst hz43
             have h := h59
             injection h with h
             subst h
             refine ⟨(sp 93 [(4, .c (wi 6))] []), ?_, ?_⟩
             ·exact lsp rfl zl1 trivial rfl
             ·exact ⟨lR _, trivial, rfl⟩
            ·replace h := og b61 h
             cbv
             injection h with h
             subst h
             subst hS45
             exact lsp rfl trivial trivial rfl
          ·replace h := og b62 h
           cbv
           injection h with h
           subst h
           subst hS45
           exact lsp rfl trivial trivial rfl
         ·clear hy41
          subst hS45
          rcases z42 with _ | y40
          ·trivial
          ·have h := hz43
           clear hz43
           cbv
           injection h with h
           subst h
           refine ⟨(sp 93 [(4, .c (wi 0))] []), ?_, ?_⟩
           ·exact lsp rfl zl1 trivial rfl
           ·exact ⟨lR _, trivial, rfl⟩

/-- spec.l13Counts -/
def Fq113 (a0 : TC) (a1 : Int) : Option (Int × Int) :=
 ((
 br (std.eq a1 1)
 (some true)
 (some (std.eq a1 2))
 ) : Option (Bool)).bind fun y1 =>
 letO y1 fun w7 =>
 ((
 br w7
 ((some (std.ofN (len a0.fS), (24 : Int))).bind fun r15 => some (.inl r15))
 (((
 br (std.eq a1 3)
 (some true)
 (some (std.eq a1 4))
 ) : Option (Bool)).bind fun y18 =>
 letO y18 fun w24 =>
 ((
 br w24
 (((some (std.ofN (len a0.fL), (8 : Int))).bind fun r32 => some (.inl r32)).bind fun r35 => some (.inl r35))
 (some (.inr ()))
 ) : Option (_ ⊕ Unit)).bind fun z28 => (match z28 with
 | .inl r => some r
 | .inr y26 =>
 some (.inr ())))
 ) : Option (_ ⊕ Unit)).bind fun z11 => (match z11 with
 | .inl r => some r
 | .inr y9 =>
 some (std.ofN (len a0.fI), (8 : Int)))
theorem runq113 (a0 : TC) (a1 : Int) (r : Int × Int) (h : Fq113 a0 a1 = some r) : Fun Tryz.prog 107 [.agg [ws a0.fN, .bs (len a0.fS) 5 (row gd (eS) a0.fS), .bs (len a0.fL) 4 (row gd (eL) a0.fL), .bs (len a0.fI) 8 (row gd (eI) a0.fI)], .c (wi a1)] [] (.tup [.c (wi r.1), .c (wi r.2)]) [] true := by
 refine Fun.of_wp (oneOf [100007, 100013]) tok mixed Tryz.func107 (by kernel_rfl) rfl Tryz.ntmps107 rfl trivial (fun _ => ⟨(by simp [AV.flat, AV.flat1, AC.flat]), tv⟩) ?_
 unfold Fq113 at h
 generalize hLEN : @len = LEN, hGD : @gd = GD, hA : std = A, hP : Tryz.prog = P at *
 cbv
 replace h := ob_ h
 obtain ⟨y1, hy2, h⟩ := h
 obtain ⟨S5, hS6⟩ : ∃ S, S = some (sp 22 [(2, .c (.ptr 128 0)), (6, .c (wi a1)), (7, .c (.v (.bool y1)))] [(128, .var [ws a0.fN, .bs (LEN a0.fS) 5 (row GD (eS) a0.fS), .bs (LEN a0.fL) 4 (row GD (eL) a0.fL), .bs (LEN a0.fI) 8 (row GD (eI) a0.fI)])]) := ⟨_, rfl⟩
 refine ⟨S5, ?_, ?_⟩
 ·clear h
  have h := hy2
  clear hy2
  cbv
  refine fork (fun b8 => ?_) (fun b8 => ?_)
  ·replace h := ot b8 h
   cbv
   injection h with h
   subst h
   subst hS6
   exact lsp rfl zl3 ⟨rfl, tv⟩ rfl
  ·replace h := og b8 h
   cbv
   injection h with h
   subst h
   subst hS6
   exact lsp rfl zl3 ⟨rfl, tv⟩ rfl
 ·clear hy2
  subst hS6
  replace h := ol h
  obtain ⟨w7, hw7, h⟩ := h
  have hw7 : w7 = y1 := hw7
  subst hw7
  cbv
  replace h := ob_ h
  obtain ⟨z11, hy10, hz12⟩ := h
  obtain ⟨S13, hS14⟩ : ∃ S, S = (match z11 with | .inl _ => none | .inr y9 => some (sp 22 [(2, .c (.ptr 128 0))] [(128, .var [ws a0.fN, .bs (LEN a0.fS) 5 (row GD (eS) a0.fS), .bs (LEN a0.fL) 4 (row GD (eL) a0.fL), .bs (LEN a0.fI) 8 (row GD (eI) a0.fI)])])) := ⟨_, rfl⟩
  refine ⟨S13, ?_, ?_⟩
  ·have h := hy10
   clear hy10
   cbv
   refine fork (fun b39 => ?_) (fun b39 => ?_)
   ·replace h := ot b39 h
    cbv
    replace h := ob_ h
    obtain ⟨r15, h16, he17⟩ := h
    injection he17 with he17
    subst he17
    injection hz12 with hz12
    subst hz12
    have h := h16
    injection h with h
    subst h
    refine ⟨(sp 22 [(4, .c (wi (A.ofN (LEN a0.fS)))), (5, .c (wi 24))] []), ?_, ?_⟩
    ·exact lsp rfl zl2 trivial rfl
    ·exact ⟨lR _, trivial, rfl⟩
   ·replace h := og b39 h
    cbv
    replace h := ob_ h
    obtain ⟨y18, hy19, h⟩ := h
    obtain ⟨S22, hS23⟩ : ∃ S, S = some (sp 22 [(2, .c (.ptr 128 0)), (13, .c (.v (.bool y18)))] [(128, .var [ws a0.fN, .bs (LEN a0.fS) 5 (row GD (eS) a0.fS), .bs (LEN a0.fL) 4 (row GD (eL) a0.fL), .bs (LEN a0.fI) 8 (row GD (eI) a0.fI)])]) := ⟨_, rfl⟩
    refine ⟨S22, ?_, ?_⟩
    ·clear h
     have h := hy19
     clear hy19
     cbv
     refine fork (fun b25 => ?_) (fun b25 => ?_)
     ·replace h := ot b25 h
      cbv
      injection h with h
      subst h
      subst hS23
      exact lsp rfl zl2 ⟨rfl, tv⟩ rfl
     ·replace h := og b25 h
      cbv
      injection h with h
      subst h
      subst hS23
      exact lsp rfl zl2 ⟨rfl, tv⟩ rfl
    ·clear hy19
     subst hS23
     replace h := ol h
     obtain ⟨w24, hw24, h⟩ := h
     have hw24 : w24 = y18 := hw24
     subst hw24
     cbv
     replace h := ob_ h
     obtain ⟨z28, hy27, hz29⟩ := h
     obtain ⟨S30, hS31⟩ : ∃ S, S = (match z28 with | .inl _ => none | .inr y26 => some (sp 22 [(2, .c (.ptr 128 0))] [(128, .var [ws a0.fN, .bs (LEN a0.fS) 5 (row GD (eS) a0.fS), .bs (LEN a0.fL) 4 (row GD (eL) a0.fL), .bs (LEN a0.fI) 8 (row GD (eI) a0.fI)])])) := ⟨_, rfl⟩
     refine ⟨S30, ?_, ?_⟩
     ·have h := hy27
      clear hy27
      cbv
      refine fork (fun b38 => ?_) (fun b38 => ?_)
      ·replace h := ot b38 h
       cbv
       replace h := ob_ h
       obtain ⟨r35, h36, he37⟩ := h
       injection he37 with he37
       subst he37
       injection hz29 with hz29
       subst hz29
       have h := h36
       replace h := ob_ h
       obtain ⟨r32, h33, he34⟩ := h
       injection he34 with he34
       subst he34
       injection hz12 with hz12
       subst hz12
       have h := h33
       injection h with h
       subst h
       refine ⟨(sp 22 [(4, .c (wi (A.ofN (LEN a0.fL)))), (5, .c (wi 8))] []), ?_, ?_⟩
       ·exact lsp rfl zl2 trivial rfl
       ·exact ⟨lR _, trivial, rfl⟩
      ·replace h := og b38 h
       cbv
       injection h with h
       subst h
       subst hS31
       exact lsp rfl zl1 ⟨rfl, tv⟩ rfl
     ·clear hy27
      subst hS31
      rcases z28 with _ | y26
      ·trivial
      ·have h := hz29
       clear hz29
       cbv
       injection h with h
       subst h
       subst hS14
       exact lsp rfl zl1 ⟨rfl, tv⟩ rfl
  ·clear hy10
   subst hS14
   rcases z11 with _ | y9
   ·trivial
   ·have h := hz12
    clear hz12
    cbv
    injection h with h
    subst h
    refine ⟨(sp 22 [(4, .c (wi (A.ofN (LEN a0.fI)))), (5, .c (wi 8))] []), ?_, ?_⟩
    ·exact lsp rfl zl2 trivial rfl
    ·exact ⟨lR _, trivial, rfl⟩

/-- spec.l13Code -/
def Fq94 (a0 : TL) (a1 : TE) : Option (Int) :=
 ((
 (Fq25 (TL.mk a0.fC)).bind fun y8 =>
 br (!(y8))
 (some true)
 ((Fq79 a1).bind fun y10 =>
 some (!(y10)))
 ) : Option (Bool)).bind fun y1 =>
 letO y1 fun w7 =>
 br w7
 (some 1)
 (br (std.le 7 a1.fk)
 ((Fq77 (TL.mk a0.fC) a1).bind fun y13 =>
 some y13)
 (br (std.le (std.ofN (len a0.fC)) a1.fc)
 (some 5)
 (req (std.inR a1.fc (len a0.fC)) <|
 (Fq113 (gd a0.fC (std.toN a1.fc)) a1.fk).bind fun y16 =>
 ((
 br (std.eq a1.fk 2)
 (some true)
 (br (std.eq a1.fk 4)
 (some true)
 (some (std.eq a1.fk 6)))
 ) : Option (Bool)).bind fun y18 =>
 letO y18 fun w24 =>
 ((
 br w24
 (some (std.le y16.1 a1.fx))
 (some false)
 ) : Option (Bool)).bind fun y27 =>
 letO y27 fun w33 =>
 br w33
 (some 5)
 (br w24
 (some 0)
 (br (std.lt y16.1 a1.fx)
 (some 2)
 (br (std.eq y16.1 y16.2)
 (some 3)
 (((
 br (std.eq a1.fk 5)
 (some (std.le a1.fc a1.fi_.fc))
 (some false)
 ) : Option (Bool)).bind fun y35 =>
 letO y35 fun w41 =>
 br w41
 (some 6)
 (some 0))))))))
theorem runq94 (a0 : TL) (a1 : TE) (r : Int) (h : Fq94 a0 a1 = some r) : Fun Tryz.prog 57 [.agg [.bs (len a0.fC) 4 (row gd (eC len gd) a0.fC)], .agg (cE a1)] [] (.c (wi r)) [] true := by
 refine Fun.of_wp (oneOf [1, 8, 9, 17]) tok mixed Tryz.func57 (by kernel_rfl) rfl Tryz.ntmps57 rfl trivial (fun _ => ⟨trivial, tv⟩) ?_
 unfold Fq94 at h
 have hfq79 := @runq79
 have hfq25 := @runq25
 have hfq77 := @runq77
 have hfq113 := @runq113
 generalize hLEN : @len = LEN, hGD : @gd = GD, hA : std = A, hP : Tryz.prog = P at *
 cbv
 replace h := ob_ h
 obtain ⟨y1, hy2, h⟩ := h
 obtain ⟨S5, hS6⟩ : ∃ S, S = (sp 84 [(2, .c (.ptr 128 0)), (3, .c (.ptr 192 0)), (15, .c (.v (.bool y1)))] [(128, .var [.bs (LEN a0.fC) 4 (row GD (eC LEN GD) a0.fC)]), (192, .var (cE a1))]) := ⟨_, rfl⟩
 refine ⟨S5, ?_, ?_⟩
 ·clear h
  have h := hy2
  clear hy2
  cbv
  replace h := ob_ h
  obtain ⟨y8, hy9, h⟩ := h
  refine ⟨⟨_, _, _, _, _, [], []⟩, hfq25 _ _ hy9, ⟨zs1, trivial, rfl, rfl, rfl, rfl, trivial, rfl⟩, ?_⟩
  cbv
  refine fork (fun b12 => ?_) (fun b12 => ?_)
  ·replace h := ot b12 h
   cbv
   injection h with h
   subst h
   subst hS6
   exact lsp rfl zl3 ⟨rfl, rfl, tv⟩ rfl
  ·replace h := og b12 h
   cbv
   replace h := ob_ h
   obtain ⟨y10, hy11, h⟩ := h
   refine ⟨⟨_, _, _, _, _, [], []⟩, hfq79 _ _ hy11, ⟨zs1, trivial, rfl, rfl, rfl, rfl, trivial, rfl⟩, ?_⟩
   cbv
   injection h with h
   subst h
   subst hS6
   exact lsp rfl zl3 ⟨rfl, rfl, tv⟩ rfl
 ·clear hy2
  subst hS6
  replace h := ol h
  obtain ⟨w7, hw7, h⟩ := h
  have hw7 : w7 = y1 := hw7
  subst hw7
  cbv
  refine fork (fun b50 => ?_) (fun b50 => ?_)
  ·replace h := ot b50 h
   cbv
   injection h with h
   subst h
   refine ⟨(sp 84 [(4, .c (wi 1))] []), ?_, ?_⟩
   ·exact lsp rfl zl1 trivial rfl
   ·exact ⟨lR _, trivial, rfl⟩
  ·replace h := og b50 h
   cbv
   refine fork (fun b49 => ?_) (fun b49 => ?_)
   ·replace h := ot b49 h
    cbv
    replace h := ob_ h
    obtain ⟨y13, hy14, h⟩ := h
    refine ⟨⟨_, _, _, _, _, [], []⟩, hfq77 _ _ _ hy14, ⟨zs2, trivial, rfl, rfl, rfl, rfl, trivial, rfl⟩, ?_⟩
    cbv
    injection h with h
    subst h
    refine ⟨(sp 84 [(4, .c (wi y13))] []), ?_, ?_⟩
    ·exact lsp rfl zl1 trivial rfl
    ·exact ⟨lR _, trivial, rfl⟩
   ·replace h := og b49 h
    cbv
    refine fork (fun b48 => ?_) (fun b48 => ?_)
    ·replace h := ot b48 h
     cbv
     injection h with h
     subst h
     refine ⟨(sp 84 [(4, .c (wi 5))] []), ?_, ?_⟩
     ·exact lsp rfl zl1 trivial rfl
     ·exact ⟨lR _, trivial, rfl⟩
    ·replace h := og b48 h
     cbv
     replace h := oq h
     obtain ⟨c15, h⟩ := h
     refine ⟨⟨c15, tv⟩, ?_⟩
     replace h := ob_ h
     obtain ⟨y16, hy17, h⟩ := h
     refine ⟨⟨_, _, _, _, _, [], []⟩, hfq113 _ _ _ hy17, ⟨zs2, trivial, rfl, rfl, rfl, rfl, trivial, rfl⟩, ?_⟩
     cbv
     replace h := ob_ h
     obtain ⟨y18, hy19, h⟩ := h
     obtain ⟨S22, hS23⟩ : ∃ S, S = (sp 84 [(3, .c (.ptr 192 0)), (5, .c (wi y16.1)), (6, .c (wi y16.2)), (7, .c (.v (.bool y18)))] [(192, .var (cE a1))]) := ⟨_, rfl⟩
     refine ⟨S22, ?_, ?_⟩
     ·clear h
      have h := hy19
      clear hy19
      cbv
      refine fork (fun b26 => ?_) (fun b26 => ?_)
      ·replace h := ot b26 h
       cbv
       injection h with h
       subst h
       subst hS23
       exact lsp rfl zl4 ⟨rfl, tv⟩ rfl
      ·replace h := og b26 h
       cbv
       refine fork (fun b25 => ?_) (fun b25 => ?_)
       ·replace h := ot b25 h
        cbv
        injection h with h
        subst h
        subst hS23
        exact lsp rfl zl4 ⟨rfl, tv⟩ rfl
       ·replace h := og b25 h
        cbv
        injection h with h
        subst h
        subst hS23
        exact lsp rfl zl4 ⟨rfl, tv⟩ rfl
     ·clear hy19
      subst hS23
      replace h := ol h
      obtain ⟨w24, hw24, h⟩ := h
      have hw24 : w24 = y18 := hw24
      subst hw24
      cbv
      replace h := ob_ h
      obtain ⟨y27, hy28, h⟩ := h
      obtain ⟨S31, hS32⟩ : ∃ S, S = (sp 84 [(3, .c (.ptr 192 0)), (5, .c (wi y16.1)), (6, .c (wi y16.2)), (7, .c (.v (.bool w24))), (53, .c (.v (.bool y27)))] [(192, .var (cE a1))]) := ⟨_, rfl⟩
      refine ⟨S31, ?_, ?_⟩
      ·clear h
       have h := hy28
       clear hy28
       cbv
       refine fork (fun b34 => ?_) (fun b34 => ?_)
       ·replace h := ot b34 h
        cbv
        injection h with h
        subst h
        subst hS32
        exact lsp rfl zl5 ⟨rfl, tv⟩ rfl
       ·replace h := og b34 h
        cbv
        injection h with h
        subst h
        subst hS32
        exact lsp rfl zl5 ⟨rfl, tv⟩ rfl
      ·clear hy28
       subst hS32
       replace h := ol h
       obtain ⟨w33, hw33, h⟩ := h
       have hw33 : w33 = y27 := hw33
       subst hw33
       cbv
       refine fork (fun b47 => ?_) (fun b47 => ?_)
       ·replace h := ot b47 h
        cbv
        injection h with h
        subst h
        refine ⟨(sp 84 [(4, .c (wi 5))] []), ?_, ?_⟩
        ·exact lsp rfl zl1 trivial rfl
        ·exact ⟨lR _, trivial, rfl⟩
       ·replace h := og b47 h
        cbv
        refine fork (fun b46 => ?_) (fun b46 => ?_)
        ·replace h := ot b46 h
         cbv
         injection h with h
         subst h
         refine ⟨(sp 84 [(4, .c (wi 0))] []), ?_, ?_⟩
         ·exact lsp rfl zl1 trivial rfl
         ·exact ⟨lR _, trivial, rfl⟩
        ·replace h := og b46 h
         cbv
         refine fork (fun b45 => ?_) (fun b45 => ?_)
         ·replace h := ot b45 h
          cbv
          injection h with h
          subst h
          refine ⟨(sp 84 [(4, .c (wi 2))] []), ?_, ?_⟩
          ·exact lsp rfl zl1 trivial rfl
          ·exact ⟨lR _, trivial, rfl⟩
         ·replace h := og b45 h
          cbv
          refine fork (fun b44 => ?_) (fun b44 => ?_)
          ·replace h := ot b44 h
           cbv
           injection h with h
           subst h
           refine ⟨(sp 84 [(4, .c (wi 3))] []), ?_, ?_⟩
           ·exact lsp rfl zl1 trivial rfl
           ·exact ⟨lR _, trivial, rfl⟩
          ·replace h := og b44 h
           cbv
           replace h := ob_ h
           obtain ⟨y35, hy36, h⟩ := h
           obtain ⟨S39, hS40⟩ : ∃ S, S = (sp 84 [(72, .c (.v (.bool y35)))] []) := ⟨_, rfl⟩
           refine ⟨S39, ?_, ?_⟩
           ·clear h
            have h := hy36
            clear hy36
            cbv
            refine fork (fun b42 => ?_) (fun b42 => ?_)
            ·replace h := ot b42 h
             cbv
             injection h with h
             subst h
             subst hS40
             exact lsp rfl zl1 trivial rfl
            ·replace h := og b42 h
             cbv
             injection h with h
             subst h
             subst hS40
             exact lsp rfl zl1 trivial rfl
           ·clear hy36
            subst hS40
            replace h := ol h
            obtain ⟨w41, hw41, h⟩ := h
            have hw41 : w41 = y35 := hw41
            subst hw41
            cbv
            refine fork (fun b43 => ?_) (fun b43 => ?_)
            ·replace h := ot b43 h
             cbv
             injection h with h
             subst h
             refine ⟨(sp 84 [(4, .c (wi 6))] []), ?_, ?_⟩
             ·exact lsp rfl zl1 trivial rfl
             ·exact ⟨lR _, trivial, rfl⟩
            ·replace h := og b43 h
             cbv
             injection h with h
             subst h
             refine ⟨(sp 84 [(4, .c (wi 0))] []), ?_, ?_⟩
             ·exact lsp rfl zl1 trivial rfl
             ·exact ⟨lR _, trivial, rfl⟩
set_option maxHeartbeats 4000000
/-- spec.l09CopyCell -/
def Fq90 (a0 : TC) : Option (TC) :=
 letO ([] : List TS) fun l1 =>
 req (std.room (std.nadd (len l1) (len a0.fS)) 40) <|
 letO (l1 ++ a0.fS) fun l3 =>
 letO ([] : List TB) fun l6 =>
 req (std.room (std.nadd (len l6) (len a0.fL)) 40) <|
 letO (l6 ++ a0.fL) fun l8 =>
 letO ([] : List TI) fun l11 =>
 req (std.room (std.nadd (len l11) (len a0.fI)) 64) <|
 letO (l11 ++ a0.fI) fun l13 =>
 some (TC.mk a0.fN l3 l8 l13)
theorem runq90 (a0 : TC) (r : TC) (h : Fq90 a0 = some r) : Fun Tryz.prog 109 [.agg [ws a0.fN, .bs (len a0.fS) 5 (row gd (eS) a0.fS), .bs (len a0.fL) 4 (row gd (eL) a0.fL), .bs (len a0.fI) 8 (row gd (eI) a0.fI)]] [] (.agg [ws r.fN, .os 64000 0 (len r.fS), .os 64002 0 (len r.fL), .os 64004 0 (len r.fI)]) [(64000, .arr .rw [] (len r.fS) 5 (row gd (eS) r.fS)), (64002, .arr .rw [] (len r.fL) 4 (row gd (eL) r.fL)), (64004, .arr .rw [] (len r.fI) 8 (row gd (eI) r.fI))] true := by
 refine Fun.of_wp (oneOf []) tok mixed Tryz.func109 (by kernel_rfl) rfl Tryz.ntmps109 rfl trivial (fun _ => ⟨(by simp [AV.flat, AV.flat1, AC.flat]), ⟨fun i _ j _ => val_flat (vl_encShape _ _), fun i _ j _ => val_flat (vl_encLabel _ _), fun i _ j _ => val_flat (vl_encInstance _ _), tv⟩⟩) ?_
 unfold Fq90 at h
 generalize hLEN : @len = LEN, hGD : @gd = GD, hA : std = A, hP : Tryz.prog = P at *
 cbv
 replace h := ol h
 obtain ⟨l1, hl1, h⟩ := h
 have e2 : 0 = LEN l1 := by subst hl1 hLEN; rfl
 refine ⟨_, congrArg (fun n => AV.c (AC.os 320 0 n)) e2, _, row GD (eS) l1, e2, wkOf ?_, ?_⟩
 ·intro i hi j hj
  rw [<- e2] at hi
  subst hl1
  subst hGD
  omega
 cbv
 replace h := oq h
 obtain ⟨c5, h⟩ := h
 replace h := ol h
 obtain ⟨l3, hl3, h⟩ := h
 have e4 : A.nadd (LEN l1) (LEN a0.fS) = LEN l3 := by subst hl3 hLEN hA; simp [std, len]
 refine ⟨c5, _, congrArg (fun n => AV.c (AC.os 320 0 n)) e4, _, row GD (eS) l3, e4, wkOf ?_, ?_⟩
 ·subst hGD hLEN hA
  exact app_bs (pl_encShape) hl3 (Nat.le_refl _)
 cbv
 replace h := ol h
 obtain ⟨l6, hl6, h⟩ := h
 have e7 : 0 = LEN l6 := by subst hl6 hLEN; rfl
 refine ⟨_, congrArg (fun n => AV.c (AC.os 576 0 n)) e7, _, row GD (eL) l6, e7, wkOf ?_, ?_⟩
 ·intro i hi j hj
  rw [<- e7] at hi
  subst hl6
  subst hGD
  omega
 cbv
 replace h := oq h
 obtain ⟨c10, h⟩ := h
 replace h := ol h
 obtain ⟨l8, hl8, h⟩ := h
 have e9 : A.nadd (LEN l6) (LEN a0.fL) = LEN l8 := by subst hl8 hLEN hA; simp [std, len]
 refine ⟨c10, _, congrArg (fun n => AV.c (AC.os 576 0 n)) e9, _, row GD (eL) l8, e9, wkOf ?_, ?_⟩
 ·subst hGD hLEN hA
  exact app_bs (pl_encLabel) hl8 (Nat.le_refl _)
 cbv
 replace h := ol h
 obtain ⟨l11, hl11, h⟩ := h
 have e12 : 0 = LEN l11 := by subst hl11 hLEN; rfl
 refine ⟨_, congrArg (fun n => AV.c (AC.os 832 0 n)) e12, _, row GD (eI) l11, e12, wkOf ?_, ?_⟩
 ·intro i hi j hj
  rw [<- e12] at hi
  subst hl11
  subst hGD
  omega
 cbv
 replace h := oq h
 obtain ⟨c15, h⟩ := h
 replace h := ol h
 obtain ⟨l13, hl13, h⟩ := h
 have e14 : A.nadd (LEN l11) (LEN a0.fI) = LEN l13 := by subst hl13 hLEN hA; simp [std, len]
 refine ⟨c15, _, congrArg (fun n => AV.c (AC.os 832 0 n)) e14, _, row GD (eI) l13, e14, wkOf ?_, ?_⟩
 ·subst hGD hLEN hA
  exact app_bs (pl_encInstance) hl13 (Nat.le_refl _)
 cbv
 injection h with h
 subst h
 refine ⟨(sp 18 [(2, .c (.ptr 128 0))] [(128, .var [ws a0.fN, .os 64000 0 (LEN l3), .os 64002 0 (LEN l8), .os 64004 0 (LEN l13)]), (64000, .arr .rw [] (LEN l3) 5 (row GD (eS) l3)), (64002, .arr .rw [] (LEN l8) 4 (row GD (eL) l8)), (64004, .arr .rw [] (LEN l13) 8 (row GD (eI) l13))]), ?_, ?_⟩
 ·refine St.le_trans (le_ren 320 64000 (by decide) rfl) ?_
  refine St.le_trans (le_ren 576 64002 (by decide) rfl) ?_
  refine St.le_trans (le_ren 832 64004 (by decide) rfl) ?_
  exact lsp rfl zl1 ⟨rfl, oS, oS, oS, tv⟩ rfl
 ·exact ⟨lR _, ⟨oS, oS, oS, tv⟩, rfl⟩

def Lq9_x3 (a0 : TL) : (Int × (List TC)) -> Option ((Int × (List TC)) ⊕ (((List TC)))) := fun x3 =>
 letO x3.1 fun v1 =>
 letO x3.2 fun v2 =>
 br (std.lt v1 (std.ofN (len a0.fC)))
 (((
 req (std.inR v1 (len a0.fC)) <|
 (Fq90 (gd a0.fC (std.toN v1))).bind fun y23 =>
 letO ([y23] : List TC) fun l25 =>
 req (std.room (std.nadd (len v2) (len l25)) 88) <|
 letO (v2 ++ l25) fun l27 =>
 some l27
 ) : Option ((List TC))).bind fun y15 =>
 letO y15 fun w21 =>
 some (.inl (std.add .i64 v1 1, w21)))
 (some (.inr v2))
/-- spec.l09Copy -/
def Fq9 (a0 : TL) : Option (TL) :=
 (whileP (σ := Int × (List TC)) (ρ := ((List TC))) (Lq9_x3 a0) (0, ([] : List TC))).bind fun y4 =>
 letO y4 fun y4k0 =>
 letO y4k0 fun w31 =>
 some (TL.mk w31)
theorem runq9 (a0 : TL) (r : TL) (h : Fq9 a0 = some r) : Fun Tryz.prog 59 [.agg [.bs (len a0.fC) 4 (row gd (eC len gd) a0.fC)]] [] (.agg [.os 64000 0 (len r.fC)]) [(64000, .arr .rw [] (len r.fC) 4 (row gd (oC len gd) r.fC))] true := by
 refine Fun.of_wp (oneOf [5]) tok mixed Tryz.func59 (by kernel_rfl) rfl Tryz.ntmps59 rfl trivial (fun _ => ⟨(by simp [AV.flat, AV.flat1, AC.flat]), ⟨fun i _ j _ => fl_oncCell _ _, tv⟩⟩) ?_
 unfold Fq9 at h
 unfold Lq9_x3 at h
 have hfq90 := @runq90
 generalize hLEN : @len = LEN, hGD : @gd = GD, hA : std = A, hP : Tryz.prog = P at *
 cbv
 replace h := ob_ h
 obtain ⟨y4, hr5, hN6⟩ := h
 refine loop_cut hr5 (fun x => (sp 25 [(1, .c (.ptr 64 0)), (2, .c (.ptr 128 0)), (3, .c (.ptr 192 0)), (4, .c (wi x.1))] [(64, .var [.bs (LEN a0.fC) 4 (row GD (eC LEN GD) a0.fC)]), (128, .var [.v (.slice none 0 0)]), (192, .var [.os 1408 0 (LEN x.2)]), (1408, .arr .rw [] (LEN x.2) 4 (row GD (oC LEN GD) x.2))])) ?_ (fun y e s => (fun (w : (List TC)) => e = .exit 0 /\ s.le (sp 25 [(2, .c (.ptr 128 0)), (3, .c (.ptr 192 0))] [(128, .var [.v (.slice none 0 0)]), (192, .var [.os 1408 0 (LEN w)]), (1408, .arr .rw [] (LEN w) 4 (row GD (oC LEN GD) w))])) y) ?_ ?_
 ·clear hr5 hN6
  show St.le _ _
  refine St.le_trans (le_nilV 192 0 1408 4 (row GD (oC LEN GD) ([] : List TC)) (by decide) (by decide) rfl rfl) ?_
  subst hLEN
  exact lsp rfl zl4 ⟨rfl, rfl, rfl, oS, tv⟩ rfl
 ·clear hr5 hN6
  intro x z10 h K8 hK9 hY7
  obtain ⟨x0_, x1_⟩ := x
  replace h := ol h
  obtain ⟨v1, hv1, h⟩ := h
  have hv1 : v1 = x0_ := hv1
  subst hv1
  replace h := ol h
  obtain ⟨v2, hv2, h⟩ := h
  have hv2 : v2 = x1_ := hv2
  subst hv2
  cbv
  refine fork (fun b30 => ?_) (fun b30 => ?_)
  ·replace h := ot b30 h
   cbv
   replace h := ob_ h
   obtain ⟨y15, hy16, h⟩ := h
   obtain ⟨S19, hS20⟩ : ∃ S, S = (sp 25 [(1, .c (.ptr 64 0)), (2, .c (.ptr 128 0)), (3, .c (.ptr 192 0)), (4, .c (wi v1))] [(64, .var [.bs (LEN a0.fC) 4 (row GD (eC LEN GD) a0.fC)]), (128, .var [.v (.slice none 0 0)]), (192, .var [.os 1408 0 (LEN y15)]), (1408, .arr .rw [] (LEN y15) 4 (row GD (oC LEN GD) y15))]) := ⟨_, rfl⟩
   refine ⟨S19, ?_, ?_⟩
   ·clear h
    have h := hy16
    clear hy16
    cbv
    replace h := oq h
    obtain ⟨c22, h⟩ := h
    refine ⟨⟨c22, tv⟩, ?_⟩
    replace h := ob_ h
    obtain ⟨y23, hy24, h⟩ := h
    refine ⟨⟨_, _, _, _, _, [], [(64000, 1280), (64002, 1282), (64004, 1284)]⟩, hfq90 _ _ hy24, ⟨zs1, trivial, rfl, rfl, rfl, rfl, ⟨evn 64000 rfl, evn 64002 rfl, evn 64004 rfl, tv⟩, rfl⟩, _, rfl, _, _, rfl, fun _ _ _ _ => .refl _, _, _, rfl, fun _ _ _ _ => .refl _, _, _, rfl, fun _ _ _ _ => .refl _, ?_⟩
    cbv
    replace h := ol h
    obtain ⟨l25, hl25, h⟩ := h
    have e26 : 1 = LEN l25 := by subst hl25 hLEN; rfl
    refine ⟨_, congrArg (fun n => AV.c (AC.os 1344 0 n)) e26, _, (pC (fun _ _ => AC.junk) 0 [ws y23.fN, .os 1280 0 (LEN y23.fS), .os 1282 0 (LEN y23.fL), .os 1284 0 (LEN y23.fI)]), e26, wkOf ?_, ?_⟩
    ·refine patch_one (by subst hl25 hLEN; rfl) ?_
     intro j hj
     match j, hj with | 0, _ => (rfl) | 1, _ => (rfl) | 2, _ => (rfl) | 3, _ => (rfl) | (j_ + 4), h_ => omega
    cbv
    replace h := oq h
    obtain ⟨c29, h⟩ := h
    replace h := ol h
    obtain ⟨l27, hl27, h⟩ := h
    have e28 : A.nadd (LEN v2) (LEN l25) = LEN l27 := by subst hl27 hLEN hA; simp [std, len]
    refine ⟨c29, _, congrArg (fun n => AV.c (AC.os 1408 0 n)) e28, _, (pC (row GD (oC LEN GD) v2) (LEN v2) [ws y23.fN, .os 1280 0 (LEN y23.fS), .os 1282 0 (LEN y23.fL), .os 1284 0 (LEN y23.fI)]), e28, wkOf ?_, ?_⟩
    ·subst hLEN hA
     refine patch_joinG (by first | (rw [hl27]; simp [len]; done) | (rw [hl27]; simp [len]; omega) | (subst_vars; simp [len])) ?_
     intro j hj
     match j, hj with | 0, _ => (rfl) | 1, _ => (rfl) | 2, _ => (rfl) | 3, _ => (rfl) | (j_ + 4), h_ => omega
    cbv
    rw [hl25] at hl27
    injection h with h
    subst h
    subst hS20
    refine St.le_trans (le_foldP 1408 1 1280 rfl rfl rfl (by decide) (by subst hLEN; exact app_lt hl27) (by decide) rfl (fun _ _ => rC _ _)) ?_
    refine St.le_trans (le_foldP 1408 2 1282 rfl rfl rfl (by decide) (by subst hLEN; exact app_lt hl27) (by decide) rfl (fun _ _ => rC _ _)) ?_
    refine St.le_trans (le_foldP 1408 3 1284 rfl rfl rfl (by decide) (by subst hLEN; exact app_lt hl27) (by decide) rfl (fun _ _ => rC _ _)) ?_
    exact lsp rfl zl4 ⟨rfl, rfl, rfl, ⟨fun hw => hw, fun c hc => (by cases hc), .inr (fun i _ j _ z hz => (noref (rC _ _) hz).elim), rfl, rfl, (by subst hGD hLEN hA; exact patch_app hl27 (Nat.le_refl _) (by intro j hj; match j, hj with | 0, _ => rfl | 1, _ => rfl | 2, _ => rfl | 3, _ => rfl | (j_ + 4), h_ => omega))⟩, tv⟩ rfl
   ·clear hy16
    subst hS20
    replace h := ol h
    obtain ⟨w21, hw21, h⟩ := h
    have hw21 : w21 = y15 := hw21
    subst hw21
    cbv
    injection h with h
    refine hK9 _ h.symm _ ?_
    exact lsp rfl zl4 ⟨rfl, rfl, rfl, oS, tv⟩ rfl
  ·replace h := og b30 h
   cbv
   injection h with h
   refine hY7 _ h.symm _ _ (And.intro rfl ?_) (by intro hh; cases hh)
   exact lsp rfl zl2 ⟨rfl, rfl, oS, tv⟩ rfl
 ·clear hr5
  have h := hN6
  clear hN6
  intro e13 s14 q12 hne
  replace h := ol h
  obtain ⟨y4k0, hyk, h⟩ := h
  have hyk : y4k0 = y4 := hyk
  subst hyk
  obtain ⟨rfl, q12⟩ := q12
  replace h := ol h
  obtain ⟨w31, hw31, h⟩ := h
  have hw31 : w31 = y4k0 := hw31
  subst hw31
  cbv
  refine ⟨_, q12, ?_⟩
  cbv
  injection h with h
  subst h
  refine ⟨(sp 25 [(2, .c (.ptr 128 0))] [(128, .var [.os 64000 0 (LEN w31)]), (64000, .arr .rw [] (LEN w31) 4 (row GD (oC LEN GD) w31))]), ?_, ?_⟩
  ·refine St.le_trans (le_ren 1408 64000 (by decide) rfl) ?_
   exact lsp rfl zl1 ⟨rfl, oS, tv⟩ rfl
  ·exact ⟨lR _, ⟨oS, tv⟩, rfl⟩

def Lq20_x25 (a0 : TL) (a1 : Int) (a2 : Int) (v1 : Int) (v2 : List TC) : (Int × (List TI)) -> Option ((Int × (List TI)) ⊕ (((List TC)))) := fun x25 =>
 letO x25.1 fun v23 =>
 letO x25.2 fun v24 =>
 ((
 some (std.lt v23 (std.ofN (len (gd v2 (std.nadd 0 (std.toN v1))).fI)))
 ) : Option (Bool)).bind fun y37 =>
 letO y37 fun w43 =>
 br w43
 (((
 req (std.inR v23 (len (gd v2 (std.nadd 0 (std.toN v1))).fI)) <|
 some (std.le a1 (gd v24 (std.nadd 0 (std.toN v23))).fc)
 ) : Option (Bool)).bind fun y44 =>
 letO y44 fun w50 =>
 ((
 br w50
 (((
 req (std.inR v23 (len (gd v2 (std.nadd 0 (std.toN v1))).fI)) <|
 req (std.inR v23 (len (gd v2 (std.nadd 0 (std.toN v1))).fI)) <|
 req (len (gd v2 (std.nadd 0 (std.toN v1))).fI = len v24) <|
 letO (List.set v24 (std.nadd 0 (std.toN v23)) (TI.mk (std.add .i64 (gd v24 (std.nadd 0 (std.toN v23))).fc a2) (gd v24 (std.nadd 0 (std.toN v23))).fp (gd v24 (std.nadd 0 (std.toN v23))).fK (gd v24 (std.nadd 0 (std.toN v23))).fR (gd v24 (std.nadd 0 (std.toN v23))).fu (gd v24 (std.nadd 0 (std.toN v23))).fv)) fun l68 =>
 some l68
 ) : Option ((List TI))).bind fun y59 =>
 letO y59 fun w65 =>
 some w65)
 (some v24)
 ) : Option ((List TI))).bind fun y52 =>
 letO y52 fun w58 =>
 some (.inl (std.add .i64 v23 1, w58)))
 (req (len (gd v2 (std.nadd 0 (std.toN v1))).fI = len v24) <|
 req (len a0.fC = len v2) <|
 letO (List.set v2 (std.nadd 0 (std.toN v1)) (TC.mk (gd v2 (std.nadd 0 (std.toN v1))).fN (gd v2 (std.nadd 0 (std.toN v1))).fS (gd v2 (std.nadd 0 (std.toN v1))).fL v24)) fun l72 =>
 some (.inr l72))
def Lq20_x3 (a0 : TL) (a1 : Int) (a2 : Int) : (Int × (List TC)) -> Option ((Int × (List TC)) ⊕ (((List TC)))) := fun x3 =>
 letO x3.1 fun v1 =>
 letO x3.2 fun v2 =>
 br (std.lt v1 (std.ofN (len a0.fC)))
 (((
 req (std.inR v1 (len a0.fC)) <|
 some ()
 ) : Option (Unit)).bind fun y15 =>
 req (std.inR v1 (len a0.fC)) <|
 (whileP (σ := Int × (List TI)) (ρ := ((List TC))) (Lq20_x25 a0 a1 a2 v1 v2) (0, (gd v2 (std.nadd 0 (std.toN v1))).fI)).bind fun y26 =>
 letO y26 fun y26k0 =>
 letO y26k0 fun w75 =>
 some (.inl (std.add .i64 v1 1, w75)))
 (some (.inr v2))
/-- spec.l13Shift -/
def Fq20 (a0 : TL) (a1 : Int) (a2 : Int) : Option (List TC) :=
 (whileP (σ := Int × (List TC)) (ρ := ((List TC))) (Lq20_x3 a0 a1 a2) (0, a0.fC)).bind fun y4 =>
 letO y4 fun y4k0 =>
 letO y4k0 fun w77 =>
 req (len a0.fC = len w77) <|
 some w77
theorem runq20 (a0 : TL) (a1 : Int) (a2 : Int) (r : List TC) (h : Fq20 a0 a1 a2 = some r) : Fun Tryz.prog 108 [.agg [.os 5 0 (len a0.fC)], .c (wi a1), .c (wi a2)] [(5, .arr .rw [] (len a0.fC) 4 (row gd (oC len gd) a0.fC))] (.tup []) [(5, .arr .rw [] (len r) 4 (row gd (oC len gd) r))] true := by
 refine Fun.of_wp (oneOf [4, 6, 8, 9, 100034]) tok mixed Tryz.func108 (by kernel_rfl) rfl Tryz.ntmps108 rfl ⟨fun i _ j _ k hk => (noref (rC _ _) hk).elim, tv⟩ (fun _ => ⟨(by simp [AV.flat, AV.flat1, AC.flat]), ⟨fun i _ j _ => fl_oncCell _ _, tv⟩⟩) ?_
 unfold Fq20 at h
 unfold Lq20_x3 at h
 unfold Lq20_x25 at h
 generalize hLEN : @len = LEN, hGD : @gd = GD, hA : std = A, hP : Tryz.prog = P at *
 cbv
 replace h := ob_ h
 obtain ⟨y4, hr5, hN6⟩ := h
 refine loop_cut hr5 (fun x => (sp 46 [(1, .c (wi a1)), (2, .c (wi a2)), (3, .c (.ptr 192 0)), (6, .c (wi x.1))] [(192, .var [.os 5 0 (LEN a0.fC)]), (5, .arr .rw [] (LEN a0.fC) 4 (row GD (oC LEN GD) x.2))])) ?_ (fun y e s => (fun (w : (List TC)) => e = .exit 0 /\ s.le (sp 46 [] [(5, .arr .rw [] (LEN a0.fC) 4 (row GD (oC LEN GD) w))])) y) ?_ ?_
 ·clear hr5 hN6
  show St.le _ _
  exact lsp rfl zl4 ⟨rfl, oS, tv⟩ rfl
 ·clear hr5 hN6
  intro x z10 h K8 hK9 hY7
  obtain ⟨x0_, x1_⟩ := x
  replace h := ol h
  obtain ⟨v1, hv1, h⟩ := h
  have hv1 : v1 = x0_ := hv1
  subst hv1
  replace h := ol h
  obtain ⟨v2, hv2, h⟩ := h
  have hv2 : v2 = x1_ := hv2
  subst hv2
  cbv
  refine fork (fun b76 => ?_) (fun b76 => ?_)
  ·replace h := ot b76 h
   cbv
   replace h := ob_ h
   obtain ⟨y15, hy16, h⟩ := h
   obtain ⟨S19, hS20⟩ : ∃ S, S = (sp 46 [(1, .c (wi a1)), (2, .c (wi a2)), (3, .c (.ptr 192 0)), (6, .c (wi v1)), (7, .c (.os 1346 0 (LEN (GD v2 (A.nadd 0 (A.toN v1))).fI)))] [(192, .var [.os 5 0 (LEN a0.fC)]), (1346, .arr .rw [] (LEN (GD v2 (A.nadd 0 (A.toN v1))).fI) 8 (row GD (eI) (GD v2 (A.nadd 0 (A.toN v1))).fI)), (5, .arr .rw [1346] (LEN a0.fC) 4 (pC (row GD (oC LEN GD) v2) (A.nadd 0 (A.toN v1)) [ws (GD v2 (A.nadd 0 (A.toN v1))).fN, .ow (LEN (GD v2 (A.nadd 0 (A.toN v1))).fS) 5 (row GD (eS) (GD v2 (A.nadd 0 (A.toN v1))).fS), .ow (LEN (GD v2 (A.nadd 0 (A.toN v1))).fL) 4 (row GD (eL) (GD v2 (A.nadd 0 (A.toN v1))).fL), .os 1346 0 (LEN (GD v2 (A.nadd 0 (A.toN v1))).fI)]))]) := ⟨_, rfl⟩
   refine ⟨S19, ?_, ?_⟩
   ·clear h
    have h := hy16
    clear hy16
    cbv
    replace h := oq h
    obtain ⟨c21, h⟩ := h
    refine ⟨⟨c21, tv⟩, ?_⟩
    refine And.intro (by subst hA; have p := ix c21; first | exact p | exact ⟨p, tv⟩ | exact ⟨p, trivial, tv⟩) ?_
    refine ⟨_, rfl, _, (pC (row GD (oC LEN GD) v2) (A.nadd 0 (A.toN v1)) [ws (GD v2 (A.nadd 0 (A.toN v1))).fN, .ow (LEN (GD v2 (A.nadd 0 (A.toN v1))).fS) 5 (row GD (eS) (GD v2 (A.nadd 0 (A.toN v1))).fS), .ow (LEN (GD v2 (A.nadd 0 (A.toN v1))).fL) 4 (row GD (eL) (GD v2 (A.nadd 0 (A.toN v1))).fL), .os 1346 0 (LEN (GD v2 (A.nadd 0 (A.toN v1))).fI)]), rfl, wkOf ?_, ?_⟩
    ·refine patch_of ?_
     intro j hj
     match j, hj with | 0, _ => (rfl) | 1, _ => (rfl) | 2, _ => (rfl) | 3, _ => (rfl) | (j_ + 4), h_ => omega
    refine ⟨_, row GD (eI) (GD v2 (A.nadd 0 (A.toN v1))).fI, rfl, wkOf ?_, ?_⟩
    ·exact fun i _ j _ => plain_cp (pl_encInstance _ _)
    cbv
    injection h with h
    subst h
    subst hS20
    exact lsp rfl zl5 ⟨rfl, oS, oS, tv⟩ rfl
   ·clear hy16
    subst hS20
    replace h := oq h
    obtain ⟨c22, h⟩ := h
    cbv
    replace h := ob_ h
    obtain ⟨y26, hr27, hN28⟩ := h
    refine loop_cut hr27 (fun x => (sp 46 [(1, .c (wi a1)), (2, .c (wi a2)), (3, .c (.ptr 192 0)), (6, .c (wi v1)), (7, .c (.os 1346 0 (LEN (GD v2 (A.nadd 0 (A.toN v1))).fI))), (8, .c (wi x.1))] [(192, .var [.os 5 0 (LEN a0.fC)]), (1346, .arr .rw [] (LEN (GD v2 (A.nadd 0 (A.toN v1))).fI) 8 (row GD (eI) x.2)), (5, .arr .rw [1346] (LEN a0.fC) 4 (pC (row GD (oC LEN GD) v2) (A.nadd 0 (A.toN v1)) [ws (GD v2 (A.nadd 0 (A.toN v1))).fN, .ow (LEN (GD v2 (A.nadd 0 (A.toN v1))).fS) 5 (row GD (eS) (GD v2 (A.nadd 0 (A.toN v1))).fS), .ow (LEN (GD v2 (A.nadd 0 (A.toN v1))).fL) 4 (row GD (eL) (GD v2 (A.nadd 0 (A.toN v1))).fL), .os 1346 0 (LEN (GD v2 (A.nadd 0 (A.toN v1))).fI)]))])) ?_ (fun y e s => (fun (w : (List TC)) => e = .exit 2 /\ s.le (sp 46 [(1, .c (wi a1)), (2, .c (wi a2)), (3, .c (.ptr 192 0)), (6, .c (wi v1))] [(192, .var [.os 5 0 (LEN a0.fC)]), (5, .arr .rw [] (LEN a0.fC) 4 (row GD (oC LEN GD) w))])) y) ?_ ?_
    ·clear hr27 hN28
     show St.le _ _
     exact lsp rfl zl6 ⟨rfl, oS, oS, tv⟩ rfl
    ·clear hr27 hN28
     intro x z32 h K30 hK31 hY29
     obtain ⟨x0_, x1_⟩ := x
     replace h := ol h
     obtain ⟨v23, hv23, h⟩ := h
     have hv23 : v23 = x0_ := hv23
     subst hv23
     replace h := ol h
     obtain ⟨v24, hv24, h⟩ := h
     have hv24 : v24 = x1_ := hv24
     subst hv24
     cbv
     replace h := ob_ h
     obtain ⟨y37, hy38, h⟩ := h
     obtain ⟨S41, hS42⟩ : ∃ S, S = (sp 46 [(1, .c (wi a1)), (2, .c (wi a2)), (3, .c (.ptr 192 0)), (6, .c (wi v1)), (7, .c (.os 1346 0 (LEN (GD v2 (A.nadd 0 (A.toN v1))).fI))), (8, .c (wi v23)), (25, .c (.v (.bool y37)))] [(192, .var [.os 5 0 (LEN a0.fC)]), (1346, .arr .rw [] (LEN (GD v2 (A.nadd 0 (A.toN v1))).fI) 8 (row GD (eI) v24)), (5, .arr .rw [1346] (LEN a0.fC) 4 (pC (row GD (oC LEN GD) v2) (A.nadd 0 (A.toN v1)) [ws (GD v2 (A.nadd 0 (A.toN v1))).fN, .ow (LEN (GD v2 (A.nadd 0 (A.toN v1))).fS) 5 (row GD (eS) (GD v2 (A.nadd 0 (A.toN v1))).fS), .ow (LEN (GD v2 (A.nadd 0 (A.toN v1))).fL) 4 (row GD (eL) (GD v2 (A.nadd 0 (A.toN v1))).fL), .os 1346 0 (LEN (GD v2 (A.nadd 0 (A.toN v1))).fI)]))]) := ⟨_, rfl⟩
     refine ⟨S41, ?_, ?_⟩
     ·clear h
      have h := hy38
      clear hy38
      cbv
      injection h with h
      subst h
      subst hS42
      exact lsp rfl zl7 ⟨rfl, oS, oS, tv⟩ rfl
     ·clear hy38
      subst hS42
      replace h := ol h
      obtain ⟨w43, hw43, h⟩ := h
      have hw43 : w43 = y37 := hw43
      subst hw43
      cbv
      refine fork (fun b74 => ?_) (fun b74 => ?_)
      ·replace h := ot b74 h
       cbv
       replace h := ob_ h
       obtain ⟨y44, hy45, h⟩ := h
       obtain ⟨S48, hS49⟩ : ∃ S, S = (sp 46 [(1, .c (wi a1)), (2, .c (wi a2)), (3, .c (.ptr 192 0)), (6, .c (wi v1)), (7, .c (.os 1346 0 (LEN (GD v2 (A.nadd 0 (A.toN v1))).fI))), (8, .c (wi v23)), (34, .c (.v (.bool y44)))] [(192, .var [.os 5 0 (LEN a0.fC)]), (1346, .arr .rw [] (LEN (GD v2 (A.nadd 0 (A.toN v1))).fI) 8 (row GD (eI) v24)), (5, .arr .rw [1346] (LEN a0.fC) 4 (pC (row GD (oC LEN GD) v2) (A.nadd 0 (A.toN v1)) [ws (GD v2 (A.nadd 0 (A.toN v1))).fN, .ow (LEN (GD v2 (A.nadd 0 (A.toN v1))).fS) 5 (row GD (eS) (GD v2 (A.nadd 0 (A.toN v1))).fS), .ow (LEN (GD v2 (A.nadd 0 (A.toN v1))).fL) 4 (row GD (eL) (GD v2 (A.nadd 0 (A.toN v1))).fL), .os 1346 0 (LEN (GD v2 (A.nadd 0 (A.toN v1))).fI)]))]) := ⟨_, rfl⟩
       refine ⟨S48, ?_, ?_⟩
       ·clear h
        have h := hy45
        clear hy45
        cbv
        replace h := oq h
        obtain ⟨c51, h⟩ := h
        refine ⟨⟨c51, tv⟩, ?_⟩
        refine And.intro (by subst hA; have p := ix c51; first | exact p | exact ⟨p, tv⟩ | exact ⟨p, trivial, tv⟩) ?_
        injection h with h
        subst h
        subst hS49
        exact lsp rfl zl7 ⟨rfl, oS, oS, tv⟩ rfl
       ·clear hy45
        subst hS49
        replace h := ol h
        obtain ⟨w50, hw50, h⟩ := h
        have hw50 : w50 = y44 := hw50
        subst hw50
        cbv
        replace h := ob_ h
        obtain ⟨y52, hy53, h⟩ := h
        obtain ⟨S56, hS57⟩ : ∃ S, S = some (sp 46 [(1, .c (wi a1)), (2, .c (wi a2)), (3, .c (.ptr 192 0)), (6, .c (wi v1)), (7, .c (.os 1346 0 (LEN (GD v2 (A.nadd 0 (A.toN v1))).fI))), (8, .c (wi v23))] [(192, .var [.os 5 0 (LEN a0.fC)]), (1346, .arr .rw [] (LEN (GD v2 (A.nadd 0 (A.toN v1))).fI) 8 (row GD (eI) y52)), (5, .arr .rw [1346] (LEN a0.fC) 4 (pC (row GD (oC LEN GD) v2) (A.nadd 0 (A.toN v1)) [ws (GD v2 (A.nadd 0 (A.toN v1))).fN, .ow (LEN (GD v2 (A.nadd 0 (A.toN v1))).fS) 5 (row GD (eS) (GD v2 (A.nadd 0 (A.toN v1))).fS), .ow (LEN (GD v2 (A.nadd 0 (A.toN v1))).fL) 4 (row GD (eL) (GD v2 (A.nadd 0 (A.toN v1))).fL), .os 1346 0 (LEN (GD v2 (A.nadd 0 (A.toN v1))).fI)]))]) := ⟨_, rfl⟩
        refine ⟨S56, ?_, ?_⟩
        ·clear h
         have h := hy53
         clear hy53
         cbv
         refine fork (fun b70 => ?_) (fun b70 => ?_)
         ·replace h := ot b70 h
          cbv
          replace h := ob_ h
          obtain ⟨y59, hy60, h⟩ := h
          obtain ⟨S63, hS64⟩ : ∃ S, S = (sp 46 [(1, .c (wi a1)), (2, .c (wi a2)), (3, .c (.ptr 192 0)), (6, .c (wi v1)), (7, .c (.os 1346 0 (LEN (GD v2 (A.nadd 0 (A.toN v1))).fI))), (8, .c (wi v23))] [(192, .var [.os 5 0 (LEN a0.fC)]), (1346, .arr .rw [] (LEN (GD v2 (A.nadd 0 (A.toN v1))).fI) 8 (row GD (eI) y59)), (5, .arr .rw [1346] (LEN a0.fC) 4 (pC (row GD (oC LEN GD) v2) (A.nadd 0 (A.toN v1)) [ws (GD v2 (A.nadd 0 (A.toN v1))).fN, .ow (LEN (GD v2 (A.nadd 0 (A.toN v1))).fS) 5 (row GD (eS) (GD v2 (A.nadd 0 (A.toN v1))).fS), .ow (LEN (GD v2 (A.nadd 0 (A.toN v1))).fL) 4 (row GD (eL) (GD v2 (A.nadd 0 (A.toN v1))).fL), .os 1346 0 (LEN (GD v2 (A.nadd 0 (A.toN v1))).fI)]))]) := ⟨_, rfl⟩
          refine ⟨S63, ?_, ?_⟩
          ·clear h
           have h := hy60
           clear hy60
           cbv
           replace h := oq h
           obtain ⟨c66, h⟩ := h
           refine ⟨⟨c66, tv⟩, ?_⟩
           refine And.intro (by subst hA; have p := ix c66; first | exact p | exact ⟨p, tv⟩ | exact ⟨p, trivial, tv⟩) ?_
           replace h := oq h
           obtain ⟨c67, h⟩ := h
           refine ⟨⟨c67, tv⟩, ?_⟩
           replace h := oq h
           obtain ⟨c69, h⟩ := h
           replace h := ol h
           obtain ⟨l68, hl68, h⟩ := h
           refine And.intro (by subst hA; have p := ix c67; first | exact p | exact ⟨p, tv⟩ | exact ⟨p, trivial, tv⟩) ?_
           refine ⟨_, rfl, _, row GD (eI) l68, rfl, wkOf ?_, ?_⟩
           ·subst hGD hLEN hA
            rw [c69] at c67
            refine upd_set hl68 (ix c67) ?_ ?_
            ·intro b hb hh
             match b, hb, hh with | 0, _, hh => exact rfl | 1, _, hh => exact (absurd hh (nd rfl)) | 2, _, hh => exact (absurd hh (nd rfl)) | 3, _, hh => exact (absurd hh (nd rfl)) | 4, _, hh => exact (absurd hh (nd rfl)) | 5, _, hh => exact (absurd hh (nd rfl)) | 6, _, hh => exact (absurd hh (nd rfl)) | 7, _, hh => exact (absurd hh (nd rfl)) | (b_ + 8), h_, _ => omega
            ·intro b hb hh
             match b, hb, hh with | 0, _, hh => exact (hh (yd rfl)).elim | 1, _, hh => exact rfl | 2, _, hh => exact rfl | 3, _, hh => exact rfl | 4, _, hh => exact rfl | 5, _, hh => exact rfl | 6, _, hh => exact rfl | 7, _, hh => exact rfl | (b_ + 8), h_, _ => omega
           cbv
           injection h with h
           subst h
           subst hS64
           exact lsp rfl zl6 ⟨rfl, oS, oS, tv⟩ rfl
          ·clear hy60
           subst hS64
           replace h := ol h
           obtain ⟨w65, hw65, h⟩ := h
           have hw65 : w65 = y59 := hw65
           subst hw65
           cbv
           injection h with h
           subst h
           subst hS57
           exact lsp rfl zl6 ⟨rfl, oS, oS, tv⟩ rfl
         ·replace h := og b70 h
          cbv
          injection h with h
          subst h
          subst hS57
          exact lsp rfl zl6 ⟨rfl, oS, oS, tv⟩ rfl
        ·clear hy53
         subst hS57
         replace h := ol h
         obtain ⟨w58, hw58, h⟩ := h
         have hw58 : w58 = y52 := hw58
         subst hw58
         cbv
         injection h with h
         refine hK31 _ h.symm _ ?_
         exact lsp rfl zl6 ⟨rfl, oS, oS, tv⟩ rfl
      ·replace h := og b74 h
       cbv
       replace h := oq h
       obtain ⟨c71, h⟩ := h
       replace h := oq h
       obtain ⟨c73, h⟩ := h
       replace h := ol h
       obtain ⟨l72, hl72, h⟩ := h
       injection h with h
       refine hY29 _ h.symm _ _ (And.intro rfl ?_) (by intro hh; cases hh)
       refine St.le_trans (le_foldP 5 3 1346 rfl rfl rfl (by decide) (by subst hA; exact ix c22) (by decide) rfl (fun _ _ => rC _ _)) ?_
       exact lsp rfl zl4 ⟨rfl, ⟨fun hw => hw, fun c hc => (by cases hc), .inr (fun i _ j _ z hz => (noref (rC _ _) hz).elim), rfl, rfl, (by subst hGD hLEN hA; exact patch_set hl72 (ix (by rw [<- c73]; exact c22)) (by intro j hj; match j, hj with | 0, _ => rfl | 1, _ => rfl | 2, _ => rfl | 3, _ => exact (by first | rfl | exact congrArg (fun n => AC.ow n _ _) (Eq.symm (by assumption)) | exact congrArg (fun n => AC.ow n _ _) (by assumption)) | (j_ + 4), h_ => omega))⟩, tv⟩ rfl
    ·clear hr27
     have h := hN28
     clear hN28
     intro e35 s36 q34 hne
     replace h := ol h
     obtain ⟨y26k0, hyk, h⟩ := h
     have hyk : y26k0 = y26 := hyk
     subst hyk
     obtain ⟨rfl, q34⟩ := q34
     replace h := ol h
     obtain ⟨w75, hw75, h⟩ := h
     have hw75 : w75 = y26k0 := hw75
     subst hw75
     cbv
     refine ⟨_, q34, ?_⟩
     cbv
     injection h with h
     refine hK9 _ h.symm _ ?_
     exact lsp rfl zl4 ⟨rfl, oS, tv⟩ rfl
  ·replace h := og b76 h
   cbv
   injection h with h
   refine hY7 _ h.symm _ _ (And.intro rfl ?_) (by intro hh; cases hh)
   exact lsp rfl trivial ⟨oS, tv⟩ rfl
 ·clear hr5
  have h := hN6
  clear hN6
  intro e13 s14 q12 hne
  replace h := ol h
  obtain ⟨y4k0, hyk, h⟩ := h
  have hyk : y4k0 = y4 := hyk
  subst hyk
  obtain ⟨rfl, q12⟩ := q12
  replace h := ol h
  obtain ⟨w77, hw77, h⟩ := h
  have hw77 : w77 = y4k0 := hw77
  subst hw77
  cbv
  refine ⟨_, q12, ?_⟩
  cbv
  replace h := oq h
  obtain ⟨c78, h⟩ := h
  injection h with h
  subst h
  refine ⟨(sp 46 [] [(5, .arr .rw [] (LEN w77) 4 (row GD (oC LEN GD) w77))]), ?_, ?_⟩
  ·rw [c78]
   exact lsp rfl trivial ⟨oS, tv⟩ rfl
  ·exact ⟨lR _, ⟨oS, tv⟩, rfl⟩

/-- spec.l13Do -/
def Fq80 (a0 : TL) (a1 : TE) : Option (TL) :=
 br (std.eq a1.fk 8)
 ((Fq20 a0 a1.fc 1).bind fun y1 =>
 req (len y1 = len a0.fC) <|
 req (std.upTo (std.ofN (len a0.fC)) (len a0.fC)) <|
 req (std.upTo a1.fc (std.toN (std.ofN (len a0.fC)))) <|
 req (std.upTo a1.fc (len a0.fC)) <|
 letO (List.take (std.nsub (std.toN (std.ofN (len a0.fC))) (std.toN a1.fc)) (List.drop (std.nadd 0 (std.toN a1.fc)) y1)) fun l7 =>
 req (std.room (std.nadd (len ([] : List TC)) (std.nsub (std.toN (std.ofN (len a0.fC))) (std.toN a1.fc))) 88) <|
 req (std.nsub (std.toN (std.ofN (len a0.fC))) (std.toN a1.fc) = len l7) <|
 req ((len a0.fC) <= 5000) <|
 letO (([] : List TC) ++ l7) fun l8 =>
 req (std.upTo a1.fc (len a0.fC)) <|
 req (std.upTo 0 (std.toN a1.fc)) <|
 letO (List.take (std.nsub (std.toN a1.fc) (std.toN 0)) (List.drop (std.nadd 0 (std.toN 0)) y1)) fun l16 =>
 req (std.room (std.nadd (len ([] : List TC)) (std.nsub (std.toN a1.fc) (std.toN 0))) 88) <|
 req (std.nsub (std.toN a1.fc) (std.toN 0) = len l16) <|
 req ((std.nadd 0 (std.toN 0)) + (std.nsub (std.toN a1.fc) (std.toN 0)) <= (std.nadd 0 (std.toN a1.fc)) \/ (std.nadd 0 (std.toN a1.fc)) + (std.nsub (std.toN (std.ofN (len a0.fC))) (std.toN a1.fc)) <= (std.nadd 0 (std.toN 0))) <|
 req ((len a0.fC) <= 5000) <|
 letO (([] : List TC) ++ l16) fun l17 =>
 letO ([(TC.mk a1.fN ([] : List TS) ([] : List TB) ([] : List TI))] : List TC) fun l23 =>
 req (std.room (std.nadd (len l17) (len l23)) 88) <|
 letO (l17 ++ l23) fun l25 =>
 req (std.room (std.nadd (len l25) (len l8)) 88) <|
 letO (l25 ++ l8) fun l28 =>
 some (TL.mk l28))
 (br (std.eq a1.fk 9)
 (req (std.upTo a1.fc (len a0.fC)) <|
 req (std.upTo 0 (std.toN a1.fc)) <|
 letO (List.take (std.nsub (std.toN a1.fc) (std.toN 0)) (List.drop (std.nadd 0 (std.toN 0)) a0.fC)) fun l35 =>
 req (std.room (std.nadd (len ([] : List TC)) (std.nsub (std.toN a1.fc) (std.toN 0))) 88) <|
 req (std.nsub (std.toN a1.fc) (std.toN 0) = len l35) <|
 req ((len a0.fC) <= 5000) <|
 letO (([] : List TC) ++ l35) fun l36 =>
 req (std.upTo (std.ofN (len a0.fC)) (len a0.fC)) <|
 req (std.upTo (std.add .i64 a1.fc 1) (std.toN (std.ofN (len a0.fC)))) <|
 req (std.upTo (std.add .i64 a1.fc 1) (len a0.fC)) <|
 letO (List.take (std.nsub (std.toN (std.ofN (len a0.fC))) (std.toN (std.add .i64 a1.fc 1))) (List.drop (std.nadd 0 (std.toN (std.add .i64 a1.fc 1))) a0.fC)) fun l44 =>
 req (std.room (std.nadd (len l36) (std.nsub (std.toN (std.ofN (len a0.fC))) (std.toN (std.add .i64 a1.fc 1)))) 88) <|
 req (std.nsub (std.toN (std.ofN (len a0.fC))) (std.toN (std.add .i64 a1.fc 1)) = len l44) <|
 req ((std.nadd 0 (std.toN (std.add .i64 a1.fc 1))) + (std.nsub (std.toN (std.ofN (len a0.fC))) (std.toN (std.add .i64 a1.fc 1))) <= (std.nadd 0 (std.toN 0)) \/ (std.nadd 0 (std.toN 0)) + (std.nsub (std.toN a1.fc) (std.toN 0)) <= (std.nadd 0 (std.toN (std.add .i64 a1.fc 1)))) <|
 req ((len a0.fC) <= 5000) <|
 letO (l36 ++ l44) fun l45 =>
 (Fq20 (TL.mk l45) a1.fc (-1)).bind fun y51 =>
 req (len y51 = len l45) <|
 req (len l45 = len y51) <|
 some (TL.mk y51))
 (req (std.inR a1.fc (len a0.fC)) <|
 ((
 some a1.fk
 ) : Option (Int)).bind fun y56 =>
 letO y56 fun w62 =>
 req (std.inR a1.fc (len a0.fC)) <|
 ((
 br (std.eq w62 1)
 (((
 letO ([] : List TS) fun l79 =>
 req (std.upTo (std.ofN (len (gd a0.fC (std.nadd 0 (std.toN a1.fc))).fS)) (len (gd a0.fC (std.nadd 0 (std.toN a1.fc))).fS)) <|
 req (std.upTo a1.fx (std.toN (std.ofN (len (gd a0.fC (std.nadd 0 (std.toN a1.fc))).fS)))) <|
 req (std.upTo a1.fx (len (gd a0.fC (std.nadd 0 (std.toN a1.fc))).fS)) <|
 letO (List.take (std.nsub (std.toN (std.ofN (len (gd a0.fC (std.nadd 0 (std.toN a1.fc))).fS))) (std.toN a1.fx)) (List.drop (std.nadd 0 (std.toN a1.fx)) (gd a0.fC (std.nadd 0 (std.toN a1.fc))).fS)) fun l84 =>
 req (std.room (std.nadd (len l79) (std.nsub (std.toN (std.ofN (len (gd a0.fC (std.nadd 0 (std.toN a1.fc))).fS))) (std.toN a1.fx))) 40) <|
 req (std.nsub (std.toN (std.ofN (len (gd a0.fC (std.nadd 0 (std.toN a1.fc))).fS))) (std.toN a1.fx) = len l84) <|
 letO (l79 ++ l84) fun l85 =>
 some (a0.fC, l85)
 ) : Option ((List TC) × (List TS))).bind fun y71 =>
 letO y71.1 fun w77 =>
 letO y71.2 fun w78 =>
 ((
 letO ([] : List TS) fun l96 =>
 req (std.upTo a1.fx (len (gd w77 (std.nadd 0 (std.toN a1.fc))).fS)) <|
 req (std.upTo 0 (std.toN a1.fx)) <|
 letO (List.take (std.nsub (std.toN a1.fx) (std.toN 0)) (List.drop (std.nadd 0 (std.toN 0)) (gd w77 (std.nadd 0 (std.toN a1.fc))).fS)) fun l100 =>
 req (std.room (std.nadd (len l96) (std.nsub (std.toN a1.fx) (std.toN 0))) 40) <|
 req (std.nsub (std.toN a1.fx) (std.toN 0) = len l100) <|
 letO (l96 ++ l100) fun l101 =>
 letO ([a1.fs_] : List TS) fun l105 =>
 req (std.room (std.nadd (len l101) (len l105)) 40) <|
 letO (l101 ++ l105) fun l107 =>
 req (std.room (std.nadd (len l107) (len w78)) 40) <|
 letO (l107 ++ w78) fun l110 =>
 req (len a0.fC = len w77) <|
 letO (List.set w77 (std.nadd 0 (std.toN a1.fc)) (TC.mk (gd w77 (std.nadd 0 (std.toN a1.fc))).fN l110 (gd w77 (std.nadd 0 (std.toN a1.fc))).fL (gd w77 (std.nadd 0 (std.toN a1.fc))).fI)) fun l113 =>
 some l113
 ) : Option ((List TC))).bind fun y89 =>
 letO y89 fun w95 =>
 some w95)
 (((
 br (std.eq w62 2)
 (((
 letO ([] : List TS) fun l129 =>
 req (std.upTo a1.fx (len (gd a0.fC (std.nadd 0 (std.toN a1.fc))).fS)) <|
 req (std.upTo 0 (std.toN a1.fx)) <|
 letO (List.take (std.nsub (std.toN a1.fx) (std.toN 0)) (List.drop (std.nadd 0 (std.toN 0)) (gd a0.fC (std.nadd 0 (std.toN a1.fc))).fS)) fun l133 =>
 req (std.room (std.nadd (len l129) (std.nsub (std.toN a1.fx) (std.toN 0))) 40) <|
 req (std.nsub (std.toN a1.fx) (std.toN 0) = len l133) <|
 letO (l129 ++ l133) fun l134 =>
 req (std.upTo (std.ofN (len (gd a0.fC (std.nadd 0 (std.toN a1.fc))).fS)) (len (gd a0.fC (std.nadd 0 (std.toN a1.fc))).fS)) <|
 req (std.upTo (std.add .i64 a1.fx 1) (std.toN (std.ofN (len (gd a0.fC (std.nadd 0 (std.toN a1.fc))).fS)))) <|
 req (std.upTo (std.add .i64 a1.fx 1) (len (gd a0.fC (std.nadd 0 (std.toN a1.fc))).fS)) <|
 letO (List.take (std.nsub (std.toN (std.ofN (len (gd a0.fC (std.nadd 0 (std.toN a1.fc))).fS))) (std.toN (std.add .i64 a1.fx 1))) (List.drop (std.nadd 0 (std.toN (std.add .i64 a1.fx 1))) (gd a0.fC (std.nadd 0 (std.toN a1.fc))).fS)) fun l141 =>
 req (std.room (std.nadd (len l134) (std.nsub (std.toN (std.ofN (len (gd a0.fC (std.nadd 0 (std.toN a1.fc))).fS))) (std.toN (std.add .i64 a1.fx 1)))) 40) <|
 req (std.nsub (std.toN (std.ofN (len (gd a0.fC (std.nadd 0 (std.toN a1.fc))).fS))) (std.toN (std.add .i64 a1.fx 1)) = len l141) <|
 letO (l134 ++ l141) fun l142 =>
 letO (List.set a0.fC (std.nadd 0 (std.toN a1.fc)) (TC.mk (gd a0.fC (std.nadd 0 (std.toN a1.fc))).fN l142 (gd a0.fC (std.nadd 0 (std.toN a1.fc))).fL (gd a0.fC (std.nadd 0 (std.toN a1.fc))).fI)) fun l146 =>
 some l146
 ) : Option ((List TC))).bind fun y122 =>
 letO y122 fun w128 =>
 some w128)
 (((
 br (std.eq w62 3)
 (((
 letO ([] : List TB) fun l162 =>
 req (std.upTo (std.ofN (len (gd a0.fC (std.nadd 0 (std.toN a1.fc))).fL)) (len (gd a0.fC (std.nadd 0 (std.toN a1.fc))).fL)) <|
 req (std.upTo a1.fx (std.toN (std.ofN (len (gd a0.fC (std.nadd 0 (std.toN a1.fc))).fL)))) <|
 req (std.upTo a1.fx (len (gd a0.fC (std.nadd 0 (std.toN a1.fc))).fL)) <|
 letO (List.take (std.nsub (std.toN (std.ofN (len (gd a0.fC (std.nadd 0 (std.toN a1.fc))).fL))) (std.toN a1.fx)) (List.drop (std.nadd 0 (std.toN a1.fx)) (gd a0.fC (std.nadd 0 (std.toN a1.fc))).fL)) fun l167 =>
 req (std.room (std.nadd (len l162) (std.nsub (std.toN (std.ofN (len (gd a0.fC (std.nadd 0 (std.toN a1.fc))).fL))) (std.toN a1.fx))) 40) <|
 req (std.nsub (std.toN (std.ofN (len (gd a0.fC (std.nadd 0 (std.toN a1.fc))).fL))) (std.toN a1.fx) = len l167) <|
 letO (l162 ++ l167) fun l168 =>
 some (a0.fC, l168)
 ) : Option ((List TC) × (List TB))).bind fun y154 =>
 letO y154.1 fun w160 =>
 letO y154.2 fun w161 =>
 ((
 letO ([] : List TB) fun l179 =>
 req (std.upTo a1.fx (len (gd w160 (std.nadd 0 (std.toN a1.fc))).fL)) <|
 req (std.upTo 0 (std.toN a1.fx)) <|
 letO (List.take (std.nsub (std.toN a1.fx) (std.toN 0)) (List.drop (std.nadd 0 (std.toN 0)) (gd w160 (std.nadd 0 (std.toN a1.fc))).fL)) fun l183 =>
 req (std.room (std.nadd (len l179) (std.nsub (std.toN a1.fx) (std.toN 0))) 40) <|
 req (std.nsub (std.toN a1.fx) (std.toN 0) = len l183) <|
 letO (l179 ++ l183) fun l184 =>
 letO ([a1.fl_] : List TB) fun l188 =>
 req (std.room (std.nadd (len l184) (len l188)) 40) <|
 letO (l184 ++ l188) fun l190 =>
 req (std.room (std.nadd (len l190) (len w161)) 40) <|
 letO (l190 ++ w161) fun l193 =>
 req (len a0.fC = len w160) <|
 letO (List.set w160 (std.nadd 0 (std.toN a1.fc)) (TC.mk (gd w160 (std.nadd 0 (std.toN a1.fc))).fN (gd w160 (std.nadd 0 (std.toN a1.fc))).fS l193 (gd w160 (std.nadd 0 (std.toN a1.fc))).fI)) fun l196 =>
 some l196
 ) : Option ((List TC))).bind fun y172 =>
 letO y172 fun w178 =>
 some w178)
 (((
 br (std.eq w62 4)
 (((
 letO ([] : List TB) fun l212 =>
 req (std.upTo a1.fx (len (gd a0.fC (std.nadd 0 (std.toN a1.fc))).fL)) <|
 req (std.upTo 0 (std.toN a1.fx)) <|
 letO (List.take (std.nsub (std.toN a1.fx) (std.toN 0)) (List.drop (std.nadd 0 (std.toN 0)) (gd a0.fC (std.nadd 0 (std.toN a1.fc))).fL)) fun l216 =>
 req (std.room (std.nadd (len l212) (std.nsub (std.toN a1.fx) (std.toN 0))) 40) <|
 req (std.nsub (std.toN a1.fx) (std.toN 0) = len l216) <|
 letO (l212 ++ l216) fun l217 =>
 req (std.upTo (std.ofN (len (gd a0.fC (std.nadd 0 (std.toN a1.fc))).fL)) (len (gd a0.fC (std.nadd 0 (std.toN a1.fc))).fL)) <|
 req (std.upTo (std.add .i64 a1.fx 1) (std.toN (std.ofN (len (gd a0.fC (std.nadd 0 (std.toN a1.fc))).fL)))) <|
 req (std.upTo (std.add .i64 a1.fx 1) (len (gd a0.fC (std.nadd 0 (std.toN a1.fc))).fL)) <|
 letO (List.take (std.nsub (std.toN (std.ofN (len (gd a0.fC (std.nadd 0 (std.toN a1.fc))).fL))) (std.toN (std.add .i64 a1.fx 1))) (List.drop (std.nadd 0 (std.toN (std.add .i64 a1.fx 1))) (gd a0.fC (std.nadd 0 (std.toN a1.fc))).fL)) fun l224 =>
 req (std.room (std.nadd (len l217) (std.nsub (std.toN (std.ofN (len (gd a0.fC (std.nadd 0 (std.toN a1.fc))).fL))) (std.toN (std.add .i64 a1.fx 1)))) 40) <|
 req (std.nsub (std.toN (std.ofN (len (gd a0.fC (std.nadd 0 (std.toN a1.fc))).fL))) (std.toN (std.add .i64 a1.fx 1)) = len l224) <|
 letO (l217 ++ l224) fun l225 =>
 letO (List.set a0.fC (std.nadd 0 (std.toN a1.fc)) (TC.mk (gd a0.fC (std.nadd 0 (std.toN a1.fc))).fN (gd a0.fC (std.nadd 0 (std.toN a1.fc))).fS l225 (gd a0.fC (std.nadd 0 (std.toN a1.fc))).fI)) fun l229 =>
 some l229
 ) : Option ((List TC))).bind fun y205 =>
 letO y205 fun w211 =>
 some w211)
 (((
 br (std.eq w62 5)
 (((
 letO ([] : List TI) fun l245 =>
 req (std.upTo (std.ofN (len (gd a0.fC (std.nadd 0 (std.toN a1.fc))).fI)) (len (gd a0.fC (std.nadd 0 (std.toN a1.fc))).fI)) <|
 req (std.upTo a1.fx (std.toN (std.ofN (len (gd a0.fC (std.nadd 0 (std.toN a1.fc))).fI)))) <|
 req (std.upTo a1.fx (len (gd a0.fC (std.nadd 0 (std.toN a1.fc))).fI)) <|
 letO (List.take (std.nsub (std.toN (std.ofN (len (gd a0.fC (std.nadd 0 (std.toN a1.fc))).fI))) (std.toN a1.fx)) (List.drop (std.nadd 0 (std.toN a1.fx)) (gd a0.fC (std.nadd 0 (std.toN a1.fc))).fI)) fun l250 =>
 req (std.room (std.nadd (len l245) (std.nsub (std.toN (std.ofN (len (gd a0.fC (std.nadd 0 (std.toN a1.fc))).fI))) (std.toN a1.fx))) 64) <|
 req (std.nsub (std.toN (std.ofN (len (gd a0.fC (std.nadd 0 (std.toN a1.fc))).fI))) (std.toN a1.fx) = len l250) <|
 letO (l245 ++ l250) fun l251 =>
 some (a0.fC, l251)
 ) : Option ((List TC) × (List TI))).bind fun y237 =>
 letO y237.1 fun w243 =>
 letO y237.2 fun w244 =>
 ((
 letO ([] : List TI) fun l262 =>
 req (std.upTo a1.fx (len (gd w243 (std.nadd 0 (std.toN a1.fc))).fI)) <|
 req (std.upTo 0 (std.toN a1.fx)) <|
 letO (List.take (std.nsub (std.toN a1.fx) (std.toN 0)) (List.drop (std.nadd 0 (std.toN 0)) (gd w243 (std.nadd 0 (std.toN a1.fc))).fI)) fun l266 =>
 req (std.room (std.nadd (len l262) (std.nsub (std.toN a1.fx) (std.toN 0))) 64) <|
 req (std.nsub (std.toN a1.fx) (std.toN 0) = len l266) <|
 letO (l262 ++ l266) fun l267 =>
 letO ([a1.fi_] : List TI) fun l271 =>
 req (std.room (std.nadd (len l267) (len l271)) 64) <|
 letO (l267 ++ l271) fun l273 =>
 req (std.room (std.nadd (len l273) (len w244)) 64) <|
 letO (l273 ++ w244) fun l276 =>
 req (len a0.fC = len w243) <|
 letO (List.set w243 (std.nadd 0 (std.toN a1.fc)) (TC.mk (gd w243 (std.nadd 0 (std.toN a1.fc))).fN (gd w243 (std.nadd 0 (std.toN a1.fc))).fS (gd w243 (std.nadd 0 (std.toN a1.fc))).fL l276)) fun l279 =>
 some l279
 ) : Option ((List TC))).bind fun y255 =>
 letO y255 fun w261 =>
 some w261)
 (((
 br (std.eq w62 6)
 (((
 letO ([] : List TI) fun l295 =>
 req (std.upTo a1.fx (len (gd a0.fC (std.nadd 0 (std.toN a1.fc))).fI)) <|
 req (std.upTo 0 (std.toN a1.fx)) <|
 letO (List.take (std.nsub (std.toN a1.fx) (std.toN 0)) (List.drop (std.nadd 0 (std.toN 0)) (gd a0.fC (std.nadd 0 (std.toN a1.fc))).fI)) fun l299 =>
 req (std.room (std.nadd (len l295) (std.nsub (std.toN a1.fx) (std.toN 0))) 64) <|
 req (std.nsub (std.toN a1.fx) (std.toN 0) = len l299) <|
 letO (l295 ++ l299) fun l300 =>
 req (std.upTo (std.ofN (len (gd a0.fC (std.nadd 0 (std.toN a1.fc))).fI)) (len (gd a0.fC (std.nadd 0 (std.toN a1.fc))).fI)) <|
 req (std.upTo (std.add .i64 a1.fx 1) (std.toN (std.ofN (len (gd a0.fC (std.nadd 0 (std.toN a1.fc))).fI)))) <|
 req (std.upTo (std.add .i64 a1.fx 1) (len (gd a0.fC (std.nadd 0 (std.toN a1.fc))).fI)) <|
 letO (List.take (std.nsub (std.toN (std.ofN (len (gd a0.fC (std.nadd 0 (std.toN a1.fc))).fI))) (std.toN (std.add .i64 a1.fx 1))) (List.drop (std.nadd 0 (std.toN (std.add .i64 a1.fx 1))) (gd a0.fC (std.nadd 0 (std.toN a1.fc))).fI)) fun l307 =>
 req (std.room (std.nadd (len l300) (std.nsub (std.toN (std.ofN (len (gd a0.fC (std.nadd 0 (std.toN a1.fc))).fI))) (std.toN (std.add .i64 a1.fx 1)))) 64) <|
 req (std.nsub (std.toN (std.ofN (len (gd a0.fC (std.nadd 0 (std.toN a1.fc))).fI))) (std.toN (std.add .i64 a1.fx 1)) = len l307) <|
 letO (l300 ++ l307) fun l308 =>
 letO (List.set a0.fC (std.nadd 0 (std.toN a1.fc)) (TC.mk (gd a0.fC (std.nadd 0 (std.toN a1.fc))).fN (gd a0.fC (std.nadd 0 (std.toN a1.fc))).fS (gd a0.fC (std.nadd 0 (std.toN a1.fc))).fL l308)) fun l312 =>
 some l312
 ) : Option ((List TC))).bind fun y288 =>
 letO y288 fun w294 =>
 some w294)
 (((
 br (std.eq w62 7)
 (((
 letO (List.set a0.fC (std.nadd 0 (std.toN a1.fc)) (TC.mk a1.fN (gd a0.fC (std.nadd 0 (std.toN a1.fc))).fS (gd a0.fC (std.nadd 0 (std.toN a1.fc))).fL (gd a0.fC (std.nadd 0 (std.toN a1.fc))).fI)) fun l327 =>
 some l327
 ) : Option ((List TC))).bind fun y320 =>
 letO y320 fun w326 =>
 some w326)
 (some a0.fC)
 ) : Option ((List TC))).bind fun y313 =>
 letO y313 fun w319 =>
 some w319)
 ) : Option ((List TC))).bind fun y281 =>
 letO y281 fun w287 =>
 some w287)
 ) : Option ((List TC))).bind fun y230 =>
 letO y230 fun w236 =>
 some w236)
 ) : Option ((List TC))).bind fun y198 =>
 letO y198 fun w204 =>
 some w204)
 ) : Option ((List TC))).bind fun y147 =>
 letO y147 fun w153 =>
 some w153)
 ) : Option ((List TC))).bind fun y115 =>
 letO y115 fun w121 =>
 some w121)
 ) : Option ((List TC))).bind fun y64 =>
 letO y64 fun w70 =>
 req (len a0.fC = len w70) <|
 some (TL.mk w70)))
theorem runq80 (a0 : TL) (a1 : TE) (r : TL) (h : Fq80 a0 a1 = some r) : Fun Tryz.prog 58 [.agg [.os 5 0 (len a0.fC)], .agg (cE a1)] [(5, .arr .rw [] (len a0.fC) 4 (row gd (oC len gd) a0.fC))] (.agg [.os 64000 0 (len r.fC)]) [(64000, .arr .rw [] (len r.fC) 4 (row gd (oC len gd) r.fC))] true := by
 refine Fun.of_wp (oneOf [13, 15, 16, 18, 20, 21, 23, 25, 26, 28, 30, 100073, 100100, 100121, 100148, 100169, 100196, 100217]) tok mixed Tryz.func58 (by kernel_rfl) rfl Tryz.ntmps58 rfl ⟨fun i _ j _ k hk => (noref (rC _ _) hk).elim, tv⟩ (fun _ => ⟨(by simp [AV.flat, AV.flat1, AC.flat]), ⟨fun i _ j _ => fl_oncCell _ _, tv⟩⟩) ?_
 unfold Fq80 at h
 have hfq20 := @runq20
 generalize hLEN : @len = LEN, hGD : @gd = GD, hA : std = A, hP : Tryz.prog = P at *
 cbv
 refine fork (fun b337 => ?_) (fun b337 => ?_)
 ·replace h := ot b337 h
  cbv
  replace h := ob_ h
  obtain ⟨y1, hy2, h⟩ := h
  replace h := oq h
  obtain ⟨c31, h⟩ := h
  refine ⟨⟨_, _, _, _, _, [(5, 5)], [(5, 5)]⟩, hfq20 _ _ _ _ hy2, ⟨zs3, ⟨oS, tv⟩, rfl, rfl, rfl, rfl, ⟨fun _ => ⟨c31.symm, rfl, fun c h => h⟩, tv⟩, rfl⟩, _, rfl, LEN a0.fC, _, c31, fun _ _ _ _ => .refl _, ?_⟩
  cbv
  have e3 : 0 = LEN ([] : List TC) := by subst hLEN; rfl
  refine ⟨_, congrArg (fun n => AV.c (AC.os 1344 0 n)) e3, _, row GD (oC LEN GD) ([] : List TC), e3, wkOf ?_, ?_⟩
  ·intro i hi j hj
   rw [<- e3] at hi
   subst hGD
   omega
  cbv
  replace h := oq h
  obtain ⟨c4, h⟩ := h
  replace h := oq h
  obtain ⟨c5, h⟩ := h
  replace h := oq h
  obtain ⟨c6, h⟩ := h
  refine And.intro (by first | exact ⟨c4, c5, (fun _ => c6), tv⟩ | exact ⟨c4, c5, (fun _ => c6)⟩ | exact ⟨c4, c5, tv⟩ | exact ⟨c4, c5⟩) ?_
  replace h := ol h
  obtain ⟨l7, hl7, h⟩ := h
  replace h := oq h
  obtain ⟨c10, h⟩ := h
  replace h := oq h
  obtain ⟨c11, h⟩ := h
  replace h := oq h
  obtain ⟨c12, h⟩ := h
  replace h := ol h
  obtain ⟨l8, hl8, h⟩ := h
  have e9 : A.nadd (LEN ([] : List TC)) (A.nsub (A.toN (A.ofN (LEN a0.fC))) (A.toN a1.fc)) = LEN l8 := by rw [c11]; subst hl8 hLEN hA; simp [std, len]
  refine ⟨c10, _, congrArg (fun n => AV.c (AC.os 1344 0 n)) e9, _, row GD (oC LEN GD) l8, e9, wkOf ?_, ?_⟩
  ·subst hGD hLEN hA
   exact app_nil_mvP hl7 c11 hl8 (Nat.le_refl _) (fun i h1 h2 j => rfl)
  refine ⟨_, (partC (A.nadd 0 (A.toN a1.fc)) (A.nsub (A.toN (A.ofN (LEN a0.fC))) (A.toN a1.fc)) (row GD (oC LEN GD) y1)), rfl, wkOf (partC_of c12), ?_⟩
  cbv
  have e13 : 0 = LEN ([] : List TC) := by subst hLEN; rfl
  refine ⟨_, congrArg (fun n => AV.c (AC.os 1792 0 n)) e13, _, row GD (oC LEN GD) ([] : List TC), e13, wkOf ?_, ?_⟩
  ·intro i hi j hj
   rw [<- e13] at hi
   subst hGD
   omega
  cbv
  replace h := oq h
  obtain ⟨c14, h⟩ := h
  replace h := oq h
  obtain ⟨c15, h⟩ := h
  refine And.intro (by first | exact ⟨c14, c15, (fun h0 => by cases h0), tv⟩ | exact ⟨c14, c15, (fun h0 => by cases h0)⟩ | exact ⟨c14, c15, tv⟩ | exact ⟨c14, c15⟩) ?_
  replace h := ol h
  obtain ⟨l16, hl16, h⟩ := h
  replace h := oq h
  obtain ⟨c19, h⟩ := h
  replace h := oq h
  obtain ⟨c20, h⟩ := h
  replace h := oq h
  obtain ⟨c21, h⟩ := h
  replace h := oq h
  obtain ⟨c22, h⟩ := h
  replace h := ol h
  obtain ⟨l17, hl17, h⟩ := h
  have e18 : A.nadd (LEN ([] : List TC)) (A.nsub (A.toN a1.fc) (A.toN 0)) = LEN l17 := by rw [c20]; subst hl17 hLEN hA; simp [std, len]
  refine ⟨c19, _, congrArg (fun n => AV.c (AC.os 1792 0 n)) e18, _, row GD (oC LEN GD) l17, e18, wkOf ?_, ?_⟩
  ·subst hGD hLEN hA
   exact app_nil_mvP hl16 c20 hl17 (Nat.le_refl _) (fun i h1 h2 j => (partC_out (out_of c21 h1 h2)).trans (rfl))
  refine ⟨_, (partC (A.nadd 0 (A.toN 0)) (A.nsub (A.toN a1.fc) (A.toN 0)) (partC (A.nadd 0 (A.toN a1.fc)) (A.nsub (A.toN (A.ofN (LEN a0.fC))) (A.toN a1.fc)) (row GD (oC LEN GD) y1))), rfl, wkOf (partC_of c22), ?_⟩
  cbv
  replace h := ol h
  obtain ⟨l23, hl23, h⟩ := h
  have e24 : 1 = LEN l23 := by subst hl23 hLEN; rfl
  refine ⟨_, congrArg (fun n => AV.c (AC.os 2432 0 n)) e24, _, row GD (oC LEN GD) l23, e24, ?_, ?_⟩
  ·intro i hi j hj
   rw [<- e24] at hi
   subst hl23
   subst hGD hLEN
   obtain rfl : i = 0 := (by omega) <;> obtain rfl | rfl | rfl | rfl : j = 0 \/ j = 1 \/ j = 2 \/ j = 3 := (by omega)
   all_goals first | rfl | exact AC.wk.refl _ | exact AC.wk.ow | exact AC.wk.bs
  cbv
  replace h := oq h
  obtain ⟨c27, h⟩ := h
  replace h := ol h
  obtain ⟨l25, hl25, h⟩ := h
  have e26 : A.nadd (LEN l17) (LEN l23) = LEN l25 := by subst hl25 hLEN hA; simp [std, len]
  refine ⟨c27, _, congrArg (fun n => AV.c (AC.os 1792 0 n)) e26, _, row GD (oC LEN GD) l25, e26, wkOf ?_, ?_⟩
  ·subst hGD hLEN hA
   exact app_mv (off := 0) hl25
  refine ⟨_, _, rfl, fun _ _ _ _ => .refl _, ?_⟩
  cbv
  replace h := oq h
  obtain ⟨c30, h⟩ := h
  replace h := ol h
  obtain ⟨l28, hl28, h⟩ := h
  have e29 : A.nadd (LEN l25) (LEN l8) = LEN l28 := by subst hl28 hLEN hA; simp [std, len]
  refine ⟨c30, _, congrArg (fun n => AV.c (AC.os 1792 0 n)) e29, _, row GD (oC LEN GD) l28, e29, wkOf ?_, ?_⟩
  ·subst hGD hLEN hA
   exact app_mv (off := 0) hl28
  refine ⟨_, _, rfl, fun _ _ _ _ => .refl _, ?_⟩
  cbv
  injection h with h
  subst h
  refine ⟨(sp 225 [(4, .c (.ptr 256 0))] [(256, .var [.os 64000 0 (LEN l28)]), (64000, .arr .rw [] (LEN l28) 4 (row GD (oC LEN GD) l28))]), ?_, ?_⟩
  ·refine St.le_trans (le_ren 1792 64000 (by decide) rfl) ?_
   exact lsp rfl zl1 ⟨rfl, oS, tv⟩ rfl
  ·exact ⟨lR _, ⟨oS, tv⟩, rfl⟩
 ·replace h := og b337 h
  cbv
  refine fork (fun b336 => ?_) (fun b336 => ?_)
  ·replace h := ot b336 h
   cbv
   have e32 : 0 = LEN ([] : List TC) := by subst hLEN; rfl
   refine ⟨_, congrArg (fun n => AV.c (AC.os 2944 0 n)) e32, _, row GD (oC LEN GD) ([] : List TC), e32, wkOf ?_, ?_⟩
   ·intro i hi j hj
    rw [<- e32] at hi
    subst hGD
    omega
   cbv
   replace h := oq h
   obtain ⟨c33, h⟩ := h
   replace h := oq h
   obtain ⟨c34, h⟩ := h
   refine And.intro (by first | exact ⟨c33, c34, (fun h0 => by cases h0), tv⟩ | exact ⟨c33, c34, (fun h0 => by cases h0)⟩ | exact ⟨c33, c34, tv⟩ | exact ⟨c33, c34⟩) ?_
   replace h := ol h
   obtain ⟨l35, hl35, h⟩ := h
   replace h := oq h
   obtain ⟨c38, h⟩ := h
   replace h := oq h
   obtain ⟨c39, h⟩ := h
   replace h := oq h
   obtain ⟨c40, h⟩ := h
   replace h := ol h
   obtain ⟨l36, hl36, h⟩ := h
   have e37 : A.nadd (LEN ([] : List TC)) (A.nsub (A.toN a1.fc) (A.toN 0)) = LEN l36 := by rw [c39]; subst hl36 hLEN hA; simp [std, len]
   refine ⟨c38, _, congrArg (fun n => AV.c (AC.os 2944 0 n)) e37, _, row GD (oC LEN GD) l36, e37, wkOf ?_, ?_⟩
   ·subst hGD hLEN hA
    exact app_nil_mvP hl35 c39 hl36 (Nat.le_refl _) (fun i h1 h2 j => rfl)
   refine ⟨_, (partC (A.nadd 0 (A.toN 0)) (A.nsub (A.toN a1.fc) (A.toN 0)) (row GD (oC LEN GD) a0.fC)), rfl, wkOf (partC_of c40), ?_⟩
   cbv
   replace h := oq h
   obtain ⟨c41, h⟩ := h
   replace h := oq h
   obtain ⟨c42, h⟩ := h
   replace h := oq h
   obtain ⟨c43, h⟩ := h
   refine And.intro (by first | exact ⟨c41, c42, (fun _ => c43), tv⟩ | exact ⟨c41, c42, (fun _ => c43)⟩ | exact ⟨c41, c42, tv⟩ | exact ⟨c41, c42⟩) ?_
   replace h := ol h
   obtain ⟨l44, hl44, h⟩ := h
   replace h := oq h
   obtain ⟨c47, h⟩ := h
   replace h := oq h
   obtain ⟨c48, h⟩ := h
   replace h := oq h
   obtain ⟨c49, h⟩ := h
   replace h := oq h
   obtain ⟨c50, h⟩ := h
   replace h := ol h
   obtain ⟨l45, hl45, h⟩ := h
   have e46 : A.nadd (LEN l36) (A.nsub (A.toN (A.ofN (LEN a0.fC))) (A.toN (A.add .i64 a1.fc 1))) = LEN l45 := by rw [c48]; subst hl45 hLEN hA; simp [std, len]
   refine ⟨c47, _, congrArg (fun n => AV.c (AC.os 2944 0 n)) e46, _, row GD (oC LEN GD) l45, e46, wkOf ?_, ?_⟩
   ·subst hGD hLEN hA
    exact app_mvP hl44 c48 hl45 (Nat.le_refl _) (fun i h1 h2 j => (partC_out (out_of c49 h1 h2)).trans (rfl))
   refine ⟨_, (partC (A.nadd 0 (A.toN (A.add .i64 a1.fc 1))) (A.nsub (A.toN (A.ofN (LEN a0.fC))) (A.toN (A.add .i64 a1.fc 1))) (partC (A.nadd 0 (A.toN 0)) (A.nsub (A.toN a1.fc) (A.toN 0)) (row GD (oC LEN GD) a0.fC))), rfl, wkOf (partC_of c50), ?_⟩
   cbv
   replace h := ob_ h
   obtain ⟨y51, hy52, h⟩ := h
   replace h := oq h
   obtain ⟨c54, h⟩ := h
   refine ⟨⟨_, _, _, _, _, [(5, 2944)], [(5, 2944)]⟩, hfq20 _ _ _ _ hy52, ⟨zs3, ⟨oS, tv⟩, rfl, rfl, rfl, rfl, ⟨fun _ => ⟨c54.symm, rfl, fun c h => h⟩, tv⟩, rfl⟩, _, rfl, LEN l45, _, c54, fun _ _ _ _ => .refl _, ?_⟩
   cbv
   replace h := oq h
   obtain ⟨c53, h⟩ := h
   injection h with h
   subst h
   refine ⟨(sp 225 [(4, .c (.ptr 256 0))] [(256, .var [.os 64000 0 (LEN y51)]), (64000, .arr .rw [] (LEN y51) 4 (row GD (oC LEN GD) y51))]), ?_, ?_⟩
   ·refine St.le_trans (le_ren 2944 64000 (by decide) rfl) ?_
    rw [c53]
    exact lsp rfl zl1 ⟨rfl, oS, tv⟩ rfl
   ·exact ⟨lR _, ⟨oS, tv⟩, rfl⟩
  ·replace h := og b336 h
   cbv
   replace h := oq h
   obtain ⟨c55, h⟩ := h
   refine ⟨⟨c55, tv⟩, ?_⟩
   replace h := ob_ h
   obtain ⟨y56, hy57, h⟩ := h
   obtain ⟨S60, hS61⟩ : ∃ S, S = (sp 225 [(2, .c (.ptr 128 0)), (3, .c (.ptr 192 0)), (4, .c (.ptr 256 0)), (5, .c (wi a1.fx)), (7, .c (.ep 5 (A.nadd 0 (A.toN a1.fc)) 0)), (72, .c (wi y56))] [(128, .var [.os 5 0 (LEN a0.fC)]), (192, .var (cE a1)), (256, .var [.v (.slice none 0 0)]), (5, .arr .rw [60004, 60006, 60008] (LEN a0.fC) 4 (pC (row GD (oC LEN GD) a0.fC) (A.nadd 0 (A.toN a1.fc)) [ws (GD a0.fC (A.nadd 0 (A.toN a1.fc))).fN, .os 60004 0 (LEN (GD a0.fC (A.nadd 0 (A.toN a1.fc))).fS), .os 60006 0 (LEN (GD a0.fC (A.nadd 0 (A.toN a1.fc))).fL), .os 60008 0 (LEN (GD a0.fC (A.nadd 0 (A.toN a1.fc))).fI)])), (60004, .arr .rw [] (LEN (GD a0.fC (A.nadd 0 (A.toN a1.fc))).fS) 5 (row GD (eS) (GD a0.fC (A.nadd 0 (A.toN a1.fc))).fS)), (60006, .arr .rw [] (LEN (GD a0.fC (A.nadd 0 (A.toN a1.fc))).fL) 4 (row GD (eL) (GD a0.fC (A.nadd 0 (A.toN a1.fc))).fL)), (60008, .arr .rw [] (LEN (GD a0.fC (A.nadd 0 (A.toN a1.fc))).fI) 8 (row GD (eI) (GD a0.fC (A.nadd 0 (A.toN a1.fc))).fI))]) := ⟨_, rfl⟩
   refine ⟨S60, ?_, ?_⟩
   ·clear h
    have h := hy57
    clear hy57
    cbv
    injection h with h
    subst h
    subst hS61
    refine St.le_trans (le_expose 5 (A.nadd 0 (A.toN a1.fc)) 60000 [ws (GD a0.fC (A.nadd 0 (A.toN a1.fc))).fN, .ow (LEN (GD a0.fC (A.nadd 0 (A.toN a1.fc))).fS) 5 (row GD (eS) (GD a0.fC (A.nadd 0 (A.toN a1.fc))).fS), .ow (LEN (GD a0.fC (A.nadd 0 (A.toN a1.fc))).fL) 4 (row GD (eL) (GD a0.fC (A.nadd 0 (A.toN a1.fc))).fL), .ow (LEN (GD a0.fC (A.nadd 0 (A.toN a1.fc))).fI) 8 (row GD (eI) (GD a0.fC (A.nadd 0 (A.toN a1.fc))).fI)] rfl (by subst hA; exact ix c55) rfl rfl rfl (by intro j hj; match j, hj with | 0, _ => rfl | 1, _ => rfl | 2, _ => rfl | 3, _ => rfl | (j_ + 4), h_ => omega) rfl) ?_
    exact lsp rfl zl6 ⟨rfl, rfl, rfl, ⟨fun hw => hw, fun c hc => (by cases hc), .inl rfl, rfl, rfl, (patch_of (by intro j hj; match j, hj with | 0, _ => rfl | 1, _ => rfl | 2, _ => rfl | 3, _ => rfl | (j_ + 4), h_ => omega))⟩, ⟨fun hw => hw, fun c hc => (by cases hc), .inl rfl, rfl, rfl, fun i _ j _ => plain_cp (pl_encShape _ _)⟩, ⟨fun hw => hw, fun c hc => (by cases hc), .inl rfl, rfl, rfl, fun i _ j _ => plain_cp (pl_encLabel _ _)⟩, ⟨fun hw => hw, fun c hc => (by cases hc), .inl rfl, rfl, rfl, fun i _ j _ => plain_cp (pl_encInstance _ _)⟩, tv⟩ rfl
   ·clear hy57
    subst hS61
    replace h := ol h
    obtain ⟨w62, hw62, h⟩ := h
    have hw62 : w62 = y56 := hw62
    subst hw62
    replace h := oq h
    obtain ⟨c63, h⟩ := h
    cbv
    replace h := ob_ h
    obtain ⟨y64, hy65, h⟩ := h
    obtain ⟨S68, hS69⟩ : ∃ S, S = some (sp 225 [(2, .c (.ptr 128 0)), (4, .c (.ptr 256 0))] [(128, .var [.os 5 0 (LEN a0.fC)]), (256, .var [.v (.slice none 0 0)]), (5, .arr .rw [] (LEN a0.fC) 4 (row GD (oC LEN GD) y64))]) := ⟨_, rfl⟩
    refine ⟨S68, ?_, ?_⟩
    ·clear h
     have h := hy65
     clear hy65
     cbv
     refine fork (fun b334 => ?_) (fun b334 => ?_)
     ·replace h := ot b334 h
      cbv
      replace h := ob_ h
      obtain ⟨y71, hy72, h⟩ := h
      obtain ⟨S75, hS76⟩ : ∃ S, S = (sp 225 [(2, .c (.ptr 128 0)), (3, .c (.ptr 192 0)), (4, .c (.ptr 256 0)), (5, .c (wi a1.fx)), (7, .c (.ep 5 (A.nadd 0 (A.toN a1.fc)) 0)), (8, .c (.os 4800 0 (LEN y71.2)))] [(128, .var [.os 5 0 (LEN a0.fC)]), (192, .var (cE a1)), (256, .var [.v (.slice none 0 0)]), (5, .arr .rw [] (LEN a0.fC) 4 (row GD (oC LEN GD) y71.1)), (4800, .arr .rw [] (LEN y71.2) 5 (row GD (eS) y71.2))]) := ⟨_, rfl⟩
      refine ⟨S75, ?_, ?_⟩
      ·clear h
       have h := hy72
       clear hy72
       cbv
       replace h := ol h
       obtain ⟨l79, hl79, h⟩ := h
       have e80 : 0 = LEN l79 := by subst hl79 hLEN; rfl
       refine ⟨_, congrArg (fun n => AV.c (AC.os 4800 0 n)) e80, _, row GD (eS) l79, e80, wkOf ?_, ?_⟩
       ·intro i hi j hj
        rw [<- e80] at hi
        subst hl79
        subst hGD
        omega
       cbv
       refine And.intro (by subst hA; have p := ix c55; first | exact p | exact ⟨p, tv⟩ | exact ⟨p, trivial, tv⟩) ?_
       replace h := oq h
       obtain ⟨c81, h⟩ := h
       replace h := oq h
       obtain ⟨c82, h⟩ := h
       replace h := oq h
       obtain ⟨c83, h⟩ := h
       refine And.intro (by first | exact ⟨c81, c82, (fun _ => c83), tv⟩ | exact ⟨c81, c82, (fun _ => c83)⟩ | exact ⟨c81, c82, tv⟩ | exact ⟨c81, c82⟩) ?_
       replace h := ol h
       obtain ⟨l84, hl84, h⟩ := h
       replace h := oq h
       obtain ⟨c87, h⟩ := h
       replace h := oq h
       obtain ⟨c88, h⟩ := h
       replace h := ol h
       obtain ⟨l85, hl85, h⟩ := h
       have e86 : A.nadd (LEN l79) (A.nsub (A.toN (A.ofN (LEN (GD a0.fC (A.nadd 0 (A.toN a1.fc))).fS))) (A.toN a1.fx)) = LEN l85 := by rw [c88]; subst hl85 hLEN hA; simp [std, len]
       refine ⟨c87, _, congrArg (fun n => AV.c (AC.os 4800 0 n)) e86, _, row GD (eS) l85, e86, wkOf ?_, ?_⟩
       ·subst hGD hLEN hA
        exact app_osP (pl_encShape) hl84 c88 hl85 (Nat.le_refl _)
       cbv
       injection h with h
       subst h
       subst hS76
       refine St.le_trans (le_foldP 5 1 60004 rfl rfl rfl (by decide) (by subst hA; exact ix c63) (by decide) rfl (fun _ _ => rC _ _)) ?_
       refine St.le_trans (le_foldP 5 2 60006 rfl rfl rfl (by decide) (by subst hA; exact ix c63) (by decide) rfl (fun _ _ => rC _ _)) ?_
       refine St.le_trans (le_foldP 5 3 60008 rfl rfl rfl (by decide) (by subst hA; exact ix c63) (by decide) rfl (fun _ _ => rC _ _)) ?_
       exact lsp rfl zl6 ⟨rfl, rfl, rfl, ⟨fun hw => hw, fun c hc => (by cases hc), .inr (fun i _ j _ z hz => (noref (rC _ _) hz).elim), rfl, rfl, (by subst hGD hLEN hA; exact patch_same (by intro j hj; match j, hj with | 0, _ => rfl | 1, _ => rfl | 2, _ => rfl | 3, _ => rfl | (j_ + 4), h_ => omega))⟩, oS, tv⟩ rfl
      ·clear hy72
       subst hS76
       obtain ⟨y71_0, y71_1⟩ := y71
       replace h := ol h
       obtain ⟨w77, hw77, h⟩ := h
       have hw77 : w77 = y71_0 := hw77
       subst hw77
       replace h := ol h
       obtain ⟨w78, hw78, h⟩ := h
       have hw78 : w78 = y71_1 := hw78
       subst hw78
       cbv
       replace h := ob_ h
       obtain ⟨y89, hy90, h⟩ := h
       obtain ⟨S93, hS94⟩ : ∃ S, S = (sp 225 [(2, .c (.ptr 128 0)), (4, .c (.ptr 256 0))] [(128, .var [.os 5 0 (LEN a0.fC)]), (256, .var [.v (.slice none 0 0)]), (5, .arr .rw [] (LEN a0.fC) 4 (row GD (oC LEN GD) y89))]) := ⟨_, rfl⟩
       refine ⟨S93, ?_, ?_⟩
       ·clear h
        have h := hy90
        clear hy90
        cbv
        replace h := ol h
        obtain ⟨l96, hl96, h⟩ := h
        have e97 : 0 = LEN l96 := by subst hl96 hLEN; rfl
        refine ⟨_, congrArg (fun n => AV.c (AC.os 5376 0 n)) e97, _, row GD (eS) l96, e97, wkOf ?_, ?_⟩
        ·intro i hi j hj
         rw [<- e97] at hi
         subst hl96
         subst hGD
         omega
        cbv
        refine And.intro (by subst hA; have p := ix c55; first | exact p | exact ⟨p, tv⟩ | exact ⟨p, trivial, tv⟩) ?_
        refine ⟨_, rfl, _, (pC (row GD (oC LEN GD) w77) (A.nadd 0 (A.toN a1.fc)) [ws (GD w77 (A.nadd 0 (A.toN a1.fc))).fN, .os 5634 0 (LEN (GD w77 (A.nadd 0 (A.toN a1.fc))).fS), .ow (LEN (GD w77 (A.nadd 0 (A.toN a1.fc))).fL) 4 (row GD (eL) (GD w77 (A.nadd 0 (A.toN a1.fc))).fL), .ow (LEN (GD w77 (A.nadd 0 (A.toN a1.fc))).fI) 8 (row GD (eI) (GD w77 (A.nadd 0 (A.toN a1.fc))).fI)]), rfl, wkOf ?_, ?_⟩
        ·refine patch_of ?_
         intro j hj
         match j, hj with | 0, _ => (rfl) | 1, _ => (rfl) | 2, _ => (rfl) | 3, _ => (rfl) | (j_ + 4), h_ => omega
        refine ⟨_, row GD (eS) (GD w77 (A.nadd 0 (A.toN a1.fc))).fS, rfl, wkOf ?_, ?_⟩
        ·exact fun i _ j _ => plain_cp (pl_encShape _ _)
        cbv
        replace h := oq h
        obtain ⟨c98, h⟩ := h
        replace h := oq h
        obtain ⟨c99, h⟩ := h
        refine And.intro (by first | exact ⟨c98, c99, (fun h0 => by cases h0), tv⟩ | exact ⟨c98, c99, (fun h0 => by cases h0)⟩ | exact ⟨c98, c99, tv⟩ | exact ⟨c98, c99⟩) ?_
        replace h := ol h
        obtain ⟨l100, hl100, h⟩ := h
        replace h := oq h
        obtain ⟨c103, h⟩ := h
        replace h := oq h
        obtain ⟨c104, h⟩ := h
        replace h := ol h
        obtain ⟨l101, hl101, h⟩ := h
        have e102 : A.nadd (LEN l96) (A.nsub (A.toN a1.fx) (A.toN 0)) = LEN l101 := by rw [c104]; subst hl101 hLEN hA; simp [std, len]
        refine ⟨c103, _, congrArg (fun n => AV.c (AC.os 5376 0 n)) e102, _, row GD (eS) l101, e102, wkOf ?_, ?_⟩
        ·subst hGD hLEN hA
         exact app_osP (pl_encShape) hl100 c104 hl101 (Nat.le_refl _)
        cbv
        replace h := ol h
        obtain ⟨l105, hl105, h⟩ := h
        have e106 : 1 = LEN l105 := by subst hl105 hLEN; rfl
        refine ⟨_, congrArg (fun n => AV.c (AC.os 6016 0 n)) e106, _, row GD (eS) l105, e106, wkOf ?_, ?_⟩
        ·intro i hi j hj
         rw [<- e106] at hi
         subst hl105
         subst hGD
         obtain rfl : i = 0 := (by omega) <;> obtain rfl | rfl | rfl | rfl | rfl : j = 0 \/ j = 1 \/ j = 2 \/ j = 3 \/ j = 4 := (by omega)
         all_goals rfl
        cbv
        replace h := oq h
        obtain ⟨c109, h⟩ := h
        replace h := ol h
        obtain ⟨l107, hl107, h⟩ := h
        have e108 : A.nadd (LEN l101) (LEN l105) = LEN l107 := by subst hl107 hLEN hA; simp [std, len]
        refine ⟨c109, _, congrArg (fun n => AV.c (AC.os 5376 0 n)) e108, _, row GD (eS) l107, e108, wkOf ?_, ?_⟩
        ·subst hGD hLEN hA
         exact app_os (off := 0) (pl_encShape) hl107 (Nat.le_refl _)
        cbv
        replace h := oq h
        obtain ⟨c112, h⟩ := h
        replace h := ol h
        obtain ⟨l110, hl110, h⟩ := h
        have e111 : A.nadd (LEN l107) (LEN w78) = LEN l110 := by subst hl110 hLEN hA; simp [std, len]
        refine ⟨c112, _, congrArg (fun n => AV.c (AC.os 5376 0 n)) e111, _, row GD (eS) l110, e111, wkOf ?_, ?_⟩
        ·subst hGD hLEN hA
         exact app_os (off := 0) (pl_encShape) hl110 (Nat.le_refl _)
        cbv
        refine And.intro (by subst hA; have p := ix c55; first | exact p | exact ⟨p, tv⟩ | exact ⟨p, trivial, tv⟩) ?_
        refine ⟨_, rfl, _, (pC (row GD (oC LEN GD) w77) (A.nadd 0 (A.toN a1.fc)) [ws (GD w77 (A.nadd 0 (A.toN a1.fc))).fN, .os 5376 0 (LEN l110), .ow (LEN (GD w77 (A.nadd 0 (A.toN a1.fc))).fL) 4 (row GD (eL) (GD w77 (A.nadd 0 (A.toN a1.fc))).fL), .ow (LEN (GD w77 (A.nadd 0 (A.toN a1.fc))).fI) 8 (row GD (eI) (GD w77 (A.nadd 0 (A.toN a1.fc))).fI)]), rfl, wkOf ?_, ?_⟩
        ·first | refine patch_of2 ?_ | refine patch_of2K (fun _ _ => rC _ _) ?_
         intro j hj
         match j, hj with | 0, _ => (rfl) | 1, _ => (rfl) | 2, _ => (rfl) | 3, _ => (rfl) | (j_ + 4), h_ => omega
        cbv
        replace h := oq h
        obtain ⟨c114, h⟩ := h
        replace h := ol h
        obtain ⟨l113, hl113, h⟩ := h
        injection h with h
        subst h
        subst hS94
        refine St.le_trans (le_foldP 5 1 5376 rfl rfl rfl (by decide) (by subst hA; exact ix c55) (by decide) rfl (fun _ _ => rC _ _)) ?_
        exact lsp rfl zl2 ⟨rfl, rfl, ⟨fun hw => hw, fun c hc => (by cases hc), .inr (fun i _ j _ z hz => (noref (rC _ _) hz).elim), rfl, rfl, (by subst hGD hLEN hA; exact patch_set hl113 (ix (by rw [<- c114]; exact c55)) (by intro j hj; match j, hj with | 0, _ => rfl | 1, _ => rfl | 2, _ => rfl | 3, _ => rfl | (j_ + 4), h_ => omega))⟩, tv⟩ rfl
       ·clear hy90
        subst hS94
        replace h := ol h
        obtain ⟨w95, hw95, h⟩ := h
        have hw95 : w95 = y89 := hw95
        subst hw95
        cbv
        injection h with h
        subst h
        subst hS69
        exact lsp rfl zl2 ⟨rfl, rfl, oS, tv⟩ rfl
     ·replace h := og b334 h
      cbv
      replace h := ob_ h
      obtain ⟨y115, hy116, h⟩ := h
      obtain ⟨S119, hS120⟩ : ∃ S, S = some (sp 225 [(2, .c (.ptr 128 0)), (4, .c (.ptr 256 0))] [(128, .var [.os 5 0 (LEN a0.fC)]), (256, .var [.v (.slice none 0 0)]), (5, .arr .rw [] (LEN a0.fC) 4 (row GD (oC LEN GD) y115))]) := ⟨_, rfl⟩
      refine ⟨S119, ?_, ?_⟩
      ·clear h
       have h := hy116
       clear hy116
       cbv
       refine fork (fun b333 => ?_) (fun b333 => ?_)
       ·replace h := ot b333 h
        cbv
        replace h := ob_ h
        obtain ⟨y122, hy123, h⟩ := h
        obtain ⟨S126, hS127⟩ : ∃ S, S = (sp 225 [(2, .c (.ptr 128 0)), (4, .c (.ptr 256 0))] [(128, .var [.os 5 0 (LEN a0.fC)]), (256, .var [.v (.slice none 0 0)]), (5, .arr .rw [] (LEN a0.fC) 4 (row GD (oC LEN GD) y122))]) := ⟨_, rfl⟩
        refine ⟨S126, ?_, ?_⟩
        ·clear h
         have h := hy123
         clear hy123
         cbv
         replace h := ol h
         obtain ⟨l129, hl129, h⟩ := h
         have e130 : 0 = LEN l129 := by subst hl129 hLEN; rfl
         refine ⟨_, congrArg (fun n => AV.c (AC.os 6592 0 n)) e130, _, row GD (eS) l129, e130, wkOf ?_, ?_⟩
         ·intro i hi j hj
          rw [<- e130] at hi
          subst hl129
          subst hGD
          omega
         cbv
         refine And.intro (by subst hA; have p := ix c55; first | exact p | exact ⟨p, tv⟩ | exact ⟨p, trivial, tv⟩) ?_
         replace h := oq h
         obtain ⟨c131, h⟩ := h
         replace h := oq h
         obtain ⟨c132, h⟩ := h
         refine And.intro (by first | exact ⟨c131, c132, (fun h0 => by cases h0), tv⟩ | exact ⟨c131, c132, (fun h0 => by cases h0)⟩ | exact ⟨c131, c132, tv⟩ | exact ⟨c131, c132⟩) ?_
         replace h := ol h
         obtain ⟨l133, hl133, h⟩ := h
         replace h := oq h
         obtain ⟨c136, h⟩ := h
         replace h := oq h
         obtain ⟨c137, h⟩ := h
         replace h := ol h
         obtain ⟨l134, hl134, h⟩ := h
         have e135 : A.nadd (LEN l129) (A.nsub (A.toN a1.fx) (A.toN 0)) = LEN l134 := by rw [c137]; subst hl134 hLEN hA; simp [std, len]
         refine ⟨c136, _, congrArg (fun n => AV.c (AC.os 6592 0 n)) e135, _, row GD (eS) l134, e135, wkOf ?_, ?_⟩
         ·subst hGD hLEN hA
          exact app_osP (pl_encShape) hl133 c137 hl134 (Nat.le_refl _)
         cbv
         refine And.intro (by subst hA; have p := ix c55; first | exact p | exact ⟨p, tv⟩ | exact ⟨p, trivial, tv⟩) ?_
         replace h := oq h
         obtain ⟨c138, h⟩ := h
         replace h := oq h
         obtain ⟨c139, h⟩ := h
         replace h := oq h
         obtain ⟨c140, h⟩ := h
         refine And.intro (by first | exact ⟨c138, c139, (fun _ => c140), tv⟩ | exact ⟨c138, c139, (fun _ => c140)⟩ | exact ⟨c138, c139, tv⟩ | exact ⟨c138, c139⟩) ?_
         replace h := ol h
         obtain ⟨l141, hl141, h⟩ := h
         replace h := oq h
         obtain ⟨c144, h⟩ := h
         replace h := oq h
         obtain ⟨c145, h⟩ := h
         replace h := ol h
         obtain ⟨l142, hl142, h⟩ := h
         have e143 : A.nadd (LEN l134) (A.nsub (A.toN (A.ofN (LEN (GD a0.fC (A.nadd 0 (A.toN a1.fc))).fS))) (A.toN (A.add .i64 a1.fx 1))) = LEN l142 := by rw [c145]; subst hl142 hLEN hA; simp [std, len]
         refine ⟨c144, _, congrArg (fun n => AV.c (AC.os 6592 0 n)) e143, _, row GD (eS) l142, e143, wkOf ?_, ?_⟩
         ·subst hGD hLEN hA
          exact app_osP (pl_encShape) hl141 c145 hl142 (Nat.le_refl _)
         cbv
         refine And.intro (by subst hA; have p := ix c55; first | exact p | exact ⟨p, tv⟩ | exact ⟨p, trivial, tv⟩) ?_
         refine ⟨_, rfl, _, (pC (row GD (oC LEN GD) a0.fC) (A.nadd 0 (A.toN a1.fc)) [ws (GD a0.fC (A.nadd 0 (A.toN a1.fc))).fN, .os 6592 0 (LEN l142), .os 60006 0 (LEN (GD a0.fC (A.nadd 0 (A.toN a1.fc))).fL), .os 60008 0 (LEN (GD a0.fC (A.nadd 0 (A.toN a1.fc))).fI)]), rfl, wkOf ?_, ?_⟩
         ·first | refine patch_of2 ?_ | refine patch_of2K (fun _ _ => rC _ _) ?_
          intro j hj
          match j, hj with | 0, _ => (rfl) | 1, _ => (rfl) | 2, _ => (rfl) | 3, _ => (rfl) | (j_ + 4), h_ => omega
         cbv
         replace h := ol h
         obtain ⟨l146, hl146, h⟩ := h
         injection h with h
         subst h
         subst hS127
         refine St.le_trans (le_foldP 5 1 6592 rfl rfl rfl (by decide) (by subst hA; exact ix c55) (by decide) rfl (fun _ _ => rC _ _)) ?_
         refine St.le_trans (le_foldP 5 2 60006 rfl rfl rfl (by decide) (by subst hA; exact ix c55) (by decide) rfl (fun _ _ => rC _ _)) ?_
         refine St.le_trans (le_foldP 5 3 60008 rfl rfl rfl (by decide) (by subst hA; exact ix c55) (by decide) rfl (fun _ _ => rC _ _)) ?_
         exact lsp rfl zl2 ⟨rfl, rfl, ⟨fun hw => hw, fun c hc => (by cases hc), .inr (fun i _ j _ z hz => (noref (rC _ _) hz).elim), rfl, rfl, (by subst hGD hLEN hA; exact patch_set hl146 (ix c55) (by intro j hj; match j, hj with | 0, _ => rfl | 1, _ => rfl | 2, _ => rfl | 3, _ => rfl | (j_ + 4), h_ => omega))⟩, tv⟩ rfl
        ·clear hy123
         subst hS127
         replace h := ol h
         obtain ⟨w128, hw128, h⟩ := h
         have hw128 : w128 = y122 := hw128
         subst hw128
         cbv
         injection h with h
         subst h
         subst hS120
         exact lsp rfl zl2 ⟨rfl, rfl, oS, tv⟩ rfl
       ·replace h := og b333 h
        cbv
        replace h := ob_ h
        obtain ⟨y147, hy148, h⟩ := h
        obtain ⟨S151, hS152⟩ : ∃ S, S = some (sp 225 [(2, .c (.ptr 128 0)), (4, .c (.ptr 256 0))] [(128, .var [.os 5 0 (LEN a0.fC)]), (256, .var [.v (.slice none 0 0)]), (5, .arr .rw [] (LEN a0.fC) 4 (row GD (oC LEN GD) y147))]) := ⟨_, rfl⟩
        refine ⟨S151, ?_, ?_⟩
        ·clear h
         have h := hy148
         clear hy148
         cbv
         refine fork (fun b332 => ?_) (fun b332 => ?_)
         ·replace h := ot b332 h
          cbv
          replace h := ob_ h
          obtain ⟨y154, hy155, h⟩ := h
          obtain ⟨S158, hS159⟩ : ∃ S, S = (sp 225 [(2, .c (.ptr 128 0)), (3, .c (.ptr 192 0)), (4, .c (.ptr 256 0)), (5, .c (wi a1.fx)), (7, .c (.ep 5 (A.nadd 0 (A.toN a1.fc)) 0)), (9, .c (.os 7872 0 (LEN y154.2)))] [(128, .var [.os 5 0 (LEN a0.fC)]), (192, .var (cE a1)), (256, .var [.v (.slice none 0 0)]), (5, .arr .rw [] (LEN a0.fC) 4 (row GD (oC LEN GD) y154.1)), (7872, .arr .rw [] (LEN y154.2) 4 (row GD (eL) y154.2))]) := ⟨_, rfl⟩
          refine ⟨S158, ?_, ?_⟩
          ·clear h
           have h := hy155
           clear hy155
           cbv
           replace h := ol h
           obtain ⟨l162, hl162, h⟩ := h
           have e163 : 0 = LEN l162 := by subst hl162 hLEN; rfl
           refine ⟨_, congrArg (fun n => AV.c (AC.os 7872 0 n)) e163, _, row GD (eL) l162, e163, wkOf ?_, ?_⟩
           ·intro i hi j hj
            rw [<- e163] at hi
            subst hl162
            subst hGD
            omega
           cbv
           refine And.intro (by subst hA; have p := ix c55; first | exact p | exact ⟨p, tv⟩ | exact ⟨p, trivial, tv⟩) ?_
           replace h := oq h
           obtain ⟨c164, h⟩ := h
           replace h := oq h
           obtain ⟨c165, h⟩ := h
           replace h := oq h
           obtain ⟨c166, h⟩ := h
           refine And.intro (by first | exact ⟨c164, c165, (fun _ => c166), tv⟩ | exact ⟨c164, c165, (fun _ => c166)⟩ | exact ⟨c164, c165, tv⟩ | exact ⟨c164, c165⟩) ?_
           replace h := ol h
           obtain ⟨l167, hl167, h⟩ := h
           replace h := oq h
           obtain ⟨c170, h⟩ := h
           replace h := oq h
           obtain ⟨c171, h⟩ := h
           replace h := ol h
           obtain ⟨l168, hl168, h⟩ := h
           have e169 : A.nadd (LEN l162) (A.nsub (A.toN (A.ofN (LEN (GD a0.fC (A.nadd 0 (A.toN a1.fc))).fL))) (A.toN a1.fx)) = LEN l168 := by rw [c171]; subst hl168 hLEN hA; simp [std, len]
           refine ⟨c170, _, congrArg (fun n => AV.c (AC.os 7872 0 n)) e169, _, row GD (eL) l168, e169, wkOf ?_, ?_⟩
           ·subst hGD hLEN hA
            exact app_osP (pl_encLabel) hl167 c171 hl168 (Nat.le_refl _)
           cbv
           injection h with h
           subst h
           subst hS159
           refine St.le_trans (le_foldP 5 1 60004 rfl rfl rfl (by decide) (by subst hA; exact ix c63) (by decide) rfl (fun _ _ => rC _ _)) ?_
           refine St.le_trans (le_foldP 5 2 60006 rfl rfl rfl (by decide) (by subst hA; exact ix c63) (by decide) rfl (fun _ _ => rC _ _)) ?_
           refine St.le_trans (le_foldP 5 3 60008 rfl rfl rfl (by decide) (by subst hA; exact ix c63) (by decide) rfl (fun _ _ => rC _ _)) ?_
           exact lsp rfl zl6 ⟨rfl, rfl, rfl, ⟨fun hw => hw, fun c hc => (by cases hc), .inr (fun i _ j _ z hz => (noref (rC _ _) hz).elim), rfl, rfl, (by subst hGD hLEN hA; exact patch_same (by intro j hj; match j, hj with | 0, _ => rfl | 1, _ => rfl | 2, _ => rfl | 3, _ => rfl | (j_ + 4), h_ => omega))⟩, oS, tv⟩ rfl
          ·clear hy155
           subst hS159
           obtain ⟨y154_0, y154_1⟩ := y154
           replace h := ol h
           obtain ⟨w160, hw160, h⟩ := h
           have hw160 : w160 = y154_0 := hw160
           subst hw160
           replace h := ol h
           obtain ⟨w161, hw161, h⟩ := h
           have hw161 : w161 = y154_1 := hw161
           subst hw161
           cbv
           replace h := ob_ h
           obtain ⟨y172, hy173, h⟩ := h
           obtain ⟨S176, hS177⟩ : ∃ S, S = (sp 225 [(2, .c (.ptr 128 0)), (4, .c (.ptr 256 0))] [(128, .var [.os 5 0 (LEN a0.fC)]), (256, .var [.v (.slice none 0 0)]), (5, .arr .rw [] (LEN a0.fC) 4 (row GD (oC LEN GD) y172))]) := ⟨_, rfl⟩
           refine ⟨S176, ?_, ?_⟩
           ·clear h
            have h := hy173
            clear hy173
            cbv
            replace h := ol h
            obtain ⟨l179, hl179, h⟩ := h
            have e180 : 0 = LEN l179 := by subst hl179 hLEN; rfl
            refine ⟨_, congrArg (fun n => AV.c (AC.os 8448 0 n)) e180, _, row GD (eL) l179, e180, wkOf ?_, ?_⟩
            ·intro i hi j hj
             rw [<- e180] at hi
             subst hl179
             subst hGD
             omega
            cbv
            refine And.intro (by subst hA; have p := ix c55; first | exact p | exact ⟨p, tv⟩ | exact ⟨p, trivial, tv⟩) ?_
            refine ⟨_, rfl, _, (pC (row GD (oC LEN GD) w160) (A.nadd 0 (A.toN a1.fc)) [ws (GD w160 (A.nadd 0 (A.toN a1.fc))).fN, .ow (LEN (GD w160 (A.nadd 0 (A.toN a1.fc))).fS) 5 (row GD (eS) (GD w160 (A.nadd 0 (A.toN a1.fc))).fS), .os 8706 0 (LEN (GD w160 (A.nadd 0 (A.toN a1.fc))).fL), .ow (LEN (GD w160 (A.nadd 0 (A.toN a1.fc))).fI) 8 (row GD (eI) (GD w160 (A.nadd 0 (A.toN a1.fc))).fI)]), rfl, wkOf ?_, ?_⟩
            ·refine patch_of ?_
             intro j hj
             match j, hj with | 0, _ => (rfl) | 1, _ => (rfl) | 2, _ => (rfl) | 3, _ => (rfl) | (j_ + 4), h_ => omega
            refine ⟨_, row GD (eL) (GD w160 (A.nadd 0 (A.toN a1.fc))).fL, rfl, wkOf ?_, ?_⟩
            ·exact fun i _ j _ => plain_cp (pl_encLabel _ _)
            cbv
            replace h := oq h
            obtain ⟨c181, h⟩ := h
            replace h := oq h
            obtain ⟨c182, h⟩ := h
            refine And.intro (by first | exact ⟨c181, c182, (fun h0 => by cases h0), tv⟩ | exact ⟨c181, c182, (fun h0 => by cases h0)⟩ | exact ⟨c181, c182, tv⟩ | exact ⟨c181, c182⟩) ?_
            replace h := ol h
            obtain ⟨l183, hl183, h⟩ := h
            replace h := oq h
            obtain ⟨c186, h⟩ := h
            replace h := oq h
            obtain ⟨c187, h⟩ := h
            replace h := ol h
            obtain ⟨l184, hl184, h⟩ := h
            have e185 : A.nadd (LEN l179) (A.nsub (A.toN a1.fx) (A.toN 0)) = LEN l184 := by rw [c187]; subst hl184 hLEN hA; simp [std, len]
            refine ⟨c186, _, congrArg (fun n => AV.c (AC.os 8448 0 n)) e185, _, row GD (eL) l184, e185, wkOf ?_, ?_⟩
            ·subst hGD hLEN hA
             exact app_osP (pl_encLabel) hl183 c187 hl184 (Nat.le_refl _)
            cbv
            replace h := ol h
            obtain ⟨l188, hl188, h⟩ := h
            have e189 : 1 = LEN l188 := by subst hl188 hLEN; rfl
            refine ⟨_, congrArg (fun n => AV.c (AC.os 9088 0 n)) e189, _, row GD (eL) l188, e189, wkOf ?_, ?_⟩
            ·intro i hi j hj
             rw [<- e189] at hi
             subst hl188
             subst hGD
             obtain rfl : i = 0 := (by omega) <;> obtain rfl | rfl | rfl | rfl : j = 0 \/ j = 1 \/ j = 2 \/ j = 3 := (by omega)
             all_goals rfl
            cbv
            replace h := oq h
            obtain ⟨c192, h⟩ := h
            replace h := ol h
            obtain ⟨l190, hl190, h⟩ := h
            have e191 : A.nadd (LEN l184) (LEN l188) = LEN l190 := by subst hl190 hLEN hA; simp [std, len]
            refine ⟨c192, _, congrArg (fun n => AV.c (AC.os 8448 0 n)) e191, _, row GD (eL) l190, e191, wkOf ?_, ?_⟩
            ·subst hGD hLEN hA
             exact app_os (off := 0) (pl_encLabel) hl190 (Nat.le_refl _)
            cbv
            replace h := oq h
            obtain ⟨c195, h⟩ := h
            replace h := ol h
            obtain ⟨l193, hl193, h⟩ := h
            have e194 : A.nadd (LEN l190) (LEN w161) = LEN l193 := by subst hl193 hLEN hA; simp [std, len]
            refine ⟨c195, _, congrArg (fun n => AV.c (AC.os 8448 0 n)) e194, _, row GD (eL) l193, e194, wkOf ?_, ?_⟩
            ·subst hGD hLEN hA
             exact app_os (off := 0) (pl_encLabel) hl193 (Nat.le_refl _)
            cbv
            refine And.intro (by subst hA; have p := ix c55; first | exact p | exact ⟨p, tv⟩ | exact ⟨p, trivial, tv⟩) ?_
            refine ⟨_, rfl, _, (pC (row GD (oC LEN GD) w160) (A.nadd 0 (A.toN a1.fc)) [ws (GD w160 (A.nadd 0 (A.toN a1.fc))).fN, .ow (LEN (GD w160 (A.nadd 0 (A.toN a1.fc))).fS) 5 (row GD (eS) (GD w160 (A.nadd 0 (A.toN a1.fc))).fS), .os 8448 0 (LEN l193), .ow (LEN (GD w160 (A.nadd 0 (A.toN a1.fc))).fI) 8 (row GD (eI) (GD w160 (A.nadd 0 (A.toN a1.fc))).fI)]), rfl, wkOf ?_, ?_⟩
            ·first | refine patch_of2 ?_ | refine patch_of2K (fun _ _ => rC _ _) ?_
             intro j hj
             match j, hj with | 0, _ => (rfl) | 1, _ => (rfl) | 2, _ => (rfl) | 3, _ => (rfl) | (j_ + 4), h_ => omega
            cbv
            replace h := oq h
            obtain ⟨c197, h⟩ := h
            replace h := ol h
            obtain ⟨l196, hl196, h⟩ := h
            injection h with h
            subst h
            subst hS177
            refine St.le_trans (le_foldP 5 2 8448 rfl rfl rfl (by decide) (by subst hA; exact ix c55) (by decide) rfl (fun _ _ => rC _ _)) ?_
            exact lsp rfl zl2 ⟨rfl, rfl, ⟨fun hw => hw, fun c hc => (by cases hc), .inr (fun i _ j _ z hz => (noref (rC _ _) hz).elim), rfl, rfl, (by subst hGD hLEN hA; exact patch_set hl196 (ix (by rw [<- c197]; exact c55)) (by intro j hj; match j, hj with | 0, _ => rfl | 1, _ => rfl | 2, _ => rfl | 3, _ => rfl | (j_ + 4), h_ => omega))⟩, tv⟩ rfl
           ·clear hy173
            subst hS177
            replace h := ol h
            obtain ⟨w178, hw178, h⟩ := h
            have hw178 : w178 = y172 := hw178
            subst hw178
            cbv
            injection h with h
            subst h
            subst hS152
            exact lsp rfl zl2 ⟨rfl, rfl, oS, tv⟩ rfl
         ·replace h := og b332 h
          cbv
          replace h := ob_ h
          obtain ⟨y198, hy199, h⟩ := h
          obtain ⟨S202, hS203⟩ : ∃ S, S = some (sp 225 [(2, .c (.ptr 128 0)), (4, .c (.ptr 256 0))] [(128, .var [.os 5 0 (LEN a0.fC)]), (256, .var [.v (.slice none 0 0)]), (5, .arr .rw [] (LEN a0.fC) 4 (row GD (oC LEN GD) y198))]) := ⟨_, rfl⟩
          refine ⟨S202, ?_, ?_⟩
          ·clear h
           have h := hy199
           clear hy199
           cbv
           refine fork (fun b331 => ?_) (fun b331 => ?_)
           ·replace h := ot b331 h
            cbv
            replace h := ob_ h
            obtain ⟨y205, hy206, h⟩ := h
            obtain ⟨S209, hS210⟩ : ∃ S, S = (sp 225 [(2, .c (.ptr 128 0)), (4, .c (.ptr 256 0))] [(128, .var [.os 5 0 (LEN a0.fC)]), (256, .var [.v (.slice none 0 0)]), (5, .arr .rw [] (LEN a0.fC) 4 (row GD (oC LEN GD) y205))]) := ⟨_, rfl⟩
            refine ⟨S209, ?_, ?_⟩
            ·clear h
             have h := hy206
             clear hy206
             cbv
             replace h := ol h
             obtain ⟨l212, hl212, h⟩ := h
             have e213 : 0 = LEN l212 := by subst hl212 hLEN; rfl
             refine ⟨_, congrArg (fun n => AV.c (AC.os 9664 0 n)) e213, _, row GD (eL) l212, e213, wkOf ?_, ?_⟩
             ·intro i hi j hj
              rw [<- e213] at hi
              subst hl212
              subst hGD
              omega
             cbv
             refine And.intro (by subst hA; have p := ix c55; first | exact p | exact ⟨p, tv⟩ | exact ⟨p, trivial, tv⟩) ?_
             replace h := oq h
             obtain ⟨c214, h⟩ := h
             replace h := oq h
             obtain ⟨c215, h⟩ := h
             refine And.intro (by first | exact ⟨c214, c215, (fun h0 => by cases h0), tv⟩ | exact ⟨c214, c215, (fun h0 => by cases h0)⟩ | exact ⟨c214, c215, tv⟩ | exact ⟨c214, c215⟩) ?_
             replace h := ol h
             obtain ⟨l216, hl216, h⟩ := h
             replace h := oq h
             obtain ⟨c219, h⟩ := h
             replace h := oq h
             obtain ⟨c220, h⟩ := h
             replace h := ol h
             obtain ⟨l217, hl217, h⟩ := h
             have e218 : A.nadd (LEN l212) (A.nsub (A.toN a1.fx) (A.toN 0)) = LEN l217 := by rw [c220]; subst hl217 hLEN hA; simp [std, len]
             refine ⟨c219, _, congrArg (fun n => AV.c (AC.os 9664 0 n)) e218, _, row GD (eL) l217, e218, wkOf ?_, ?_⟩
             ·subst hGD hLEN hA
              exact app_osP (pl_encLabel) hl216 c220 hl217 (Nat.le_refl _)
             cbv
             refine And.intro (by subst hA; have p := ix c55; first | exact p | exact ⟨p, tv⟩ | exact ⟨p, trivial, tv⟩) ?_
             replace h := oq h
             obtain ⟨c221, h⟩ := h
             replace h := oq h
             obtain ⟨c222, h⟩ := h
             replace h := oq h
             obtain ⟨c223, h⟩ := h
             refine And.intro (by first | exact ⟨c221, c222, (fun _ => c223), tv⟩ | exact ⟨c221, c222, (fun _ => c223)⟩ | exact ⟨c221, c222, tv⟩ | exact ⟨c221, c222⟩) ?_
             replace h := ol h
             obtain ⟨l224, hl224, h⟩ := h
             replace h := oq h
             obtain ⟨c227, h⟩ := h
             replace h := oq h
             obtain ⟨c228, h⟩ := h
             replace h := ol h
             obtain ⟨l225, hl225, h⟩ := h
             have e226 : A.nadd (LEN l217) (A.nsub (A.toN (A.ofN (LEN (GD a0.fC (A.nadd 0 (A.toN a1.fc))).fL))) (A.toN (A.add .i64 a1.fx 1))) = LEN l225 := by rw [c228]; subst hl225 hLEN hA; simp [std, len]
             refine ⟨c227, _, congrArg (fun n => AV.c (AC.os 9664 0 n)) e226, _, row GD (eL) l225, e226, wkOf ?_, ?_⟩
             ·subst hGD hLEN hA
              exact app_osP (pl_encLabel) hl224 c228 hl225 (Nat.le_refl _)
             cbv
             refine And.intro (by subst hA; have p := ix c55; first | exact p | exact ⟨p, tv⟩ | exact ⟨p, trivial, tv⟩) ?_
             refine ⟨_, rfl, _, (pC (row GD (oC LEN GD) a0.fC) (A.nadd 0 (A.toN a1.fc)) [ws (GD a0.fC (A.nadd 0 (A.toN a1.fc))).fN, .os 60004 0 (LEN (GD a0.fC (A.nadd 0 (A.toN a1.fc))).fS), .os 9664 0 (LEN l225), .os 60008 0 (LEN (GD a0.fC (A.nadd 0 (A.toN a1.fc))).fI)]), rfl, wkOf ?_, ?_⟩
             ·first | refine patch_of2 ?_ | refine patch_of2K (fun _ _ => rC _ _) ?_
              intro j hj
              match j, hj with | 0, _ => (rfl) | 1, _ => (rfl) | 2, _ => (rfl) | 3, _ => (rfl) | (j_ + 4), h_ => omega
             cbv
             replace h := ol h
             obtain ⟨l229, hl229, h⟩ := h
             injection h with h
             subst h
             subst hS210
             refine St.le_trans (le_foldP 5 1 60004 rfl rfl rfl (by decide) (by subst hA; exact ix c55) (by decide) rfl (fun _ _ => rC _ _)) ?_
             refine St.le_trans (le_foldP 5 2 9664 rfl rfl rfl (by decide) (by subst hA; exact ix c55) (by decide) rfl (fun _ _ => rC _ _)) ?_
             refine St.le_trans (le_foldP 5 3 60008 rfl rfl rfl (by decide) (by subst hA; exact ix c55) (by decide) rfl (fun _ _ => rC _ _)) ?_
             exact lsp rfl zl2 ⟨rfl, rfl, ⟨fun hw => hw, fun c hc => (by cases hc), .inr (fun i _ j _ z hz => (noref (rC _ _) hz).elim), rfl, rfl, (by subst hGD hLEN hA; exact patch_set hl229 (ix c55) (by intro j hj; match j, hj with | 0, _ => rfl | 1, _ => rfl | 2, _ => rfl | 3, _ => rfl | (j_ + 4), h_ => omega))⟩, tv⟩ rfl
            ·clear hy206
             subst hS210
             replace h := ol h
             obtain ⟨w211, hw211, h⟩ := h
             have hw211 : w211 = y205 := hw211
             subst hw211
             cbv
             injection h with h
             subst h
             subst hS203
             exact lsp rfl zl2 ⟨rfl, rfl, oS, tv⟩ rfl
           ·replace h := og b331 h
            cbv
            replace h := ob_ h
            obtain ⟨y230, hy231, h⟩ := h
            obtain ⟨S234, hS235⟩ : ∃ S, S = some (sp 225 [(2, .c (.ptr 128 0)), (4, .c (.ptr 256 0))] [(128, .var [.os 5 0 (LEN a0.fC)]), (256, .var [.v (.slice none 0 0)]), (5, .arr .rw [] (LEN a0.fC) 4 (row GD (oC LEN GD) y230))]) := ⟨_, rfl⟩
            refine ⟨S234, ?_, ?_⟩
            ·clear h
             have h := hy231
             clear hy231
             cbv
             refine fork (fun b330 => ?_) (fun b330 => ?_)
             ·replace h := ot b330 h
              cbv
              replace h := ob_ h
              obtain ⟨y237, hy238, h⟩ := h
              obtain ⟨S241, hS242⟩ : ∃ S, S = (sp 225 [(2, .c (.ptr 128 0)), (3, .c (.ptr 192 0)), (4, .c (.ptr 256 0)), (5, .c (wi a1.fx)), (7, .c (.ep 5 (A.nadd 0 (A.toN a1.fc)) 0)), (10, .c (.os 10944 0 (LEN y237.2)))] [(128, .var [.os 5 0 (LEN a0.fC)]), (192, .var (cE a1)), (256, .var [.v (.slice none 0 0)]), (5, .arr .rw [] (LEN a0.fC) 4 (row GD (oC LEN GD) y237.1)), (10944, .arr .rw [] (LEN y237.2) 8 (row GD (eI) y237.2))]) := ⟨_, rfl⟩
              refine ⟨S241, ?_, ?_⟩
              ·clear h
               have h := hy238
               clear hy238
               cbv
               replace h := ol h
               obtain ⟨l245, hl245, h⟩ := h
               have e246 : 0 = LEN l245 := by subst hl245 hLEN; rfl
               refine ⟨_, congrArg (fun n => AV.c (AC.os 10944 0 n)) e246, _, row GD (eI) l245, e246, wkOf ?_, ?_⟩
               ·intro i hi j hj
                rw [<- e246] at hi
                subst hl245
                subst hGD
                omega
               cbv
               refine And.intro (by subst hA; have p := ix c55; first | exact p | exact ⟨p, tv⟩ | exact ⟨p, trivial, tv⟩) ?_
               replace h := oq h
               obtain ⟨c247, h⟩ := h
               replace h := oq h
               obtain ⟨c248, h⟩ := h
               replace h := oq h
               obtain ⟨c249, h⟩ := h
               refine And.intro (by first | exact ⟨c247, c248, (fun _ => c249), tv⟩ | exact ⟨c247, c248, (fun _ => c249)⟩ | exact ⟨c247, c248, tv⟩ | exact ⟨c247, c248⟩) ?_
               replace h := ol h
               obtain ⟨l250, hl250, h⟩ := h
               replace h := oq h
               obtain ⟨c253, h⟩ := h
               replace h := oq h
               obtain ⟨c254, h⟩ := h
               replace h := ol h
               obtain ⟨l251, hl251, h⟩ := h
               have e252 : A.nadd (LEN l245) (A.nsub (A.toN (A.ofN (LEN (GD a0.fC (A.nadd 0 (A.toN a1.fc))).fI))) (A.toN a1.fx)) = LEN l251 := by rw [c254]; subst hl251 hLEN hA; simp [std, len]
               refine ⟨c253, _, congrArg (fun n => AV.c (AC.os 10944 0 n)) e252, _, row GD (eI) l251, e252, wkOf ?_, ?_⟩
               ·subst hGD hLEN hA
                exact app_osP (pl_encInstance) hl250 c254 hl251 (Nat.le_refl _)
               cbv
               injection h with h
               subst h
               subst hS242
               refine St.le_trans (le_foldP 5 1 60004 rfl rfl rfl (by decide) (by subst hA; exact ix c63) (by decide) rfl (fun _ _ => rC _ _)) ?_
               refine St.le_trans (le_foldP 5 2 60006 rfl rfl rfl (by decide) (by subst hA; exact ix c63) (by decide) rfl (fun _ _ => rC _ _)) ?_
               refine St.le_trans (le_foldP 5 3 60008 rfl rfl rfl (by decide) (by subst hA; exact ix c63) (by decide) rfl (fun _ _ => rC _ _)) ?_
               exact lsp rfl zl6 ⟨rfl, rfl, rfl, ⟨fun hw => hw, fun c hc => (by cases hc), .inr (fun i _ j _ z hz => (noref (rC _ _) hz).elim), rfl, rfl, (by subst hGD hLEN hA; exact patch_same (by intro j hj; match j, hj with | 0, _ => rfl | 1, _ => rfl | 2, _ => rfl | 3, _ => rfl | (j_ + 4), h_ => omega))⟩, oS, tv⟩ rfl
              ·clear hy238
               subst hS242
               obtain ⟨y237_0, y237_1⟩ := y237
               replace h := ol h
               obtain ⟨w243, hw243, h⟩ := h
               have hw243 : w243 = y237_0 := hw243
               subst hw243
               replace h := ol h
               obtain ⟨w244, hw244, h⟩ := h
               have hw244 : w244 = y237_1 := hw244
               subst hw244
               cbv
               replace h := ob_ h
               obtain ⟨y255, hy256, h⟩ := h
               obtain ⟨S259, hS260⟩ : ∃ S, S = (sp 225 [(2, .c (.ptr 128 0)), (4, .c (.ptr 256 0))] [(128, .var [.os 5 0 (LEN a0.fC)]), (256, .var [.v (.slice none 0 0)]), (5, .arr .rw [] (LEN a0.fC) 4 (row GD (oC LEN GD) y255))]) := ⟨_, rfl⟩
               refine ⟨S259, ?_, ?_⟩
               ·clear h
                have h := hy256
                clear hy256
                cbv
                replace h := ol h
                obtain ⟨l262, hl262, h⟩ := h
                have e263 : 0 = LEN l262 := by subst hl262 hLEN; rfl
                refine ⟨_, congrArg (fun n => AV.c (AC.os 11520 0 n)) e263, _, row GD (eI) l262, e263, wkOf ?_, ?_⟩
                ·intro i hi j hj
                 rw [<- e263] at hi
                 subst hl262
                 subst hGD
                 omega
                cbv
                refine And.intro (by subst hA; have p := ix c55; first | exact p | exact ⟨p, tv⟩ | exact ⟨p, trivial, tv⟩) ?_
                refine ⟨_, rfl, _, (pC (row GD (oC LEN GD) w243) (A.nadd 0 (A.toN a1.fc)) [ws (GD w243 (A.nadd 0 (A.toN a1.fc))).fN, .ow (LEN (GD w243 (A.nadd 0 (A.toN a1.fc))).fS) 5 (row GD (eS) (GD w243 (A.nadd 0 (A.toN a1.fc))).fS), .ow (LEN (GD w243 (A.nadd 0 (A.toN a1.fc))).fL) 4 (row GD (eL) (GD w243 (A.nadd 0 (A.toN a1.fc))).fL), .os 11778 0 (LEN (GD w243 (A.nadd 0 (A.toN a1.fc))).fI)]), rfl, wkOf ?_, ?_⟩
                ·refine patch_of ?_
                 intro j hj
                 match j, hj with | 0, _ => (rfl) | 1, _ => (rfl) | 2, _ => (rfl) | 3, _ => (rfl) | (j_ + 4), h_ => omega
                refine ⟨_, row GD (eI) (GD w243 (A.nadd 0 (A.toN a1.fc))).fI, rfl, wkOf ?_, ?_⟩
                ·exact fun i _ j _ => plain_cp (pl_encInstance _ _)
                cbv
                replace h := oq h
                obtain ⟨c264, h⟩ := h
                replace h := oq h
                obtain ⟨c265, h⟩ := h
                refine And.intro (by first | exact ⟨c264, c265, (fun h0 => by cases h0), tv⟩ | exact ⟨c264, c265, (fun h0 => by cases h0)⟩ | exact ⟨c264, c265, tv⟩ | exact ⟨c264, c265⟩) ?_
                replace h := ol h
                obtain ⟨l266, hl266, h⟩ := h
                replace h := oq h
                obtain ⟨c269, h⟩ := h
                replace h := oq h
                obtain ⟨c270, h⟩ := h
                replace h := ol h
                obtain ⟨l267, hl267, h⟩ := h
                have e268 : A.nadd (LEN l262) (A.nsub (A.toN a1.fx) (A.toN 0)) = LEN l267 := by rw [c270]; subst hl267 hLEN hA; simp [std, len]
                refine ⟨c269, _, congrArg (fun n => AV.c (AC.os 11520 0 n)) e268, _, row GD (eI) l267, e268, wkOf ?_, ?_⟩
                ·subst hGD hLEN hA
                 exact app_osP (pl_encInstance) hl266 c270 hl267 (Nat.le_refl _)
                cbv
                replace h := ol h
                obtain ⟨l271, hl271, h⟩ := h
                have e272 : 1 = LEN l271 := by subst hl271 hLEN; rfl
                refine ⟨_, congrArg (fun n => AV.c (AC.os 12160 0 n)) e272, _, row GD (eI) l271, e272, wkOf ?_, ?_⟩
                ·intro i hi j hj
                 rw [<- e272] at hi
                 subst hl271
                 subst hGD
                 obtain rfl : i = 0 := (by omega) <;> obtain rfl | rfl | rfl | rfl | rfl | rfl | rfl | rfl : j = 0 \/ j = 1 \/ j = 2 \/ j = 3 \/ j = 4 \/ j = 5 \/ j = 6 \/ j = 7 := (by omega)
                 all_goals rfl
                cbv
                replace h := oq h
                obtain ⟨c275, h⟩ := h
                replace h := ol h
                obtain ⟨l273, hl273, h⟩ := h
                have e274 : A.nadd (LEN l267) (LEN l271) = LEN l273 := by subst hl273 hLEN hA; simp [std, len]
                refine ⟨c275, _, congrArg (fun n => AV.c (AC.os 11520 0 n)) e274, _, row GD (eI) l273, e274, wkOf ?_, ?_⟩
                ·subst hGD hLEN hA
                 exact app_os (off := 0) (pl_encInstance) hl273 (Nat.le_refl _)
                cbv
                replace h := oq h
                obtain ⟨c278, h⟩ := h
                replace h := ol h
                obtain ⟨l276, hl276, h⟩ := h
                have e277 : A.nadd (LEN l273) (LEN w244) = LEN l276 := by subst hl276 hLEN hA; simp [std, len]
                refine ⟨c278, _, congrArg (fun n => AV.c (AC.os 11520 0 n)) e277, _, row GD (eI) l276, e277, wkOf ?_, ?_⟩
                ·subst hGD hLEN hA
                 exact app_os (off := 0) (pl_encInstance) hl276 (Nat.le_refl _)
                cbv
                refine And.intro (by subst hA; have p := ix c55; first | exact p | exact ⟨p, tv⟩ | exact ⟨p, trivial, tv⟩) ?_
                refine ⟨_, rfl, _, (pC (row GD (oC LEN GD) w243) (A.nadd 0 (A.toN a1.fc)) [ws (GD w243 (A.nadd 0 (A.toN a1.fc))).fN, .ow (LEN (GD w243 (A.nadd 0 (A.toN a1.fc))).fS) 5 (row GD (eS) (GD w243 (A.nadd 0 (A.toN a1.fc))).fS), .ow (LEN (GD w243 (A.nadd 0 (A.toN a1.fc))).fL) 4 (row GD (eL) (GD w243 (A.nadd 0 (A.toN a1.fc))).fL), .os 11520 0 (LEN l276)]), rfl, wkOf ?_, ?_⟩
                ·first | refine patch_of2 ?_ | refine patch_of2K (fun _ _ => rC _ _) ?_
                 intro j hj
                 match j, hj with | 0, _ => (rfl) | 1, _ => (rfl) | 2, _ => (rfl) | 3, _ => (rfl) | (j_ + 4), h_ => omega
                cbv
                replace h := oq h
                obtain ⟨c280, h⟩ := h
                replace h := ol h
                obtain ⟨l279, hl279, h⟩ := h
                injection h with h
                subst h
                subst hS260
                refine St.le_trans (le_foldP 5 3 11520 rfl rfl rfl (by decide) (by subst hA; exact ix c55) (by decide) rfl (fun _ _ => rC _ _)) ?_
                exact lsp rfl zl2 ⟨rfl, rfl, ⟨fun hw => hw, fun c hc => (by cases hc), .inr (fun i _ j _ z hz => (noref (rC _ _) hz).elim), rfl, rfl, (by subst hGD hLEN hA; exact patch_set hl279 (ix (by rw [<- c280]; exact c55)) (by intro j hj; match j, hj with | 0, _ => rfl | 1, _ => rfl | 2, _ => rfl | 3, _ => rfl | (j_ + 4), h_ => omega))⟩, tv⟩ rfl
               ·clear hy256
                subst hS260
                replace h := ol h
                obtain ⟨w261, hw261, h⟩ := h
                have hw261 : w261 = y255 := hw261
                subst hw261
                cbv
                injection h with h
                subst h
                subst hS235
                exact lsp rfl zl2 ⟨rfl, rfl, oS, tv⟩ rfl
             ·replace h := og b330 h
              cbv
              replace h := ob_ h
              obtain ⟨y281, hy282, h⟩ := h
              obtain ⟨S285, hS286⟩ : ∃ S, S = some (sp 225 [(2, .c (.ptr 128 0)), (4, .c (.ptr 256 0))] [(128, .var [.os 5 0 (LEN a0.fC)]), (256, .var [.v (.slice none 0 0)]), (5, .arr .rw [] (LEN a0.fC) 4 (row GD (oC LEN GD) y281))]) := ⟨_, rfl⟩
              refine ⟨S285, ?_, ?_⟩
              ·clear h
               have h := hy282
               clear hy282
               cbv
               refine fork (fun b329 => ?_) (fun b329 => ?_)
               ·replace h := ot b329 h
                cbv
                replace h := ob_ h
                obtain ⟨y288, hy289, h⟩ := h
                obtain ⟨S292, hS293⟩ : ∃ S, S = (sp 225 [(2, .c (.ptr 128 0)), (4, .c (.ptr 256 0))] [(128, .var [.os 5 0 (LEN a0.fC)]), (256, .var [.v (.slice none 0 0)]), (5, .arr .rw [] (LEN a0.fC) 4 (row GD (oC LEN GD) y288))]) := ⟨_, rfl⟩
                refine ⟨S292, ?_, ?_⟩
                ·clear h
                 have h := hy289
                 clear hy289
                 cbv
                 replace h := ol h
                 obtain ⟨l295, hl295, h⟩ := h
                 have e296 : 0 = LEN l295 := by subst hl295 hLEN; rfl
                 refine ⟨_, congrArg (fun n => AV.c (AC.os 12736 0 n)) e296, _, row GD (eI) l295, e296, wkOf ?_, ?_⟩
                 ·intro i hi j hj
                  rw [<- e296] at hi
                  subst hl295
                  subst hGD
                  omega
                 cbv
                 refine And.intro (by subst hA; have p := ix c55; first | exact p | exact ⟨p, tv⟩ | exact ⟨p, trivial, tv⟩) ?_
                 replace h := oq h
                 obtain ⟨c297, h⟩ := h
                 replace h := oq h
                 obtain ⟨c298, h⟩ := h
                 refine And.intro (by first | exact ⟨c297, c298, (fun h0 => by cases h0), tv⟩ | exact ⟨c297, c298, (fun h0 => by cases h0)⟩ | exact ⟨c297, c298, tv⟩ | exact ⟨c297, c298⟩) ?_
                 replace h := ol h
                 obtain ⟨l299, hl299, h⟩ := h
                 replace h := oq h
                 obtain ⟨c302, h⟩ := h
                 replace h := oq h
                 obtain ⟨c303, h⟩ := h
                 replace h := ol h
                 obtain ⟨l300, hl300, h⟩ := h
                 have e301 : A.nadd (LEN l295) (A.nsub (A.toN a1.fx) (A.toN 0)) = LEN l300 := by rw [c303]; subst hl300 hLEN hA; simp [std, len]
                 refine ⟨c302, _, congrArg (fun n => AV.c (AC.os 12736 0 n)) e301, _, row GD (eI) l300, e301, wkOf ?_, ?_⟩
                 ·subst hGD hLEN hA
                  exact app_osP (pl_encInstance) hl299 c303 hl300 (Nat.le_refl _)
                 cbv
                 refine And.intro (by subst hA; have p := ix c55; first | exact p | exact ⟨p, tv⟩ | exact ⟨p, trivial, tv⟩) ?_
                 replace h := oq h
                 obtain ⟨c304, h⟩ := h
                 replace h := oq h
                 obtain ⟨c305, h⟩ := h
                 replace h := oq h
                 obtain ⟨c306, h⟩ := h
                 refine And.intro (by first | exact ⟨c304, c305, (fun _ => c306), tv⟩ | exact ⟨c304, c305, (fun _ => c306)⟩ | exact ⟨c304, c305, tv⟩ | exact ⟨c304, c305⟩) ?_
                 replace h := ol h
                 obtain ⟨l307, hl307, h⟩ := h
                 replace h := oq h
                 obtain ⟨c310, h⟩ := h
                 replace h := oq h
                 obtain ⟨c311, h⟩ := h
                 replace h := ol h
                 obtain ⟨l308, hl308, h⟩ := h
                 have e309 : A.nadd (LEN l300) (A.nsub (A.toN (A.ofN (LEN (GD a0.fC (A.nadd 0 (A.toN a1.fc))).fI))) (A.toN (A.add .i64 a1.fx 1))) = LEN l308 := by rw [c311]; subst hl308 hLEN hA; simp [std, len]
                 refine ⟨c310, _, congrArg (fun n => AV.c (AC.os 12736 0 n)) e309, _, row GD (eI) l308, e309, wkOf ?_, ?_⟩
                 ·subst hGD hLEN hA
                  exact app_osP (pl_encInstance) hl307 c311 hl308 (Nat.le_refl _)
                 cbv
                 refine And.intro (by subst hA; have p := ix c55; first | exact p | exact ⟨p, tv⟩ | exact ⟨p, trivial, tv⟩) ?_
                 refine ⟨_, rfl, _, (pC (row GD (oC LEN GD) a0.fC) (A.nadd 0 (A.toN a1.fc)) [ws (GD a0.fC (A.nadd 0 (A.toN a1.fc))).fN, .os 60004 0 (LEN (GD a0.fC (A.nadd 0 (A.toN a1.fc))).fS), .os 60006 0 (LEN (GD a0.fC (A.nadd 0 (A.toN a1.fc))).fL), .os 12736 0 (LEN l308)]), rfl, wkOf ?_, ?_⟩
                 ·first | refine patch_of2 ?_ | refine patch_of2K (fun _ _ => rC _ _) ?_
                  intro j hj
                  match j, hj with | 0, _ => (rfl) | 1, _ => (rfl) | 2, _ => (rfl) | 3, _ => (rfl) | (j_ + 4), h_ => omega
                 cbv
                 replace h := ol h
                 obtain ⟨l312, hl312, h⟩ := h
                 injection h with h
                 subst h
                 subst hS293
                 refine St.le_trans (le_foldP 5 1 60004 rfl rfl rfl (by decide) (by subst hA; exact ix c55) (by decide) rfl (fun _ _ => rC _ _)) ?_
                 refine St.le_trans (le_foldP 5 2 60006 rfl rfl rfl (by decide) (by subst hA; exact ix c55) (by decide) rfl (fun _ _ => rC _ _)) ?_
                 refine St.le_trans (le_foldP 5 3 12736 rfl rfl rfl (by decide) (by subst hA; exact ix c55) (by decide) rfl (fun _ _ => rC _ _)) ?_
                 exact lsp rfl zl2 ⟨rfl, rfl, ⟨fun hw => hw, fun c hc => (by cases hc), .inr (fun i _ j _ z hz => (noref (rC _ _) hz).elim), rfl, rfl, (by subst hGD hLEN hA; exact patch_set hl312 (ix c55) (by intro j hj; match j, hj with | 0, _ => rfl | 1, _ => rfl | 2, _ => rfl | 3, _ => rfl | (j_ + 4), h_ => omega))⟩, tv⟩ rfl
                ·clear hy289
                 subst hS293
                 replace h := ol h
                 obtain ⟨w294, hw294, h⟩ := h
                 have hw294 : w294 = y288 := hw294
                 subst hw294
                 cbv
                 injection h with h
                 subst h
                 subst hS286
                 exact lsp rfl zl2 ⟨rfl, rfl, oS, tv⟩ rfl
               ·replace h := og b329 h
                cbv
                replace h := ob_ h
                obtain ⟨y313, hy314, h⟩ := h
                obtain ⟨S317, hS318⟩ : ∃ S, S = some (sp 225 [(2, .c (.ptr 128 0)), (4, .c (.ptr 256 0))] [(128, .var [.os 5 0 (LEN a0.fC)]), (256, .var [.v (.slice none 0 0)]), (5, .arr .rw [] (LEN a0.fC) 4 (row GD (oC LEN GD) y313))]) := ⟨_, rfl⟩
                refine ⟨S317, ?_, ?_⟩
                ·clear h
                 have h := hy314
                 clear hy314
                 cbv
                 refine fork (fun b328 => ?_) (fun b328 => ?_)
                 ·replace h := ot b328 h
                  cbv
                  replace h := ob_ h
                  obtain ⟨y320, hy321, h⟩ := h
                  obtain ⟨S324, hS325⟩ : ∃ S, S = (sp 225 [(2, .c (.ptr 128 0)), (4, .c (.ptr 256 0))] [(128, .var [.os 5 0 (LEN a0.fC)]), (256, .var [.v (.slice none 0 0)]), (5, .arr .rw [] (LEN a0.fC) 4 (row GD (oC LEN GD) y320))]) := ⟨_, rfl⟩
                  refine ⟨S324, ?_, ?_⟩
                  ·clear h
                   have h := hy321
                   clear hy321
                   cbv
                   refine And.intro (by subst hA; have p := ix c55; first | exact p | exact ⟨p, tv⟩ | exact ⟨p, trivial, tv⟩) ?_
                   refine ⟨_, rfl, _, (pC (row GD (oC LEN GD) a0.fC) (A.nadd 0 (A.toN a1.fc)) [ws a1.fN, .os 60004 0 (LEN (GD a0.fC (A.nadd 0 (A.toN a1.fc))).fS), .os 60006 0 (LEN (GD a0.fC (A.nadd 0 (A.toN a1.fc))).fL), .os 60008 0 (LEN (GD a0.fC (A.nadd 0 (A.toN a1.fc))).fI)]), rfl, wkOf ?_, ?_⟩
                   ·first | refine patch_of2 ?_ | refine patch_of2K (fun _ _ => rC _ _) ?_
                    intro j hj
                    match j, hj with | 0, _ => (rfl) | 1, _ => (rfl) | 2, _ => (rfl) | 3, _ => (rfl) | (j_ + 4), h_ => omega
                   cbv
                   replace h := ol h
                   obtain ⟨l327, hl327, h⟩ := h
                   injection h with h
                   subst h
                   subst hS325
                   refine St.le_trans (le_foldP 5 1 60004 rfl rfl rfl (by decide) (by subst hA; exact ix c55) (by decide) rfl (fun _ _ => rC _ _)) ?_
                   refine St.le_trans (le_foldP 5 2 60006 rfl rfl rfl (by decide) (by subst hA; exact ix c55) (by decide) rfl (fun _ _ => rC _ _)) ?_
                   refine St.le_trans (le_foldP 5 3 60008 rfl rfl rfl (by decide) (by subst hA; exact ix c55) (by decide) rfl (fun _ _ => rC _ _)) ?_
                   exact lsp rfl zl2 ⟨rfl, rfl, ⟨fun hw => hw, fun c hc => (by cases hc), .inr (fun i _ j _ z hz => (noref (rC _ _) hz).elim), rfl, rfl, (by subst hGD hLEN hA; exact patch_set hl327 (ix c55) (by intro j hj; match j, hj with | 0, _ => rfl | 1, _ => rfl | 2, _ => rfl | 3, _ => rfl | (j_ + 4), h_ => omega))⟩, tv⟩ rfl
                  ·clear hy321
                   subst hS325
                   replace h := ol h
                   obtain ⟨w326, hw326, h⟩ := h
                   have hw326 : w326 = y320 := hw326
                   subst hw326
                   cbv
                   injection h with h
                   subst h
                   subst hS318
                   exact lsp rfl zl2 ⟨rfl, rfl, oS, tv⟩ rfl
                 ·replace h := og b328 h
                  cbv
                  injection h with h
                  subst h
                  subst hS318
                  refine St.le_trans (le_foldP 5 1 60004 rfl rfl rfl (by decide) (by subst hA; exact ix c63) (by decide) rfl (fun _ _ => rC _ _)) ?_
                  refine St.le_trans (le_foldP 5 2 60006 rfl rfl rfl (by decide) (by subst hA; exact ix c63) (by decide) rfl (fun _ _ => rC _ _)) ?_
                  refine St.le_trans (le_foldP 5 3 60008 rfl rfl rfl (by decide) (by subst hA; exact ix c63) (by decide) rfl (fun _ _ => rC _ _)) ?_
                  exact lsp rfl zl2 ⟨rfl, rfl, ⟨fun hw => hw, fun c hc => (by cases hc), .inr (fun i _ j _ z hz => (noref (rC _ _) hz).elim), rfl, rfl, (by subst hGD hLEN hA; exact patch_same (by intro j hj; match j, hj with | 0, _ => rfl | 1, _ => rfl | 2, _ => rfl | 3, _ => rfl | (j_ + 4), h_ => omega))⟩, tv⟩ rfl
                ·clear hy314
                 subst hS318
                 replace h := ol h
                 obtain ⟨w319, hw319, h⟩ := h
                 have hw319 : w319 = y313 := hw319
                 subst hw319
                 cbv
                 injection h with h
                 subst h
                 subst hS286
                 exact lsp rfl zl2 ⟨rfl, rfl, oS, tv⟩ rfl
              ·clear hy282
               subst hS286
               replace h := ol h
               obtain ⟨w287, hw287, h⟩ := h
               have hw287 : w287 = y281 := hw287
               subst hw287
               cbv
               injection h with h
               subst h
               subst hS235
               exact lsp rfl zl2 ⟨rfl, rfl, oS, tv⟩ rfl
            ·clear hy231
             subst hS235
             replace h := ol h
             obtain ⟨w236, hw236, h⟩ := h
             have hw236 : w236 = y230 := hw236
             subst hw236
             cbv
             injection h with h
             subst h
             subst hS203
             exact lsp rfl zl2 ⟨rfl, rfl, oS, tv⟩ rfl
          ·clear hy199
           subst hS203
           replace h := ol h
           obtain ⟨w204, hw204, h⟩ := h
           have hw204 : w204 = y198 := hw204
           subst hw204
           cbv
           injection h with h
           subst h
           subst hS152
           exact lsp rfl zl2 ⟨rfl, rfl, oS, tv⟩ rfl
        ·clear hy148
         subst hS152
         replace h := ol h
         obtain ⟨w153, hw153, h⟩ := h
         have hw153 : w153 = y147 := hw153
         subst hw153
         cbv
         injection h with h
         subst h
         subst hS120
         exact lsp rfl zl2 ⟨rfl, rfl, oS, tv⟩ rfl
      ·clear hy116
       subst hS120
       replace h := ol h
       obtain ⟨w121, hw121, h⟩ := h
       have hw121 : w121 = y115 := hw121
       subst hw121
       cbv
       injection h with h
       subst h
       subst hS69
       exact lsp rfl zl2 ⟨rfl, rfl, oS, tv⟩ rfl
    ·clear hy65
     subst hS69
     replace h := ol h
     obtain ⟨w70, hw70, h⟩ := h
     have hw70 : w70 = y64 := hw70
     subst hw70
     cbv
     replace h := oq h
     obtain ⟨c335, h⟩ := h
     injection h with h
     subst h
     refine ⟨(sp 225 [(4, .c (.ptr 256 0))] [(256, .var [.os 64000 0 (LEN w70)]), (64000, .arr .rw [] (LEN w70) 4 (row GD (oC LEN GD) w70))]), ?_, ?_⟩
     ·refine St.le_trans (le_ren 5 64000 (by decide) rfl) ?_
      rw [c335]
      exact lsp rfl zl1 ⟨rfl, oS, tv⟩ rfl
     ·exact ⟨lR _, ⟨oS, tv⟩, rfl⟩

/-- spec.ApplyEdit -/
def Fq86 (a0 : TL) (a1 : TE) : Option (TL × Int) :=
 (Fq94 a0 a1).bind fun y1 =>
 br (std.not (std.eq y1 0))
 (some ((TL.mk ([] : List TC)), y1))
 ((Fq9 a0).bind fun y3 =>
 (Fq80 y3 a1).bind fun y5 =>
 some (y5, (0 : Int)))
theorem runq86 (a0 : TL) (a1 : TE) (r : TL × Int) (h : Fq86 a0 a1 = some r) : Fun Tryz.prog 16 [.agg [.bs (len a0.fC) 4 (row gd (eC len gd) a0.fC)], .agg (cE a1)] [] (.tup [.agg [.os 64000 0 (len r.1.fC)], .c (wi r.2)]) [(64000, .arr .rw [] (len r.1.fC) 4 (row gd (oC len gd) r.1.fC))] true := by
 refine Fun.of_wp (oneOf []) tok mixed Tryz.func16 (by kernel_rfl) rfl Tryz.ntmps16 rfl trivial (fun _ => ⟨(by simp [AV.flat, AV.flat1, AC.flat]), ⟨fun i _ j _ => fl_oncCell _ _, tv⟩⟩) ?_
 unfold Fq86 at h
 have hfq9 := @runq9
 have hfq94 := @runq94
 have hfq80 := @runq80
 generalize hLEN : @len = LEN, hGD : @gd = GD, hA : std = A, hP : Tryz.prog = P at *
 cbv
 replace h := ob_ h
 obtain ⟨y1, hy2, h⟩ := h
 refine ⟨⟨_, _, _, _, _, [], []⟩, hfq94 _ _ _ hy2, ⟨zs2, trivial, rfl, rfl, rfl, rfl, trivial, rfl⟩, ?_⟩
 cbv
 refine fork (fun b7 => ?_) (fun b7 => ?_)
 ·replace h := ot b7 h
  cbv
  injection h with h
  subst h
  refine ⟨(sp 18 [(4, .c (.ptr 256 0)), (5, .c (wi y1))] [(256, .var [.os 64000 0 (LEN ([] : List TC))]), (64000, .arr .rw [] (LEN ([] : List TC)) 4 (row GD (oC LEN GD) ([] : List TC)))]), ?_, ?_⟩
  ·refine St.le_trans (le_nilV 256 0 64000 4 (row GD (oC LEN GD) ([] : List TC)) (by decide) (by decide) rfl rfl) ?_
   subst hLEN
   exact lsp rfl zl2 ⟨rfl, oS, tv⟩ rfl
  ·subst hLEN
   exact ⟨lR _, ⟨oS, tv⟩, rfl⟩
 ·replace h := og b7 h
  cbv
  replace h := ob_ h
  obtain ⟨y3, hy4, h⟩ := h
  refine ⟨⟨_, _, _, _, _, [], [(64000, 960)]⟩, hfq9 _ _ hy4, ⟨zs1, trivial, rfl, rfl, rfl, rfl, ⟨evn 64000 rfl, tv⟩, rfl⟩, _, rfl, _, _, rfl, fun _ _ _ _ => .refl _, ?_⟩
  cbv
  replace h := ob_ h
  obtain ⟨y5, hy6, h⟩ := h
  refine ⟨⟨_, _, _, _, _, [(5, 960)], [(64000, 1088)]⟩, hfq80 _ _ _ hy6, ⟨zs2, ⟨oS, tv⟩, rfl, rfl, rfl, rfl, ⟨evn 64000 rfl, tv⟩, rfl⟩, _, rfl, _, _, rfl, fun _ _ _ _ => .refl _, ?_⟩
  cbv
  injection h with h
  subst h
  refine ⟨(sp 18 [(4, .c (.ptr 256 0)), (5, .c (wi 0))] [(256, .var [.os 64000 0 (LEN y5.fC)]), (64000, .arr .rw [] (LEN y5.fC) 4 (row GD (oC LEN GD) y5.fC))]), ?_, ?_⟩
  ·refine St.le_trans (le_ren 1088 64000 (by decide) rfl) ?_
   exact lsp rfl zl2 ⟨rfl, oS, tv⟩ rfl
  ·exact ⟨lR _, ⟨oS, tv⟩, rfl⟩

def Lq18_x2 (a0 : ByteArray) : (Int) -> Option ((Int) ⊕ ((Unit) ⊕ (Unit))) := fun x2 =>
 letO x2 fun v1 =>
 br (std.lt v1 (std.ofN (std.slen a0)))
 (((
 req (std.inR v1 (std.slen a0)) <|
 br (std.lt (std.sat a0 (std.toN v1)) 97)
 (req (std.inR v1 (std.slen a0)) <|
 br (std.lt (std.sat a0 (std.toN v1)) 48)
 (some true)
 (req (std.inR v1 (std.slen a0)) <|
 some (std.lt 57 (std.sat a0 (std.toN v1)))))
 (req (std.inR v1 (std.slen a0)) <|
 br (std.lt 122 (std.sat a0 (std.toN v1)))
 (req (std.inR v1 (std.slen a0)) <|
 br (std.lt (std.sat a0 (std.toN v1)) 48)
 (some true)
 (req (std.inR v1 (std.slen a0)) <|
 some (std.lt 57 (std.sat a0 (std.toN v1)))))
 (some false))
 ) : Option (Bool)).bind fun y14 =>
 letO y14 fun w20 =>
 br w20
 (some (.inr (.inl ())))
 (some (.inl (std.add .i64 v1 1))))
 (some (.inr (.inr ())))
/-- impl.IsName -/
def Fq18 (a0 : ByteArray) : Option (Bool) :=
 (whileP (σ := Int) (ρ := (Unit) ⊕ (Unit)) (Lq18_x2 a0) 0).bind fun y3 =>
 (match y3 with
 | .inl y3k0 => (
 some false)
 | .inr y3m0 =>
 ((
 br (std.le 1 (std.ofN (std.slen a0)))
 (some (std.le (std.ofN (std.slen a0)) 8))
 (some false)
 ) : Option (Bool)).bind fun y33 =>
 letO y33 fun w39 =>
 some w39)
theorem runq18 (a0 : ByteArray) (r : Bool) (h : Fq18 a0 = some r) : Fun Tryz.prog 161 [.c (ws a0)] [] (.c (.v (.bool r))) [] true := by
 refine Fun.of_wp (oneOf [4, 6]) tok mixed Tryz.func161 (by kernel_rfl) rfl Tryz.ntmps161 rfl trivial (fun _ => ⟨trivial, tv⟩) ?_
 unfold Fq18 at h
 unfold Lq18_x2 at h
 generalize hLEN : @len = LEN, hGD : @gd = GD, hA : std = A, hP : Tryz.prog = P at *
 cbv
 replace h := ob_ h
 obtain ⟨y3, hr4, hN5⟩ := h
 refine loop_cut hr4 (fun x => (sp 40 [(0, .c (ws a0)), (3, .c (wi x))] [])) ?_ (fun y e s => (match y with | .inl w => e = .ret /\ s.le (sp 40 [(2, .c (.v (.bool false)))] []) | .inr w0 => (fun (w : Unit) => e = .exit 0 /\ s.le (sp 40 [(0, .c (ws a0))] [])) w0)) ?_ ?_
 ·clear hr4 hN5
  show St.le _ _
  exact lsp rfl zl2 trivial rfl
 ·clear hr4 hN5
  intro x z9 h K7 hK8 hY6
  replace h := ol h
  obtain ⟨v1, hv1, h⟩ := h
  have hv1 : v1 = x := hv1
  subst hv1
  cbv
  refine fork (fun b32 => ?_) (fun b32 => ?_)
  ·replace h := ot b32 h
   cbv
   replace h := ob_ h
   obtain ⟨y14, hy15, h⟩ := h
   obtain ⟨S18, hS19⟩ : ∃ S, S = (sp 40 [(0, .c (ws a0)), (3, .c (wi v1)), (31, .c (.v (.bool y14)))] []) := ⟨_, rfl⟩
   refine ⟨S18, ?_, ?_⟩
   ·clear h
    have h := hy15
    clear hy15
    cbv
    replace h := oq h
    obtain ⟨c21, h⟩ := h
    refine ⟨c21, ?_⟩
    refine fork (fun b30 => ?_) (fun b30 => ?_)
    ·replace h := ot b30 h
     cbv
     replace h := oq h
     obtain ⟨c27, h⟩ := h
     refine ⟨c27, ?_⟩
     refine fork (fun b29 => ?_) (fun b29 => ?_)
     ·replace h := ot b29 h
      cbv
      injection h with h
      subst h
      subst hS19
      exact lsp rfl zl3 trivial rfl
     ·replace h := og b29 h
      cbv
      replace h := oq h
      obtain ⟨c28, h⟩ := h
      refine ⟨c28, ?_⟩
      injection h with h
      subst h
      subst hS19
      exact lsp rfl zl3 trivial rfl
    ·replace h := og b30 h
     cbv
     replace h := oq h
     obtain ⟨c22, h⟩ := h
     refine ⟨c22, ?_⟩
     refine fork (fun b26 => ?_) (fun b26 => ?_)
     ·replace h := ot b26 h
      cbv
      replace h := oq h
      obtain ⟨c23, h⟩ := h
      refine ⟨c23, ?_⟩
      refine fork (fun b25 => ?_) (fun b25 => ?_)
      ·replace h := ot b25 h
       cbv
       injection h with h
       subst h
       subst hS19
       exact lsp rfl zl3 trivial rfl
      ·replace h := og b25 h
       cbv
       replace h := oq h
       obtain ⟨c24, h⟩ := h
       refine ⟨c24, ?_⟩
       injection h with h
       subst h
       subst hS19
       exact lsp rfl zl3 trivial rfl
     ·replace h := og b26 h
      cbv
      injection h with h
      subst h
      subst hS19
      exact lsp rfl zl3 trivial rfl
   ·clear hy15
    subst hS19
    replace h := ol h
    obtain ⟨w20, hw20, h⟩ := h
    have hw20 : w20 = y14 := hw20
    subst hw20
    cbv
    refine fork (fun b31 => ?_) (fun b31 => ?_)
    ·replace h := ot b31 h
     cbv
     injection h with h
     refine hY6 _ h.symm _ _ (And.intro rfl ?_) (by intro hh; cases hh)
     exact lsp rfl zl1 trivial rfl
    ·replace h := og b31 h
     cbv
     injection h with h
     refine hK8 _ h.symm _ ?_
     exact lsp rfl zl2 trivial rfl
  ·replace h := og b32 h
   cbv
   injection h with h
   refine hY6 _ h.symm _ _ (And.intro rfl ?_) (by intro hh; cases hh)
   exact lsp rfl zl1 trivial rfl
 ·clear hr4
  have h := hN5
  clear hN5
  intro e12 s13 q11 hne
  rcases y3 with y3k0 | y3m0
  ·replace h := h
   obtain ⟨rfl, q11⟩ := q11
   cbv
   injection h with h
   subst h
   refine ⟨(sp 40 [(2, .c (.v (.bool false)))] []), ?_, ?_⟩
   ·refine St.le_trans q11 ?_
    exact lsp rfl zl1 trivial rfl
   ·exact ⟨lR _, trivial, rfl⟩
  ·obtain ⟨rfl, q11⟩ := q11
   cbv
   refine ⟨_, q11, ?_⟩
   cbv
   replace h := ob_ h
   obtain ⟨y33, hy34, h⟩ := h
   obtain ⟨S37, hS38⟩ : ∃ S, S = (sp 40 [(2, .c (.v (.bool y33)))] []) := ⟨_, rfl⟩
   refine ⟨S37, ?_, ?_⟩
   ·clear h
    have h := hy34
    clear hy34
    cbv
    refine fork (fun b40 => ?_) (fun b40 => ?_)
    ·replace h := ot b40 h
     cbv
     injection h with h
     subst h
     subst hS38
     exact lsp rfl zl1 trivial rfl
    ·replace h := og b40 h
     cbv
     injection h with h
     subst h
     subst hS38
     exact lsp rfl zl1 trivial rfl
   ·clear hy34
    subst hS38
    replace h := ol h
    obtain ⟨w39, hw39, h⟩ := h
    have hw39 : w39 = y33 := hw39
    subst hw39
    cbv
    injection h with h
    subst h
    refine ⟨(sp 40 [(2, .c (.v (.bool w39)))] []), ?_, ?_⟩
    ·exact lsp rfl zl1 trivial rfl
    ·exact ⟨lR _, trivial, rfl⟩
end
end Go.Proofs.YtohgghncmkiicaaGreat.AM
