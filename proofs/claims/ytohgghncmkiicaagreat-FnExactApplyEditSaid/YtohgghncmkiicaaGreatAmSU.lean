/-
  What the functions that the law reaches compute, and that they do. No condition.
-/
import Derived.Test.YtohgghncmkiicaaGreatAmSY
import Derived.Test.YtohgghncmkiicaaGreatAmE
namespace Go.Proofs.YtohgghncmkiicaaGreat.AM
noncomputable section
open Go Go.Proofs Go.RowKit
set_option linter.unusedVariables false
set_option linter.unusedSimpArgs false
set_option maxRecDepth 100000

set_option maxHeartbeats 4000000
/-- laws.eqLabel -/
def Fq13 (a0 : TB) (a1 : TB) : Option (Bool) :=
 br (std.not (std.eq a0.fy a1.fy))
 (some false)
 ((Fq83 a0.fa a1.fa).bind fun y1 =>
 br (!(y1))
 (some false)
 (br (std.not (std.seq a0.fN a1.fN))
 (some false)
 (some true)))
theorem runq13 (a0 : TB) (a1 : TB) (r : Bool) (h : Fq13 a0 a1 = some r) : Fun Tryz.prog 138 [.agg [wi a0.fy, wi a0.fa.fX, wi a0.fa.fY, ws a0.fN], .agg [wi a1.fy, wi a1.fa.fX, wi a1.fa.fY, ws a1.fN]] [] (.c (.v (.bool r))) [] true := by
 refine Fun.of_wp (oneOf []) tok mixed Tryz.func138 (by kernel_rfl) rfl Tryz.ntmps138 rfl trivial (fun _ => ⟨trivial, tv⟩) ?_
 unfold Fq13 at h
 have hfq83 := @runq83
 generalize hLEN : @len = LEN, hGD : @gd = GD, hA : std = A, hP : Tryz.prog = P at *
 cbv
 refine fork (fun b5 => ?_) (fun b5 => ?_)
 ·replace h := ot b5 h
  cbv
  injection h with h
  subst h
  refine ⟨(sp 21 [(4, .c (.v (.bool false)))] []), ?_, ?_⟩
  ·exact lsp rfl zl1 trivial rfl
  ·exact ⟨lR _, trivial, rfl⟩
 ·replace h := og b5 h
  cbv
  replace h := ob_ h
  obtain ⟨y1, hy2, h⟩ := h
  refine ⟨⟨_, _, _, _, _, [], []⟩, hfq83 _ _ _ hy2, ⟨zs2, trivial, rfl, rfl, rfl, rfl, trivial, rfl⟩, ?_⟩
  cbv
  refine fork (fun b4 => ?_) (fun b4 => ?_)
  ·replace h := ot b4 h
   cbv
   injection h with h
   subst h
   refine ⟨(sp 21 [(4, .c (.v (.bool false)))] []), ?_, ?_⟩
   ·exact lsp rfl zl1 trivial rfl
   ·exact ⟨lR _, trivial, rfl⟩
  ·replace h := og b4 h
   cbv
   refine fork (fun b3 => ?_) (fun b3 => ?_)
   ·replace h := ot b3 h
    cbv
    injection h with h
    subst h
    refine ⟨(sp 21 [(4, .c (.v (.bool false)))] []), ?_, ?_⟩
    ·exact lsp rfl zl1 trivial rfl
    ·exact ⟨lR _, trivial, rfl⟩
   ·replace h := og b3 h
    cbv
    injection h with h
    subst h
    refine ⟨(sp 21 [(4, .c (.v (.bool true)))] []), ?_, ?_⟩
    ·exact lsp rfl zl1 trivial rfl
    ·exact ⟨lR _, trivial, rfl⟩

def Lq47_x2 (a0 : List TB) (a1 : List TB) : (Int) -> Option ((Int) ⊕ ((Unit) ⊕ (Unit))) := fun x2 =>
 letO x2 fun v1 =>
 br (std.lt v1 (std.ofN (len a0)))
 (req (std.inR v1 (len a0)) <|
 req (std.inR v1 (len a1)) <|
 (Fq13 (gd a0 (std.toN v1)) (gd a1 (std.toN v1))).bind fun y16 =>
 br (!(y16))
 (some (.inr (.inl ())))
 (some (.inl (std.add .i64 v1 1))))
 (some (.inr (.inr ())))
/-- laws.eqLabelS -/
def Fq47 (a0 : List TB) (a1 : List TB) : Option (Bool) :=
 br (std.not (std.eq (std.ofN (len a0)) (std.ofN (len a1))))
 (some false)
 ((whileP (σ := Int) (ρ := (Unit) ⊕ (Unit)) (Lq47_x2 a0 a1) 0).bind fun y3 =>
 (match y3 with
 | .inl y3k0 => (
 some false)
 | .inr y3m0 =>
 some true))
theorem runq47 (a0 : List TB) (a1 : List TB) (r : Bool) (h : Fq47 a0 a1 = some r) : Fun Tryz.prog 209 [.c (.bs (len a0) 4 (row gd (eL) a0)), .c (.bs (len a1) 4 (row gd (eL) a1))] [] (.c (.v (.bool r))) [] true := by
 refine Fun.of_wp (oneOf []) tok mixed Tryz.func209 (by kernel_rfl) rfl Tryz.ntmps209 rfl trivial (fun _ => ⟨trivial, tv⟩) ?_
 unfold Fq47 at h
 unfold Lq47_x2 at h
 have hfq13 := @runq13
 generalize hLEN : @len = LEN, hGD : @gd = GD, hA : std = A, hP : Tryz.prog = P at *
 cbv
 refine fork (fun b20 => ?_) (fun b20 => ?_)
 ·replace h := ot b20 h
  cbv
  injection h with h
  subst h
  refine ⟨(sp 27 [(4, .c (.v (.bool false)))] []), ?_, ?_⟩
  ·exact lsp rfl zl1 trivial rfl
  ·exact ⟨lR _, trivial, rfl⟩
 ·replace h := og b20 h
  cbv
  replace h := ob_ h
  obtain ⟨y3, hr4, hN5⟩ := h
  refine loop_cut hr4 (fun x => (sp 27 [(0, .c (.bs (LEN a0) 4 (row GD (eL) a0))), (1, .c (.bs (LEN a1) 4 (row GD (eL) a1))), (5, .c (wi x))] [])) ?_ (fun y e s => (match y with | .inl w => e = .ret /\ s.le (sp 27 [(4, .c (.v (.bool false)))] []) | .inr w0 => (fun (w : Unit) => e = .exit 0 /\ s.le (sp 27 [] [])) w0)) ?_ ?_
  ·clear hr4 hN5
   show St.le _ _
   exact lsp rfl zl3 trivial rfl
  ·clear hr4 hN5
   intro x z9 h K7 hK8 hY6
   replace h := ol h
   obtain ⟨v1, hv1, h⟩ := h
   have hv1 : v1 = x := hv1
   subst hv1
   cbv
   refine fork (fun b19 => ?_) (fun b19 => ?_)
   ·replace h := ot b19 h
    cbv
    replace h := oq h
    obtain ⟨c14, h⟩ := h
    refine ⟨⟨c14, tv⟩, ?_⟩
    replace h := oq h
    obtain ⟨c15, h⟩ := h
    refine ⟨⟨c15, tv⟩, ?_⟩
    replace h := ob_ h
    obtain ⟨y16, hy17, h⟩ := h
    refine ⟨⟨_, _, _, _, _, [], []⟩, hfq13 _ _ _ hy17, ⟨zs2, trivial, rfl, rfl, rfl, rfl, trivial, rfl⟩, ?_⟩
    cbv
    refine fork (fun b18 => ?_) (fun b18 => ?_)
    ·replace h := ot b18 h
     cbv
     injection h with h
     refine hY6 _ h.symm _ _ (And.intro rfl ?_) (by intro hh; cases hh)
     exact lsp rfl zl1 trivial rfl
    ·replace h := og b18 h
     cbv
     injection h with h
     refine hK8 _ h.symm _ ?_
     exact lsp rfl zl3 trivial rfl
   ·replace h := og b19 h
    cbv
    injection h with h
    refine hY6 _ h.symm _ _ (And.intro rfl ?_) (by intro hh; cases hh)
    exact lsp rfl trivial trivial rfl
  ·clear hr4
   have h := hN5
   clear hN5
   intro e12 s13 q11 hne
   rcases y3 with y3k0 | y3m0
   ·replace h := h
    obtain ⟨rfl, q11⟩ := q11
    cbv
    injection h with h
    subst h
    refine ⟨(sp 27 [(4, .c (.v (.bool false)))] []), ?_, ?_⟩
    ·refine St.le_trans q11 ?_
     exact lsp rfl zl1 trivial rfl
    ·exact ⟨lR _, trivial, rfl⟩
   ·obtain ⟨rfl, q11⟩ := q11
    cbv
    refine ⟨_, q11, ?_⟩
    cbv
    injection h with h
    subst h
    refine ⟨(sp 27 [(4, .c (.v (.bool true)))] []), ?_, ?_⟩
    ·exact lsp rfl zl1 trivial rfl
    ·exact ⟨lR _, trivial, rfl⟩

/-- laws.eqTransform -/
def Fq91 (a0 : TM) (a1 : TM) : Option (Bool) :=
 br (std.not (std.eq a0.fo a1.fo))
 (some false)
 (br (std.not (std.eq a0.fX a1.fX))
 (some false)
 (br (std.not (std.eq a0.fY a1.fY))
 (some false)
 (some true)))
theorem runq91 (a0 : TM) (a1 : TM) (r : Bool) (h : Fq91 a0 a1 = some r) : Fun Tryz.prog 213 [.agg [wi a0.fo, wi a0.fX, wi a0.fY], .agg [wi a1.fo, wi a1.fX, wi a1.fY]] [] (.c (.v (.bool r))) [] true := by
 refine Fun.of_wp (oneOf []) tok mixed Tryz.func213 (by kernel_rfl) rfl Tryz.ntmps213 rfl trivial (fun _ => ⟨trivial, tv⟩) ?_
 unfold Fq91 at h
 generalize hLEN : @len = LEN, hGD : @gd = GD, hA : std = A, hP : Tryz.prog = P at *
 cbv
 refine fork (fun b3 => ?_) (fun b3 => ?_)
 ·replace h := ot b3 h
  cbv
  injection h with h
  subst h
  refine ⟨(sp 20 [(4, .c (.v (.bool false)))] []), ?_, ?_⟩
  ·exact lsp rfl zl1 trivial rfl
  ·exact ⟨lR _, trivial, rfl⟩
 ·replace h := og b3 h
  cbv
  refine fork (fun b2 => ?_) (fun b2 => ?_)
  ·replace h := ot b2 h
   cbv
   injection h with h
   subst h
   refine ⟨(sp 20 [(4, .c (.v (.bool false)))] []), ?_, ?_⟩
   ·exact lsp rfl zl1 trivial rfl
   ·exact ⟨lR _, trivial, rfl⟩
  ·replace h := og b2 h
   cbv
   refine fork (fun b1 => ?_) (fun b1 => ?_)
   ·replace h := ot b1 h
    cbv
    injection h with h
    subst h
    refine ⟨(sp 20 [(4, .c (.v (.bool false)))] []), ?_, ?_⟩
    ·exact lsp rfl zl1 trivial rfl
    ·exact ⟨lR _, trivial, rfl⟩
   ·replace h := og b1 h
    cbv
    injection h with h
    subst h
    refine ⟨(sp 20 [(4, .c (.v (.bool true)))] []), ?_, ?_⟩
    ·exact lsp rfl zl1 trivial rfl
    ·exact ⟨lR _, trivial, rfl⟩

/-- laws.eqInstance -/
def Fq16 (a0 : TI) (a1 : TI) : Option (Bool) :=
 br (std.not (std.eq a0.fc a1.fc))
 (some false)
 ((Fq91 a0.fp a1.fp).bind fun y1 =>
 br (!(y1))
 (some false)
 (br (std.not (std.eq a0.fK a1.fK))
 (some false)
 (br (std.not (std.eq a0.fR a1.fR))
 (some false)
 (br (std.not (std.eq a0.fu a1.fu))
 (some false)
 (br (std.not (std.eq a0.fv a1.fv))
 (some false)
 (some true))))))
theorem runq16 (a0 : TI) (a1 : TI) (r : Bool) (h : Fq16 a0 a1 = some r) : Fun Tryz.prog 139 [.agg [wi a0.fc, wi a0.fp.fo, wi a0.fp.fX, wi a0.fp.fY, wi a0.fK, wi a0.fR, wi a0.fu, wi a0.fv], .agg [wi a1.fc, wi a1.fp.fo, wi a1.fp.fX, wi a1.fp.fY, wi a1.fK, wi a1.fR, wi a1.fu, wi a1.fv]] [] (.c (.v (.bool r))) [] true := by
 refine Fun.of_wp (oneOf []) tok mixed Tryz.func139 (by kernel_rfl) rfl Tryz.ntmps139 rfl trivial (fun _ => ⟨trivial, tv⟩) ?_
 unfold Fq16 at h
 have hfq91 := @runq91
 generalize hLEN : @len = LEN, hGD : @gd = GD, hA : std = A, hP : Tryz.prog = P at *
 cbv
 refine fork (fun b8 => ?_) (fun b8 => ?_)
 ·replace h := ot b8 h
  cbv
  injection h with h
  subst h
  refine ⟨(sp 36 [(4, .c (.v (.bool false)))] []), ?_, ?_⟩
  ·exact lsp rfl zl1 trivial rfl
  ·exact ⟨lR _, trivial, rfl⟩
 ·replace h := og b8 h
  cbv
  replace h := ob_ h
  obtain ⟨y1, hy2, h⟩ := h
  refine ⟨⟨_, _, _, _, _, [], []⟩, hfq91 _ _ _ hy2, ⟨zs2, trivial, rfl, rfl, rfl, rfl, trivial, rfl⟩, ?_⟩
  cbv
  refine fork (fun b7 => ?_) (fun b7 => ?_)
  ·replace h := ot b7 h
   cbv
   injection h with h
   subst h
   refine ⟨(sp 36 [(4, .c (.v (.bool false)))] []), ?_, ?_⟩
   ·exact lsp rfl zl1 trivial rfl
   ·exact ⟨lR _, trivial, rfl⟩
  ·replace h := og b7 h
   cbv
   refine fork (fun b6 => ?_) (fun b6 => ?_)
   ·replace h := ot b6 h
    cbv
    injection h with h
    subst h
    refine ⟨(sp 36 [(4, .c (.v (.bool false)))] []), ?_, ?_⟩
    ·exact lsp rfl zl1 trivial rfl
    ·exact ⟨lR _, trivial, rfl⟩
   ·replace h := og b6 h
    cbv
    refine fork (fun b5 => ?_) (fun b5 => ?_)
    ·replace h := ot b5 h
     cbv
     injection h with h
     subst h
     refine ⟨(sp 36 [(4, .c (.v (.bool false)))] []), ?_, ?_⟩
     ·exact lsp rfl zl1 trivial rfl
     ·exact ⟨lR _, trivial, rfl⟩
    ·replace h := og b5 h
     cbv
     refine fork (fun b4 => ?_) (fun b4 => ?_)
     ·replace h := ot b4 h
      cbv
      injection h with h
      subst h
      refine ⟨(sp 36 [(4, .c (.v (.bool false)))] []), ?_, ?_⟩
      ·exact lsp rfl zl1 trivial rfl
      ·exact ⟨lR _, trivial, rfl⟩
     ·replace h := og b4 h
      cbv
      refine fork (fun b3 => ?_) (fun b3 => ?_)
      ·replace h := ot b3 h
       cbv
       injection h with h
       subst h
       refine ⟨(sp 36 [(4, .c (.v (.bool false)))] []), ?_, ?_⟩
       ·exact lsp rfl zl1 trivial rfl
       ·exact ⟨lR _, trivial, rfl⟩
      ·replace h := og b3 h
       cbv
       injection h with h
       subst h
       refine ⟨(sp 36 [(4, .c (.v (.bool true)))] []), ?_, ?_⟩
       ·exact lsp rfl zl1 trivial rfl
       ·exact ⟨lR _, trivial, rfl⟩

def Lq45_x2 (a0 : List TI) (a1 : List TI) : (Int) -> Option ((Int) ⊕ ((Unit) ⊕ (Unit))) := fun x2 =>
 letO x2 fun v1 =>
 br (std.lt v1 (std.ofN (len a0)))
 (req (std.inR v1 (len a0)) <|
 req (std.inR v1 (len a1)) <|
 (Fq16 (gd a0 (std.toN v1)) (gd a1 (std.toN v1))).bind fun y16 =>
 br (!(y16))
 (some (.inr (.inl ())))
 (some (.inl (std.add .i64 v1 1))))
 (some (.inr (.inr ())))
/-- laws.eqInstanceS -/
def Fq45 (a0 : List TI) (a1 : List TI) : Option (Bool) :=
 br (std.not (std.eq (std.ofN (len a0)) (std.ofN (len a1))))
 (some false)
 ((whileP (σ := Int) (ρ := (Unit) ⊕ (Unit)) (Lq45_x2 a0 a1) 0).bind fun y3 =>
 (match y3 with
 | .inl y3k0 => (
 some false)
 | .inr y3m0 =>
 some true))
theorem runq45 (a0 : List TI) (a1 : List TI) (r : Bool) (h : Fq45 a0 a1 = some r) : Fun Tryz.prog 210 [.c (.bs (len a0) 8 (row gd (eI) a0)), .c (.bs (len a1) 8 (row gd (eI) a1))] [] (.c (.v (.bool r))) [] true := by
 refine Fun.of_wp (oneOf []) tok mixed Tryz.func210 (by kernel_rfl) rfl Tryz.ntmps210 rfl trivial (fun _ => ⟨trivial, tv⟩) ?_
 unfold Fq45 at h
 unfold Lq45_x2 at h
 have hfq16 := @runq16
 generalize hLEN : @len = LEN, hGD : @gd = GD, hA : std = A, hP : Tryz.prog = P at *
 cbv
 refine fork (fun b20 => ?_) (fun b20 => ?_)
 ·replace h := ot b20 h
  cbv
  injection h with h
  subst h
  refine ⟨(sp 27 [(4, .c (.v (.bool false)))] []), ?_, ?_⟩
  ·exact lsp rfl zl1 trivial rfl
  ·exact ⟨lR _, trivial, rfl⟩
 ·replace h := og b20 h
  cbv
  replace h := ob_ h
  obtain ⟨y3, hr4, hN5⟩ := h
  refine loop_cut hr4 (fun x => (sp 27 [(0, .c (.bs (LEN a0) 8 (row GD (eI) a0))), (1, .c (.bs (LEN a1) 8 (row GD (eI) a1))), (5, .c (wi x))] [])) ?_ (fun y e s => (match y with | .inl w => e = .ret /\ s.le (sp 27 [(4, .c (.v (.bool false)))] []) | .inr w0 => (fun (w : Unit) => e = .exit 0 /\ s.le (sp 27 [] [])) w0)) ?_ ?_
  ·clear hr4 hN5
   show St.le _ _
   exact lsp rfl zl3 trivial rfl
  ·clear hr4 hN5
   intro x z9 h K7 hK8 hY6
   replace h := ol h
   obtain ⟨v1, hv1, h⟩ := h
   have hv1 : v1 = x := hv1
   subst hv1
   cbv
   refine fork (fun b19 => ?_) (fun b19 => ?_)
   ·replace h := ot b19 h
    cbv
    replace h := oq h
    obtain ⟨c14, h⟩ := h
    refine ⟨⟨c14, tv⟩, ?_⟩
    replace h := oq h
    obtain ⟨c15, h⟩ := h
    refine ⟨⟨c15, tv⟩, ?_⟩
    replace h := ob_ h
    obtain ⟨y16, hy17, h⟩ := h
    refine ⟨⟨_, _, _, _, _, [], []⟩, hfq16 _ _ _ hy17, ⟨zs2, trivial, rfl, rfl, rfl, rfl, trivial, rfl⟩, ?_⟩
    cbv
    refine fork (fun b18 => ?_) (fun b18 => ?_)
    ·replace h := ot b18 h
     cbv
     injection h with h
     refine hY6 _ h.symm _ _ (And.intro rfl ?_) (by intro hh; cases hh)
     exact lsp rfl zl1 trivial rfl
    ·replace h := og b18 h
     cbv
     injection h with h
     refine hK8 _ h.symm _ ?_
     exact lsp rfl zl3 trivial rfl
   ·replace h := og b19 h
    cbv
    injection h with h
    refine hY6 _ h.symm _ _ (And.intro rfl ?_) (by intro hh; cases hh)
    exact lsp rfl trivial trivial rfl
  ·clear hr4
   have h := hN5
   clear hN5
   intro e12 s13 q11 hne
   rcases y3 with y3k0 | y3m0
   ·replace h := h
    obtain ⟨rfl, q11⟩ := q11
    cbv
    injection h with h
    subst h
    refine ⟨(sp 27 [(4, .c (.v (.bool false)))] []), ?_, ?_⟩
    ·refine St.le_trans q11 ?_
     exact lsp rfl zl1 trivial rfl
    ·exact ⟨lR _, trivial, rfl⟩
   ·obtain ⟨rfl, q11⟩ := q11
    cbv
    refine ⟨_, q11, ?_⟩
    cbv
    injection h with h
    subst h
    refine ⟨(sp 27 [(4, .c (.v (.bool true)))] []), ?_, ?_⟩
    ·exact lsp rfl zl1 trivial rfl
    ·exact ⟨lR _, trivial, rfl⟩

/-- laws.eqCell -/
def Fq15 (a0 : TC) (a1 : TC) : Option (Bool) :=
 br (std.not (std.seq a0.fN a1.fN))
 (some false)
 ((Fq38 a0.fS a1.fS).bind fun y1 =>
 br (!(y1))
 (some false)
 ((Fq47 a0.fL a1.fL).bind fun y3 =>
 br (!(y3))
 (some false)
 ((Fq45 a0.fI a1.fI).bind fun y5 =>
 br (!(y5))
 (some false)
 (some true))))
theorem runq15 (a0 : TC) (a1 : TC) (r : Bool) (h : Fq15 a0 a1 = some r) : Fun Tryz.prog 127 [.agg [ws a0.fN, .bs (len a0.fS) 5 (row gd (eS) a0.fS), .bs (len a0.fL) 4 (row gd (eL) a0.fL), .bs (len a0.fI) 8 (row gd (eI) a0.fI)], .agg [ws a1.fN, .bs (len a1.fS) 5 (row gd (eS) a1.fS), .bs (len a1.fL) 4 (row gd (eL) a1.fL), .bs (len a1.fI) 8 (row gd (eI) a1.fI)]] [] (.c (.v (.bool r))) [] true := by
 refine Fun.of_wp (oneOf []) tok mixed Tryz.func127 (by kernel_rfl) rfl Tryz.ntmps127 rfl trivial (fun _ => ⟨trivial, tv⟩) ?_
 unfold Fq15 at h
 have hfq45 := @runq45
 have hfq47 := @runq47
 have hfq38 := @runq38
 generalize hLEN : @len = LEN, hGD : @gd = GD, hA : std = A, hP : Tryz.prog = P at *
 cbv
 refine fork (fun b10 => ?_) (fun b10 => ?_)
 ·replace h := ot b10 h
  cbv
  injection h with h
  subst h
  refine ⟨(sp 28 [(4, .c (.v (.bool false)))] []), ?_, ?_⟩
  ·exact lsp rfl zl1 trivial rfl
  ·exact ⟨lR _, trivial, rfl⟩
 ·replace h := og b10 h
  cbv
  replace h := ob_ h
  obtain ⟨y1, hy2, h⟩ := h
  refine ⟨⟨_, _, _, _, _, [], []⟩, hfq38 _ _ _ hy2, ⟨zs2, trivial, rfl, rfl, rfl, rfl, trivial, rfl⟩, ?_⟩
  cbv
  refine fork (fun b9 => ?_) (fun b9 => ?_)
  ·replace h := ot b9 h
   cbv
   injection h with h
   subst h
   refine ⟨(sp 28 [(4, .c (.v (.bool false)))] []), ?_, ?_⟩
   ·exact lsp rfl zl1 trivial rfl
   ·exact ⟨lR _, trivial, rfl⟩
  ·replace h := og b9 h
   cbv
   replace h := ob_ h
   obtain ⟨y3, hy4, h⟩ := h
   refine ⟨⟨_, _, _, _, _, [], []⟩, hfq47 _ _ _ hy4, ⟨zs2, trivial, rfl, rfl, rfl, rfl, trivial, rfl⟩, ?_⟩
   cbv
   refine fork (fun b8 => ?_) (fun b8 => ?_)
   ·replace h := ot b8 h
    cbv
    injection h with h
    subst h
    refine ⟨(sp 28 [(4, .c (.v (.bool false)))] []), ?_, ?_⟩
    ·exact lsp rfl zl1 trivial rfl
    ·exact ⟨lR _, trivial, rfl⟩
   ·replace h := og b8 h
    cbv
    replace h := ob_ h
    obtain ⟨y5, hy6, h⟩ := h
    refine ⟨⟨_, _, _, _, _, [], []⟩, hfq45 _ _ _ hy6, ⟨zs2, trivial, rfl, rfl, rfl, rfl, trivial, rfl⟩, ?_⟩
    cbv
    refine fork (fun b7 => ?_) (fun b7 => ?_)
    ·replace h := ot b7 h
     cbv
     injection h with h
     subst h
     refine ⟨(sp 28 [(4, .c (.v (.bool false)))] []), ?_, ?_⟩
     ·exact lsp rfl zl1 trivial rfl
     ·exact ⟨lR _, trivial, rfl⟩
    ·replace h := og b7 h
     cbv
     injection h with h
     subst h
     refine ⟨(sp 28 [(4, .c (.v (.bool true)))] []), ?_, ?_⟩
     ·exact lsp rfl zl1 trivial rfl
     ·exact ⟨lR _, trivial, rfl⟩
set_option maxHeartbeats 4000000
def Lq42_x2 (a0 : List TC) (a1 : List TC) : (Int) -> Option ((Int) ⊕ ((Unit) ⊕ (Unit))) := fun x2 =>
 letO x2 fun v1 =>
 br (std.lt v1 (std.ofN (len a0)))
 (req (std.inR v1 (len a0)) <|
 req (std.inR v1 (len a1)) <|
 (Fq15 (gd a0 (std.toN v1)) (gd a1 (std.toN v1))).bind fun y16 =>
 br (!(y16))
 (some (.inr (.inl ())))
 (some (.inl (std.add .i64 v1 1))))
 (some (.inr (.inr ())))
/-- laws.eqCellS -/
def Fq42 (a0 : List TC) (a1 : List TC) : Option (Bool) :=
 br (std.not (std.eq (std.ofN (len a0)) (std.ofN (len a1))))
 (some false)
 ((whileP (σ := Int) (ρ := (Unit) ⊕ (Unit)) (Lq42_x2 a0 a1) 0).bind fun y3 =>
 (match y3 with
 | .inl y3k0 => (
 some false)
 | .inr y3m0 =>
 some true))
theorem runq42 (a0 : List TC) (a1 : List TC) (r : Bool) (h : Fq42 a0 a1 = some r) : Fun Tryz.prog 66 [.c (.bs (len a0) 4 (row gd (eC len gd) a0)), .c (.bs (len a1) 4 (row gd (eC len gd) a1))] [] (.c (.v (.bool r))) [] true := by
 refine Fun.of_wp (oneOf []) tok mixed Tryz.func66 (by kernel_rfl) rfl Tryz.ntmps66 rfl trivial (fun _ => ⟨trivial, tv⟩) ?_
 unfold Fq42 at h
 unfold Lq42_x2 at h
 have hfq15 := @runq15
 generalize hLEN : @len = LEN, hGD : @gd = GD, hA : std = A, hP : Tryz.prog = P at *
 cbv
 refine fork (fun b20 => ?_) (fun b20 => ?_)
 ·replace h := ot b20 h
  cbv
  injection h with h
  subst h
  refine ⟨(sp 27 [(4, .c (.v (.bool false)))] []), ?_, ?_⟩
  ·exact lsp rfl zl1 trivial rfl
  ·exact ⟨lR _, trivial, rfl⟩
 ·replace h := og b20 h
  cbv
  replace h := ob_ h
  obtain ⟨y3, hr4, hN5⟩ := h
  refine loop_cut hr4 (fun x => (sp 27 [(0, .c (.bs (LEN a0) 4 (row GD (eC LEN GD) a0))), (1, .c (.bs (LEN a1) 4 (row GD (eC LEN GD) a1))), (5, .c (wi x))] [])) ?_ (fun y e s => (match y with | .inl w => e = .ret /\ s.le (sp 27 [(4, .c (.v (.bool false)))] []) | .inr w0 => (fun (w : Unit) => e = .exit 0 /\ s.le (sp 27 [] [])) w0)) ?_ ?_
  ·clear hr4 hN5
   show St.le _ _
   exact lsp rfl zl3 trivial rfl
  ·clear hr4 hN5
   intro x z9 h K7 hK8 hY6
   replace h := ol h
   obtain ⟨v1, hv1, h⟩ := h
   have hv1 : v1 = x := hv1
   subst hv1
   cbv
   refine fork (fun b19 => ?_) (fun b19 => ?_)
   ·replace h := ot b19 h
    cbv
    replace h := oq h
    obtain ⟨c14, h⟩ := h
    refine ⟨⟨c14, tv⟩, ?_⟩
    replace h := oq h
    obtain ⟨c15, h⟩ := h
    refine ⟨⟨c15, tv⟩, ?_⟩
    replace h := ob_ h
    obtain ⟨y16, hy17, h⟩ := h
    refine ⟨⟨_, _, _, _, _, [], []⟩, hfq15 _ _ _ hy17, ⟨zs2, trivial, rfl, rfl, rfl, rfl, trivial, rfl⟩, ?_⟩
    cbv
    refine fork (fun b18 => ?_) (fun b18 => ?_)
    ·replace h := ot b18 h
     cbv
     injection h with h
     refine hY6 _ h.symm _ _ (And.intro rfl ?_) (by intro hh; cases hh)
     exact lsp rfl zl1 trivial rfl
    ·replace h := og b18 h
     cbv
     injection h with h
     refine hK8 _ h.symm _ ?_
     exact lsp rfl zl3 trivial rfl
   ·replace h := og b19 h
    cbv
    injection h with h
    refine hY6 _ h.symm _ _ (And.intro rfl ?_) (by intro hh; cases hh)
    exact lsp rfl trivial trivial rfl
  ·clear hr4
   have h := hN5
   clear hN5
   intro e12 s13 q11 hne
   rcases y3 with y3k0 | y3m0
   ·replace h := h
    obtain ⟨rfl, q11⟩ := q11
    cbv
    injection h with h
    subst h
    refine ⟨(sp 27 [(4, .c (.v (.bool false)))] []), ?_, ?_⟩
    ·refine St.le_trans q11 ?_
     exact lsp rfl zl1 trivial rfl
    ·exact ⟨lR _, trivial, rfl⟩
   ·obtain ⟨rfl, q11⟩ := q11
    cbv
    refine ⟨_, q11, ?_⟩
    cbv
    injection h with h
    subst h
    refine ⟨(sp 27 [(4, .c (.v (.bool true)))] []), ?_, ?_⟩
    ·exact lsp rfl zl1 trivial rfl
    ·exact ⟨lR _, trivial, rfl⟩

/-- laws.eqLibrary -/
def Fq29 (a0 : TL) (a1 : TL) : Option (Bool) :=
 (Fq42 a0.fC a1.fC).bind fun y1 =>
 br (!(y1))
 (some false)
 (some true)
theorem runq29 (a0 : TL) (a1 : TL) (r : Bool) (h : Fq29 a0 a1 = some r) : Fun Tryz.prog 20 [.agg [.bs (len a0.fC) 4 (row gd (eC len gd) a0.fC)], .agg [.bs (len a1.fC) 4 (row gd (eC len gd) a1.fC)]] [] (.c (.v (.bool r))) [] true := by
 refine Fun.of_wp (oneOf []) tok mixed Tryz.func20 (by kernel_rfl) rfl Tryz.ntmps20 rfl trivial (fun _ => ⟨trivial, tv⟩) ?_
 unfold Fq29 at h
 have hfq42 := @runq42
 generalize hLEN : @len = LEN, hGD : @gd = GD, hA : std = A, hP : Tryz.prog = P at *
 cbv
 replace h := ob_ h
 obtain ⟨y1, hy2, h⟩ := h
 refine ⟨⟨_, _, _, _, _, [], []⟩, hfq42 _ _ _ hy2, ⟨zs2, trivial, rfl, rfl, rfl, rfl, trivial, rfl⟩, ?_⟩
 cbv
 refine fork (fun b3 => ?_) (fun b3 => ?_)
 ·replace h := ot b3 h
  cbv
  injection h with h
  subst h
  refine ⟨(sp 11 [(4, .c (.v (.bool false)))] []), ?_, ?_⟩
  ·exact lsp rfl zl1 trivial rfl
  ·exact ⟨lR _, trivial, rfl⟩
 ·replace h := og b3 h
  cbv
  injection h with h
  subst h
  refine ⟨(sp 11 [(4, .c (.v (.bool true)))] []), ?_, ?_⟩
  ·exact lsp rfl zl1 trivial rfl
  ·exact ⟨lR _, trivial, rfl⟩

def Lq3_x3  : (Int × ByteArray) -> Option ((Int × ByteArray) ⊕ ((ByteArray))) := fun x3 =>
 letO x3.1 fun v1 =>
 letO x3.2 fun v2 =>
 br (std.lt 0 v1)
 (req (std.nz 10) <|
 letO ([std.conv .u8 (std.add .i64 48 (std.rem v1 10))] : List Int) fun l16 =>
 req (std.room (std.nadd (std.slen (std.ofBytes (len l16) (fun i => gd l16 (0 + i)))) (std.slen v2)) 1) <|
 req (std.nz 10) <|
 some (.inl (std.quo .i64 v1 10, std.scat (std.ofBytes (len l16) (fun i => gd l16 (0 + i))) v2)))
 (some (.inr v2))
/-- laws.markText -/
def Fq3 (a0 : Int) : Option (ByteArray) :=
 br (std.le a0 0)
 (some (ByteArray.mk #[109, 48]))
 ((whileP (σ := Int × ByteArray) (ρ := (ByteArray)) Lq3_x3 (a0, (ByteArray.mk #[]))).bind fun y4 =>
 letO y4 fun y4k0 =>
 letO y4k0 fun w21 =>
 req (std.room (std.nadd (std.slen (ByteArray.mk #[109])) (std.slen w21)) 1) <|
 some (std.scat (ByteArray.mk #[109]) w21))
theorem runq3 (a0 : Int) (r : ByteArray) (h : Fq3 a0 = some r) : Fun Tryz.prog 72 [.c (wi a0)] [] (.c (ws r)) [] true := by
 refine Fun.of_wp (oneOf []) tok mixed Tryz.func72 (by kernel_rfl) rfl Tryz.ntmps72 rfl trivial (fun _ => ⟨trivial, tv⟩) ?_
 unfold Fq3 at h
 unfold Lq3_x3 at h
 generalize hLEN : @len = LEN, hGD : @gd = GD, hA : std = A, hP : Tryz.prog = P at *
 cbv
 refine fork (fun b23 => ?_) (fun b23 => ?_)
 ·replace h := ot b23 h
  cbv
  injection h with h
  subst h
  refine ⟨(sp 20 [(2, .c (ws (ByteArray.mk #[109, 48])))] []), ?_, ?_⟩
  ·exact lsp rfl zl1 trivial rfl
  ·exact ⟨lR _, trivial, rfl⟩
 ·replace h := og b23 h
  cbv
  replace h := ob_ h
  obtain ⟨y4, hr5, hN6⟩ := h
  refine loop_cut hr5 (fun x => (sp 20 [(0, .c (wi x.1)), (3, .c (ws x.2))] [])) ?_ (fun y e s => (fun (w : ByteArray) => e = .exit 0 /\ s.le (sp 20 [(3, .c (ws w))] [])) y) ?_ ?_
  ·clear hr5 hN6
   show St.le _ _
   exact lsp rfl zl2 trivial rfl
  ·clear hr5 hN6
   intro x z10 h K8 hK9 hY7
   obtain ⟨x0_, x1_⟩ := x
   replace h := ol h
   obtain ⟨v1, hv1, h⟩ := h
   have hv1 : v1 = x0_ := hv1
   subst hv1
   replace h := ol h
   obtain ⟨v2, hv2, h⟩ := h
   have hv2 : v2 = x1_ := hv2
   subst hv2
   cbv
   refine fork (fun b20 => ?_) (fun b20 => ?_)
   ·replace h := ot b20 h
    cbv
    replace h := oq h
    obtain ⟨c15, h⟩ := h
    refine ⟨c15, ?_⟩
    replace h := ol h
    obtain ⟨l16, hl16, h⟩ := h
    have e17 : 1 = LEN l16 := by subst hl16 hLEN; rfl
    refine ⟨_, congrArg (fun n => AV.c (AC.os 768 0 n)) e17, _, row GD (encI .u8) l16, e17, wkOf ?_, ?_⟩
    ·intro i hi j hj
     rw [<- e17] at hi
     subst hl16
     subst hGD
     obtain rfl : i = 0 := (by omega)
     all_goals obtain rfl : j = 0 := by omega
     all_goals rfl
    cbv
    refine ⟨fun _ _ => rfl, ?_⟩
    replace h := oq h
    obtain ⟨c18, h⟩ := h
    refine ⟨c18, ?_⟩
    replace h := oq h
    obtain ⟨c19, h⟩ := h
    refine ⟨c19, ?_⟩
    injection h with h
    refine hK9 _ h.symm _ ?_
    exact lsp rfl zl2 trivial rfl
   ·replace h := og b20 h
    cbv
    injection h with h
    refine hY7 _ h.symm _ _ (And.intro rfl ?_) (by intro hh; cases hh)
    exact lsp rfl zl1 trivial rfl
  ·clear hr5
   have h := hN6
   clear hN6
   intro e13 s14 q12 hne
   replace h := ol h
   obtain ⟨y4k0, hyk, h⟩ := h
   have hyk : y4k0 = y4 := hyk
   subst hyk
   obtain ⟨rfl, q12⟩ := q12
   replace h := ol h
   obtain ⟨w21, hw21, h⟩ := h
   have hw21 : w21 = y4k0 := hw21
   subst hw21
   cbv
   refine ⟨_, q12, ?_⟩
   cbv
   replace h := oq h
   obtain ⟨c22, h⟩ := h
   refine ⟨c22, ?_⟩
   injection h with h
   subst h
   refine ⟨(sp 20 [(2, .c (ws (A.scat (ByteArray.mk #[109]) w21)))] []), ?_, ?_⟩
   ·exact lsp rfl zl1 trivial rfl
   ·exact ⟨lR _, trivial, rfl⟩

def Lq39_x4 (a0 : List TS) : (Int × Int × (List TS)) -> Option ((Int × Int × (List TS)) ⊕ ((Int × (List TS)))) := fun x4 =>
 letO x4.1 fun v1 =>
 letO x4.2.1 fun v2 =>
 letO x4.2.2 fun v3 =>
 br (std.lt v2 (std.ofN (len a0)))
 (req (std.inR v2 (len a0)) <|
 req (len a0 = len v3) <|
 letO (List.set v3 (std.nadd 0 (std.toN v2)) (TS.mk v1 (gd v3 (std.nadd 0 (std.toN v2))).fb)) fun l17 =>
 req (std.inR v2 (len a0)) <|
 req (len a0 = len l17) <|
 letO (List.set l17 (std.nadd 0 (std.toN v2)) (TS.mk (gd l17 (std.nadd 0 (std.toN v2))).fy (TRect.mk (std.add .i64 v1 1) (gd l17 (std.nadd 0 (std.toN v2))).fb.fY0 (gd l17 (std.nadd 0 (std.toN v2))).fb.fX1 (gd l17 (std.nadd 0 (std.toN v2))).fb.fY1))) fun l19 =>
 req (std.inR v2 (len a0)) <|
 req (len a0 = len l19) <|
 letO (List.set l19 (std.nadd 0 (std.toN v2)) (TS.mk (gd l19 (std.nadd 0 (std.toN v2))).fy (TRect.mk (gd l19 (std.nadd 0 (std.toN v2))).fb.fX0 (std.add .i64 (std.add .i64 v1 1) 1) (gd l19 (std.nadd 0 (std.toN v2))).fb.fX1 (gd l19 (std.nadd 0 (std.toN v2))).fb.fY1))) fun l21 =>
 req (std.inR v2 (len a0)) <|
 req (len a0 = len l21) <|
 letO (List.set l21 (std.nadd 0 (std.toN v2)) (TS.mk (gd l21 (std.nadd 0 (std.toN v2))).fy (TRect.mk (gd l21 (std.nadd 0 (std.toN v2))).fb.fX0 (gd l21 (std.nadd 0 (std.toN v2))).fb.fY0 (std.add .i64 (std.add .i64 (std.add .i64 v1 1) 1) 1) (gd l21 (std.nadd 0 (std.toN v2))).fb.fY1))) fun l23 =>
 req (std.inR v2 (len a0)) <|
 req (len a0 = len l23) <|
 letO (List.set l23 (std.nadd 0 (std.toN v2)) (TS.mk (gd l23 (std.nadd 0 (std.toN v2))).fy (TRect.mk (gd l23 (std.nadd 0 (std.toN v2))).fb.fX0 (gd l23 (std.nadd 0 (std.toN v2))).fb.fY0 (gd l23 (std.nadd 0 (std.toN v2))).fb.fX1 (std.add .i64 (std.add .i64 (std.add .i64 (std.add .i64 v1 1) 1) 1) 1)))) fun l25 =>
 some (.inl (std.add .i64 (std.add .i64 (std.add .i64 (std.add .i64 (std.add .i64 v1 1) 1) 1) 1) 1, std.add .i64 v2 1, l25)))
 (some (.inr (v1, v3)))
/-- laws.markShapeS -/
def Fq39 (a0 : List TS) (a1 : Int) : Option (Int × (List TS)) :=
 (whileP (σ := Int × Int × (List TS)) (ρ := (Int × (List TS))) (Lq39_x4 a0) (a1, 0, a0)).bind fun y5 =>
 letO y5 fun y5k0 =>
 letO y5k0.1 fun w32 =>
 letO y5k0.2 fun w33 =>
 req (len a0 = len w33) <|
 some (w32, w33)
theorem runq39 (a0 : List TS) (a1 : Int) (r : Int × (List TS)) (h : Fq39 a0 a1 = some r) : Fun Tryz.prog 128 [.c (.os 5 0 (len a0)), .c (wi a1)] [(5, .arr .rw [] (len a0) 5 (row gd (eS) a0))] (.c (wi r.1)) [(5, .arr .rw [] (len r.2) 5 (row gd (eS) r.2))] true := by
 refine Fun.of_wp (oneOf []) tok mixed Tryz.func128 (by kernel_rfl) rfl Tryz.ntmps128 rfl ⟨fun i _ j _ k hk => (noref (plain_nil (pl_encShape _ _)) hk).elim, tv⟩ (fun _ => ⟨trivial, ⟨fun i _ j _ => val_flat (vl_encShape _ _), tv⟩⟩) ?_
 unfold Fq39 at h
 unfold Lq39_x4 at h
 generalize hLEN : @len = LEN, hGD : @gd = GD, hA : std = A, hP : Tryz.prog = P at *
 cbv
 replace h := ob_ h
 obtain ⟨y5, hr6, hN7⟩ := h
 refine loop_cut hr6 (fun x => (sp 52 [(0, .c (.os 5 0 (LEN a0))), (1, .c (wi x.1)), (5, .c (wi x.2.1))] [(5, .arr .rw [] (LEN a0) 5 (row GD (eS) x.2.2))])) ?_ (fun y e s => (fun (w : Int × (List TS)) => e = .exit 0 /\ s.le (sp 52 [(1, .c (wi w.1))] [(5, .arr .rw [] (LEN a0) 5 (row GD (eS) w.2))])) y) ?_ ?_
 ·clear hr6 hN7
  show St.le _ _
  exact lsp rfl zl3 ⟨oS, tv⟩ rfl
 ·clear hr6 hN7
  intro x z11 h K9 hK10 hY8
  obtain ⟨x0_, x1_, x2_⟩ := x
  replace h := ol h
  obtain ⟨v1, hv1, h⟩ := h
  have hv1 : v1 = x0_ := hv1
  subst hv1
  replace h := ol h
  obtain ⟨v2, hv2, h⟩ := h
  have hv2 : v2 = x1_ := hv2
  subst hv2
  replace h := ol h
  obtain ⟨v3, hv3, h⟩ := h
  have hv3 : v3 = x2_ := hv3
  subst hv3
  cbv
  refine fork (fun b31 => ?_) (fun b31 => ?_)
  ·replace h := ot b31 h
   cbv
   replace h := oq h
   obtain ⟨c16, h⟩ := h
   refine ⟨⟨c16, tv⟩, ?_⟩
   replace h := oq h
   obtain ⟨c30, h⟩ := h
   replace h := ol h
   obtain ⟨l17, hl17, h⟩ := h
   refine And.intro (by subst hA; have p := ix c16; first | exact p | exact ⟨p, tv⟩ | exact ⟨p, trivial, tv⟩) ?_
   refine ⟨_, rfl, _, row GD (eS) l17, rfl, wkOf ?_, ?_⟩
   ·subst hGD hLEN hA
    rw [c30] at c16
    refine upd_set hl17 (ix c16) ?_ ?_
    ·intro b hb hh
     match b, hb, hh with | 0, _, hh => exact rfl | 1, _, hh => exact (absurd hh (nd rfl)) | 2, _, hh => exact (absurd hh (nd rfl)) | 3, _, hh => exact (absurd hh (nd rfl)) | 4, _, hh => exact (absurd hh (nd rfl)) | (b_ + 5), h_, _ => omega
    ·intro b hb hh
     match b, hb, hh with | 0, _, hh => exact (hh (yd rfl)).elim | 1, _, hh => exact rfl | 2, _, hh => exact rfl | 3, _, hh => exact rfl | 4, _, hh => exact rfl | (b_ + 5), h_, _ => omega
   cbv
   replace h := oq h
   obtain ⟨c18, h⟩ := h
   refine ⟨⟨c18, tv⟩, ?_⟩
   replace h := oq h
   obtain ⟨c29, h⟩ := h
   replace h := ol h
   obtain ⟨l19, hl19, h⟩ := h
   refine And.intro (by subst hA; have p := ix c18; first | exact p | exact ⟨p, tv⟩ | exact ⟨p, trivial, tv⟩) ?_
   refine ⟨_, rfl, _, row GD (eS) l19, rfl, wkOf ?_, ?_⟩
   ·subst hGD hLEN hA
    rw [c29] at c18
    refine upd_set hl19 (ix c18) ?_ ?_
    ·intro b hb hh
     match b, hb, hh with | 0, _, hh => exact (absurd hh (nd rfl)) | 1, _, hh => exact rfl | 2, _, hh => exact (absurd hh (nd rfl)) | 3, _, hh => exact (absurd hh (nd rfl)) | 4, _, hh => exact (absurd hh (nd rfl)) | (b_ + 5), h_, _ => omega
    ·intro b hb hh
     match b, hb, hh with | 0, _, hh => exact rfl | 1, _, hh => exact (hh (yd rfl)).elim | 2, _, hh => exact rfl | 3, _, hh => exact rfl | 4, _, hh => exact rfl | (b_ + 5), h_, _ => omega
   cbv
   replace h := oq h
   obtain ⟨c20, h⟩ := h
   refine ⟨⟨c20, tv⟩, ?_⟩
   replace h := oq h
   obtain ⟨c28, h⟩ := h
   replace h := ol h
   obtain ⟨l21, hl21, h⟩ := h
   refine And.intro (by subst hA; have p := ix c20; first | exact p | exact ⟨p, tv⟩ | exact ⟨p, trivial, tv⟩) ?_
   refine ⟨_, rfl, _, row GD (eS) l21, rfl, wkOf ?_, ?_⟩
   ·subst hGD hLEN hA
    rw [c28] at c20
    refine upd_set hl21 (ix c20) ?_ ?_
    ·intro b hb hh
     match b, hb, hh with | 0, _, hh => exact (absurd hh (nd rfl)) | 1, _, hh => exact (absurd hh (nd rfl)) | 2, _, hh => exact rfl | 3, _, hh => exact (absurd hh (nd rfl)) | 4, _, hh => exact (absurd hh (nd rfl)) | (b_ + 5), h_, _ => omega
    ·intro b hb hh
     match b, hb, hh with | 0, _, hh => exact rfl | 1, _, hh => exact rfl | 2, _, hh => exact (hh (yd rfl)).elim | 3, _, hh => exact rfl | 4, _, hh => exact rfl | (b_ + 5), h_, _ => omega
   cbv
   replace h := oq h
   obtain ⟨c22, h⟩ := h
   refine ⟨⟨c22, tv⟩, ?_⟩
   replace h := oq h
   obtain ⟨c27, h⟩ := h
   replace h := ol h
   obtain ⟨l23, hl23, h⟩ := h
   refine And.intro (by subst hA; have p := ix c22; first | exact p | exact ⟨p, tv⟩ | exact ⟨p, trivial, tv⟩) ?_
   refine ⟨_, rfl, _, row GD (eS) l23, rfl, wkOf ?_, ?_⟩
   ·subst hGD hLEN hA
    rw [c27] at c22
    refine upd_set hl23 (ix c22) ?_ ?_
    ·intro b hb hh
     match b, hb, hh with | 0, _, hh => exact (absurd hh (nd rfl)) | 1, _, hh => exact (absurd hh (nd rfl)) | 2, _, hh => exact (absurd hh (nd rfl)) | 3, _, hh => exact rfl | 4, _, hh => exact (absurd hh (nd rfl)) | (b_ + 5), h_, _ => omega
    ·intro b hb hh
     match b, hb, hh with | 0, _, hh => exact rfl | 1, _, hh => exact rfl | 2, _, hh => exact rfl | 3, _, hh => exact (hh (yd rfl)).elim | 4, _, hh => exact rfl | (b_ + 5), h_, _ => omega
   cbv
   replace h := oq h
   obtain ⟨c24, h⟩ := h
   refine ⟨⟨c24, tv⟩, ?_⟩
   replace h := oq h
   obtain ⟨c26, h⟩ := h
   replace h := ol h
   obtain ⟨l25, hl25, h⟩ := h
   refine And.intro (by subst hA; have p := ix c24; first | exact p | exact ⟨p, tv⟩ | exact ⟨p, trivial, tv⟩) ?_
   refine ⟨_, rfl, _, row GD (eS) l25, rfl, wkOf ?_, ?_⟩
   ·subst hGD hLEN hA
    rw [c26] at c24
    refine upd_set hl25 (ix c24) ?_ ?_
    ·intro b hb hh
     match b, hb, hh with | 0, _, hh => exact (absurd hh (nd rfl)) | 1, _, hh => exact (absurd hh (nd rfl)) | 2, _, hh => exact (absurd hh (nd rfl)) | 3, _, hh => exact (absurd hh (nd rfl)) | 4, _, hh => exact rfl | (b_ + 5), h_, _ => omega
    ·intro b hb hh
     match b, hb, hh with | 0, _, hh => exact rfl | 1, _, hh => exact rfl | 2, _, hh => exact rfl | 3, _, hh => exact rfl | 4, _, hh => exact (hh (yd rfl)).elim | (b_ + 5), h_, _ => omega
   cbv
   injection h with h
   refine hK10 _ h.symm _ ?_
   exact lsp rfl zl3 ⟨oS, tv⟩ rfl
  ·replace h := og b31 h
   cbv
   injection h with h
   refine hY8 _ h.symm _ _ (And.intro rfl ?_) (by intro hh; cases hh)
   exact lsp rfl zl1 ⟨oS, tv⟩ rfl
 ·clear hr6
  have h := hN7
  clear hN7
  intro e14 s15 q13 hne
  replace h := ol h
  obtain ⟨y5k0, hyk, h⟩ := h
  have hyk : y5k0 = y5 := hyk
  subst hyk
  obtain ⟨rfl, q13⟩ := q13
  obtain ⟨y5k0_0, y5k0_1⟩ := y5k0
  replace h := ol h
  obtain ⟨w32, hw32, h⟩ := h
  have hw32 : w32 = y5k0_0 := hw32
  subst hw32
  replace h := ol h
  obtain ⟨w33, hw33, h⟩ := h
  have hw33 : w33 = y5k0_1 := hw33
  subst hw33
  cbv
  refine ⟨_, q13, ?_⟩
  cbv
  replace h := oq h
  obtain ⟨c34, h⟩ := h
  injection h with h
  subst h
  refine ⟨(sp 52 [(4, .c (wi w32))] [(5, .arr .rw [] (LEN w33) 5 (row GD (eS) w33))]), ?_, ?_⟩
  ·rw [c34]
   exact lsp rfl zl1 ⟨oS, tv⟩ rfl
  ·exact ⟨lR _, ⟨oS, tv⟩, rfl⟩

def Lq37_x4 (a0 : List TB) : (Int × Int × (List TB)) -> Option ((Int × Int × (List TB)) ⊕ ((Int × (List TB)))) := fun x4 =>
 letO x4.1 fun v1 =>
 letO x4.2.1 fun v2 =>
 letO x4.2.2 fun v3 =>
 br (std.lt v2 (std.ofN (len a0)))
 (req (std.inR v2 (len a0)) <|
 req (len a0 = len v3) <|
 letO (List.set v3 (std.nadd 0 (std.toN v2)) (TB.mk v1 (gd v3 (std.nadd 0 (std.toN v2))).fa (gd v3 (std.nadd 0 (std.toN v2))).fN)) fun l17 =>
 req (std.inR v2 (len a0)) <|
 req (len a0 = len l17) <|
 letO (List.set l17 (std.nadd 0 (std.toN v2)) (TB.mk (gd l17 (std.nadd 0 (std.toN v2))).fy (TPoint.mk (std.add .i64 v1 1) (gd l17 (std.nadd 0 (std.toN v2))).fa.fY) (gd l17 (std.nadd 0 (std.toN v2))).fN)) fun l19 =>
 req (std.inR v2 (len a0)) <|
 req (len a0 = len l19) <|
 letO (List.set l19 (std.nadd 0 (std.toN v2)) (TB.mk (gd l19 (std.nadd 0 (std.toN v2))).fy (TPoint.mk (gd l19 (std.nadd 0 (std.toN v2))).fa.fX (std.add .i64 (std.add .i64 v1 1) 1)) (gd l19 (std.nadd 0 (std.toN v2))).fN)) fun l21 =>
 (Fq3 (std.add .i64 (std.add .i64 (std.add .i64 v1 1) 1) 1)).bind fun y22 =>
 req (std.inR v2 (len a0)) <|
 req (len a0 = len l21) <|
 letO (List.set l21 (std.nadd 0 (std.toN v2)) (TB.mk (gd l21 (std.nadd 0 (std.toN v2))).fy (gd l21 (std.nadd 0 (std.toN v2))).fa y22)) fun l25 =>
 some (.inl (std.add .i64 (std.add .i64 (std.add .i64 (std.add .i64 v1 1) 1) 1) 1, std.add .i64 v2 1, l25)))
 (some (.inr (v1, v3)))
/-- laws.markLabelS -/
def Fq37 (a0 : List TB) (a1 : Int) : Option (Int × (List TB)) :=
 (whileP (σ := Int × Int × (List TB)) (ρ := (Int × (List TB))) (Lq37_x4 a0) (a1, 0, a0)).bind fun y5 =>
 letO y5 fun y5k0 =>
 letO y5k0.1 fun w31 =>
 letO y5k0.2 fun w32 =>
 req (len a0 = len w32) <|
 some (w31, w32)
theorem runq37 (a0 : List TB) (a1 : Int) (r : Int × (List TB)) (h : Fq37 a0 a1 = some r) : Fun Tryz.prog 129 [.c (.os 5 0 (len a0)), .c (wi a1)] [(5, .arr .rw [] (len a0) 4 (row gd (eL) a0))] (.c (wi r.1)) [(5, .arr .rw [] (len r.2) 4 (row gd (eL) r.2))] true := by
 refine Fun.of_wp (oneOf []) tok mixed Tryz.func129 (by kernel_rfl) rfl Tryz.ntmps129 rfl ⟨fun i _ j _ k hk => (noref (plain_nil (pl_encLabel _ _)) hk).elim, tv⟩ (fun _ => ⟨trivial, ⟨fun i _ j _ => val_flat (vl_encLabel _ _), tv⟩⟩) ?_
 unfold Fq37 at h
 unfold Lq37_x4 at h
 have hfq3 := @runq3
 generalize hLEN : @len = LEN, hGD : @gd = GD, hA : std = A, hP : Tryz.prog = P at *
 cbv
 replace h := ob_ h
 obtain ⟨y5, hr6, hN7⟩ := h
 refine loop_cut hr6 (fun x => (sp 44 [(0, .c (.os 5 0 (LEN a0))), (1, .c (wi x.1)), (5, .c (wi x.2.1))] [(5, .arr .rw [] (LEN a0) 4 (row GD (eL) x.2.2))])) ?_ (fun y e s => (fun (w : Int × (List TB)) => e = .exit 0 /\ s.le (sp 44 [(1, .c (wi w.1))] [(5, .arr .rw [] (LEN a0) 4 (row GD (eL) w.2))])) y) ?_ ?_
 ·clear hr6 hN7
  show St.le _ _
  exact lsp rfl zl3 ⟨oS, tv⟩ rfl
 ·clear hr6 hN7
  intro x z11 h K9 hK10 hY8
  obtain ⟨x0_, x1_, x2_⟩ := x
  replace h := ol h
  obtain ⟨v1, hv1, h⟩ := h
  have hv1 : v1 = x0_ := hv1
  subst hv1
  replace h := ol h
  obtain ⟨v2, hv2, h⟩ := h
  have hv2 : v2 = x1_ := hv2
  subst hv2
  replace h := ol h
  obtain ⟨v3, hv3, h⟩ := h
  have hv3 : v3 = x2_ := hv3
  subst hv3
  cbv
  refine fork (fun b30 => ?_) (fun b30 => ?_)
  ·replace h := ot b30 h
   cbv
   replace h := oq h
   obtain ⟨c16, h⟩ := h
   refine ⟨⟨c16, tv⟩, ?_⟩
   replace h := oq h
   obtain ⟨c29, h⟩ := h
   replace h := ol h
   obtain ⟨l17, hl17, h⟩ := h
   refine And.intro (by subst hA; have p := ix c16; first | exact p | exact ⟨p, tv⟩ | exact ⟨p, trivial, tv⟩) ?_
   refine ⟨_, rfl, _, row GD (eL) l17, rfl, wkOf ?_, ?_⟩
   ·subst hGD hLEN hA
    rw [c29] at c16
    refine upd_set hl17 (ix c16) ?_ ?_
    ·intro b hb hh
     match b, hb, hh with | 0, _, hh => exact rfl | 1, _, hh => exact (absurd hh (nd rfl)) | 2, _, hh => exact (absurd hh (nd rfl)) | 3, _, hh => exact (absurd hh (nd rfl)) | (b_ + 4), h_, _ => omega
    ·intro b hb hh
     match b, hb, hh with | 0, _, hh => exact (hh (yd rfl)).elim | 1, _, hh => exact rfl | 2, _, hh => exact rfl | 3, _, hh => exact rfl | (b_ + 4), h_, _ => omega
   cbv
   replace h := oq h
   obtain ⟨c18, h⟩ := h
   refine ⟨⟨c18, tv⟩, ?_⟩
   replace h := oq h
   obtain ⟨c28, h⟩ := h
   replace h := ol h
   obtain ⟨l19, hl19, h⟩ := h
   refine And.intro (by subst hA; have p := ix c18; first | exact p | exact ⟨p, tv⟩ | exact ⟨p, trivial, tv⟩) ?_
   refine ⟨_, rfl, _, row GD (eL) l19, rfl, wkOf ?_, ?_⟩
   ·subst hGD hLEN hA
    rw [c28] at c18
    refine upd_set hl19 (ix c18) ?_ ?_
    ·intro b hb hh
     match b, hb, hh with | 0, _, hh => exact (absurd hh (nd rfl)) | 1, _, hh => exact rfl | 2, _, hh => exact (absurd hh (nd rfl)) | 3, _, hh => exact (absurd hh (nd rfl)) | (b_ + 4), h_, _ => omega
    ·intro b hb hh
     match b, hb, hh with | 0, _, hh => exact rfl | 1, _, hh => exact (hh (yd rfl)).elim | 2, _, hh => exact rfl | 3, _, hh => exact rfl | (b_ + 4), h_, _ => omega
   cbv
   replace h := oq h
   obtain ⟨c20, h⟩ := h
   refine ⟨⟨c20, tv⟩, ?_⟩
   replace h := oq h
   obtain ⟨c27, h⟩ := h
   replace h := ol h
   obtain ⟨l21, hl21, h⟩ := h
   refine And.intro (by subst hA; have p := ix c20; first | exact p | exact ⟨p, tv⟩ | exact ⟨p, trivial, tv⟩) ?_
   refine ⟨_, rfl, _, row GD (eL) l21, rfl, wkOf ?_, ?_⟩
   ·subst hGD hLEN hA
    rw [c27] at c20
    refine upd_set hl21 (ix c20) ?_ ?_
    ·intro b hb hh
     match b, hb, hh with | 0, _, hh => exact (absurd hh (nd rfl)) | 1, _, hh => exact (absurd hh (nd rfl)) | 2, _, hh => exact rfl | 3, _, hh => exact (absurd hh (nd rfl)) | (b_ + 4), h_, _ => omega
    ·intro b hb hh
     match b, hb, hh with | 0, _, hh => exact rfl | 1, _, hh => exact rfl | 2, _, hh => exact (hh (yd rfl)).elim | 3, _, hh => exact rfl | (b_ + 4), h_, _ => omega
   cbv
   replace h := ob_ h
   obtain ⟨y22, hy23, h⟩ := h
   refine ⟨⟨_, _, _, _, _, [], []⟩, hfq3 _ _ hy23, ⟨zs1, trivial, rfl, rfl, rfl, rfl, trivial, rfl⟩, ?_⟩
   cbv
   replace h := oq h
   obtain ⟨c24, h⟩ := h
   refine ⟨⟨c24, tv⟩, ?_⟩
   replace h := oq h
   obtain ⟨c26, h⟩ := h
   replace h := ol h
   obtain ⟨l25, hl25, h⟩ := h
   refine And.intro (by subst hA; have p := ix c24; first | exact p | exact ⟨p, tv⟩ | exact ⟨p, trivial, tv⟩) ?_
   refine ⟨_, rfl, _, row GD (eL) l25, rfl, wkOf ?_, ?_⟩
   ·subst hGD hLEN hA
    rw [c26] at c24
    refine upd_set hl25 (ix c24) ?_ ?_
    ·intro b hb hh
     match b, hb, hh with | 0, _, hh => exact (absurd hh (nd rfl)) | 1, _, hh => exact (absurd hh (nd rfl)) | 2, _, hh => exact (absurd hh (nd rfl)) | 3, _, hh => exact rfl | (b_ + 4), h_, _ => omega
    ·intro b hb hh
     match b, hb, hh with | 0, _, hh => exact rfl | 1, _, hh => exact rfl | 2, _, hh => exact rfl | 3, _, hh => exact (hh (yd rfl)).elim | (b_ + 4), h_, _ => omega
   cbv
   injection h with h
   refine hK10 _ h.symm _ ?_
   exact lsp rfl zl3 ⟨oS, tv⟩ rfl
  ·replace h := og b30 h
   cbv
   injection h with h
   refine hY8 _ h.symm _ _ (And.intro rfl ?_) (by intro hh; cases hh)
   exact lsp rfl zl1 ⟨oS, tv⟩ rfl
 ·clear hr6
  have h := hN7
  clear hN7
  intro e14 s15 q13 hne
  replace h := ol h
  obtain ⟨y5k0, hyk, h⟩ := h
  have hyk : y5k0 = y5 := hyk
  subst hyk
  obtain ⟨rfl, q13⟩ := q13
  obtain ⟨y5k0_0, y5k0_1⟩ := y5k0
  replace h := ol h
  obtain ⟨w31, hw31, h⟩ := h
  have hw31 : w31 = y5k0_0 := hw31
  subst hw31
  replace h := ol h
  obtain ⟨w32, hw32, h⟩ := h
  have hw32 : w32 = y5k0_1 := hw32
  subst hw32
  cbv
  refine ⟨_, q13, ?_⟩
  cbv
  replace h := oq h
  obtain ⟨c33, h⟩ := h
  injection h with h
  subst h
  refine ⟨(sp 44 [(4, .c (wi w31))] [(5, .arr .rw [] (LEN w32) 4 (row GD (eL) w32))]), ?_, ?_⟩
  ·rw [c33]
   exact lsp rfl zl1 ⟨oS, tv⟩ rfl
  ·exact ⟨lR _, ⟨oS, tv⟩, rfl⟩

def Lq51_x4 (a0 : List TI) : (Int × Int × (List TI)) -> Option ((Int × Int × (List TI)) ⊕ ((Int × (List TI)))) := fun x4 =>
 letO x4.1 fun v1 =>
 letO x4.2.1 fun v2 =>
 letO x4.2.2 fun v3 =>
 br (std.lt v2 (std.ofN (len a0)))
 (req (std.inR v2 (len a0)) <|
 req (len a0 = len v3) <|
 letO (List.set v3 (std.nadd 0 (std.toN v2)) (TI.mk v1 (gd v3 (std.nadd 0 (std.toN v2))).fp (gd v3 (std.nadd 0 (std.toN v2))).fK (gd v3 (std.nadd 0 (std.toN v2))).fR (gd v3 (std.nadd 0 (std.toN v2))).fu (gd v3 (std.nadd 0 (std.toN v2))).fv)) fun l17 =>
 req (std.inR v2 (len a0)) <|
 req (len a0 = len l17) <|
 letO (List.set l17 (std.nadd 0 (std.toN v2)) (TI.mk (gd l17 (std.nadd 0 (std.toN v2))).fc (TM.mk (std.add .i64 v1 1) (gd l17 (std.nadd 0 (std.toN v2))).fp.fX (gd l17 (std.nadd 0 (std.toN v2))).fp.fY) (gd l17 (std.nadd 0 (std.toN v2))).fK (gd l17 (std.nadd 0 (std.toN v2))).fR (gd l17 (std.nadd 0 (std.toN v2))).fu (gd l17 (std.nadd 0 (std.toN v2))).fv)) fun l19 =>
 req (std.inR v2 (len a0)) <|
 req (len a0 = len l19) <|
 letO (List.set l19 (std.nadd 0 (std.toN v2)) (TI.mk (gd l19 (std.nadd 0 (std.toN v2))).fc (TM.mk (gd l19 (std.nadd 0 (std.toN v2))).fp.fo (std.add .i64 (std.add .i64 v1 1) 1) (gd l19 (std.nadd 0 (std.toN v2))).fp.fY) (gd l19 (std.nadd 0 (std.toN v2))).fK (gd l19 (std.nadd 0 (std.toN v2))).fR (gd l19 (std.nadd 0 (std.toN v2))).fu (gd l19 (std.nadd 0 (std.toN v2))).fv)) fun l21 =>
 req (std.inR v2 (len a0)) <|
 req (len a0 = len l21) <|
 letO (List.set l21 (std.nadd 0 (std.toN v2)) (TI.mk (gd l21 (std.nadd 0 (std.toN v2))).fc (TM.mk (gd l21 (std.nadd 0 (std.toN v2))).fp.fo (gd l21 (std.nadd 0 (std.toN v2))).fp.fX (std.add .i64 (std.add .i64 (std.add .i64 v1 1) 1) 1)) (gd l21 (std.nadd 0 (std.toN v2))).fK (gd l21 (std.nadd 0 (std.toN v2))).fR (gd l21 (std.nadd 0 (std.toN v2))).fu (gd l21 (std.nadd 0 (std.toN v2))).fv)) fun l23 =>
 req (std.inR v2 (len a0)) <|
 req (len a0 = len l23) <|
 letO (List.set l23 (std.nadd 0 (std.toN v2)) (TI.mk (gd l23 (std.nadd 0 (std.toN v2))).fc (gd l23 (std.nadd 0 (std.toN v2))).fp (std.add .i64 (std.add .i64 (std.add .i64 (std.add .i64 v1 1) 1) 1) 1) (gd l23 (std.nadd 0 (std.toN v2))).fR (gd l23 (std.nadd 0 (std.toN v2))).fu (gd l23 (std.nadd 0 (std.toN v2))).fv)) fun l25 =>
 req (std.inR v2 (len a0)) <|
 req (len a0 = len l25) <|
 letO (List.set l25 (std.nadd 0 (std.toN v2)) (TI.mk (gd l25 (std.nadd 0 (std.toN v2))).fc (gd l25 (std.nadd 0 (std.toN v2))).fp (gd l25 (std.nadd 0 (std.toN v2))).fK (std.add .i64 (std.add .i64 (std.add .i64 (std.add .i64 (std.add .i64 v1 1) 1) 1) 1) 1) (gd l25 (std.nadd 0 (std.toN v2))).fu (gd l25 (std.nadd 0 (std.toN v2))).fv)) fun l27 =>
 req (std.inR v2 (len a0)) <|
 req (len a0 = len l27) <|
 letO (List.set l27 (std.nadd 0 (std.toN v2)) (TI.mk (gd l27 (std.nadd 0 (std.toN v2))).fc (gd l27 (std.nadd 0 (std.toN v2))).fp (gd l27 (std.nadd 0 (std.toN v2))).fK (gd l27 (std.nadd 0 (std.toN v2))).fR (std.add .i64 (std.add .i64 (std.add .i64 (std.add .i64 (std.add .i64 (std.add .i64 v1 1) 1) 1) 1) 1) 1) (gd l27 (std.nadd 0 (std.toN v2))).fv)) fun l29 =>
 req (std.inR v2 (len a0)) <|
 req (len a0 = len l29) <|
 letO (List.set l29 (std.nadd 0 (std.toN v2)) (TI.mk (gd l29 (std.nadd 0 (std.toN v2))).fc (gd l29 (std.nadd 0 (std.toN v2))).fp (gd l29 (std.nadd 0 (std.toN v2))).fK (gd l29 (std.nadd 0 (std.toN v2))).fR (gd l29 (std.nadd 0 (std.toN v2))).fu (std.add .i64 (std.add .i64 (std.add .i64 (std.add .i64 (std.add .i64 (std.add .i64 (std.add .i64 v1 1) 1) 1) 1) 1) 1) 1))) fun l31 =>
 some (.inl (std.add .i64 (std.add .i64 (std.add .i64 (std.add .i64 (std.add .i64 (std.add .i64 (std.add .i64 (std.add .i64 v1 1) 1) 1) 1) 1) 1) 1) 1, std.add .i64 v2 1, l31)))
 (some (.inr (v1, v3)))
/-- laws.markInstanceS -/
def Fq51 (a0 : List TI) (a1 : Int) : Option (Int × (List TI)) :=
 (whileP (σ := Int × Int × (List TI)) (ρ := (Int × (List TI))) (Lq51_x4 a0) (a1, 0, a0)).bind fun y5 =>
 letO y5 fun y5k0 =>
 letO y5k0.1 fun w41 =>
 letO y5k0.2 fun w42 =>
 req (len a0 = len w42) <|
 some (w41, w42)
theorem runq51 (a0 : List TI) (a1 : Int) (r : Int × (List TI)) (h : Fq51 a0 a1 = some r) : Fun Tryz.prog 130 [.c (.os 5 0 (len a0)), .c (wi a1)] [(5, .arr .rw [] (len a0) 8 (row gd (eI) a0))] (.c (wi r.1)) [(5, .arr .rw [] (len r.2) 8 (row gd (eI) r.2))] true := by
 refine Fun.of_wp (oneOf []) tok mixed Tryz.func130 (by kernel_rfl) rfl Tryz.ntmps130 rfl ⟨fun i _ j _ k hk => (noref (plain_nil (pl_encInstance _ _)) hk).elim, tv⟩ (fun _ => ⟨trivial, ⟨fun i _ j _ => val_flat (vl_encInstance _ _), tv⟩⟩) ?_
 unfold Fq51 at h
 unfold Lq51_x4 at h
 generalize hLEN : @len = LEN, hGD : @gd = GD, hA : std = A, hP : Tryz.prog = P at *
 cbv
 replace h := ob_ h
 obtain ⟨y5, hr6, hN7⟩ := h
 refine loop_cut hr6 (fun x => (sp 72 [(0, .c (.os 5 0 (LEN a0))), (1, .c (wi x.1)), (5, .c (wi x.2.1))] [(5, .arr .rw [] (LEN a0) 8 (row GD (eI) x.2.2))])) ?_ (fun y e s => (fun (w : Int × (List TI)) => e = .exit 0 /\ s.le (sp 72 [(1, .c (wi w.1))] [(5, .arr .rw [] (LEN a0) 8 (row GD (eI) w.2))])) y) ?_ ?_
 ·clear hr6 hN7
  show St.le _ _
  exact lsp rfl zl3 ⟨oS, tv⟩ rfl
 ·clear hr6 hN7
  intro x z11 h K9 hK10 hY8
  obtain ⟨x0_, x1_, x2_⟩ := x
  replace h := ol h
  obtain ⟨v1, hv1, h⟩ := h
  have hv1 : v1 = x0_ := hv1
  subst hv1
  replace h := ol h
  obtain ⟨v2, hv2, h⟩ := h
  have hv2 : v2 = x1_ := hv2
  subst hv2
  replace h := ol h
  obtain ⟨v3, hv3, h⟩ := h
  have hv3 : v3 = x2_ := hv3
  subst hv3
  cbv
  refine fork (fun b40 => ?_) (fun b40 => ?_)
  ·replace h := ot b40 h
   cbv
   replace h := oq h
   obtain ⟨c16, h⟩ := h
   refine ⟨⟨c16, tv⟩, ?_⟩
   replace h := oq h
   obtain ⟨c39, h⟩ := h
   replace h := ol h
   obtain ⟨l17, hl17, h⟩ := h
   refine And.intro (by subst hA; have p := ix c16; first | exact p | exact ⟨p, tv⟩ | exact ⟨p, trivial, tv⟩) ?_
   refine ⟨_, rfl, _, row GD (eI) l17, rfl, wkOf ?_, ?_⟩
   ·subst hGD hLEN hA
    rw [c39] at c16
    refine upd_set hl17 (ix c16) ?_ ?_
    ·intro b hb hh
     match b, hb, hh with | 0, _, hh => exact rfl | 1, _, hh => exact (absurd hh (nd rfl)) | 2, _, hh => exact (absurd hh (nd rfl)) | 3, _, hh => exact (absurd hh (nd rfl)) | 4, _, hh => exact (absurd hh (nd rfl)) | 5, _, hh => exact (absurd hh (nd rfl)) | 6, _, hh => exact (absurd hh (nd rfl)) | 7, _, hh => exact (absurd hh (nd rfl)) | (b_ + 8), h_, _ => omega
    ·intro b hb hh
     match b, hb, hh with | 0, _, hh => exact (hh (yd rfl)).elim | 1, _, hh => exact rfl | 2, _, hh => exact rfl | 3, _, hh => exact rfl | 4, _, hh => exact rfl | 5, _, hh => exact rfl | 6, _, hh => exact rfl | 7, _, hh => exact rfl | (b_ + 8), h_, _ => omega
   cbv
   replace h := oq h
   obtain ⟨c18, h⟩ := h
   refine ⟨⟨c18, tv⟩, ?_⟩
   replace h := oq h
   obtain ⟨c38, h⟩ := h
   replace h := ol h
   obtain ⟨l19, hl19, h⟩ := h
   refine And.intro (by subst hA; have p := ix c18; first | exact p | exact ⟨p, tv⟩ | exact ⟨p, trivial, tv⟩) ?_
   refine ⟨_, rfl, _, row GD (eI) l19, rfl, wkOf ?_, ?_⟩
   ·subst hGD hLEN hA
    rw [c38] at c18
    refine upd_set hl19 (ix c18) ?_ ?_
    ·intro b hb hh
     match b, hb, hh with | 0, _, hh => exact (absurd hh (nd rfl)) | 1, _, hh => exact rfl | 2, _, hh => exact (absurd hh (nd rfl)) | 3, _, hh => exact (absurd hh (nd rfl)) | 4, _, hh => exact (absurd hh (nd rfl)) | 5, _, hh => exact (absurd hh (nd rfl)) | 6, _, hh => exact (absurd hh (nd rfl)) | 7, _, hh => exact (absurd hh (nd rfl)) | (b_ + 8), h_, _ => omega
    ·intro b hb hh
     match b, hb, hh with | 0, _, hh => exact rfl | 1, _, hh => exact (hh (yd rfl)).elim | 2, _, hh => exact rfl | 3, _, hh => exact rfl | 4, _, hh => exact rfl | 5, _, hh => exact rfl | 6, _, hh => exact rfl | 7, _, hh => exact rfl | (b_ + 8), h_, _ => omega
   cbv
   replace h := oq h
   obtain ⟨c20, h⟩ := h
   refine ⟨⟨c20, tv⟩, ?_⟩
   replace h := oq h
   obtain ⟨c37, h⟩ := h
   replace h := ol h
   obtain ⟨l21, hl21, h⟩ := h
   refine And.intro (by subst hA; have p := ix c20; first | exact p | exact ⟨p, tv⟩ | exact ⟨p, trivial, tv⟩) ?_
   refine ⟨_, rfl, _, row GD (eI) l21, rfl, wkOf ?_, ?_⟩
   ·subst hGD hLEN hA
    rw [c37] at c20
    refine upd_set hl21 (ix c20) ?_ ?_
    ·intro b hb hh
     match b, hb, hh with | 0, _, hh => exact (absurd hh (nd rfl)) | 1, _, hh => exact (absurd hh (nd rfl)) | 2, _, hh => exact rfl | 3, _, hh => exact (absurd hh (nd rfl)) | 4, _, hh => exact (absurd hh (nd rfl)) | 5, _, hh => exact (absurd hh (nd rfl)) | 6, _, hh => exact (absurd hh (nd rfl)) | 7, _, hh => exact (absurd hh (nd rfl)) | (b_ + 8), h_, _ => omega
    ·intro b hb hh
     match b, hb, hh with | 0, _, hh => exact rfl | 1, _, hh => exact rfl | 2, _, hh => exact (hh (yd rfl)).elim | 3, _, hh => exact rfl | 4, _, hh => exact rfl | 5, _, hh => exact rfl | 6, _, hh => exact rfl | 7, _, hh => exact rfl | (b_ + 8), h_, _ => omega
   cbv
   replace h := oq h
   obtain ⟨c22, h⟩ := h
   refine ⟨⟨c22, tv⟩, ?_⟩
   replace h := oq h
   obtain ⟨c36, h⟩ := h
   replace h := ol h
   obtain ⟨l23, hl23, h⟩ := h
   refine And.intro (by subst hA; have p := ix c22; first | exact p | exact ⟨p, tv⟩ | exact ⟨p, trivial, tv⟩) ?_
   refine ⟨_, rfl, _, row GD (eI) l23, rfl, wkOf ?_, ?_⟩
   ·subst hGD hLEN hA
    rw [c36] at c22
    refine upd_set hl23 (ix c22) ?_ ?_
    ·intro b hb hh
     match b, hb, hh with | 0, _, hh => exact (absurd hh (nd rfl)) | 1, _, hh => exact (absurd hh (nd rfl)) | 2, _, hh => exact (absurd hh (nd rfl)) | 3, _, hh => exact rfl | 4, _, hh => exact (absurd hh (nd rfl)) | 5, _, hh => exact (absurd hh (nd rfl)) | 6, _, hh => exact (absurd hh (nd rfl)) | 7, _, hh => exact (absurd hh (nd rfl)) | (b_ + 8), h_, _ => omega
    ·intro b hb hh
     match b, hb, hh with | 0, _, hh => exact rfl | 1, _, hh => exact rfl | 2, _, hh => exact rfl | 3, _, hh => exact (hh (yd rfl)).elim | 4, _, hh => exact rfl | 5, _, hh => exact rfl | 6, _, hh => exact rfl | 7, _, hh => exact rfl | (b_ + 8), h_, _ => omega
   cbv
   replace h := oq h
   obtain ⟨c24, h⟩ := h
   refine ⟨⟨c24, tv⟩, ?_⟩
   replace h := oq h
   obtain ⟨c35, h⟩ := h
   replace h := ol h
   obtain ⟨l25, hl25, h⟩ := h
   refine And.intro (by subst hA; have p := ix c24; first | exact p | exact ⟨p, tv⟩ | exact ⟨p, trivial, tv⟩) ?_
   refine ⟨_, rfl, _, row GD (eI) l25, rfl, wkOf ?_, ?_⟩
   ·subst hGD hLEN hA
    rw [c35] at c24
    refine upd_set hl25 (ix c24) ?_ ?_
    ·intro b hb hh
     match b, hb, hh with | 0, _, hh => exact (absurd hh (nd rfl)) | 1, _, hh => exact (absurd hh (nd rfl)) | 2, _, hh => exact (absurd hh (nd rfl)) | 3, _, hh => exact (absurd hh (nd rfl)) | 4, _, hh => exact rfl | 5, _, hh => exact (absurd hh (nd rfl)) | 6, _, hh => exact (absurd hh (nd rfl)) | 7, _, hh => exact (absurd hh (nd rfl)) | (b_ + 8), h_, _ => omega
    ·intro b hb hh
     match b, hb, hh with | 0, _, hh => exact rfl | 1, _, hh => exact rfl | 2, _, hh => exact rfl | 3, _, hh => exact rfl | 4, _, hh => exact (hh (yd rfl)).elim | 5, _, hh => exact rfl | 6, _, hh => exact rfl | 7, _, hh => exact rfl | (b_ + 8), h_, _ => omega
   cbv
   replace h := oq h
   obtain ⟨c26, h⟩ := h
   refine ⟨⟨c26, tv⟩, ?_⟩
   replace h := oq h
   obtain ⟨c34, h⟩ := h
   replace h := ol h
   obtain ⟨l27, hl27, h⟩ := h
   refine And.intro (by subst hA; have p := ix c26; first | exact p | exact ⟨p, tv⟩ | exact ⟨p, trivial, tv⟩) ?_
   refine ⟨_, rfl, _, row GD (eI) l27, rfl, wkOf ?_, ?_⟩
   ·subst hGD hLEN hA
    rw [c34] at c26
    refine upd_set hl27 (ix c26) ?_ ?_
    ·intro b hb hh
     match b, hb, hh with | 0, _, hh => exact (absurd hh (nd rfl)) | 1, _, hh => exact (absurd hh (nd rfl)) | 2, _, hh => exact (absurd hh (nd rfl)) | 3, _, hh => exact (absurd hh (nd rfl)) | 4, _, hh => exact (absurd hh (nd rfl)) | 5, _, hh => exact rfl | 6, _, hh => exact (absurd hh (nd rfl)) | 7, _, hh => exact (absurd hh (nd rfl)) | (b_ + 8), h_, _ => omega
    ·intro b hb hh
     match b, hb, hh with | 0, _, hh => exact rfl | 1, _, hh => exact rfl | 2, _, hh => exact rfl | 3, _, hh => exact rfl | 4, _, hh => exact rfl | 5, _, hh => exact (hh (yd rfl)).elim | 6, _, hh => exact rfl | 7, _, hh => exact rfl | (b_ + 8), h_, _ => omega
   cbv
   replace h := oq h
   obtain ⟨c28, h⟩ := h
   refine ⟨⟨c28, tv⟩, ?_⟩
   replace h := oq h
   obtain ⟨c33, h⟩ := h
   replace h := ol h
   obtain ⟨l29, hl29, h⟩ := h
   refine And.intro (by subst hA; have p := ix c28; first | exact p | exact ⟨p, tv⟩ | exact ⟨p, trivial, tv⟩) ?_
   refine ⟨_, rfl, _, row GD (eI) l29, rfl, wkOf ?_, ?_⟩
   ·subst hGD hLEN hA
    rw [c33] at c28
    refine upd_set hl29 (ix c28) ?_ ?_
    ·intro b hb hh
     match b, hb, hh with | 0, _, hh => exact (absurd hh (nd rfl)) | 1, _, hh => exact (absurd hh (nd rfl)) | 2, _, hh => exact (absurd hh (nd rfl)) | 3, _, hh => exact (absurd hh (nd rfl)) | 4, _, hh => exact (absurd hh (nd rfl)) | 5, _, hh => exact (absurd hh (nd rfl)) | 6, _, hh => exact rfl | 7, _, hh => exact (absurd hh (nd rfl)) | (b_ + 8), h_, _ => omega
    ·intro b hb hh
     match b, hb, hh with | 0, _, hh => exact rfl | 1, _, hh => exact rfl | 2, _, hh => exact rfl | 3, _, hh => exact rfl | 4, _, hh => exact rfl | 5, _, hh => exact rfl | 6, _, hh => exact (hh (yd rfl)).elim | 7, _, hh => exact rfl | (b_ + 8), h_, _ => omega
   cbv
   replace h := oq h
   obtain ⟨c30, h⟩ := h
   refine ⟨⟨c30, tv⟩, ?_⟩
   replace h := oq h
   obtain ⟨c32, h⟩ := h
   replace h := ol h
   obtain ⟨l31, hl31, h⟩ := h
   refine And.intro (by subst hA; have p := ix c30; first | exact p | exact ⟨p, tv⟩ | exact ⟨p, trivial, tv⟩) ?_
   refine ⟨_, rfl, _, row GD (eI) l31, rfl, wkOf ?_, ?_⟩
   ·subst hGD hLEN hA
    rw [c32] at c30
    refine upd_set hl31 (ix c30) ?_ ?_
    ·intro b hb hh
     match b, hb, hh with | 0, _, hh => exact (absurd hh (nd rfl)) | 1, _, hh => exact (absurd hh (nd rfl)) | 2, _, hh => exact (absurd hh (nd rfl)) | 3, _, hh => exact (absurd hh (nd rfl)) | 4, _, hh => exact (absurd hh (nd rfl)) | 5, _, hh => exact (absurd hh (nd rfl)) | 6, _, hh => exact (absurd hh (nd rfl)) | 7, _, hh => exact rfl | (b_ + 8), h_, _ => omega
    ·intro b hb hh
     match b, hb, hh with | 0, _, hh => exact rfl | 1, _, hh => exact rfl | 2, _, hh => exact rfl | 3, _, hh => exact rfl | 4, _, hh => exact rfl | 5, _, hh => exact rfl | 6, _, hh => exact rfl | 7, _, hh => exact (hh (yd rfl)).elim | (b_ + 8), h_, _ => omega
   cbv
   injection h with h
   refine hK10 _ h.symm _ ?_
   exact lsp rfl zl3 ⟨oS, tv⟩ rfl
  ·replace h := og b40 h
   cbv
   injection h with h
   refine hY8 _ h.symm _ _ (And.intro rfl ?_) (by intro hh; cases hh)
   exact lsp rfl zl1 ⟨oS, tv⟩ rfl
 ·clear hr6
  have h := hN7
  clear hN7
  intro e14 s15 q13 hne
  replace h := ol h
  obtain ⟨y5k0, hyk, h⟩ := h
  have hyk : y5k0 = y5 := hyk
  subst hyk
  obtain ⟨rfl, q13⟩ := q13
  obtain ⟨y5k0_0, y5k0_1⟩ := y5k0
  replace h := ol h
  obtain ⟨w41, hw41, h⟩ := h
  have hw41 : w41 = y5k0_0 := hw41
  subst hw41
  replace h := ol h
  obtain ⟨w42, hw42, h⟩ := h
  have hw42 : w42 = y5k0_1 := hw42
  subst hw42
  cbv
  refine ⟨_, q13, ?_⟩
  cbv
  replace h := oq h
  obtain ⟨c43, h⟩ := h
  injection h with h
  subst h
  refine ⟨(sp 72 [(4, .c (wi w41))] [(5, .arr .rw [] (LEN w42) 8 (row GD (eI) w42))]), ?_, ?_⟩
  ·rw [c43]
   exact lsp rfl zl1 ⟨oS, tv⟩ rfl
  ·exact ⟨lR _, ⟨oS, tv⟩, rfl⟩
set_option maxHeartbeats 4000000
def Lq44_x4 (a0 : List TC) : (Int × Int × (List TC)) -> Option ((Int × Int × (List TC)) ⊕ ((Int × (List TC)))) := fun x4 =>
 letO x4.1 fun v1 =>
 letO x4.2.1 fun v2 =>
 letO x4.2.2 fun v3 =>
 br (std.lt v2 (std.ofN (len a0)))
 (((
 (Fq3 v1).bind fun y23 =>
 req (std.inR v2 (len a0)) <|
 req (len a0 = len v3) <|
 letO (List.set v3 (std.nadd 0 (std.toN v2)) (TC.mk y23 (gd v3 (std.nadd 0 (std.toN v2))).fS (gd v3 (std.nadd 0 (std.toN v2))).fL (gd v3 (std.nadd 0 (std.toN v2))).fI)) fun l26 =>
 some l26
 ) : Option ((List TC))).bind fun y16 =>
 letO y16 fun w22 =>
 ((
 req (std.inR v2 (len a0)) <|
 (Fq39 (gd w22 (std.nadd 0 (std.toN v2))).fS (std.add .i64 v1 1)).bind fun y37 =>
 req (len y37.2 = len (gd w22 (std.nadd 0 (std.toN v2))).fS) <|
 req (len (gd w22 (std.nadd 0 (std.toN v2))).fS = len y37.2) <|
 req (len a0 = len w22) <|
 letO (List.set w22 (std.nadd 0 (std.toN v2)) (TC.mk (gd w22 (std.nadd 0 (std.toN v2))).fN y37.2 (gd w22 (std.nadd 0 (std.toN v2))).fL (gd w22 (std.nadd 0 (std.toN v2))).fI)) fun l40 =>
 some (y37.1, l40)
 ) : Option (Int × (List TC))).bind fun y28 =>
 letO y28.1 fun w34 =>
 letO y28.2 fun w35 =>
 ((
 req (std.inR v2 (len a0)) <|
 (Fq37 (gd w35 (std.nadd 0 (std.toN v2))).fL w34).bind fun y52 =>
 req (len y52.2 = len (gd w35 (std.nadd 0 (std.toN v2))).fL) <|
 req (len (gd w35 (std.nadd 0 (std.toN v2))).fL = len y52.2) <|
 req (len a0 = len w35) <|
 letO (List.set w35 (std.nadd 0 (std.toN v2)) (TC.mk (gd w35 (std.nadd 0 (std.toN v2))).fN (gd w35 (std.nadd 0 (std.toN v2))).fS y52.2 (gd w35 (std.nadd 0 (std.toN v2))).fI)) fun l55 =>
 some (y52.1, l55)
 ) : Option (Int × (List TC))).bind fun y43 =>
 letO y43.1 fun w49 =>
 letO y43.2 fun w50 =>
 ((
 req (std.inR v2 (len a0)) <|
 (Fq51 (gd w50 (std.nadd 0 (std.toN v2))).fI w49).bind fun y67 =>
 req (len y67.2 = len (gd w50 (std.nadd 0 (std.toN v2))).fI) <|
 req (len (gd w50 (std.nadd 0 (std.toN v2))).fI = len y67.2) <|
 req (len a0 = len w50) <|
 letO (List.set w50 (std.nadd 0 (std.toN v2)) (TC.mk (gd w50 (std.nadd 0 (std.toN v2))).fN (gd w50 (std.nadd 0 (std.toN v2))).fS (gd w50 (std.nadd 0 (std.toN v2))).fL y67.2)) fun l70 =>
 some (y67.1, l70)
 ) : Option (Int × (List TC))).bind fun y58 =>
 letO y58.1 fun w64 =>
 letO y58.2 fun w65 =>
 some (.inl (w64, std.add .i64 v2 1, w65)))
 (some (.inr (v1, v3)))
/-- laws.markCellS -/
def Fq44 (a0 : List TC) (a1 : Int) : Option (Int × (List TC)) :=
 (whileP (σ := Int × Int × (List TC)) (ρ := (Int × (List TC))) (Lq44_x4 a0) (a1, 0, a0)).bind fun y5 =>
 letO y5 fun y5k0 =>
 letO y5k0.1 fun w74 =>
 letO y5k0.2 fun w75 =>
 req (len a0 = len w75) <|
 some (w74, w75)
theorem runq44 (a0 : List TC) (a1 : Int) (r : Int × (List TC)) (h : Fq44 a0 a1 = some r) : Fun Tryz.prog 67 [.c (.os 5 0 (len a0)), .c (wi a1)] [(5, .arr .rw [] (len a0) 4 (row gd (oC len gd) a0))] (.c (wi r.1)) [(5, .arr .rw [] (len r.2) 4 (row gd (oC len gd) r.2))] true := by
 refine Fun.of_wp (oneOf [4, 6, 7, 8]) tok mixed Tryz.func67 (by kernel_rfl) rfl Tryz.ntmps67 rfl ⟨fun i _ j _ k hk => (noref (rC _ _) hk).elim, tv⟩ (fun _ => ⟨trivial, ⟨fun i _ j _ => fl_oncCell _ _, tv⟩⟩) ?_
 unfold Fq44 at h
 unfold Lq44_x4 at h
 have hfq51 := @runq51
 have hfq37 := @runq37
 have hfq39 := @runq39
 have hfq3 := @runq3
 generalize hLEN : @len = LEN, hGD : @gd = GD, hA : std = A, hP : Tryz.prog = P at *
 cbv
 replace h := ob_ h
 obtain ⟨y5, hr6, hN7⟩ := h
 refine loop_cut hr6 (fun x => (sp 42 [(0, .c (.os 5 0 (LEN a0))), (1, .c (wi x.1)), (5, .c (wi x.2.1))] [(5, .arr .rw [] (LEN a0) 4 (row GD (oC LEN GD) x.2.2))])) ?_ (fun y e s => (fun (w : Int × (List TC)) => e = .exit 0 /\ s.le (sp 42 [(1, .c (wi w.1))] [(5, .arr .rw [] (LEN a0) 4 (row GD (oC LEN GD) w.2))])) y) ?_ ?_
 ·clear hr6 hN7
  show St.le _ _
  exact lsp rfl zl3 ⟨oS, tv⟩ rfl
 ·clear hr6 hN7
  intro x z11 h K9 hK10 hY8
  obtain ⟨x0_, x1_, x2_⟩ := x
  replace h := ol h
  obtain ⟨v1, hv1, h⟩ := h
  have hv1 : v1 = x0_ := hv1
  subst hv1
  replace h := ol h
  obtain ⟨v2, hv2, h⟩ := h
  have hv2 : v2 = x1_ := hv2
  subst hv2
  replace h := ol h
  obtain ⟨v3, hv3, h⟩ := h
  have hv3 : v3 = x2_ := hv3
  subst hv3
  cbv
  refine fork (fun b73 => ?_) (fun b73 => ?_)
  ·replace h := ot b73 h
   cbv
   replace h := ob_ h
   obtain ⟨y16, hy17, h⟩ := h
   obtain ⟨S20, hS21⟩ : ∃ S, S = (sp 42 [(0, .c (.os 5 0 (LEN a0))), (1, .c (wi v1)), (5, .c (wi v2))] [(5, .arr .rw [] (LEN a0) 4 (row GD (oC LEN GD) y16))]) := ⟨_, rfl⟩
   refine ⟨S20, ?_, ?_⟩
   ·clear h
    have h := hy17
    clear hy17
    cbv
    replace h := ob_ h
    obtain ⟨y23, hy24, h⟩ := h
    refine ⟨⟨_, _, _, _, _, [], []⟩, hfq3 _ _ hy24, ⟨zs1, trivial, rfl, rfl, rfl, rfl, trivial, rfl⟩, ?_⟩
    cbv
    replace h := oq h
    obtain ⟨c25, h⟩ := h
    refine ⟨⟨c25, tv⟩, ?_⟩
    refine And.intro (by subst hA; have p := ix c25; first | exact p | exact ⟨p, tv⟩ | exact ⟨p, trivial, tv⟩) ?_
    refine ⟨_, rfl, _, (pC (row GD (oC LEN GD) v3) (A.nadd 0 (A.toN v2)) [ws y23, .ow (LEN (GD v3 (A.nadd 0 (A.toN v2))).fS) 5 (row GD (eS) (GD v3 (A.nadd 0 (A.toN v2))).fS), .ow (LEN (GD v3 (A.nadd 0 (A.toN v2))).fL) 4 (row GD (eL) (GD v3 (A.nadd 0 (A.toN v2))).fL), .ow (LEN (GD v3 (A.nadd 0 (A.toN v2))).fI) 8 (row GD (eI) (GD v3 (A.nadd 0 (A.toN v2))).fI)]), rfl, wkOf ?_, ?_⟩
    ·refine patch_of ?_
     intro j hj
     match j, hj with | 0, _ => (rfl) | 1, _ => (rfl) | 2, _ => (rfl) | 3, _ => (rfl) | (j_ + 4), h_ => omega
    cbv
    replace h := oq h
    obtain ⟨c27, h⟩ := h
    replace h := ol h
    obtain ⟨l26, hl26, h⟩ := h
    injection h with h
    subst h
    subst hS21
    exact lsp rfl zl3 ⟨⟨fun hw => hw, fun c hc => (by cases hc), .inr (fun i _ j _ z hz => (noref (rC _ _) hz).elim), rfl, rfl, (by subst hGD hLEN hA; exact patch_set hl26 (ix (by rw [<- c27]; exact c25)) (by intro j hj; match j, hj with | 0, _ => rfl | 1, _ => rfl | 2, _ => rfl | 3, _ => rfl | (j_ + 4), h_ => omega))⟩, tv⟩ rfl
   ·clear hy17
    subst hS21
    replace h := ol h
    obtain ⟨w22, hw22, h⟩ := h
    have hw22 : w22 = y16 := hw22
    subst hw22
    cbv
    replace h := ob_ h
    obtain ⟨y28, hy29, h⟩ := h
    obtain ⟨S32, hS33⟩ : ∃ S, S = (sp 42 [(0, .c (.os 5 0 (LEN a0))), (1, .c (wi y28.1)), (5, .c (wi v2))] [(5, .arr .rw [] (LEN a0) 4 (row GD (oC LEN GD) y28.2))]) := ⟨_, rfl⟩
    refine ⟨S32, ?_, ?_⟩
    ·clear h
     have h := hy29
     clear hy29
     cbv
     replace h := oq h
     obtain ⟨c36, h⟩ := h
     refine ⟨⟨c36, tv⟩, ?_⟩
     refine And.intro (by subst hA; have p := ix c36; first | exact p | exact ⟨p, tv⟩ | exact ⟨p, trivial, tv⟩) ?_
     refine ⟨_, rfl, _, (pC (row GD (oC LEN GD) w22) (A.nadd 0 (A.toN v2)) [ws (GD w22 (A.nadd 0 (A.toN v2))).fN, .os 1538 0 (LEN (GD w22 (A.nadd 0 (A.toN v2))).fS), .ow (LEN (GD w22 (A.nadd 0 (A.toN v2))).fL) 4 (row GD (eL) (GD w22 (A.nadd 0 (A.toN v2))).fL), .ow (LEN (GD w22 (A.nadd 0 (A.toN v2))).fI) 8 (row GD (eI) (GD w22 (A.nadd 0 (A.toN v2))).fI)]), rfl, wkOf ?_, ?_⟩
     ·refine patch_of ?_
      intro j hj
      match j, hj with | 0, _ => (rfl) | 1, _ => (rfl) | 2, _ => (rfl) | 3, _ => (rfl) | (j_ + 4), h_ => omega
     refine ⟨_, row GD (eS) (GD w22 (A.nadd 0 (A.toN v2))).fS, rfl, wkOf ?_, ?_⟩
     ·exact fun i _ j _ => plain_cp (pl_encShape _ _)
     cbv
     replace h := ob_ h
     obtain ⟨y37, hy38, h⟩ := h
     replace h := oq h
     obtain ⟨c42, h⟩ := h
     refine ⟨⟨_, _, _, _, _, [(5, 1538)], [(5, 1538)]⟩, hfq39 _ _ _ hy38, ⟨zs2, ⟨oS, tv⟩, rfl, rfl, rfl, rfl, ⟨fun _ => ⟨c42.symm, rfl, fun c h => h⟩, tv⟩, rfl⟩, _, rfl, LEN (GD w22 (A.nadd 0 (A.toN v2))).fS, _, c42, fun _ _ _ _ => .refl _, ?_⟩
     cbv
     replace h := oq h
     obtain ⟨c39, h⟩ := h
     replace h := oq h
     obtain ⟨c41, h⟩ := h
     replace h := ol h
     obtain ⟨l40, hl40, h⟩ := h
     injection h with h
     subst h
     subst hS33
     refine St.le_trans (le_foldP 5 1 1538 rfl rfl rfl (by decide) (by subst hA; exact ix c36) (by decide) rfl (fun _ _ => rC _ _)) ?_
     exact lsp rfl zl3 ⟨⟨fun hw => hw, fun c hc => (by cases hc), .inr (fun i _ j _ z hz => (noref (rC _ _) hz).elim), rfl, rfl, (by subst hGD hLEN hA; exact patch_set hl40 (ix (by rw [<- c41]; exact c36)) (by intro j hj; match j, hj with | 0, _ => rfl | 1, _ => exact (by first | rfl | exact congrArg (fun n => AC.ow n _ _) (Eq.symm (by assumption)) | exact congrArg (fun n => AC.ow n _ _) (by assumption)) | 2, _ => rfl | 3, _ => rfl | (j_ + 4), h_ => omega))⟩, tv⟩ rfl
    ·clear hy29
     subst hS33
     obtain ⟨y28_0, y28_1⟩ := y28
     replace h := ol h
     obtain ⟨w34, hw34, h⟩ := h
     have hw34 : w34 = y28_0 := hw34
     subst hw34
     replace h := ol h
     obtain ⟨w35, hw35, h⟩ := h
     have hw35 : w35 = y28_1 := hw35
     subst hw35
     cbv
     replace h := ob_ h
     obtain ⟨y43, hy44, h⟩ := h
     obtain ⟨S47, hS48⟩ : ∃ S, S = (sp 42 [(0, .c (.os 5 0 (LEN a0))), (1, .c (wi y43.1)), (5, .c (wi v2))] [(5, .arr .rw [] (LEN a0) 4 (row GD (oC LEN GD) y43.2))]) := ⟨_, rfl⟩
     refine ⟨S47, ?_, ?_⟩
     ·clear h
      have h := hy44
      clear hy44
      cbv
      replace h := oq h
      obtain ⟨c51, h⟩ := h
      refine ⟨⟨c51, tv⟩, ?_⟩
      refine And.intro (by subst hA; have p := ix c51; first | exact p | exact ⟨p, tv⟩ | exact ⟨p, trivial, tv⟩) ?_
      refine ⟨_, rfl, _, (pC (row GD (oC LEN GD) w35) (A.nadd 0 (A.toN v2)) [ws (GD w35 (A.nadd 0 (A.toN v2))).fN, .ow (LEN (GD w35 (A.nadd 0 (A.toN v2))).fS) 5 (row GD (eS) (GD w35 (A.nadd 0 (A.toN v2))).fS), .os 1986 0 (LEN (GD w35 (A.nadd 0 (A.toN v2))).fL), .ow (LEN (GD w35 (A.nadd 0 (A.toN v2))).fI) 8 (row GD (eI) (GD w35 (A.nadd 0 (A.toN v2))).fI)]), rfl, wkOf ?_, ?_⟩
      ·refine patch_of ?_
       intro j hj
       match j, hj with | 0, _ => (rfl) | 1, _ => (rfl) | 2, _ => (rfl) | 3, _ => (rfl) | (j_ + 4), h_ => omega
      refine ⟨_, row GD (eL) (GD w35 (A.nadd 0 (A.toN v2))).fL, rfl, wkOf ?_, ?_⟩
      ·exact fun i _ j _ => plain_cp (pl_encLabel _ _)
      cbv
      replace h := ob_ h
      obtain ⟨y52, hy53, h⟩ := h
      replace h := oq h
      obtain ⟨c57, h⟩ := h
      refine ⟨⟨_, _, _, _, _, [(5, 1986)], [(5, 1986)]⟩, hfq37 _ _ _ hy53, ⟨zs2, ⟨oS, tv⟩, rfl, rfl, rfl, rfl, ⟨fun _ => ⟨c57.symm, rfl, fun c h => h⟩, tv⟩, rfl⟩, _, rfl, LEN (GD w35 (A.nadd 0 (A.toN v2))).fL, _, c57, fun _ _ _ _ => .refl _, ?_⟩
      cbv
      replace h := oq h
      obtain ⟨c54, h⟩ := h
      replace h := oq h
      obtain ⟨c56, h⟩ := h
      replace h := ol h
      obtain ⟨l55, hl55, h⟩ := h
      injection h with h
      subst h
      subst hS48
      refine St.le_trans (le_foldP 5 2 1986 rfl rfl rfl (by decide) (by subst hA; exact ix c51) (by decide) rfl (fun _ _ => rC _ _)) ?_
      exact lsp rfl zl3 ⟨⟨fun hw => hw, fun c hc => (by cases hc), .inr (fun i _ j _ z hz => (noref (rC _ _) hz).elim), rfl, rfl, (by subst hGD hLEN hA; exact patch_set hl55 (ix (by rw [<- c56]; exact c51)) (by intro j hj; match j, hj with | 0, _ => rfl | 1, _ => rfl | 2, _ => exact (by first | rfl | exact congrArg (fun n => AC.ow n _ _) (Eq.symm (by assumption)) | exact congrArg (fun n => AC.ow n _ _) (by assumption)) | 3, _ => rfl | (j_ + 4), h_ => omega))⟩, tv⟩ rfl
     ·clear hy44
      subst hS48
      obtain ⟨y43_0, y43_1⟩ := y43
      replace h := ol h
      obtain ⟨w49, hw49, h⟩ := h
      have hw49 : w49 = y43_0 := hw49
      subst hw49
      replace h := ol h
      obtain ⟨w50, hw50, h⟩ := h
      have hw50 : w50 = y43_1 := hw50
      subst hw50
      cbv
      replace h := ob_ h
      obtain ⟨y58, hy59, h⟩ := h
      obtain ⟨S62, hS63⟩ : ∃ S, S = (sp 42 [(0, .c (.os 5 0 (LEN a0))), (1, .c (wi y58.1)), (5, .c (wi v2))] [(5, .arr .rw [] (LEN a0) 4 (row GD (oC LEN GD) y58.2))]) := ⟨_, rfl⟩
      refine ⟨S62, ?_, ?_⟩
      ·clear h
       have h := hy59
       clear hy59
       cbv
       replace h := oq h
       obtain ⟨c66, h⟩ := h
       refine ⟨⟨c66, tv⟩, ?_⟩
       refine And.intro (by subst hA; have p := ix c66; first | exact p | exact ⟨p, tv⟩ | exact ⟨p, trivial, tv⟩) ?_
       refine ⟨_, rfl, _, (pC (row GD (oC LEN GD) w50) (A.nadd 0 (A.toN v2)) [ws (GD w50 (A.nadd 0 (A.toN v2))).fN, .ow (LEN (GD w50 (A.nadd 0 (A.toN v2))).fS) 5 (row GD (eS) (GD w50 (A.nadd 0 (A.toN v2))).fS), .ow (LEN (GD w50 (A.nadd 0 (A.toN v2))).fL) 4 (row GD (eL) (GD w50 (A.nadd 0 (A.toN v2))).fL), .os 2434 0 (LEN (GD w50 (A.nadd 0 (A.toN v2))).fI)]), rfl, wkOf ?_, ?_⟩
       ·refine patch_of ?_
        intro j hj
        match j, hj with | 0, _ => (rfl) | 1, _ => (rfl) | 2, _ => (rfl) | 3, _ => (rfl) | (j_ + 4), h_ => omega
       refine ⟨_, row GD (eI) (GD w50 (A.nadd 0 (A.toN v2))).fI, rfl, wkOf ?_, ?_⟩
       ·exact fun i _ j _ => plain_cp (pl_encInstance _ _)
       cbv
       replace h := ob_ h
       obtain ⟨y67, hy68, h⟩ := h
       replace h := oq h
       obtain ⟨c72, h⟩ := h
       refine ⟨⟨_, _, _, _, _, [(5, 2434)], [(5, 2434)]⟩, hfq51 _ _ _ hy68, ⟨zs2, ⟨oS, tv⟩, rfl, rfl, rfl, rfl, ⟨fun _ => ⟨c72.symm, rfl, fun c h => h⟩, tv⟩, rfl⟩, _, rfl, LEN (GD w50 (A.nadd 0 (A.toN v2))).fI, _, c72, fun _ _ _ _ => .refl _, ?_⟩
       cbv
       replace h := oq h
       obtain ⟨c69, h⟩ := h
       replace h := oq h
       obtain ⟨c71, h⟩ := h
       replace h := ol h
       obtain ⟨l70, hl70, h⟩ := h
       injection h with h
       subst h
       subst hS63
       refine St.le_trans (le_foldP 5 3 2434 rfl rfl rfl (by decide) (by subst hA; exact ix c66) (by decide) rfl (fun _ _ => rC _ _)) ?_
       exact lsp rfl zl3 ⟨⟨fun hw => hw, fun c hc => (by cases hc), .inr (fun i _ j _ z hz => (noref (rC _ _) hz).elim), rfl, rfl, (by subst hGD hLEN hA; exact patch_set hl70 (ix (by rw [<- c71]; exact c66)) (by intro j hj; match j, hj with | 0, _ => rfl | 1, _ => rfl | 2, _ => rfl | 3, _ => exact (by first | rfl | exact congrArg (fun n => AC.ow n _ _) (Eq.symm (by assumption)) | exact congrArg (fun n => AC.ow n _ _) (by assumption)) | (j_ + 4), h_ => omega))⟩, tv⟩ rfl
      ·clear hy59
       subst hS63
       obtain ⟨y58_0, y58_1⟩ := y58
       replace h := ol h
       obtain ⟨w64, hw64, h⟩ := h
       have hw64 : w64 = y58_0 := hw64
       subst hw64
       replace h := ol h
       obtain ⟨w65, hw65, h⟩ := h
       have hw65 : w65 = y58_1 := hw65
       subst hw65
       cbv
       injection h with h
       refine hK10 _ h.symm _ ?_
       exact lsp rfl zl3 ⟨oS, tv⟩ rfl
  ·replace h := og b73 h
   cbv
   injection h with h
   refine hY8 _ h.symm _ _ (And.intro rfl ?_) (by intro hh; cases hh)
   exact lsp rfl zl1 ⟨oS, tv⟩ rfl
 ·clear hr6
  have h := hN7
  clear hN7
  intro e14 s15 q13 hne
  replace h := ol h
  obtain ⟨y5k0, hyk, h⟩ := h
  have hyk : y5k0 = y5 := hyk
  subst hyk
  obtain ⟨rfl, q13⟩ := q13
  obtain ⟨y5k0_0, y5k0_1⟩ := y5k0
  replace h := ol h
  obtain ⟨w74, hw74, h⟩ := h
  have hw74 : w74 = y5k0_0 := hw74
  subst hw74
  replace h := ol h
  obtain ⟨w75, hw75, h⟩ := h
  have hw75 : w75 = y5k0_1 := hw75
  subst hw75
  cbv
  refine ⟨_, q13, ?_⟩
  cbv
  replace h := oq h
  obtain ⟨c76, h⟩ := h
  injection h with h
  subst h
  refine ⟨(sp 42 [(4, .c (wi w74))] [(5, .arr .rw [] (LEN w75) 4 (row GD (oC LEN GD) w75))]), ?_, ?_⟩
  ·rw [c76]
   exact lsp rfl zl1 ⟨oS, tv⟩ rfl
  ·exact ⟨lR _, ⟨oS, tv⟩, rfl⟩

/-- laws.markLibrary -/
def Fq71 (a0 : TL) (a1 : Int) : Option (Int × (List TC)) :=
 (Fq44 a0.fC a1).bind fun y1 =>
 req (len y1.2 = len a0.fC) <|
 req (len a0.fC = len y1.2) <|
 some (y1.1, y1.2)
theorem runq71 (a0 : TL) (a1 : Int) (r : Int × (List TC)) (h : Fq71 a0 a1 = some r) : Fun Tryz.prog 21 [.agg [.os 5 0 (len a0.fC)], .c (wi a1)] [(5, .arr .rw [] (len a0.fC) 4 (row gd (oC len gd) a0.fC))] (.c (wi r.1)) [(5, .arr .rw [] (len r.2) 4 (row gd (oC len gd) r.2))] true := by
 refine Fun.of_wp (oneOf []) tok mixed Tryz.func21 (by kernel_rfl) rfl Tryz.ntmps21 rfl ⟨fun i _ j _ k hk => (noref (rC _ _) hk).elim, tv⟩ (fun _ => ⟨trivial, ⟨fun i _ j _ => fl_oncCell _ _, tv⟩⟩) ?_
 unfold Fq71 at h
 have hfq44 := @runq44
 generalize hLEN : @len = LEN, hGD : @gd = GD, hA : std = A, hP : Tryz.prog = P at *
 cbv
 replace h := ob_ h
 obtain ⟨y1, hy2, h⟩ := h
 replace h := oq h
 obtain ⟨c4, h⟩ := h
 refine ⟨⟨_, _, _, _, _, [(5, 5)], [(5, 5)]⟩, hfq44 _ _ _ hy2, ⟨zs2, ⟨oS, tv⟩, rfl, rfl, rfl, rfl, ⟨fun _ => ⟨c4.symm, rfl, fun c h => h⟩, tv⟩, rfl⟩, _, rfl, LEN a0.fC, _, c4, fun _ _ _ _ => .refl _, ?_⟩
 cbv
 replace h := oq h
 obtain ⟨c3, h⟩ := h
 injection h with h
 subst h
 refine ⟨(sp 10 [(4, .c (wi y1.1))] [(5, .arr .rw [] (LEN y1.2) 4 (row GD (oC LEN GD) y1.2))]), ?_, ?_⟩
 ·rw [c3]
  exact lsp rfl zl1 ⟨oS, tv⟩ rfl
 ·exact ⟨lR _, ⟨oS, tv⟩, rfl⟩

def Lq46_x3 (a0 : List TS) : (Int × Int) -> Option ((Int × Int) ⊕ ((Int) ⊕ (Int))) := fun x3 =>
 letO x3.1 fun v1 =>
 letO x3.2 fun v2 =>
 br (std.lt v2 (std.ofN (len a0)))
 (req (std.inR v2 (len a0)) <|
 br (std.not (std.eq (gd a0 (std.toN v2)).fy v1))
 (some (.inr (.inl (-1))))
 (req (std.inR v2 (len a0)) <|
 br (std.not (std.eq (gd a0 (std.toN v2)).fb.fX0 (std.add .i64 v1 1)))
 (some (.inr (.inl (-1))))
 (req (std.inR v2 (len a0)) <|
 br (std.not (std.eq (gd a0 (std.toN v2)).fb.fY0 (std.add .i64 (std.add .i64 v1 1) 1)))
 (some (.inr (.inl (-1))))
 (req (std.inR v2 (len a0)) <|
 br (std.not (std.eq (gd a0 (std.toN v2)).fb.fX1 (std.add .i64 (std.add .i64 (std.add .i64 v1 1) 1) 1)))
 (some (.inr (.inl (-1))))
 (req (std.inR v2 (len a0)) <|
 br (std.not (std.eq (gd a0 (std.toN v2)).fb.fY1 (std.add .i64 (std.add .i64 (std.add .i64 (std.add .i64 v1 1) 1) 1) 1)))
 (some (.inr (.inl (-1))))
 (some (.inl (std.add .i64 (std.add .i64 (std.add .i64 (std.add .i64 (std.add .i64 v1 1) 1) 1) 1) 1, std.add .i64 v2 1))))))))
 (some (.inr (.inr v1)))
/-- laws.heldShapeS -/
def Fq46 (a0 : List TS) (a1 : Int) : Option (Int) :=
 (whileP (σ := Int × Int) (ρ := (Int) ⊕ (Int)) (Lq46_x3 a0) (a1, 0)).bind fun y4 =>
 (match y4 with
 | .inl y4k0 => (
 letO y4k0 fun w26 =>
 some w26)
 | .inr y4m0 =>
 letO y4m0 fun y4k1 =>
 letO y4k1 fun w27 =>
 some w27)
theorem runq46 (a0 : List TS) (a1 : Int) (r : Int) (h : Fq46 a0 a1 = some r) : Fun Tryz.prog 131 [.c (.bs (len a0) 5 (row gd (eS) a0)), .c (wi a1)] [] (.c (wi r)) [] true := by
 refine Fun.of_wp (oneOf []) tok mixed Tryz.func131 (by kernel_rfl) rfl Tryz.ntmps131 rfl trivial (fun _ => ⟨trivial, tv⟩) ?_
 unfold Fq46 at h
 unfold Lq46_x3 at h
 generalize hLEN : @len = LEN, hGD : @gd = GD, hA : std = A, hP : Tryz.prog = P at *
 cbv
 replace h := ob_ h
 obtain ⟨y4, hr5, hN6⟩ := h
 refine loop_cut hr5 (fun x => (sp 62 [(0, .c (.bs (LEN a0) 5 (row GD (eS) a0))), (1, .c (wi x.1)), (5, .c (wi x.2))] [])) ?_ (fun y e s => (match y with | .inl w => e = .ret /\ s.le (sp 62 [(4, .c (wi w))] []) | .inr w0 => (fun (w : Int) => e = .exit 0 /\ s.le (sp 62 [(1, .c (wi w))] [])) w0)) ?_ ?_
 ·clear hr5 hN6
  show St.le _ _
  exact lsp rfl zl3 trivial rfl
 ·clear hr5 hN6
  intro x z10 h K8 hK9 hY7
  obtain ⟨x0_, x1_⟩ := x
  replace h := ol h
  obtain ⟨v1, hv1, h⟩ := h
  have hv1 : v1 = x0_ := hv1
  subst hv1
  replace h := ol h
  obtain ⟨v2, hv2, h⟩ := h
  have hv2 : v2 = x1_ := hv2
  subst hv2
  cbv
  refine fork (fun b25 => ?_) (fun b25 => ?_)
  ·replace h := ot b25 h
   cbv
   replace h := oq h
   obtain ⟨c15, h⟩ := h
   refine ⟨⟨c15, tv⟩, ?_⟩
   refine fork (fun b24 => ?_) (fun b24 => ?_)
   ·replace h := ot b24 h
    cbv
    injection h with h
    refine hY7 _ h.symm _ _ (And.intro rfl ?_) (by intro hh; cases hh)
    exact lsp rfl zl1 trivial rfl
   ·replace h := og b24 h
    cbv
    replace h := oq h
    obtain ⟨c16, h⟩ := h
    refine ⟨⟨c16, tv⟩, ?_⟩
    refine fork (fun b23 => ?_) (fun b23 => ?_)
    ·replace h := ot b23 h
     cbv
     injection h with h
     refine hY7 _ h.symm _ _ (And.intro rfl ?_) (by intro hh; cases hh)
     exact lsp rfl zl1 trivial rfl
    ·replace h := og b23 h
     cbv
     replace h := oq h
     obtain ⟨c17, h⟩ := h
     refine ⟨⟨c17, tv⟩, ?_⟩
     refine fork (fun b22 => ?_) (fun b22 => ?_)
     ·replace h := ot b22 h
      cbv
      injection h with h
      refine hY7 _ h.symm _ _ (And.intro rfl ?_) (by intro hh; cases hh)
      exact lsp rfl zl1 trivial rfl
     ·replace h := og b22 h
      cbv
      replace h := oq h
      obtain ⟨c18, h⟩ := h
      refine ⟨⟨c18, tv⟩, ?_⟩
      refine fork (fun b21 => ?_) (fun b21 => ?_)
      ·replace h := ot b21 h
       cbv
       injection h with h
       refine hY7 _ h.symm _ _ (And.intro rfl ?_) (by intro hh; cases hh)
       exact lsp rfl zl1 trivial rfl
      ·replace h := og b21 h
       cbv
       replace h := oq h
       obtain ⟨c19, h⟩ := h
       refine ⟨⟨c19, tv⟩, ?_⟩
       refine fork (fun b20 => ?_) (fun b20 => ?_)
       ·replace h := ot b20 h
        cbv
        injection h with h
        refine hY7 _ h.symm _ _ (And.intro rfl ?_) (by intro hh; cases hh)
        exact lsp rfl zl1 trivial rfl
       ·replace h := og b20 h
        cbv
        injection h with h
        refine hK9 _ h.symm _ ?_
        exact lsp rfl zl3 trivial rfl
  ·replace h := og b25 h
   cbv
   injection h with h
   refine hY7 _ h.symm _ _ (And.intro rfl ?_) (by intro hh; cases hh)
   exact lsp rfl zl1 trivial rfl
 ·clear hr5
  have h := hN6
  clear hN6
  intro e13 s14 q12 hne
  rcases y4 with y4k0 | y4m0
  ·replace h := h
   obtain ⟨rfl, q12⟩ := q12
   replace h := ol h
   obtain ⟨w26, hw26, h⟩ := h
   have hw26 : w26 = y4k0 := hw26
   subst hw26
   cbv
   injection h with h
   subst h
   refine ⟨(sp 62 [(4, .c (wi w26))] []), ?_, ?_⟩
   ·refine St.le_trans q12 ?_
    exact lsp rfl zl1 trivial rfl
   ·exact ⟨lR _, trivial, rfl⟩
  ·replace h := ol h
   obtain ⟨y4k1, hyk, h⟩ := h
   have hyk : y4k1 = y4m0 := hyk
   subst hyk
   obtain ⟨rfl, q12⟩ := q12
   replace h := ol h
   obtain ⟨w27, hw27, h⟩ := h
   have hw27 : w27 = y4k1 := hw27
   subst hw27
   cbv
   refine ⟨_, q12, ?_⟩
   cbv
   injection h with h
   subst h
   refine ⟨(sp 62 [(4, .c (wi w27))] []), ?_, ?_⟩
   ·exact lsp rfl zl1 trivial rfl
   ·exact ⟨lR _, trivial, rfl⟩

def Lq41_x3 (a0 : List TB) : (Int × Int) -> Option ((Int × Int) ⊕ ((Int) ⊕ (Int))) := fun x3 =>
 letO x3.1 fun v1 =>
 letO x3.2 fun v2 =>
 br (std.lt v2 (std.ofN (len a0)))
 (req (std.inR v2 (len a0)) <|
 br (std.not (std.eq (gd a0 (std.toN v2)).fy v1))
 (some (.inr (.inl (-1))))
 (req (std.inR v2 (len a0)) <|
 br (std.not (std.eq (gd a0 (std.toN v2)).fa.fX (std.add .i64 v1 1)))
 (some (.inr (.inl (-1))))
 (req (std.inR v2 (len a0)) <|
 br (std.not (std.eq (gd a0 (std.toN v2)).fa.fY (std.add .i64 (std.add .i64 v1 1) 1)))
 (some (.inr (.inl (-1))))
 (req (std.inR v2 (len a0)) <|
 (Fq3 (std.add .i64 (std.add .i64 (std.add .i64 v1 1) 1) 1)).bind fun y19 =>
 br (std.not (std.seq (gd a0 (std.toN v2)).fN y19))
 (some (.inr (.inl (-1))))
 (some (.inl (std.add .i64 (std.add .i64 (std.add .i64 (std.add .i64 v1 1) 1) 1) 1, std.add .i64 v2 1)))))))
 (some (.inr (.inr v1)))
/-- laws.heldLabelS -/
def Fq41 (a0 : List TB) (a1 : Int) : Option (Int) :=
 (whileP (σ := Int × Int) (ρ := (Int) ⊕ (Int)) (Lq41_x3 a0) (a1, 0)).bind fun y4 =>
 (match y4 with
 | .inl y4k0 => (
 letO y4k0 fun w26 =>
 some w26)
 | .inr y4m0 =>
 letO y4m0 fun y4k1 =>
 letO y4k1 fun w27 =>
 some w27)
theorem runq41 (a0 : List TB) (a1 : Int) (r : Int) (h : Fq41 a0 a1 = some r) : Fun Tryz.prog 132 [.c (.bs (len a0) 4 (row gd (eL) a0)), .c (wi a1)] [] (.c (wi r)) [] true := by
 refine Fun.of_wp (oneOf []) tok mixed Tryz.func132 (by kernel_rfl) rfl Tryz.ntmps132 rfl trivial (fun _ => ⟨trivial, tv⟩) ?_
 unfold Fq41 at h
 unfold Lq41_x3 at h
 have hfq3 := @runq3
 generalize hLEN : @len = LEN, hGD : @gd = GD, hA : std = A, hP : Tryz.prog = P at *
 cbv
 replace h := ob_ h
 obtain ⟨y4, hr5, hN6⟩ := h
 refine loop_cut hr5 (fun x => (sp 52 [(0, .c (.bs (LEN a0) 4 (row GD (eL) a0))), (1, .c (wi x.1)), (5, .c (wi x.2))] [])) ?_ (fun y e s => (match y with | .inl w => e = .ret /\ s.le (sp 52 [(4, .c (wi w))] []) | .inr w0 => (fun (w : Int) => e = .exit 0 /\ s.le (sp 52 [(1, .c (wi w))] [])) w0)) ?_ ?_
 ·clear hr5 hN6
  show St.le _ _
  exact lsp rfl zl3 trivial rfl
 ·clear hr5 hN6
  intro x z10 h K8 hK9 hY7
  obtain ⟨x0_, x1_⟩ := x
  replace h := ol h
  obtain ⟨v1, hv1, h⟩ := h
  have hv1 : v1 = x0_ := hv1
  subst hv1
  replace h := ol h
  obtain ⟨v2, hv2, h⟩ := h
  have hv2 : v2 = x1_ := hv2
  subst hv2
  cbv
  refine fork (fun b25 => ?_) (fun b25 => ?_)
  ·replace h := ot b25 h
   cbv
   replace h := oq h
   obtain ⟨c15, h⟩ := h
   refine ⟨⟨c15, tv⟩, ?_⟩
   refine fork (fun b24 => ?_) (fun b24 => ?_)
   ·replace h := ot b24 h
    cbv
    injection h with h
    refine hY7 _ h.symm _ _ (And.intro rfl ?_) (by intro hh; cases hh)
    exact lsp rfl zl1 trivial rfl
   ·replace h := og b24 h
    cbv
    replace h := oq h
    obtain ⟨c16, h⟩ := h
    refine ⟨⟨c16, tv⟩, ?_⟩
    refine fork (fun b23 => ?_) (fun b23 => ?_)
    ·replace h := ot b23 h
     cbv
     injection h with h
     refine hY7 _ h.symm _ _ (And.intro rfl ?_) (by intro hh; cases hh)
     exact lsp rfl zl1 trivial rfl
    ·replace h := og b23 h
     cbv
     replace h := oq h
     obtain ⟨c17, h⟩ := h
     refine ⟨⟨c17, tv⟩, ?_⟩
     refine fork (fun b22 => ?_) (fun b22 => ?_)
     ·replace h := ot b22 h
      cbv
      injection h with h
      refine hY7 _ h.symm _ _ (And.intro rfl ?_) (by intro hh; cases hh)
      exact lsp rfl zl1 trivial rfl
     ·replace h := og b22 h
      cbv
      replace h := oq h
      obtain ⟨c18, h⟩ := h
      refine ⟨⟨c18, tv⟩, ?_⟩
      replace h := ob_ h
      obtain ⟨y19, hy20, h⟩ := h
      refine ⟨⟨_, _, _, _, _, [], []⟩, hfq3 _ _ hy20, ⟨zs1, trivial, rfl, rfl, rfl, rfl, trivial, rfl⟩, ?_⟩
      cbv
      refine fork (fun b21 => ?_) (fun b21 => ?_)
      ·replace h := ot b21 h
       cbv
       injection h with h
       refine hY7 _ h.symm _ _ (And.intro rfl ?_) (by intro hh; cases hh)
       exact lsp rfl zl1 trivial rfl
      ·replace h := og b21 h
       cbv
       injection h with h
       refine hK9 _ h.symm _ ?_
       exact lsp rfl zl3 trivial rfl
  ·replace h := og b25 h
   cbv
   injection h with h
   refine hY7 _ h.symm _ _ (And.intro rfl ?_) (by intro hh; cases hh)
   exact lsp rfl zl1 trivial rfl
 ·clear hr5
  have h := hN6
  clear hN6
  intro e13 s14 q12 hne
  rcases y4 with y4k0 | y4m0
  ·replace h := h
   obtain ⟨rfl, q12⟩ := q12
   replace h := ol h
   obtain ⟨w26, hw26, h⟩ := h
   have hw26 : w26 = y4k0 := hw26
   subst hw26
   cbv
   injection h with h
   subst h
   refine ⟨(sp 52 [(4, .c (wi w26))] []), ?_, ?_⟩
   ·refine St.le_trans q12 ?_
    exact lsp rfl zl1 trivial rfl
   ·exact ⟨lR _, trivial, rfl⟩
  ·replace h := ol h
   obtain ⟨y4k1, hyk, h⟩ := h
   have hyk : y4k1 = y4m0 := hyk
   subst hyk
   obtain ⟨rfl, q12⟩ := q12
   replace h := ol h
   obtain ⟨w27, hw27, h⟩ := h
   have hw27 : w27 = y4k1 := hw27
   subst hw27
   cbv
   refine ⟨_, q12, ?_⟩
   cbv
   injection h with h
   subst h
   refine ⟨(sp 52 [(4, .c (wi w27))] []), ?_, ?_⟩
   ·exact lsp rfl zl1 trivial rfl
   ·exact ⟨lR _, trivial, rfl⟩

def Lq43_x3 (a0 : List TI) : (Int × Int) -> Option ((Int × Int) ⊕ ((Int) ⊕ (Int))) := fun x3 =>
 letO x3.1 fun v1 =>
 letO x3.2 fun v2 =>
 br (std.lt v2 (std.ofN (len a0)))
 (req (std.inR v2 (len a0)) <|
 br (std.not (std.eq (gd a0 (std.toN v2)).fc v1))
 (some (.inr (.inl (-1))))
 (req (std.inR v2 (len a0)) <|
 br (std.not (std.eq (gd a0 (std.toN v2)).fp.fo (std.add .i64 v1 1)))
 (some (.inr (.inl (-1))))
 (req (std.inR v2 (len a0)) <|
 br (std.not (std.eq (gd a0 (std.toN v2)).fp.fX (std.add .i64 (std.add .i64 v1 1) 1)))
 (some (.inr (.inl (-1))))
 (req (std.inR v2 (len a0)) <|
 br (std.not (std.eq (gd a0 (std.toN v2)).fp.fY (std.add .i64 (std.add .i64 (std.add .i64 v1 1) 1) 1)))
 (some (.inr (.inl (-1))))
 (req (std.inR v2 (len a0)) <|
 br (std.not (std.eq (gd a0 (std.toN v2)).fK (std.add .i64 (std.add .i64 (std.add .i64 (std.add .i64 v1 1) 1) 1) 1)))
 (some (.inr (.inl (-1))))
 (req (std.inR v2 (len a0)) <|
 br (std.not (std.eq (gd a0 (std.toN v2)).fR (std.add .i64 (std.add .i64 (std.add .i64 (std.add .i64 (std.add .i64 v1 1) 1) 1) 1) 1)))
 (some (.inr (.inl (-1))))
 (req (std.inR v2 (len a0)) <|
 br (std.not (std.eq (gd a0 (std.toN v2)).fu (std.add .i64 (std.add .i64 (std.add .i64 (std.add .i64 (std.add .i64 (std.add .i64 v1 1) 1) 1) 1) 1) 1)))
 (some (.inr (.inl (-1))))
 (req (std.inR v2 (len a0)) <|
 br (std.not (std.eq (gd a0 (std.toN v2)).fv (std.add .i64 (std.add .i64 (std.add .i64 (std.add .i64 (std.add .i64 (std.add .i64 (std.add .i64 v1 1) 1) 1) 1) 1) 1) 1)))
 (some (.inr (.inl (-1))))
 (some (.inl (std.add .i64 (std.add .i64 (std.add .i64 (std.add .i64 (std.add .i64 (std.add .i64 (std.add .i64 (std.add .i64 v1 1) 1) 1) 1) 1) 1) 1) 1, std.add .i64 v2 1)))))))))))
 (some (.inr (.inr v1)))
/-- laws.heldInstanceS -/
def Fq43 (a0 : List TI) (a1 : Int) : Option (Int) :=
 (whileP (σ := Int × Int) (ρ := (Int) ⊕ (Int)) (Lq43_x3 a0) (a1, 0)).bind fun y4 =>
 (match y4 with
 | .inl y4k0 => (
 letO y4k0 fun w32 =>
 some w32)
 | .inr y4m0 =>
 letO y4m0 fun y4k1 =>
 letO y4k1 fun w33 =>
 some w33)
theorem runq43 (a0 : List TI) (a1 : Int) (r : Int) (h : Fq43 a0 a1 = some r) : Fun Tryz.prog 133 [.c (.bs (len a0) 8 (row gd (eI) a0)), .c (wi a1)] [] (.c (wi r)) [] true := by
 refine Fun.of_wp (oneOf []) tok mixed Tryz.func133 (by kernel_rfl) rfl Tryz.ntmps133 rfl trivial (fun _ => ⟨trivial, tv⟩) ?_
 unfold Fq43 at h
 unfold Lq43_x3 at h
 generalize hLEN : @len = LEN, hGD : @gd = GD, hA : std = A, hP : Tryz.prog = P at *
 cbv
 replace h := ob_ h
 obtain ⟨y4, hr5, hN6⟩ := h
 refine loop_cut hr5 (fun x => (sp 88 [(0, .c (.bs (LEN a0) 8 (row GD (eI) a0))), (1, .c (wi x.1)), (5, .c (wi x.2))] [])) ?_ (fun y e s => (match y with | .inl w => e = .ret /\ s.le (sp 88 [(4, .c (wi w))] []) | .inr w0 => (fun (w : Int) => e = .exit 0 /\ s.le (sp 88 [(1, .c (wi w))] [])) w0)) ?_ ?_
 ·clear hr5 hN6
  show St.le _ _
  exact lsp rfl zl3 trivial rfl
 ·clear hr5 hN6
  intro x z10 h K8 hK9 hY7
  obtain ⟨x0_, x1_⟩ := x
  replace h := ol h
  obtain ⟨v1, hv1, h⟩ := h
  have hv1 : v1 = x0_ := hv1
  subst hv1
  replace h := ol h
  obtain ⟨v2, hv2, h⟩ := h
  have hv2 : v2 = x1_ := hv2
  subst hv2
  cbv
  refine fork (fun b31 => ?_) (fun b31 => ?_)
  ·replace h := ot b31 h
   cbv
   replace h := oq h
   obtain ⟨c15, h⟩ := h
   refine ⟨⟨c15, tv⟩, ?_⟩
   refine fork (fun b30 => ?_) (fun b30 => ?_)
   ·replace h := ot b30 h
    cbv
    injection h with h
    refine hY7 _ h.symm _ _ (And.intro rfl ?_) (by intro hh; cases hh)
    exact lsp rfl zl1 trivial rfl
   ·replace h := og b30 h
    cbv
    replace h := oq h
    obtain ⟨c16, h⟩ := h
    refine ⟨⟨c16, tv⟩, ?_⟩
    refine fork (fun b29 => ?_) (fun b29 => ?_)
    ·replace h := ot b29 h
     cbv
     injection h with h
     refine hY7 _ h.symm _ _ (And.intro rfl ?_) (by intro hh; cases hh)
     exact lsp rfl zl1 trivial rfl
    ·replace h := og b29 h
     cbv
     replace h := oq h
     obtain ⟨c17, h⟩ := h
     refine ⟨⟨c17, tv⟩, ?_⟩
     refine fork (fun b28 => ?_) (fun b28 => ?_)
     ·replace h := ot b28 h
      cbv
      injection h with h
      refine hY7 _ h.symm _ _ (And.intro rfl ?_) (by intro hh; cases hh)
      exact lsp rfl zl1 trivial rfl
     ·replace h := og b28 h
      cbv
      replace h := oq h
      obtain ⟨c18, h⟩ := h
      refine ⟨⟨c18, tv⟩, ?_⟩
      refine fork (fun b27 => ?_) (fun b27 => ?_)
      ·replace h := ot b27 h
       cbv
       injection h with h
       refine hY7 _ h.symm _ _ (And.intro rfl ?_) (by intro hh; cases hh)
       exact lsp rfl zl1 trivial rfl
      ·replace h := og b27 h
       cbv
       replace h := oq h
       obtain ⟨c19, h⟩ := h
       refine ⟨⟨c19, tv⟩, ?_⟩
       refine fork (fun b26 => ?_) (fun b26 => ?_)
       ·replace h := ot b26 h
        cbv
        injection h with h
        refine hY7 _ h.symm _ _ (And.intro rfl ?_) (by intro hh; cases hh)
        exact lsp rfl zl1 trivial rfl
       ·replace h := og b26 h
        cbv
        replace h := oq h
        obtain ⟨c20, h⟩ := h
        refine ⟨⟨c20, tv⟩, ?_⟩
        refine fork (fun b25 => ?_) (fun b25 => ?_)
        ·replace h := ot b25 h
         cbv
         injection h with h
         refine hY7 _ h.symm _ _ (And.intro rfl ?_) (by intro hh; cases hh)
         exact lsp rfl zl1 trivial rfl
        ·replace h := og b25 h
         cbv
         replace h := oq h
         obtain ⟨c21, h⟩ := h
         refine ⟨⟨c21, tv⟩, ?_⟩
         refine fork (fun b24 => ?_) (fun b24 => ?_)
         ·replace h := ot b24 h
          cbv
          injection h with h
          refine hY7 _ h.symm _ _ (And.intro rfl ?_) (by intro hh; cases hh)
          exact lsp rfl zl1 trivial rfl
         ·replace h := og b24 h
          cbv
          replace h := oq h
          obtain ⟨c22, h⟩ := h
          refine ⟨⟨c22, tv⟩, ?_⟩
          refine fork (fun b23 => ?_) (fun b23 => ?_)
          ·replace h := ot b23 h
           cbv
           injection h with h
           refine hY7 _ h.symm _ _ (And.intro rfl ?_) (by intro hh; cases hh)
           exact lsp rfl zl1 trivial rfl
          ·replace h := og b23 h
           cbv
           injection h with h
           refine hK9 _ h.symm _ ?_
           exact lsp rfl zl3 trivial rfl
  ·replace h := og b31 h
   cbv
   injection h with h
   refine hY7 _ h.symm _ _ (And.intro rfl ?_) (by intro hh; cases hh)
   exact lsp rfl zl1 trivial rfl
 ·clear hr5
  have h := hN6
  clear hN6
  intro e13 s14 q12 hne
  rcases y4 with y4k0 | y4m0
  ·replace h := h
   obtain ⟨rfl, q12⟩ := q12
   replace h := ol h
   obtain ⟨w32, hw32, h⟩ := h
   have hw32 : w32 = y4k0 := hw32
   subst hw32
   cbv
   injection h with h
   subst h
   refine ⟨(sp 88 [(4, .c (wi w32))] []), ?_, ?_⟩
   ·refine St.le_trans q12 ?_
    exact lsp rfl zl1 trivial rfl
   ·exact ⟨lR _, trivial, rfl⟩
  ·replace h := ol h
   obtain ⟨y4k1, hyk, h⟩ := h
   have hyk : y4k1 = y4m0 := hyk
   subst hyk
   obtain ⟨rfl, q12⟩ := q12
   replace h := ol h
   obtain ⟨w33, hw33, h⟩ := h
   have hw33 : w33 = y4k1 := hw33
   subst hw33
   cbv
   refine ⟨_, q12, ?_⟩
   cbv
   injection h with h
   subst h
   refine ⟨(sp 88 [(4, .c (wi w33))] []), ?_, ?_⟩
   ·exact lsp rfl zl1 trivial rfl
   ·exact ⟨lR _, trivial, rfl⟩

def Lq40_x3 (a0 : List TC) : (Int × Int) -> Option ((Int × Int) ⊕ ((Int) ⊕ (Int))) := fun x3 =>
 letO x3.1 fun v1 =>
 letO x3.2 fun v2 =>
 br (std.lt v2 (std.ofN (len a0)))
 (req (std.inR v2 (len a0)) <|
 (Fq3 v1).bind fun y16 =>
 br (std.not (std.seq (gd a0 (std.toN v2)).fN y16))
 (some (.inr (.inl (-1))))
 (req (std.inR v2 (len a0)) <|
 (Fq46 (gd a0 (std.toN v2)).fS (std.add .i64 v1 1)).bind fun y19 =>
 br (std.lt y19 0)
 (some (.inr (.inl (-1))))
 (req (std.inR v2 (len a0)) <|
 (Fq41 (gd a0 (std.toN v2)).fL y19).bind fun y22 =>
 br (std.lt y22 0)
 (some (.inr (.inl (-1))))
 (req (std.inR v2 (len a0)) <|
 (Fq43 (gd a0 (std.toN v2)).fI y22).bind fun y25 =>
 br (std.lt y25 0)
 (some (.inr (.inl (-1))))
 (some (.inl (y25, std.add .i64 v2 1)))))))
 (some (.inr (.inr v1)))
/-- laws.heldCellS -/
def Fq40 (a0 : List TC) (a1 : Int) : Option (Int) :=
 (whileP (σ := Int × Int) (ρ := (Int) ⊕ (Int)) (Lq40_x3 a0) (a1, 0)).bind fun y4 =>
 (match y4 with
 | .inl y4k0 => (
 letO y4k0 fun w32 =>
 some w32)
 | .inr y4m0 =>
 letO y4m0 fun y4k1 =>
 letO y4k1 fun w33 =>
 some w33)
theorem runq40 (a0 : List TC) (a1 : Int) (r : Int) (h : Fq40 a0 a1 = some r) : Fun Tryz.prog 68 [.c (.bs (len a0) 4 (row gd (eC len gd) a0)), .c (wi a1)] [] (.c (wi r)) [] true := by
 refine Fun.of_wp (oneOf []) tok mixed Tryz.func68 (by kernel_rfl) rfl Tryz.ntmps68 rfl trivial (fun _ => ⟨trivial, tv⟩) ?_
 unfold Fq40 at h
 unfold Lq40_x3 at h
 have hfq43 := @runq43
 have hfq41 := @runq41
 have hfq46 := @runq46
 have hfq3 := @runq3
 generalize hLEN : @len = LEN, hGD : @gd = GD, hA : std = A, hP : Tryz.prog = P at *
 cbv
 replace h := ob_ h
 obtain ⟨y4, hr5, hN6⟩ := h
 refine loop_cut hr5 (fun x => (sp 50 [(0, .c (.bs (LEN a0) 4 (row GD (eC LEN GD) a0))), (1, .c (wi x.1)), (5, .c (wi x.2))] [])) ?_ (fun y e s => (match y with | .inl w => e = .ret /\ s.le (sp 50 [(4, .c (wi w))] []) | .inr w0 => (fun (w : Int) => e = .exit 0 /\ s.le (sp 50 [(1, .c (wi w))] [])) w0)) ?_ ?_
 ·clear hr5 hN6
  show St.le _ _
  exact lsp rfl zl3 trivial rfl
 ·clear hr5 hN6
  intro x z10 h K8 hK9 hY7
  obtain ⟨x0_, x1_⟩ := x
  replace h := ol h
  obtain ⟨v1, hv1, h⟩ := h
  have hv1 : v1 = x0_ := hv1
  subst hv1
  replace h := ol h
  obtain ⟨v2, hv2, h⟩ := h
  have hv2 : v2 = x1_ := hv2
  subst hv2
  cbv
  refine fork (fun b31 => ?_) (fun b31 => ?_)
  ·replace h := ot b31 h
   cbv
   replace h := oq h
   obtain ⟨c15, h⟩ := h
   refine ⟨⟨c15, tv⟩, ?_⟩
   replace h := ob_ h
   obtain ⟨y16, hy17, h⟩ := h
   refine ⟨⟨_, _, _, _, _, [], []⟩, hfq3 _ _ hy17, ⟨zs1, trivial, rfl, rfl, rfl, rfl, trivial, rfl⟩, ?_⟩
   cbv
   refine fork (fun b30 => ?_) (fun b30 => ?_)
   ·replace h := ot b30 h
    cbv
    injection h with h
    refine hY7 _ h.symm _ _ (And.intro rfl ?_) (by intro hh; cases hh)
    exact lsp rfl zl1 trivial rfl
   ·replace h := og b30 h
    cbv
    replace h := oq h
    obtain ⟨c18, h⟩ := h
    refine ⟨⟨c18, tv⟩, ?_⟩
    replace h := ob_ h
    obtain ⟨y19, hy20, h⟩ := h
    refine ⟨⟨_, _, _, _, _, [], []⟩, hfq46 _ _ _ hy20, ⟨zs2, trivial, rfl, rfl, rfl, rfl, trivial, rfl⟩, ?_⟩
    cbv
    refine fork (fun b29 => ?_) (fun b29 => ?_)
    ·replace h := ot b29 h
     cbv
     injection h with h
     refine hY7 _ h.symm _ _ (And.intro rfl ?_) (by intro hh; cases hh)
     exact lsp rfl zl1 trivial rfl
    ·replace h := og b29 h
     cbv
     replace h := oq h
     obtain ⟨c21, h⟩ := h
     refine ⟨⟨c21, tv⟩, ?_⟩
     replace h := ob_ h
     obtain ⟨y22, hy23, h⟩ := h
     refine ⟨⟨_, _, _, _, _, [], []⟩, hfq41 _ _ _ hy23, ⟨zs2, trivial, rfl, rfl, rfl, rfl, trivial, rfl⟩, ?_⟩
     cbv
     refine fork (fun b28 => ?_) (fun b28 => ?_)
     ·replace h := ot b28 h
      cbv
      injection h with h
      refine hY7 _ h.symm _ _ (And.intro rfl ?_) (by intro hh; cases hh)
      exact lsp rfl zl1 trivial rfl
     ·replace h := og b28 h
      cbv
      replace h := oq h
      obtain ⟨c24, h⟩ := h
      refine ⟨⟨c24, tv⟩, ?_⟩
      replace h := ob_ h
      obtain ⟨y25, hy26, h⟩ := h
      refine ⟨⟨_, _, _, _, _, [], []⟩, hfq43 _ _ _ hy26, ⟨zs2, trivial, rfl, rfl, rfl, rfl, trivial, rfl⟩, ?_⟩
      cbv
      refine fork (fun b27 => ?_) (fun b27 => ?_)
      ·replace h := ot b27 h
       cbv
       injection h with h
       refine hY7 _ h.symm _ _ (And.intro rfl ?_) (by intro hh; cases hh)
       exact lsp rfl zl1 trivial rfl
      ·replace h := og b27 h
       cbv
       injection h with h
       refine hK9 _ h.symm _ ?_
       exact lsp rfl zl3 trivial rfl
  ·replace h := og b31 h
   cbv
   injection h with h
   refine hY7 _ h.symm _ _ (And.intro rfl ?_) (by intro hh; cases hh)
   exact lsp rfl zl1 trivial rfl
 ·clear hr5
  have h := hN6
  clear hN6
  intro e13 s14 q12 hne
  rcases y4 with y4k0 | y4m0
  ·replace h := h
   obtain ⟨rfl, q12⟩ := q12
   replace h := ol h
   obtain ⟨w32, hw32, h⟩ := h
   have hw32 : w32 = y4k0 := hw32
   subst hw32
   cbv
   injection h with h
   subst h
   refine ⟨(sp 50 [(4, .c (wi w32))] []), ?_, ?_⟩
   ·refine St.le_trans q12 ?_
    exact lsp rfl zl1 trivial rfl
   ·exact ⟨lR _, trivial, rfl⟩
  ·replace h := ol h
   obtain ⟨y4k1, hyk, h⟩ := h
   have hyk : y4k1 = y4m0 := hyk
   subst hyk
   obtain ⟨rfl, q12⟩ := q12
   replace h := ol h
   obtain ⟨w33, hw33, h⟩ := h
   have hw33 : w33 = y4k1 := hw33
   subst hw33
   cbv
   refine ⟨_, q12, ?_⟩
   cbv
   injection h with h
   subst h
   refine ⟨(sp 50 [(4, .c (wi w33))] []), ?_, ?_⟩
   ·exact lsp rfl zl1 trivial rfl
   ·exact ⟨lR _, trivial, rfl⟩
set_option maxHeartbeats 4000000
/-- laws.heldLibrary -/
def Fq67 (a0 : TL) (a1 : Int) : Option (Int) :=
 (Fq40 a0.fC a1).bind fun y1 =>
 br (std.lt y1 0)
 (some (-1))
 (some y1)
theorem runq67 (a0 : TL) (a1 : Int) (r : Int) (h : Fq67 a0 a1 = some r) : Fun Tryz.prog 22 [.agg [.bs (len a0.fC) 4 (row gd (eC len gd) a0.fC)], .c (wi a1)] [] (.c (wi r)) [] true := by
 refine Fun.of_wp (oneOf []) tok mixed Tryz.func22 (by kernel_rfl) rfl Tryz.ntmps22 rfl trivial (fun _ => ⟨trivial, tv⟩) ?_
 unfold Fq67 at h
 have hfq40 := @runq40
 generalize hLEN : @len = LEN, hGD : @gd = GD, hA : std = A, hP : Tryz.prog = P at *
 cbv
 replace h := ob_ h
 obtain ⟨y1, hy2, h⟩ := h
 refine ⟨⟨_, _, _, _, _, [], []⟩, hfq40 _ _ _ hy2, ⟨zs2, trivial, rfl, rfl, rfl, rfl, trivial, rfl⟩, ?_⟩
 cbv
 refine fork (fun b3 => ?_) (fun b3 => ?_)
 ·replace h := ot b3 h
  cbv
  injection h with h
  subst h
  refine ⟨(sp 12 [(4, .c (wi (-1)))] []), ?_, ?_⟩
  ·exact lsp rfl zl1 trivial rfl
  ·exact ⟨lR _, trivial, rfl⟩
 ·replace h := og b3 h
  cbv
  injection h with h
  subst h
  refine ⟨(sp 12 [(4, .c (wi y1))] []), ?_, ?_⟩
  ·exact lsp rfl zl1 trivial rfl
  ·exact ⟨lR _, trivial, rfl⟩

/-- laws.FnExactApplyEdit -/
def Fq121 (a0 : TL) (a1 : TE) : Option (Bool) :=
 (Fq72 a0 1048576).bind fun y1 =>
 br (std.lt y1 0)
 (some true)
 ((Fq78 (TE.mk a1.fk a1.fc a1.fx a1.fN a1.fs_ a1.fl_ a1.fi_) y1).bind fun y3 =>
 br (std.lt y3 0)
 (some true)
 ((Fq36 a0).bind fun y5 =>
 (Fq66 (TE.mk a1.fk a1.fc a1.fx a1.fN a1.fs_ a1.fl_ a1.fi_)).bind fun y7 =>
 (Fq86 y5 y7).bind fun y9 =>
 (Fq36 a0).bind fun y11 =>
 (Fq66 (TE.mk a1.fk a1.fc a1.fx a1.fN a1.fs_ a1.fl_ a1.fi_)).bind fun y13 =>
 (Fq68 y11 y13).bind fun y15 =>
 ((
 (Fq29 y15.1 y9.1).bind fun y24 =>
 br (!(y24))
 (some true)
 (some (std.not (std.eq y15.2 y9.2)))
 ) : Option (Bool)).bind fun y17 =>
 letO y17 fun w23 =>
 br w23
 (some false)
 ((Fq36 a0).bind fun y27 =>
 (Fq29 y11 y27).bind fun y29 =>
 br (!(y29))
 (some false)
 ((Fq71 y11 1).bind fun y31 =>
 req (len y31.2 = len y11.fC) <|
 ((
 br (std.lt y31.1 0)
 (some true)
 ((Fq29 y15.1 y9.1).bind fun y40 =>
 br (!(y40))
 (some true)
 (some (std.not (std.eq y15.2 y9.2))))
 ) : Option (Bool)).bind fun y33 =>
 letO y33 fun w39 =>
 br w39
 (some false)
 ((Fq71 y15.1 1).bind fun y44 =>
 req (len y44.2 = len y15.1.fC) <|
 (Fq67 (TL.mk y44.2) 1).bind fun y46 =>
 req (len y15.1.fC = len y44.2) <|
 br (std.lt y46 0)
 (some false)
 (br (std.not (std.eq y46 y44.1))
 (some false)
 ((Fq36 a0).bind fun y48 =>
 (Fq66 (TE.mk a1.fk a1.fc a1.fx a1.fN a1.fs_ a1.fl_ a1.fi_)).bind fun y50 =>
 (Fq68 y48 y50).bind fun y52 =>
 ((
 (Fq29 y52.1 y9.1).bind fun y61 =>
 br (!(y61))
 (some true)
 (some (std.not (std.eq y52.2 y9.2)))
 ) : Option (Bool)).bind fun y54 =>
 letO y54 fun w60 =>
 br w60
 (some false)
 ((Fq67 (TL.mk y44.2) 1).bind fun y64 =>
 req (len y15.1.fC = len y44.2) <|
 br (std.lt y64 0)
 (some false)
 (br (std.not (std.eq y64 y44.1))
 (some false)
 (some true))))))))))
theorem runq121 (a0 : TL) (a1 : TE) (r : Bool) (h : Fq121 a0 a1 = some r) : Fun Tryz.prog 3 [.agg [.bs (len a0.fC) 4 (row gd (eC len gd) a0.fC)], .agg (cE a1)] [] (.c (.v (.bool r))) [] true := by
 refine Fun.of_wp (oneOf [11, 17, 28]) tok mixed Tryz.func3 (by kernel_rfl) rfl Tryz.ntmps3 rfl trivial (fun _ => ⟨trivial, tv⟩) ?_
 unfold Fq121 at h
 have hfq68 := @runq68
 have hfq29 := @runq29
 have hfq67 := @runq67
 have hfq71 := @runq71
 have hfq78 := @runq78
 have hfq72 := @runq72
 have hfq66 := @runq66
 have hfq36 := @runq36
 have hfq86 := @runq86
 generalize hLEN : @len = LEN, hGD : @gd = GD, hA : std = A, hP : Tryz.prog = P at *
 cbv
 replace h := ob_ h
 obtain ⟨y1, hy2, h⟩ := h
 refine ⟨⟨_, _, _, _, _, [], []⟩, hfq72 _ _ _ hy2, ⟨zs2, trivial, rfl, rfl, rfl, rfl, trivial, rfl⟩, ?_⟩
 cbv
 refine fork (fun b79 => ?_) (fun b79 => ?_)
 ·replace h := ot b79 h
  cbv
  injection h with h
  subst h
  refine ⟨(sp 109 [(4, .c (.v (.bool true)))] []), ?_, ?_⟩
  ·exact lsp rfl zl1 trivial rfl
  ·exact ⟨lR _, trivial, rfl⟩
 ·replace h := og b79 h
  cbv
  replace h := ob_ h
  obtain ⟨y3, hy4, h⟩ := h
  refine ⟨⟨_, _, _, _, _, [], []⟩, hfq78 _ _ _ hy4, ⟨zs2, trivial, rfl, rfl, rfl, rfl, trivial, rfl⟩, ?_⟩
  cbv
  refine fork (fun b78 => ?_) (fun b78 => ?_)
  ·replace h := ot b78 h
   cbv
   injection h with h
   subst h
   refine ⟨(sp 109 [(4, .c (.v (.bool true)))] []), ?_, ?_⟩
   ·exact lsp rfl zl1 trivial rfl
   ·exact ⟨lR _, trivial, rfl⟩
  ·replace h := og b78 h
   cbv
   replace h := ob_ h
   obtain ⟨y5, hy6, h⟩ := h
   refine ⟨⟨_, _, _, _, _, [], [(64000, 1792)]⟩, hfq36 _ _ hy6, ⟨zs1, trivial, rfl, rfl, rfl, rfl, ⟨evn 64000 rfl, tv⟩, rfl⟩, _, rfl, _, _, rfl, fun _ _ _ _ => .refl _, ?_⟩
   cbv
   replace h := ob_ h
   obtain ⟨y7, hy8, h⟩ := h
   refine ⟨⟨_, _, _, _, _, [], []⟩, hfq66 _ _ hy8, ⟨zs1, trivial, rfl, rfl, rfl, rfl, trivial, rfl⟩, ?_⟩
   cbv
   replace h := ob_ h
   obtain ⟨y9, hy10, h⟩ := h
   refine ⟨⟨_, _, _, _, _, [], [(64000, 1984)]⟩, hfq86 _ _ _ hy10, ⟨lc (le_agg ⟨give_osD (rC) (ln_oncCell) rfl rfl rfl, tv⟩) (zs1), trivial, rfl, rfl, rfl, rfl, ⟨evn 64000 rfl, tv⟩, rfl⟩, _, rfl, _, _, rfl, fun _ _ _ _ => .refl _, ?_⟩
   cbv
   replace h := ob_ h
   obtain ⟨y11, hy12, h⟩ := h
   refine ⟨⟨_, _, _, _, _, [], [(64000, 2240)]⟩, hfq36 _ _ hy12, ⟨zs1, trivial, rfl, rfl, rfl, rfl, ⟨evn 64000 rfl, tv⟩, rfl⟩, _, rfl, _, _, rfl, fun _ _ _ _ => .refl _, ?_⟩
   cbv
   replace h := ob_ h
   obtain ⟨y13, hy14, h⟩ := h
   refine ⟨⟨_, _, _, _, _, [], []⟩, hfq66 _ _ hy14, ⟨zs1, trivial, rfl, rfl, rfl, rfl, trivial, rfl⟩, ?_⟩
   cbv
   replace h := ob_ h
   obtain ⟨y15, hy16, h⟩ := h
   refine ⟨⟨_, _, _, _, _, [], [(64000, 2560)]⟩, hfq68 _ _ _ hy16, ⟨lc (le_agg ⟨give_osD (rC) (ln_oncCell) rfl rfl rfl, tv⟩) (zs1), trivial, rfl, rfl, rfl, rfl, ⟨evn 64000 rfl, tv⟩, rfl⟩, _, rfl, _, _, rfl, fun _ _ _ _ => .refl _, ?_⟩
   cbv
   replace h := ob_ h
   obtain ⟨y17, hy18, h⟩ := h
   obtain ⟨S21, hS22⟩ : ∃ S, S = (sp 109 [(2, .c (.ptr 128 0)), (3, .c (.ptr 192 0)), (6, .c (.ptr 384 0)), (7, .c (wi y9.2)), (8, .c (.ptr 512 0)), (9, .c (.ptr 576 0)), (10, .c (wi y15.2)), (51, .c (.v (.bool y17)))] [(128, .var [.bs (LEN a0.fC) 4 (row GD (eC LEN GD) a0.fC)]), (192, .var (cE a1)), (384, .var [.os 1984 0 (LEN y9.1.fC)]), (512, .var [.os 2240 0 (LEN y11.fC)]), (576, .var [.os 2560 0 (LEN y15.1.fC)]), (1984, .arr .rw [] (LEN y9.1.fC) 4 (row GD (oC LEN GD) y9.1.fC)), (2240, .arr .rw [] (LEN y11.fC) 4 (row GD (oC LEN GD) y11.fC)), (2560, .arr .rw [] (LEN y15.1.fC) 4 (row GD (oC LEN GD) y15.1.fC))]) := ⟨_, rfl⟩
   refine ⟨S21, ?_, ?_⟩
   ·clear h
    have h := hy18
    clear hy18
    cbv
    replace h := ob_ h
    obtain ⟨y24, hy25, h⟩ := h
    refine ⟨⟨_, _, _, _, _, [], []⟩, hfq29 _ _ _ hy25, ⟨lc (le_agg ⟨give_osD (rC) (ln_oncCell) rfl rfl rfl, tv⟩) (lc (le_agg ⟨give_osD (rC) (ln_oncCell) rfl rfl rfl, tv⟩) (ln)), trivial, rfl, rfl, rfl, rfl, trivial, rfl⟩, ?_⟩
    cbv
    refine fork (fun b26 => ?_) (fun b26 => ?_)
    ·replace h := ot b26 h
     cbv
     injection h with h
     subst h
     subst hS22
     exact lsp rfl zl8 ⟨rfl, rfl, rfl, rfl, rfl, oS, oS, oS, tv⟩ rfl
    ·replace h := og b26 h
     cbv
     injection h with h
     subst h
     subst hS22
     exact lsp rfl zl8 ⟨rfl, rfl, rfl, rfl, rfl, oS, oS, oS, tv⟩ rfl
   ·clear hy18
    subst hS22
    replace h := ol h
    obtain ⟨w23, hw23, h⟩ := h
    have hw23 : w23 = y17 := hw23
    subst hw23
    cbv
    refine fork (fun b77 => ?_) (fun b77 => ?_)
    ·replace h := ot b77 h
     cbv
     injection h with h
     subst h
     refine ⟨(sp 109 [(4, .c (.v (.bool false)))] []), ?_, ?_⟩
     ·exact lsp rfl zl1 trivial rfl
     ·exact ⟨lR _, trivial, rfl⟩
    ·replace h := og b77 h
     cbv
     replace h := ob_ h
     obtain ⟨y27, hy28, h⟩ := h
     refine ⟨⟨_, _, _, _, _, [], [(64000, 3456)]⟩, hfq36 _ _ hy28, ⟨zs1, trivial, rfl, rfl, rfl, rfl, ⟨evn 64000 rfl, tv⟩, rfl⟩, _, rfl, _, _, rfl, fun _ _ _ _ => .refl _, ?_⟩
     cbv
     replace h := ob_ h
     obtain ⟨y29, hy30, h⟩ := h
     refine ⟨⟨_, _, _, _, _, [], []⟩, hfq29 _ _ _ hy30, ⟨lc (le_agg ⟨give_osD (rC) (ln_oncCell) rfl rfl rfl, tv⟩) (lc (le_agg ⟨give_osD (rC) (ln_oncCell) rfl rfl rfl, tv⟩) (ln)), trivial, rfl, rfl, rfl, rfl, trivial, rfl⟩, ?_⟩
     cbv
     refine fork (fun b76 => ?_) (fun b76 => ?_)
     ·replace h := ot b76 h
      cbv
      injection h with h
      subst h
      refine ⟨(sp 109 [(4, .c (.v (.bool false)))] []), ?_, ?_⟩
      ·exact lsp rfl zl1 trivial rfl
      ·exact ⟨lR _, trivial, rfl⟩
     ·replace h := og b76 h
      cbv
      replace h := ob_ h
      obtain ⟨y31, hy32, h⟩ := h
      replace h := oq h
      obtain ⟨c75, h⟩ := h
      refine ⟨⟨_, _, _, _, _, [(5, 2240)], [(5, 2240)]⟩, hfq71 _ _ _ hy32, ⟨zs2, ⟨oS, tv⟩, rfl, rfl, rfl, rfl, ⟨fun _ => ⟨c75.symm, rfl, fun c h => h⟩, tv⟩, rfl⟩, _, rfl, LEN y11.fC, _, c75, fun _ _ _ _ => .refl _, ?_⟩
      cbv
      replace h := ob_ h
      obtain ⟨y33, hy34, h⟩ := h
      obtain ⟨S37, hS38⟩ : ∃ S, S = (sp 109 [(2, .c (.ptr 128 0)), (3, .c (.ptr 192 0)), (6, .c (.ptr 384 0)), (7, .c (wi y9.2)), (9, .c (.ptr 576 0)), (72, .c (.v (.bool y33)))] [(128, .var [.bs (LEN a0.fC) 4 (row GD (eC LEN GD) a0.fC)]), (192, .var (cE a1)), (384, .var [.os 1984 0 (LEN y9.1.fC)]), (576, .var [.os 2560 0 (LEN y15.1.fC)]), (1984, .arr .rw [] (LEN y9.1.fC) 4 (row GD (oC LEN GD) y9.1.fC)), (2560, .arr .rw [] (LEN y15.1.fC) 4 (row GD (oC LEN GD) y15.1.fC))]) := ⟨_, rfl⟩
      refine ⟨S37, ?_, ?_⟩
      ·clear h
       have h := hy34
       clear hy34
       cbv
       refine fork (fun b43 => ?_) (fun b43 => ?_)
       ·replace h := ot b43 h
        cbv
        injection h with h
        subst h
        subst hS38
        exact lsp rfl zl6 ⟨rfl, rfl, rfl, rfl, oS, oS, tv⟩ rfl
       ·replace h := og b43 h
        cbv
        replace h := ob_ h
        obtain ⟨y40, hy41, h⟩ := h
        refine ⟨⟨_, _, _, _, _, [], []⟩, hfq29 _ _ _ hy41, ⟨lc (le_agg ⟨give_osD (rC) (ln_oncCell) rfl rfl rfl, tv⟩) (lc (le_agg ⟨give_osD (rC) (ln_oncCell) rfl rfl rfl, tv⟩) (ln)), trivial, rfl, rfl, rfl, rfl, trivial, rfl⟩, ?_⟩
        cbv
        refine fork (fun b42 => ?_) (fun b42 => ?_)
        ·replace h := ot b42 h
         cbv
         injection h with h
         subst h
         subst hS38
         exact lsp rfl zl6 ⟨rfl, rfl, rfl, rfl, oS, oS, tv⟩ rfl
        ·replace h := og b42 h
         cbv
         injection h with h
         subst h
         subst hS38
         exact lsp rfl zl6 ⟨rfl, rfl, rfl, rfl, oS, oS, tv⟩ rfl
      ·clear hy34
       subst hS38
       replace h := ol h
       obtain ⟨w39, hw39, h⟩ := h
       have hw39 : w39 = y33 := hw39
       subst hw39
       cbv
       refine fork (fun b74 => ?_) (fun b74 => ?_)
       ·replace h := ot b74 h
        cbv
        injection h with h
        subst h
        refine ⟨(sp 109 [(4, .c (.v (.bool false)))] []), ?_, ?_⟩
        ·exact lsp rfl zl1 trivial rfl
        ·exact ⟨lR _, trivial, rfl⟩
       ·replace h := og b74 h
        cbv
        replace h := ob_ h
        obtain ⟨y44, hy45, h⟩ := h
        replace h := oq h
        obtain ⟨c73, h⟩ := h
        refine ⟨⟨_, _, _, _, _, [(5, 2560)], [(5, 2560)]⟩, hfq71 _ _ _ hy45, ⟨zs2, ⟨oS, tv⟩, rfl, rfl, rfl, rfl, ⟨fun _ => ⟨c73.symm, rfl, fun c h => h⟩, tv⟩, rfl⟩, _, rfl, LEN y15.1.fC, _, c73, fun _ _ _ _ => .refl _, ?_⟩
        cbv
        replace h := ob_ h
        obtain ⟨y46, hy47, h⟩ := h
        replace h := oq h
        obtain ⟨c72, h⟩ := h
        refine ⟨⟨_, _, _, _, _, [], []⟩, hfq67 _ _ _ hy47, ⟨lc (le_agg ⟨give_osD (rC) (ln_oncCell) rfl rfl c72, tv⟩) (zs1), trivial, rfl, rfl, rfl, rfl, trivial, rfl⟩, ?_⟩
        cbv
        refine fork (fun b71 => ?_) (fun b71 => ?_)
        ·replace h := ot b71 h
         cbv
         injection h with h
         subst h
         refine ⟨(sp 109 [(4, .c (.v (.bool false)))] []), ?_, ?_⟩
         ·exact lsp rfl zl1 trivial rfl
         ·exact ⟨lR _, trivial, rfl⟩
        ·replace h := og b71 h
         cbv
         refine fork (fun b70 => ?_) (fun b70 => ?_)
         ·replace h := ot b70 h
          cbv
          injection h with h
          subst h
          refine ⟨(sp 109 [(4, .c (.v (.bool false)))] []), ?_, ?_⟩
          ·exact lsp rfl zl1 trivial rfl
          ·exact ⟨lR _, trivial, rfl⟩
         ·replace h := og b70 h
          cbv
          replace h := ob_ h
          obtain ⟨y48, hy49, h⟩ := h
          refine ⟨⟨_, _, _, _, _, [], [(64000, 5504)]⟩, hfq36 _ _ hy49, ⟨zs1, trivial, rfl, rfl, rfl, rfl, ⟨evn 64000 rfl, tv⟩, rfl⟩, _, rfl, _, _, rfl, fun _ _ _ _ => .refl _, ?_⟩
          cbv
          replace h := ob_ h
          obtain ⟨y50, hy51, h⟩ := h
          refine ⟨⟨_, _, _, _, _, [], []⟩, hfq66 _ _ hy51, ⟨zs1, trivial, rfl, rfl, rfl, rfl, trivial, rfl⟩, ?_⟩
          cbv
          replace h := ob_ h
          obtain ⟨y52, hy53, h⟩ := h
          refine ⟨⟨_, _, _, _, _, [], [(64000, 5696)]⟩, hfq68 _ _ _ hy53, ⟨lc (le_agg ⟨give_osD (rC) (ln_oncCell) rfl rfl rfl, tv⟩) (zs1), trivial, rfl, rfl, rfl, rfl, ⟨evn 64000 rfl, tv⟩, rfl⟩, _, rfl, _, _, rfl, fun _ _ _ _ => .refl _, ?_⟩
          cbv
          replace h := ob_ h
          obtain ⟨y54, hy55, h⟩ := h
          obtain ⟨S58, hS59⟩ : ∃ S, S = (sp 109 [(9, .c (.ptr 576 0)), (12, .c (wi y44.1)), (100, .c (.v (.bool y54)))] [(576, .var [.os 2560 0 (LEN y15.1.fC)]), (2560, .arr .rw [] (LEN y15.1.fC) 4 (row GD (oC LEN GD) y44.2))]) := ⟨_, rfl⟩
          refine ⟨S58, ?_, ?_⟩
          ·clear h
           have h := hy55
           clear hy55
           cbv
           replace h := ob_ h
           obtain ⟨y61, hy62, h⟩ := h
           refine ⟨⟨_, _, _, _, _, [], []⟩, hfq29 _ _ _ hy62, ⟨lc (le_agg ⟨give_osD (rC) (ln_oncCell) rfl rfl rfl, tv⟩) (lc (le_agg ⟨give_osD (rC) (ln_oncCell) rfl rfl rfl, tv⟩) (ln)), trivial, rfl, rfl, rfl, rfl, trivial, rfl⟩, ?_⟩
           cbv
           refine fork (fun b63 => ?_) (fun b63 => ?_)
           ·replace h := ot b63 h
            cbv
            injection h with h
            subst h
            subst hS59
            exact lsp rfl zl3 ⟨rfl, oS, tv⟩ rfl
           ·replace h := og b63 h
            cbv
            injection h with h
            subst h
            subst hS59
            exact lsp rfl zl3 ⟨rfl, oS, tv⟩ rfl
          ·clear hy55
           subst hS59
           replace h := ol h
           obtain ⟨w60, hw60, h⟩ := h
           have hw60 : w60 = y54 := hw60
           subst hw60
           cbv
           refine fork (fun b69 => ?_) (fun b69 => ?_)
           ·replace h := ot b69 h
            cbv
            injection h with h
            subst h
            refine ⟨(sp 109 [(4, .c (.v (.bool false)))] []), ?_, ?_⟩
            ·exact lsp rfl zl1 trivial rfl
            ·exact ⟨lR _, trivial, rfl⟩
           ·replace h := og b69 h
            cbv
            replace h := ob_ h
            obtain ⟨y64, hy65, h⟩ := h
            replace h := oq h
            obtain ⟨c68, h⟩ := h
            refine ⟨⟨_, _, _, _, _, [], []⟩, hfq67 _ _ _ hy65, ⟨lc (le_agg ⟨give_osD (rC) (ln_oncCell) rfl rfl c68, tv⟩) (zs1), trivial, rfl, rfl, rfl, rfl, trivial, rfl⟩, ?_⟩
            cbv
            refine fork (fun b67 => ?_) (fun b67 => ?_)
            ·replace h := ot b67 h
             cbv
             injection h with h
             subst h
             refine ⟨(sp 109 [(4, .c (.v (.bool false)))] []), ?_, ?_⟩
             ·exact lsp rfl zl1 trivial rfl
             ·exact ⟨lR _, trivial, rfl⟩
            ·replace h := og b67 h
             cbv
             refine fork (fun b66 => ?_) (fun b66 => ?_)
             ·replace h := ot b66 h
              cbv
              injection h with h
              subst h
              refine ⟨(sp 109 [(4, .c (.v (.bool false)))] []), ?_, ?_⟩
              ·exact lsp rfl zl1 trivial rfl
              ·exact ⟨lR _, trivial, rfl⟩
             ·replace h := og b66 h
              cbv
              injection h with h
              subst h
              refine ⟨(sp 109 [(4, .c (.v (.bool true)))] []), ?_, ?_⟩
              ·exact lsp rfl zl1 trivial rfl
              ·exact ⟨lR _, trivial, rfl⟩
set_option maxHeartbeats 4000000
theorem op_9 (d : Nat) : Opens T (d + 1) 9 (clS) (wfS) := op_str (show T 9 = some d9 from rfl) rfl
theorem op_2 (d : Nat) : Opens T (d + 1) 2 (clI .i64) (wfI .i64) := op_int .i64 (show T 2 = some d2 from rfl) rfl
def clRect (e : TRect) : List AC := clI .i64 e.fX0 ++ (clI .i64 e.fY0 ++ (clI .i64 e.fX1 ++ (clI .i64 e.fY1 ++ ([]))))
def wfRect (e : TRect) : Prop := wfI .i64 e.fX0 /\ wfI .i64 e.fY0 /\ wfI .i64 e.fX1 /\ wfI .i64 e.fY1
theorem op_26 (d : Nat) : Opens T (d + 2) 26 (clRect) (wfRect) := by
  intro cs hs
  obtain ⟨a0, b0, rfl, h0, a1, b1, rfl, h1, a2, b2, rfl, h2, a3, b3, rfl, h3, rfl⟩ := hs
  obtain ⟨e0, w0, r0⟩ := op_2 (d + 0) a0 h0
  obtain ⟨e1, w1, r1⟩ := op_2 (d + 0) a1 h1
  obtain ⟨e2, w2, r2⟩ := op_2 (d + 0) a2 h2
  obtain ⟨e3, w3, r3⟩ := op_2 (d + 0) a3 h3
  exact ⟨TRect.mk e0 e1 e2 e3, ⟨w0, w1, w2, w3⟩, rlist_app r0 (rlist_app r1 (rlist_app r2 (rlist_app r3 (trivial))))⟩
def clShape (e : TS) : List AC := clI .i64 e.fy ++ (clRect e.fb ++ ([]))
def wfShape (e : TS) : Prop := wfI .i64 e.fy /\ wfRect e.fb
theorem op_28 (d : Nat) : Opens T (d + 3) 28 (clShape) (wfShape) := by
  intro cs hs
  obtain ⟨a0, b0, rfl, h0, a1, b1, rfl, h1, rfl⟩ := hs
  obtain ⟨e0, w0, r0⟩ := op_2 (d + 1) a0 h0
  obtain ⟨e1, w1, r1⟩ := op_26 (d + 0) a1 h1
  exact ⟨TS.mk e0 e1, ⟨w0, w1⟩, rlist_app r0 (rlist_app r1 (trivial))⟩
theorem op_163 (d : Nat) : Opens T (d + 4) 163 (clL 5 (eS)) (wfL wfShape) := op_slice (e := 28) (sz := 5) (show T 163 = some d163 from rfl) rfl (show T 28 = some d28 from rfl) rfl (fun x j hj => by match j, hj with | 0, _ => rfl | 1, _ => rfl | 2, _ => rfl | 3, _ => rfl | 4, _ => rfl | (j_ + 5), h_ => omega) (op_28 d)
def clPoint (e : TPoint) : List AC := clI .i64 e.fX ++ (clI .i64 e.fY ++ ([]))
def wfPoint (e : TPoint) : Prop := wfI .i64 e.fX /\ wfI .i64 e.fY
theorem op_30 (d : Nat) : Opens T (d + 2) 30 (clPoint) (wfPoint) := by
  intro cs hs
  obtain ⟨a0, b0, rfl, h0, a1, b1, rfl, h1, rfl⟩ := hs
  obtain ⟨e0, w0, r0⟩ := op_2 (d + 0) a0 h0
  obtain ⟨e1, w1, r1⟩ := op_2 (d + 0) a1 h1
  exact ⟨TPoint.mk e0 e1, ⟨w0, w1⟩, rlist_app r0 (rlist_app r1 (trivial))⟩
def clLabel (e : TB) : List AC := clI .i64 e.fy ++ (clPoint e.fa ++ (clS e.fN ++ ([])))
def wfLabel (e : TB) : Prop := wfI .i64 e.fy /\ wfPoint e.fa /\ wfS e.fN
theorem op_32 (d : Nat) : Opens T (d + 3) 32 (clLabel) (wfLabel) := by
  intro cs hs
  obtain ⟨a0, b0, rfl, h0, a1, b1, rfl, h1, a2, b2, rfl, h2, rfl⟩ := hs
  obtain ⟨e0, w0, r0⟩ := op_2 (d + 1) a0 h0
  obtain ⟨e1, w1, r1⟩ := op_30 (d + 0) a1 h1
  obtain ⟨e2, w2, r2⟩ := op_9 (d + 1) a2 h2
  exact ⟨TB.mk e0 e1 e2, ⟨w0, w1, w2⟩, rlist_app r0 (rlist_app r1 (rlist_app r2 (trivial)))⟩
theorem op_164 (d : Nat) : Opens T (d + 4) 164 (clL 4 (eL)) (wfL wfLabel) := op_slice (e := 32) (sz := 4) (show T 164 = some d164 from rfl) rfl (show T 32 = some d32 from rfl) rfl (fun x j hj => by match j, hj with | 0, _ => rfl | 1, _ => rfl | 2, _ => rfl | 3, _ => rfl | (j_ + 4), h_ => omega) (op_32 d)
def clTransform (e : TM) : List AC := clI .i64 e.fo ++ (clI .i64 e.fX ++ (clI .i64 e.fY ++ ([])))
def wfTransform (e : TM) : Prop := wfI .i64 e.fo /\ wfI .i64 e.fX /\ wfI .i64 e.fY
theorem op_34 (d : Nat) : Opens T (d + 2) 34 (clTransform) (wfTransform) := by
  intro cs hs
  obtain ⟨a0, b0, rfl, h0, a1, b1, rfl, h1, a2, b2, rfl, h2, rfl⟩ := hs
  obtain ⟨e0, w0, r0⟩ := op_2 (d + 0) a0 h0
  obtain ⟨e1, w1, r1⟩ := op_2 (d + 0) a1 h1
  obtain ⟨e2, w2, r2⟩ := op_2 (d + 0) a2 h2
  exact ⟨TM.mk e0 e1 e2, ⟨w0, w1, w2⟩, rlist_app r0 (rlist_app r1 (rlist_app r2 (trivial)))⟩
def clInstance (e : TI) : List AC := clI .i64 e.fc ++ (clTransform e.fp ++ (clI .i64 e.fK ++ (clI .i64 e.fR ++ (clI .i64 e.fu ++ (clI .i64 e.fv ++ ([]))))))
def wfInstance (e : TI) : Prop := wfI .i64 e.fc /\ wfTransform e.fp /\ wfI .i64 e.fK /\ wfI .i64 e.fR /\ wfI .i64 e.fu /\ wfI .i64 e.fv
theorem op_36 (d : Nat) : Opens T (d + 3) 36 (clInstance) (wfInstance) := by
  intro cs hs
  obtain ⟨a0, b0, rfl, h0, a1, b1, rfl, h1, a2, b2, rfl, h2, a3, b3, rfl, h3, a4, b4, rfl, h4, a5, b5, rfl, h5, rfl⟩ := hs
  obtain ⟨e0, w0, r0⟩ := op_2 (d + 1) a0 h0
  obtain ⟨e1, w1, r1⟩ := op_34 (d + 0) a1 h1
  obtain ⟨e2, w2, r2⟩ := op_2 (d + 1) a2 h2
  obtain ⟨e3, w3, r3⟩ := op_2 (d + 1) a3 h3
  obtain ⟨e4, w4, r4⟩ := op_2 (d + 1) a4 h4
  obtain ⟨e5, w5, r5⟩ := op_2 (d + 1) a5 h5
  exact ⟨TI.mk e0 e1 e2 e3 e4 e5, ⟨w0, w1, w2, w3, w4, w5⟩, rlist_app r0 (rlist_app r1 (rlist_app r2 (rlist_app r3 (rlist_app r4 (rlist_app r5 (trivial))))))⟩
theorem op_165 (d : Nat) : Opens T (d + 4) 165 (clL 8 (eI)) (wfL wfInstance) := op_slice (e := 36) (sz := 8) (show T 165 = some d165 from rfl) rfl (show T 36 = some d36 from rfl) rfl (fun x j hj => by match j, hj with | 0, _ => rfl | 1, _ => rfl | 2, _ => rfl | 3, _ => rfl | 4, _ => rfl | 5, _ => rfl | 6, _ => rfl | 7, _ => rfl | (j_ + 8), h_ => omega) (op_36 d)
def clCell (e : TC) : List AC := clS e.fN ++ (clL 5 (eS) e.fS ++ (clL 4 (eL) e.fL ++ (clL 8 (eI) e.fI ++ ([]))))
def wfCell (e : TC) : Prop := wfS e.fN /\ wfL wfShape e.fS /\ wfL wfLabel e.fL /\ wfL wfInstance e.fI
theorem op_167 (d : Nat) : Opens T (d + 5) 167 (clCell) (wfCell) := by
  intro cs hs
  obtain ⟨a0, b0, rfl, h0, a1, b1, rfl, h1, a2, b2, rfl, h2, a3, b3, rfl, h3, rfl⟩ := hs
  obtain ⟨e0, w0, r0⟩ := op_9 (d + 3) a0 h0
  obtain ⟨e1, w1, r1⟩ := op_163 (d + 0) a1 h1
  obtain ⟨e2, w2, r2⟩ := op_164 (d + 0) a2 h2
  obtain ⟨e3, w3, r3⟩ := op_165 (d + 0) a3 h3
  exact ⟨TC.mk e0 e1 e2 e3, ⟨w0, w1, w2, w3⟩, rlist_app r0 (rlist_app r1 (rlist_app r2 (rlist_app r3 (trivial))))⟩
theorem op_22 (d : Nat) : Opens T (d + 6) 22 (clL 4 (eC len gd)) (wfL wfCell) := op_slice (e := 167) (sz := 4) (show T 22 = some d22 from rfl) rfl (show T 167 = some d167 from rfl) rfl (fun x j hj => by match j, hj with | 0, _ => rfl | 1, _ => rfl | 2, _ => rfl | 3, _ => rfl | (j_ + 4), h_ => omega) (op_167 d)
def clLibrary (e : TL) : List AC := clL 4 (eC len gd) e.fC ++ ([])
def wfLibrary (e : TL) : Prop := wfL wfCell e.fC
theorem op_24 (d : Nat) : Opens T (d + 7) 24 (clLibrary) (wfLibrary) := by
  intro cs hs
  obtain ⟨a0, b0, rfl, h0, rfl⟩ := hs
  obtain ⟨e0, w0, r0⟩ := op_22 (d + 0) a0 h0
  exact ⟨TL.mk e0, w0, rlist_app r0 (trivial)⟩
def clEdit (e : TE) : List AC := clI .i64 e.fk ++ (clI .i64 e.fc ++ (clI .i64 e.fx ++ (clS e.fN ++ (clShape e.fs_ ++ (clLabel e.fl_ ++ (clInstance e.fi_ ++ ([])))))))
def wfEdit (e : TE) : Prop := wfI .i64 e.fk /\ wfI .i64 e.fc /\ wfI .i64 e.fx /\ wfS e.fN /\ wfShape e.fs_ /\ wfLabel e.fl_ /\ wfInstance e.fi_
theorem op_38 (d : Nat) : Opens T (d + 4) 38 (clEdit) (wfEdit) := by
  intro cs hs
  obtain ⟨a0, b0, rfl, h0, a1, b1, rfl, h1, a2, b2, rfl, h2, a3, b3, rfl, h3, a4, b4, rfl, h4, a5, b5, rfl, h5, a6, b6, rfl, h6, rfl⟩ := hs
  obtain ⟨e0, w0, r0⟩ := op_2 (d + 2) a0 h0
  obtain ⟨e1, w1, r1⟩ := op_2 (d + 2) a1 h1
  obtain ⟨e2, w2, r2⟩ := op_2 (d + 2) a2 h2
  obtain ⟨e3, w3, r3⟩ := op_9 (d + 2) a3 h3
  obtain ⟨e4, w4, r4⟩ := op_28 (d + 0) a4 h4
  obtain ⟨e5, w5, r5⟩ := op_32 (d + 0) a5 h5
  obtain ⟨e6, w6, r6⟩ := op_36 (d + 0) a6 h6
  exact ⟨TE.mk e0 e1 e2 e3 e4 e5 e6, ⟨w0, w1, w2, w3, w4, w5, w6⟩, rlist_app r0 (rlist_app r1 (rlist_app r2 (rlist_app r3 (rlist_app r4 (rlist_app r5 (rlist_app r6 (trivial)))))))⟩
theorem open_24 {H : Type} {enc : TypeId × Value -> H} {W : World} {spare : Nat -> Bool} {held : Bool} {r : Reach} {base : Nat} {v : Value} {x : DataW H} {ps : List MemPlace}
    (hv : Value.okWide Tryz.prog W r base 24 v) (h : DataW.Trod enc Tryz.prog W 0 spare held 24 v x ps) : ∃ e : TL, wfLibrary e /\ RelV (RelI (fun b => b < W.heap.size) W) (.agg [.bs (len e.fC) 4 (row gd (eC len gd) e.fC)]) v :=
  opened_agg tok (op_24 0) (by kernel_rfl) (tok 24 d24 rfl).1 hv h
theorem open_38 {H : Type} {enc : TypeId × Value -> H} {W : World} {spare : Nat -> Bool} {held : Bool} {r : Reach} {base : Nat} {v : Value} {x : DataW H} {ps : List MemPlace}
    (hv : Value.okWide Tryz.prog W r base 38 v) (h : DataW.Trod enc Tryz.prog W 0 spare held 38 v x ps) : ∃ e : TE, wfEdit e /\ RelV (RelI (fun b => b < W.heap.size) W) (.agg (cE e)) v :=
  opened_agg tok (op_38 0) (by kernel_rfl) (tok 38 d38 rfl).1 hv h
end
end Go.Proofs.YtohgghncmkiicaaGreat.AM
