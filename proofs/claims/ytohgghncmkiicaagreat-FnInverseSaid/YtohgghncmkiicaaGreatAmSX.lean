/-
  What the functions that the law reaches compute, and that they do. No condition.
-/
import Derived.Test.YtohgghncmkiicaaGreatAmSW
namespace Go.Proofs.YtohgghncmkiicaaGreat.AM
noncomputable section
open Go Go.Proofs Go.RowKit
set_option linter.unusedVariables false
set_option linter.unusedSimpArgs false
set_option maxRecDepth 100000

set_option maxHeartbeats 4000000
def Lq32_x2 (a0 : List TI) (a1_0 : Int) : (Int) -> Option ((Int) ⊕ ((Int) ⊕ (Unit))) := fun x2 =>
 letO x2 fun v1 =>
 br (std.lt v1 (std.ofN (len a0)))
 (req (std.inR v1 (len a0)) <|
 (Fq89 (gd a0 (std.toN v1)) a1_0).bind fun y15 =>
 br y15
 (some (.inr (.inl v1)))
 (some (.inl (std.add .i64 v1 1))))
 (some (.inr (.inr ())))
/-- impl.Instance] -/
def Fq32 (a0 : List TI) (a1_0 : Int) : Option (Int) :=
 (whileP (σ := Int) (ρ := (Int) ⊕ (Unit)) (Lq32_x2 a0 a1_0) 0).bind fun y3 =>
 (match y3 with
 | .inl y3k0 => (
 letO y3k0 fun w19 =>
 some w19)
 | .inr y3m0 =>
 some (-1))
theorem runq32 (a0 : List TI) (a1_0 : Int) (r : Int) (h : Fq32 a0 a1_0 = some r) : Fun Tryz.prog 238 [.c (.bs (len a0) 8 (row gd (eI) a0)), .c (.fn 169 1 fun j => ([.bp 1 (encI .i64 a1_0)] : List AC).getD j .junk)] [] (.c (wi r)) [] true := by
 refine Fun.of_wp (oneOf []) tok mixed Tryz.func238 (by kernel_rfl) rfl Tryz.ntmps238 rfl trivial (fun _ => ⟨trivial, tv⟩) ?_
 unfold Fq32 at h
 unfold Lq32_x2 at h
 have hfq89 := @runq89
 generalize hLEN : @len = LEN, hGD : @gd = GD, hA : std = A, hP : Tryz.prog = P at *
 cbv
 replace h := ob_ h
 obtain ⟨y3, hr4, hN5⟩ := h
 refine loop_cut hr4 (fun x => (sp 19 [(0, .c (.bs (LEN a0) 8 (row GD (eI) a0))), (1, .c (.fn 169 1 fun j => ([.bp 1 (encI .i64 a1_0)] : List AC).getD j .junk)), (7, .c (wi (A.ofN (LEN a0)))), (8, .c (wi x))] [])) ?_ (fun y e s => (match y with | .inl w => e = .ret /\ s.le (sp 19 [(4, .c (wi w))] []) | .inr w0 => (fun (w : Unit) => e = .exit 0 /\ s.le (sp 19 [] [])) w0)) ?_ ?_
 ·clear hr4 hN5
  show St.le _ _
  exact lsp rfl zl4 trivial rfl
 ·clear hr4 hN5
  intro x z9 h K7 hK8 hY6
  replace h := ol h
  obtain ⟨v1, hv1, h⟩ := h
  have hv1 : v1 = x := hv1
  subst hv1
  cbv
  refine fork (fun b18 => ?_) (fun b18 => ?_)
  ·replace h := ot b18 h
   cbv
   replace h := oq_ h
   obtain ⟨c14, h⟩ := h
   refine ⟨⟨c14, tv⟩, ?_⟩
   replace h := ob_ h
   obtain ⟨y15, hy16, h⟩ := h
   refine ⟨⟨_, _, _, _, _, [], []⟩, hfq89 _ _ _ hy16, ⟨lc (lR _) (lc (le_bp (show 1 <= 1 from by decide) (by intro j hj; match j, hj with | 0, _ => exact rle_refl _ | (j_ + 1), h_ => omega)) (ln_)), trivial, rfl, rfl, rfl, rfl, trivial, rfl⟩, ?_⟩
   cbv
   refine fork (fun b17 => ?_) (fun b17 => ?_)
   ·replace h := ot b17 h
    cbv
    injection h with h
    refine hY6 _ h.symm _ _ (And.intro rfl ?_) (by intro hh; cases hh)
    exact lsp rfl zl1 trivial rfl
   ·replace h := og b17 h
    cbv
    injection h with h
    refine hK8 _ h.symm _ ?_
    exact lsp rfl zl4 trivial rfl
  ·replace h := og b18 h
   cbv
   injection h with h
   refine hY6 _ h.symm _ _ (And.intro rfl ?_) (by intro hh; cases hh)
   exact lsp rfl trivial trivial rfl
 ·clear hr4
  have h := hN5
  clear hN5
  intro e12 s13 q11 hne
  rcases y3 with y3k0 | y3m0
  ·replace h := h
   obtain ⟨rfl, q11⟩ := q11
   replace h := ol h
   obtain ⟨w19, hw19, h⟩ := h
   have hw19 : w19 = y3k0 := hw19
   subst hw19
   cbv
   injection h with h
   subst h
   refine ⟨(sp 19 [(4, .c (wi w19))] []), ?_, ?_⟩
   ·refine St.le_trans q11 ?_
    exact lsp rfl zl1 trivial rfl
   ·exact ⟨lR _, trivial, rfl⟩
  ·obtain ⟨rfl, q11⟩ := q11
   cbv
   refine ⟨_, q11, ?_⟩
   cbv
   injection h with h
   subst h
   refine ⟨(sp 19 [(4, .c (wi (-1)))] []), ?_, ?_⟩
   ·exact lsp rfl zl1 trivial rfl
   ·exact ⟨lR _, trivial, rfl⟩

/-- impl.Instance] -/
def Fq70 (a0 : List TI) (a1_0 : Int) : Option (Bool) :=
 (Fq32 a0 a1_0).bind fun y1 =>
 some (std.le 0 y1)
theorem runq70 (a0 : List TI) (a1_0 : Int) (r : Bool) (h : Fq70 a0 a1_0 = some r) : Fun Tryz.prog 168 [.c (.bs (len a0) 8 (row gd (eI) a0)), .c (.fn 169 1 fun j => ([.bp 1 (encI .i64 a1_0)] : List AC).getD j .junk)] [] (.c (.v (.bool r))) [] true := by
 refine Fun.of_wp (oneOf []) tok mixed Tryz.func168 (by kernel_rfl) rfl Tryz.ntmps168 rfl trivial (fun _ => ⟨trivial, tv⟩) ?_
 unfold Fq70 at h
 have hfq32 := @runq32
 generalize hLEN : @len = LEN, hGD : @gd = GD, hA : std = A, hP : Tryz.prog = P at *
 cbv
 replace h := ob_ h
 obtain ⟨y1, hy2, h⟩ := h
 refine ⟨⟨_, _, _, _, _, [], []⟩, hfq32 _ _ _ hy2, ⟨lc (lR _) (lc (le_fn (by intro j hj; match j, hj with | 0, _ => exact le_bp (show 1 <= 1 from by decide) (by intro j hj; match j, hj with | 0, _ => exact rle_refl _ | (j_ + 1), h_ => omega) | (j_ + 1), h_ => omega)) (ln_)), trivial, rfl, rfl, rfl, rfl, trivial, rfl⟩, ?_⟩
 cbv
 injection h with h
 subst h
 refine ⟨(sp 9 [(4, .c (.v (.bool (A.le 0 y1))))] []), ?_, ?_⟩
 ·exact lsp rfl zl1 trivial rfl
 ·exact ⟨lR _, trivial, rfl⟩

/-- impl.validCell -/
def Fq3 (a0 : TC) (a1 : Int) : Option (Bool) :=
 ((
 (Fq12 a0.fN).bind fun y8 =>
 br (!(y8))
 (some true)
 (br (std.lt 24 (std.ofN (len a0.fS)))
 (some true)
 (br (std.lt 8 (std.ofN (len a0.fL)))
 (some true)
 (some (std.lt 8 (std.ofN (len a0.fI))))))
 ) : Option (Bool)).bind fun y1 =>
 letO y1 fun w7 =>
 br w7
 (some false)
 (((
 (Fq58 a0.fS).bind fun y20 =>
 br (!(y20))
 ((Fq56 a0.fL).bind fun y22 =>
 br (!(y22))
 ((Fq70 a0.fI a1).bind fun y24 =>
 some (!(y24)))
 (some false))
 (some false)
 ) : Option (Bool)).bind fun y13 =>
 letO y13 fun w19 =>
 some w19)
theorem runq3 (a0 : TC) (a1 : Int) (r : Bool) (h : Fq3 a0 a1 = some r) : Fun Tryz.prog 95 [.agg [ws a0.fN, .bs (len a0.fS) 5 (row gd (eS) a0.fS), .bs (len a0.fL) 4 (row gd (eL) a0.fL), .bs (len a0.fI) 8 (row gd (eI) a0.fI)], .c (wi a1)] [] (.c (.v (.bool r))) [] true := by
 refine Fun.of_wp (oneOf [1, 3]) tok mixed Tryz.func95 (by kernel_rfl) rfl Tryz.ntmps95 rfl trivial (fun _ => ⟨trivial, tv⟩) ?_
 unfold Fq3 at h
 have hfq12 := @runq12
 have hfq70 := @runq70
 have hfq56 := @runq56
 have hfq58 := @runq58
 generalize hLEN : @len = LEN, hGD : @gd = GD, hA : std = A, hP : Tryz.prog = P at *
 cbv
 replace h := ob_ h
 obtain ⟨y1, hy2, h⟩ := h
 obtain ⟨S5, hS6⟩ : ∃ S, S = (sp 44 [(2, .c (.ptr 128 0)), (3, .c (.ptr 192 0)), (26, .c (.v (.bool y1)))] [(128, .var [ws a0.fN, .bs (LEN a0.fS) 5 (row GD (eS) a0.fS), .bs (LEN a0.fL) 4 (row GD (eL) a0.fL), .bs (LEN a0.fI) 8 (row GD (eI) a0.fI)]), (192, .var [wi a1])]) := ⟨_, rfl⟩
 refine ⟨S5, ?_, ?_⟩
 ·clear h
  have h := hy2
  clear hy2
  cbv
  replace h := ob_ h
  obtain ⟨y8, hy9, h⟩ := h
  refine ⟨⟨_, _, _, _, _, [], []⟩, hfq12 _ _ hy9, ⟨zs1, trivial, rfl, rfl, rfl, rfl, trivial, rfl⟩, ?_⟩
  cbv
  refine fork (fun b12 => ?_) (fun b12 => ?_)
  ·replace h := ot b12 h
   cbv
   injection h with h
   subst h
   subst hS6
   exact lsp rfl zl3 ⟨rfl, rfl, tv⟩ rfl
  ·replace h := og b12 h
   cbv
   refine fork (fun b11 => ?_) (fun b11 => ?_)
   ·replace h := ot b11 h
    cbv
    injection h with h
    subst h
    subst hS6
    exact lsp rfl zl3 ⟨rfl, rfl, tv⟩ rfl
   ·replace h := og b11 h
    cbv
    refine fork (fun b10 => ?_) (fun b10 => ?_)
    ·replace h := ot b10 h
     cbv
     injection h with h
     subst h
     subst hS6
     exact lsp rfl zl3 ⟨rfl, rfl, tv⟩ rfl
    ·replace h := og b10 h
     cbv
     injection h with h
     subst h
     subst hS6
     exact lsp rfl zl3 ⟨rfl, rfl, tv⟩ rfl
 ·clear hy2
  subst hS6
  replace h := ol h
  obtain ⟨w7, hw7, h⟩ := h
  have hw7 : w7 = y1 := hw7
  subst hw7
  cbv
  refine fork (fun b28 => ?_) (fun b28 => ?_)
  ·replace h := ot b28 h
   cbv
   injection h with h
   subst h
   refine ⟨(sp 44 [(4, .c (.v (.bool false)))] []), ?_, ?_⟩
   ·exact lsp rfl zl1 trivial rfl
   ·exact ⟨lR _, trivial, rfl⟩
  ·replace h := og b28 h
   cbv
   replace h := ob_ h
   obtain ⟨y13, hy14, h⟩ := h
   obtain ⟨S17, hS18⟩ : ∃ S, S = (sp 44 [(4, .c (.v (.bool y13)))] []) := ⟨_, rfl⟩
   refine ⟨S17, ?_, ?_⟩
   ·clear h
    have h := hy14
    clear hy14
    cbv
    replace h := ob_ h
    obtain ⟨y20, hy21, h⟩ := h
    refine ⟨⟨_, _, _, _, _, [], []⟩, hfq58 _ _ hy21, ⟨zs2, trivial, rfl, rfl, rfl, rfl, trivial, rfl⟩, ?_⟩
    cbv
    refine fork (fun b27 => ?_) (fun b27 => ?_)
    ·replace h := ot b27 h
     cbv
     replace h := ob_ h
     obtain ⟨y22, hy23, h⟩ := h
     refine ⟨⟨_, _, _, _, _, [], []⟩, hfq56 _ _ hy23, ⟨zs2, trivial, rfl, rfl, rfl, rfl, trivial, rfl⟩, ?_⟩
     cbv
     refine fork (fun b26 => ?_) (fun b26 => ?_)
     ·replace h := ot b26 h
      cbv
      replace h := ob_ h
      obtain ⟨y24, hy25, h⟩ := h
      refine ⟨⟨_, _, _, _, _, [], []⟩, hfq70 _ _ _ hy25, ⟨lc (lR _) (lc (le_fn (by intro j hj; match j, hj with | 0, _ => exact le_bp (show 1 <= 1 from by decide) (by intro j hj; match j, hj with | 0, _ => exact rle_refl _ | (j_ + 1), h_ => omega) | (j_ + 1), h_ => omega)) (ln_)), trivial, rfl, rfl, rfl, rfl, trivial, rfl⟩, ?_⟩
      cbv
      injection h with h
      subst h
      subst hS18
      exact lsp rfl zl1 trivial rfl
     ·replace h := og b26 h
      cbv
      injection h with h
      subst h
      subst hS18
      exact lsp rfl zl1 trivial rfl
    ·replace h := og b27 h
     cbv
     injection h with h
     subst h
     subst hS18
     exact lsp rfl zl1 trivial rfl
   ·clear hy14
    subst hS18
    replace h := ol h
    obtain ⟨w19, hw19, h⟩ := h
    have hw19 : w19 = y13 := hw19
    subst hw19
    cbv
    injection h with h
    subst h
    refine ⟨(sp 44 [(4, .c (.v (.bool w19)))] []), ?_, ?_⟩
    ·exact lsp rfl zl1 trivial rfl
    ·exact ⟨lR _, trivial, rfl⟩

/-- impl.named$1 -/
def Fq91 (a0 : TC) (a1 : ByteArray) : Option (Bool) :=
 some (std.seq a0.fN a1)
theorem runq91 (a0 : TC) (a1 : ByteArray) (r : Bool) (h : Fq91 a0 a1 = some r) : Fun Tryz.prog 172 [.agg [ws a0.fN, .bs (len a0.fS) 5 (row gd (eS) a0.fS), .bs (len a0.fL) 4 (row gd (eL) a0.fL), .bs (len a0.fI) 8 (row gd (eI) a0.fI)], .c (.bp 1 (encS a1))] [] (.c (.v (.bool r))) [] true := by
 refine Fun.of_wp (oneOf []) tok mixed Tryz.func172 (by kernel_rfl) rfl Tryz.ntmps172 rfl trivial (fun _ => ⟨trivial, tv⟩) ?_
 unfold Fq91 at h
 generalize hLEN : @len = LEN, hGD : @gd = GD, hA : std = A, hP : Tryz.prog = P at *
 cbv
 injection h with h
 subst h
 refine ⟨(sp 8 [(3, .c (.v (.bool (A.seq a0.fN a1))))] []), ?_, ?_⟩
 ·exact lsp rfl zl1 trivial rfl
 ·exact ⟨lR _, trivial, rfl⟩

def Lq38_x2 (a0 : List TC) (a1_0 : ByteArray) : (Int) -> Option ((Int) ⊕ ((Int) ⊕ (Unit))) := fun x2 =>
 letO x2 fun v1 =>
 br (std.lt v1 (std.ofN (len a0)))
 (req (std.inR v1 (len a0)) <|
 (Fq91 (gd a0 (std.toN v1)) a1_0).bind fun y15 =>
 br y15
 (some (.inr (.inl v1)))
 (some (.inl (std.add .i64 v1 1))))
 (some (.inr (.inr ())))
/-- impl.Cell] -/
def Fq38 (a0 : List TC) (a1_0 : ByteArray) : Option (Int) :=
 (whileP (σ := Int) (ρ := (Int) ⊕ (Unit)) (Lq38_x2 a0 a1_0) 0).bind fun y3 =>
 (match y3 with
 | .inl y3k0 => (
 letO y3k0 fun w19 =>
 some w19)
 | .inr y3m0 =>
 some (-1))
theorem runq38 (a0 : List TC) (a1_0 : ByteArray) (r : Int) (h : Fq38 a0 a1_0 = some r) : Fun Tryz.prog 171 [.c (.bs (len a0) 4 (row gd (eC len gd) a0)), .c (.fn 172 1 fun j => ([.bp 1 (encS a1_0)] : List AC).getD j .junk)] [] (.c (wi r)) [] true := by
 refine Fun.of_wp (oneOf []) tok mixed Tryz.func171 (by kernel_rfl) rfl Tryz.ntmps171 rfl trivial (fun _ => ⟨trivial, tv⟩) ?_
 unfold Fq38 at h
 unfold Lq38_x2 at h
 have hfq91 := @runq91
 generalize hLEN : @len = LEN, hGD : @gd = GD, hA : std = A, hP : Tryz.prog = P at *
 cbv
 replace h := ob_ h
 obtain ⟨y3, hr4, hN5⟩ := h
 refine loop_cut hr4 (fun x => (sp 19 [(0, .c (.bs (LEN a0) 4 (row GD (eC LEN GD) a0))), (1, .c (.fn 172 1 fun j => ([.bp 1 (encS a1_0)] : List AC).getD j .junk)), (7, .c (wi (A.ofN (LEN a0)))), (8, .c (wi x))] [])) ?_ (fun y e s => (match y with | .inl w => e = .ret /\ s.le (sp 19 [(4, .c (wi w))] []) | .inr w0 => (fun (w : Unit) => e = .exit 0 /\ s.le (sp 19 [] [])) w0)) ?_ ?_
 ·clear hr4 hN5
  show St.le _ _
  exact lsp rfl zl4 trivial rfl
 ·clear hr4 hN5
  intro x z9 h K7 hK8 hY6
  replace h := ol h
  obtain ⟨v1, hv1, h⟩ := h
  have hv1 : v1 = x := hv1
  subst hv1
  cbv
  refine fork (fun b18 => ?_) (fun b18 => ?_)
  ·replace h := ot b18 h
   cbv
   replace h := oq_ h
   obtain ⟨c14, h⟩ := h
   refine ⟨⟨c14, tv⟩, ?_⟩
   replace h := ob_ h
   obtain ⟨y15, hy16, h⟩ := h
   refine ⟨⟨_, _, _, _, _, [], []⟩, hfq91 _ _ _ hy16, ⟨lc (lR _) (lc (le_bp (show 1 <= 1 from by decide) (by intro j hj; match j, hj with | 0, _ => exact rle_refl _ | (j_ + 1), h_ => omega)) (ln_)), trivial, rfl, rfl, rfl, rfl, trivial, rfl⟩, ?_⟩
   cbv
   refine fork (fun b17 => ?_) (fun b17 => ?_)
   ·replace h := ot b17 h
    cbv
    injection h with h
    refine hY6 _ h.symm _ _ (And.intro rfl ?_) (by intro hh; cases hh)
    exact lsp rfl zl1 trivial rfl
   ·replace h := og b17 h
    cbv
    injection h with h
    refine hK8 _ h.symm _ ?_
    exact lsp rfl zl4 trivial rfl
  ·replace h := og b18 h
   cbv
   injection h with h
   refine hY6 _ h.symm _ _ (And.intro rfl ?_) (by intro hh; cases hh)
   exact lsp rfl trivial trivial rfl
 ·clear hr4
  have h := hN5
  clear hN5
  intro e12 s13 q11 hne
  rcases y3 with y3k0 | y3m0
  ·replace h := h
   obtain ⟨rfl, q11⟩ := q11
   replace h := ol h
   obtain ⟨w19, hw19, h⟩ := h
   have hw19 : w19 = y3k0 := hw19
   subst hw19
   cbv
   injection h with h
   subst h
   refine ⟨(sp 19 [(4, .c (wi w19))] []), ?_, ?_⟩
   ·refine St.le_trans q11 ?_
    exact lsp rfl zl1 trivial rfl
   ·exact ⟨lR _, trivial, rfl⟩
  ·obtain ⟨rfl, q11⟩ := q11
   cbv
   refine ⟨_, q11, ?_⟩
   cbv
   injection h with h
   subst h
   refine ⟨(sp 19 [(4, .c (wi (-1)))] []), ?_, ?_⟩
   ·exact lsp rfl zl1 trivial rfl
   ·exact ⟨lR _, trivial, rfl⟩

/-- impl.named -/
def Fq7 (a0 : TL) (a1 : ByteArray) : Option (Int) :=
 (Fq38 a0.fC a1).bind fun y1 =>
 some y1
theorem runq7 (a0 : TL) (a1 : ByteArray) (r : Int) (h : Fq7 a0 a1 = some r) : Fun Tryz.prog 96 [.agg [.bs (len a0.fC) 4 (row gd (eC len gd) a0.fC)], .c (ws a1)] [] (.c (wi r)) [] true := by
 refine Fun.of_wp (oneOf []) tok mixed Tryz.func96 (by kernel_rfl) rfl Tryz.ntmps96 rfl trivial (fun _ => ⟨trivial, tv⟩) ?_
 unfold Fq7 at h
 have hfq38 := @runq38
 generalize hLEN : @len = LEN, hGD : @gd = GD, hA : std = A, hP : Tryz.prog = P at *
 cbv
 replace h := ob_ h
 obtain ⟨y1, hy2, h⟩ := h
 refine ⟨⟨_, _, _, _, _, [], []⟩, hfq38 _ _ _ hy2, ⟨lc (lR _) (lc (le_fn (by intro j hj; match j, hj with | 0, _ => exact le_bp (show 1 <= 1 from by decide) (by intro j hj; match j, hj with | 0, _ => exact rle_refl _ | (j_ + 1), h_ => omega) | (j_ + 1), h_ => omega)) (ln_)), trivial, rfl, rfl, rfl, rfl, trivial, rfl⟩, ?_⟩
 cbv
 injection h with h
 subst h
 refine ⟨(sp 9 [(4, .c (wi y1))] []), ?_, ?_⟩
 ·exact lsp rfl zl1 trivial rfl
 ·exact ⟨lR _, trivial, rfl⟩
set_option maxHeartbeats 4000000
def Lq5_x10 (a0 : TL) : (Int) -> Option ((Int) ⊕ ((Bool) ⊕ (Unit))) := fun x10 =>
 letO x10 fun v9 =>
 br (std.lt v9 (std.ofN (len a0.fC)))
 (req (std.inR v9 (len a0.fC)) <|
 ((
 (Fq3 (gd a0.fC (std.toN v9)) v9).bind fun y30 =>
 br (!(y30))
 (some true)
 ((Fq7 (TL.mk a0.fC) (gd a0.fC (std.toN v9)).fN).bind fun y32 =>
 some (std.not (std.eq y32 v9)))
 ) : Option (Bool)).bind fun y23 =>
 letO y23 fun w29 =>
 br w29
 (some (.inr (.inl false)))
 (some (.inl (std.add .i64 v9 1))))
 (some (.inr (.inr ())))
/-- impl.IsValidLibrary -/
def Fq5 (a0 : TL) : Option (Bool) :=
 ((
 br (std.lt (std.ofN (len a0.fC)) 1)
 (some true)
 (some (std.lt 8 (std.ofN (len a0.fC))))
 ) : Option (Bool)).bind fun y1 =>
 letO y1 fun w7 =>
 br w7
 (some false)
 ((whileP (σ := Int) (ρ := (Bool) ⊕ (Unit)) (Lq5_x10 a0) 0).bind fun y11 =>
 (match y11 with
 | .inl y11k0 => (
 letO y11k0 fun w37 =>
 some w37)
 | .inr y11m0 =>
 some true))
theorem runq5 (a0 : TL) (r : Bool) (h : Fq5 a0 = some r) : Fun Tryz.prog 46 [.agg [.bs (len a0.fC) 4 (row gd (eC len gd) a0.fC)]] [] (.c (.v (.bool r))) [] true := by
 refine Fun.of_wp (oneOf [1, 6]) tok mixed Tryz.func46 (by kernel_rfl) rfl Tryz.ntmps46 rfl trivial (fun _ => ⟨trivial, tv⟩) ?_
 unfold Fq5 at h
 unfold Lq5_x10 at h
 have hfq7 := @runq7
 have hfq3 := @runq3
 generalize hLEN : @len = LEN, hGD : @gd = GD, hA : std = A, hP : Tryz.prog = P at *
 cbv
 replace h := ob_ h
 obtain ⟨y1, hy2, h⟩ := h
 obtain ⟨S5, hS6⟩ : ∃ S, S = (sp 36 [(1, .c (.ptr 64 0)), (14, .c (.v (.bool y1)))] [(64, .var [.bs (LEN a0.fC) 4 (row GD (eC LEN GD) a0.fC)])]) := ⟨_, rfl⟩
 refine ⟨S5, ?_, ?_⟩
 ·clear h
  have h := hy2
  clear hy2
  cbv
  refine fork (fun b8 => ?_) (fun b8 => ?_)
  ·replace h := ot b8 h
   cbv
   injection h with h
   subst h
   subst hS6
   exact lsp rfl zl2 ⟨rfl, tv⟩ rfl
  ·replace h := og b8 h
   cbv
   injection h with h
   subst h
   subst hS6
   exact lsp rfl zl2 ⟨rfl, tv⟩ rfl
 ·clear hy2
  subst hS6
  replace h := ol h
  obtain ⟨w7, hw7, h⟩ := h
  have hw7 : w7 = y1 := hw7
  subst hw7
  cbv
  refine fork (fun b38 => ?_) (fun b38 => ?_)
  ·replace h := ot b38 h
   cbv
   injection h with h
   subst h
   refine ⟨(sp 36 [(2, .c (.v (.bool false)))] []), ?_, ?_⟩
   ·exact lsp rfl zl1 trivial rfl
   ·exact ⟨lR _, trivial, rfl⟩
  ·replace h := og b38 h
   cbv
   replace h := ob_ h
   obtain ⟨y11, hr12, hN13⟩ := h
   refine loop_cut hr12 (fun x => (sp 36 [(1, .c (.ptr 64 0)), (16, .c (.bs (LEN a0.fC) 4 (row GD (eC LEN GD) a0.fC))), (17, .c (wi (A.ofN (LEN a0.fC)))), (18, .c (wi x))] [(64, .var [.bs (LEN a0.fC) 4 (row GD (eC LEN GD) a0.fC)])])) ?_ (fun y e s => (match y with | .inl w => e = .ret /\ s.le (sp 36 [(2, .c (.v (.bool w)))] []) | .inr w0 => (fun (w : Unit) => e = .exit 0 /\ s.le (sp 36 [] [])) w0)) ?_ ?_
   ·clear hr12 hN13
    show St.le _ _
    exact lsp rfl zl4 ⟨rfl, tv⟩ rfl
   ·clear hr12 hN13
    intro x z17 h K15 hK16 hY14
    replace h := ol h
    obtain ⟨v9, hv9, h⟩ := h
    have hv9 : v9 = x := hv9
    subst hv9
    cbv
    refine fork (fun b36 => ?_) (fun b36 => ?_)
    ·replace h := ot b36 h
     cbv
     replace h := oq_ h
     obtain ⟨c22, h⟩ := h
     refine ⟨⟨c22, tv⟩, ?_⟩
     replace h := ob_ h
     obtain ⟨y23, hy24, h⟩ := h
     obtain ⟨S27, hS28⟩ : ∃ S, S = (sp 36 [(1, .c (.ptr 64 0)), (16, .c (.bs (LEN a0.fC) 4 (row GD (eC LEN GD) a0.fC))), (17, .c (wi (A.ofN (LEN a0.fC)))), (18, .c (wi v9)), (34, .c (.v (.bool y23)))] [(64, .var [.bs (LEN a0.fC) 4 (row GD (eC LEN GD) a0.fC)])]) := ⟨_, rfl⟩
     refine ⟨S27, ?_, ?_⟩
     ·clear h
      have h := hy24
      clear hy24
      cbv
      replace h := ob_ h
      obtain ⟨y30, hy31, h⟩ := h
      refine ⟨⟨_, _, _, _, _, [], []⟩, hfq3 _ _ _ hy31, ⟨zs2, trivial, rfl, rfl, rfl, rfl, trivial, rfl⟩, ?_⟩
      cbv
      refine fork (fun b34 => ?_) (fun b34 => ?_)
      ·replace h := ot b34 h
       cbv
       injection h with h
       subst h
       subst hS28
       exact lsp rfl zl5 ⟨rfl, tv⟩ rfl
      ·replace h := og b34 h
       cbv
       replace h := ob_ h
       obtain ⟨y32, hy33, h⟩ := h
       refine ⟨⟨_, _, _, _, _, [], []⟩, hfq7 _ _ _ hy33, ⟨zs2, trivial, rfl, rfl, rfl, rfl, trivial, rfl⟩, ?_⟩
       cbv
       injection h with h
       subst h
       subst hS28
       exact lsp rfl zl5 ⟨rfl, tv⟩ rfl
     ·clear hy24
      subst hS28
      replace h := ol h
      obtain ⟨w29, hw29, h⟩ := h
      have hw29 : w29 = y23 := hw29
      subst hw29
      cbv
      refine fork (fun b35 => ?_) (fun b35 => ?_)
      ·replace h := ot b35 h
       cbv
       injection h with h
       refine hY14 _ h.symm _ _ (And.intro rfl ?_) (by intro hh; cases hh)
       exact lsp rfl zl1 trivial rfl
      ·replace h := og b35 h
       cbv
       injection h with h
       refine hK16 _ h.symm _ ?_
       exact lsp rfl zl4 ⟨rfl, tv⟩ rfl
    ·replace h := og b36 h
     cbv
     injection h with h
     refine hY14 _ h.symm _ _ (And.intro rfl ?_) (by intro hh; cases hh)
     exact lsp rfl trivial trivial rfl
   ·clear hr12
    have h := hN13
    clear hN13
    intro e20 s21 q19 hne
    rcases y11 with y11k0 | y11m0
    ·replace h := h
     obtain ⟨rfl, q19⟩ := q19
     replace h := ol h
     obtain ⟨w37, hw37, h⟩ := h
     have hw37 : w37 = y11k0 := hw37
     subst hw37
     cbv
     injection h with h
     subst h
     refine ⟨(sp 36 [(2, .c (.v (.bool w37)))] []), ?_, ?_⟩
     ·refine St.le_trans q19 ?_
      exact lsp rfl zl1 trivial rfl
     ·exact ⟨lR _, trivial, rfl⟩
    ·obtain ⟨rfl, q19⟩ := q19
     cbv
     refine ⟨_, q19, ?_⟩
     cbv
     injection h with h
     subst h
     refine ⟨(sp 36 [(2, .c (.v (.bool true)))] []), ?_, ?_⟩
     ·exact lsp rfl zl1 trivial rfl
     ·exact ⟨lR _, trivial, rfl⟩

/-- impl.IsValidEdit -/
def Fq82 (a0 : TE) : Option (Bool) :=
 ((
 (Fq2 a0.fc 0 8).bind fun y8 =>
 br (!(y8))
 (some true)
 ((Fq2 a0.fx 0 24).bind fun y10 =>
 some (!(y10)))
 ) : Option (Bool)).bind fun y1 =>
 letO y1 fun w7 =>
 br w7
 (some false)
 (br (std.eq a0.fk 1)
 (((
 br (std.band (std.eq a0.fk a0.fk) (std.band (std.eq a0.fc a0.fc) (std.band (std.eq a0.fx a0.fx) (std.band (std.seq (ByteArray.mk #[]) a0.fN) (std.band (std.band (std.eq a0.fs_.fy a0.fs_.fy) (std.band (std.band (std.eq a0.fs_.fb.fX0 a0.fs_.fb.fX0) (std.band (std.eq a0.fs_.fb.fY0 a0.fs_.fb.fY0) (std.band (std.eq a0.fs_.fb.fX1 a0.fs_.fb.fX1) (std.band (std.eq a0.fs_.fb.fY1 a0.fs_.fb.fY1) (true))))) (true))) (std.band (std.band (std.eq 0 a0.fl_.fy) (std.band (std.band (std.eq 0 a0.fl_.fa.fX) (std.band (std.eq 0 a0.fl_.fa.fY) (true))) (std.band (std.seq (ByteArray.mk #[]) a0.fl_.fN) (true)))) (std.band (std.band (std.eq 0 a0.fi_.fc) (std.band (std.band (std.eq 0 a0.fi_.fp.fo) (std.band (std.eq 0 a0.fi_.fp.fX) (std.band (std.eq 0 a0.fi_.fp.fY) (true)))) (std.band (std.eq 0 a0.fi_.fK) (std.band (std.eq 0 a0.fi_.fR) (std.band (std.eq 0 a0.fi_.fu) (std.band (std.eq 0 a0.fi_.fv) (true))))))) (true))))))))
 ((Fq39 a0.fs_).bind fun y20 =>
 some y20)
 (some false)
 ) : Option (Bool)).bind fun y13 =>
 letO y13 fun w19 =>
 some w19)
 (br (std.eq a0.fk 3)
 (((
 br (std.band (std.eq a0.fk a0.fk) (std.band (std.eq a0.fc a0.fc) (std.band (std.eq a0.fx a0.fx) (std.band (std.seq (ByteArray.mk #[]) a0.fN) (std.band (std.band (std.eq 0 a0.fs_.fy) (std.band (std.band (std.eq 0 a0.fs_.fb.fX0) (std.band (std.eq 0 a0.fs_.fb.fY0) (std.band (std.eq 0 a0.fs_.fb.fX1) (std.band (std.eq 0 a0.fs_.fb.fY1) (true))))) (true))) (std.band (std.band (std.eq a0.fl_.fy a0.fl_.fy) (std.band (std.band (std.eq a0.fl_.fa.fX a0.fl_.fa.fX) (std.band (std.eq a0.fl_.fa.fY a0.fl_.fa.fY) (true))) (std.band (std.seq a0.fl_.fN a0.fl_.fN) (true)))) (std.band (std.band (std.eq 0 a0.fi_.fc) (std.band (std.band (std.eq 0 a0.fi_.fp.fo) (std.band (std.eq 0 a0.fi_.fp.fX) (std.band (std.eq 0 a0.fi_.fp.fY) (true)))) (std.band (std.eq 0 a0.fi_.fK) (std.band (std.eq 0 a0.fi_.fR) (std.band (std.eq 0 a0.fi_.fu) (std.band (std.eq 0 a0.fi_.fv) (true))))))) (true))))))))
 ((Fq34 a0.fl_).bind fun y30 =>
 some y30)
 (some false)
 ) : Option (Bool)).bind fun y23 =>
 letO y23 fun w29 =>
 some w29)
 (br (std.eq a0.fk 5)
 (((
 br (std.band (std.eq a0.fk a0.fk) (std.band (std.eq a0.fc a0.fc) (std.band (std.eq a0.fx a0.fx) (std.band (std.seq (ByteArray.mk #[]) a0.fN) (std.band (std.band (std.eq 0 a0.fs_.fy) (std.band (std.band (std.eq 0 a0.fs_.fb.fX0) (std.band (std.eq 0 a0.fs_.fb.fY0) (std.band (std.eq 0 a0.fs_.fb.fX1) (std.band (std.eq 0 a0.fs_.fb.fY1) (true))))) (true))) (std.band (std.band (std.eq 0 a0.fl_.fy) (std.band (std.band (std.eq 0 a0.fl_.fa.fX) (std.band (std.eq 0 a0.fl_.fa.fY) (true))) (std.band (std.seq (ByteArray.mk #[]) a0.fl_.fN) (true)))) (std.band (std.band (std.eq a0.fi_.fc a0.fi_.fc) (std.band (std.band (std.eq a0.fi_.fp.fo a0.fi_.fp.fo) (std.band (std.eq a0.fi_.fp.fX a0.fi_.fp.fX) (std.band (std.eq a0.fi_.fp.fY a0.fi_.fp.fY) (true)))) (std.band (std.eq a0.fi_.fK a0.fi_.fK) (std.band (std.eq a0.fi_.fR a0.fi_.fR) (std.band (std.eq a0.fi_.fu a0.fi_.fu) (std.band (std.eq a0.fi_.fv a0.fi_.fv) (true))))))) (true))))))))
 ((Fq33 a0.fi_ 8).bind fun y40 =>
 some y40)
 (some false)
 ) : Option (Bool)).bind fun y33 =>
 letO y33 fun w39 =>
 some w39)
 (((
 br (std.eq a0.fk 2)
 (some true)
 (((
 br (std.eq a0.fk 4)
 (some true)
 (some (std.eq a0.fk 6))
 ) : Option (Bool)).bind fun y50 =>
 letO y50 fun w56 =>
 some w56)
 ) : Option (Bool)).bind fun y43 =>
 letO y43 fun w49 =>
 ((
 br w49
 ((some (std.band (std.eq a0.fk a0.fk) (std.band (std.eq a0.fc a0.fc) (std.band (std.eq a0.fx a0.fx) (std.band (std.seq (ByteArray.mk #[]) a0.fN) (std.band (std.band (std.eq 0 a0.fs_.fy) (std.band (std.band (std.eq 0 a0.fs_.fb.fX0) (std.band (std.eq 0 a0.fs_.fb.fY0) (std.band (std.eq 0 a0.fs_.fb.fX1) (std.band (std.eq 0 a0.fs_.fb.fY1) (true))))) (true))) (std.band (std.band (std.eq 0 a0.fl_.fy) (std.band (std.band (std.eq 0 a0.fl_.fa.fX) (std.band (std.eq 0 a0.fl_.fa.fY) (true))) (std.band (std.seq (ByteArray.mk #[]) a0.fl_.fN) (true)))) (std.band (std.band (std.eq 0 a0.fi_.fc) (std.band (std.band (std.eq 0 a0.fi_.fp.fo) (std.band (std.eq 0 a0.fi_.fp.fX) (std.band (std.eq 0 a0.fi_.fp.fY) (true)))) (std.band (std.eq 0 a0.fi_.fK) (std.band (std.eq 0 a0.fi_.fR) (std.band (std.eq 0 a0.fi_.fu) (std.band (std.eq 0 a0.fi_.fv) (true))))))) (true))))))))).bind fun r65 => some (.inl r65))
 (((
 br (std.eq a0.fk 7)
 (some true)
 (some (std.eq a0.fk 8))
 ) : Option (Bool)).bind fun y68 =>
 letO y68 fun w74 =>
 ((
 br w74
 (((
 br (std.band (std.eq a0.fk a0.fk) (std.band (std.eq a0.fc a0.fc) (std.band (std.eq 0 a0.fx) (std.band (std.seq a0.fN a0.fN) (std.band (std.band (std.eq 0 a0.fs_.fy) (std.band (std.band (std.eq 0 a0.fs_.fb.fX0) (std.band (std.eq 0 a0.fs_.fb.fY0) (std.band (std.eq 0 a0.fs_.fb.fX1) (std.band (std.eq 0 a0.fs_.fb.fY1) (true))))) (true))) (std.band (std.band (std.eq 0 a0.fl_.fy) (std.band (std.band (std.eq 0 a0.fl_.fa.fX) (std.band (std.eq 0 a0.fl_.fa.fY) (true))) (std.band (std.seq (ByteArray.mk #[]) a0.fl_.fN) (true)))) (std.band (std.band (std.eq 0 a0.fi_.fc) (std.band (std.band (std.eq 0 a0.fi_.fp.fo) (std.band (std.eq 0 a0.fi_.fp.fX) (std.band (std.eq 0 a0.fi_.fp.fY) (true)))) (std.band (std.eq 0 a0.fi_.fK) (std.band (std.eq 0 a0.fi_.fR) (std.band (std.eq 0 a0.fi_.fu) (std.band (std.eq 0 a0.fi_.fv) (true))))))) (true))))))))
 ((Fq12 a0.fN).bind fun y89 =>
 some y89)
 (some false)
 ) : Option (Bool)).bind fun y82 =>
 letO y82 fun w88 =>
 ((some w88).bind fun r92 => some (.inl r92)).bind fun r95 => some (.inl r95))
 (br (std.eq a0.fk 9)
 (((some (std.band (std.eq a0.fk a0.fk) (std.band (std.eq a0.fc a0.fc) (std.band (std.eq 0 a0.fx) (std.band (std.seq (ByteArray.mk #[]) a0.fN) (std.band (std.band (std.eq 0 a0.fs_.fy) (std.band (std.band (std.eq 0 a0.fs_.fb.fX0) (std.band (std.eq 0 a0.fs_.fb.fY0) (std.band (std.eq 0 a0.fs_.fb.fX1) (std.band (std.eq 0 a0.fs_.fb.fY1) (true))))) (true))) (std.band (std.band (std.eq 0 a0.fl_.fy) (std.band (std.band (std.eq 0 a0.fl_.fa.fX) (std.band (std.eq 0 a0.fl_.fa.fY) (true))) (std.band (std.seq (ByteArray.mk #[]) a0.fl_.fN) (true)))) (std.band (std.band (std.eq 0 a0.fi_.fc) (std.band (std.band (std.eq 0 a0.fi_.fp.fo) (std.band (std.eq 0 a0.fi_.fp.fX) (std.band (std.eq 0 a0.fi_.fp.fY) (true)))) (std.band (std.eq 0 a0.fi_.fK) (std.band (std.eq 0 a0.fi_.fR) (std.band (std.eq 0 a0.fi_.fu) (std.band (std.eq 0 a0.fi_.fv) (true))))))) (true))))))))).bind fun r98 => some (.inl r98)).bind fun r101 => some (.inl r101))
 (some (.inr ())))
 ) : Option (_ ⊕ Unit)).bind fun z78 => (match z78 with
 | .inl r => some r
 | .inr y76 =>
 some (.inr ())))
 ) : Option (_ ⊕ Unit)).bind fun z61 => (match z61 with
 | .inl r => some r
 | .inr y59 =>
 some false)))))
theorem runq82 (a0 : TE) (r : Bool) (h : Fq82 a0 = some r) : Fun Tryz.prog 114 [.agg (cE a0)] [] (.c (.v (.bool r))) [] true := by
 refine Fun.of_wp (oneOf [1, 7, 10, 13, 22, 100069, 100079]) tok mixed Tryz.func114 (by kernel_rfl) rfl Tryz.ntmps114 rfl trivial (fun _ => ⟨trivial, tv⟩) ?_
 unfold Fq82 at h
 have hfq12 := @runq12
 have hfq33 := @runq33
 have hfq34 := @runq34
 have hfq39 := @runq39
 have hfq2 := @runq2
 generalize hLEN : @len = LEN, hGD : @gd = GD, hA : std = A, hP : Tryz.prog = P at *
 cbv
 replace h := ob_ h
 obtain ⟨y1, hy2, h⟩ := h
 obtain ⟨S5, hS6⟩ : ∃ S, S = (sp 98 [(1, .c (.ptr 64 0)), (13, .c (.v (.bool y1)))] [(64, .var (cE a0))]) := ⟨_, rfl⟩
 refine ⟨S5, ?_, ?_⟩
 ·clear h
  have h := hy2
  clear hy2
  cbv
  replace h := ob_ h
  obtain ⟨y8, hy9, h⟩ := h
  refine ⟨⟨_, _, _, _, _, [], []⟩, hfq2 _ _ _ _ hy9, ⟨zs3, trivial, rfl, rfl, rfl, rfl, trivial, rfl⟩, ?_⟩
  cbv
  refine fork (fun b12 => ?_) (fun b12 => ?_)
  ·replace h := ot b12 h
   cbv
   injection h with h
   subst h
   subst hS6
   exact lsp rfl zl2 ⟨rfl, tv⟩ rfl
  ·replace h := og b12 h
   cbv
   replace h := ob_ h
   obtain ⟨y10, hy11, h⟩ := h
   refine ⟨⟨_, _, _, _, _, [], []⟩, hfq2 _ _ _ _ hy11, ⟨zs3, trivial, rfl, rfl, rfl, rfl, trivial, rfl⟩, ?_⟩
   cbv
   injection h with h
   subst h
   subst hS6
   exact lsp rfl zl2 ⟨rfl, tv⟩ rfl
 ·clear hy2
  subst hS6
  replace h := ol h
  obtain ⟨w7, hw7, h⟩ := h
  have hw7 : w7 = y1 := hw7
  subst hw7
  cbv
  refine fork (fun b110 => ?_) (fun b110 => ?_)
  ·replace h := ot b110 h
   cbv
   injection h with h
   subst h
   refine ⟨(sp 98 [(2, .c (.v (.bool false)))] []), ?_, ?_⟩
   ·exact lsp rfl zl1 trivial rfl
   ·exact ⟨lR _, trivial, rfl⟩
  ·replace h := og b110 h
   cbv
   refine fork (fun b109 => ?_) (fun b109 => ?_)
   ·replace h := ot b109 h
    cbv
    replace h := ob_ h
    obtain ⟨y13, hy14, h⟩ := h
    obtain ⟨S17, hS18⟩ : ∃ S, S = (sp 98 [(2, .c (.v (.bool y13)))] []) := ⟨_, rfl⟩
    refine ⟨S17, ?_, ?_⟩
    ·clear h
     have h := hy14
     clear hy14
     cbv
     refine fork (fun b22 => ?_) (fun b22 => ?_)
     ·replace h := ot b22 h
      cbv
      replace h := ob_ h
      obtain ⟨y20, hy21, h⟩ := h
      refine ⟨⟨_, _, _, _, _, [], []⟩, hfq39 _ _ hy21, ⟨zs1, trivial, rfl, rfl, rfl, rfl, trivial, rfl⟩, ?_⟩
      cbv
      injection h with h
      subst h
      subst hS18
      exact lsp rfl zl1 trivial rfl
     ·replace h := og b22 h
      cbv
      injection h with h
      subst h
      subst hS18
      exact lsp rfl zl1 trivial rfl
    ·clear hy14
     subst hS18
     replace h := ol h
     obtain ⟨w19, hw19, h⟩ := h
     have hw19 : w19 = y13 := hw19
     subst hw19
     cbv
     injection h with h
     subst h
     refine ⟨(sp 98 [(2, .c (.v (.bool w19)))] []), ?_, ?_⟩
     ·exact lsp rfl zl1 trivial rfl
     ·exact ⟨lR _, trivial, rfl⟩
   ·replace h := og b109 h
    cbv
    refine fork (fun b108 => ?_) (fun b108 => ?_)
    ·replace h := ot b108 h
     cbv
     replace h := ob_ h
     obtain ⟨y23, hy24, h⟩ := h
     obtain ⟨S27, hS28⟩ : ∃ S, S = (sp 98 [(2, .c (.v (.bool y23)))] []) := ⟨_, rfl⟩
     refine ⟨S27, ?_, ?_⟩
     ·clear h
      have h := hy24
      clear hy24
      cbv
      refine fork (fun b32 => ?_) (fun b32 => ?_)
      ·replace h := ot b32 h
       cbv
       replace h := ob_ h
       obtain ⟨y30, hy31, h⟩ := h
       refine ⟨⟨_, _, _, _, _, [], []⟩, hfq34 _ _ hy31, ⟨zs1, trivial, rfl, rfl, rfl, rfl, trivial, rfl⟩, ?_⟩
       cbv
       injection h with h
       subst h
       subst hS28
       exact lsp rfl zl1 trivial rfl
      ·replace h := og b32 h
       cbv
       injection h with h
       subst h
       subst hS28
       exact lsp rfl zl1 trivial rfl
     ·clear hy24
      subst hS28
      replace h := ol h
      obtain ⟨w29, hw29, h⟩ := h
      have hw29 : w29 = y23 := hw29
      subst hw29
      cbv
      injection h with h
      subst h
      refine ⟨(sp 98 [(2, .c (.v (.bool w29)))] []), ?_, ?_⟩
      ·exact lsp rfl zl1 trivial rfl
      ·exact ⟨lR _, trivial, rfl⟩
    ·replace h := og b108 h
     cbv
     refine fork (fun b107 => ?_) (fun b107 => ?_)
     ·replace h := ot b107 h
      cbv
      replace h := ob_ h
      obtain ⟨y33, hy34, h⟩ := h
      obtain ⟨S37, hS38⟩ : ∃ S, S = (sp 98 [(2, .c (.v (.bool y33)))] []) := ⟨_, rfl⟩
      refine ⟨S37, ?_, ?_⟩
      ·clear h
       have h := hy34
       clear hy34
       cbv
       refine fork (fun b42 => ?_) (fun b42 => ?_)
       ·replace h := ot b42 h
        cbv
        replace h := ob_ h
        obtain ⟨y40, hy41, h⟩ := h
        refine ⟨⟨_, _, _, _, _, [], []⟩, hfq33 _ _ _ hy41, ⟨zs2, trivial, rfl, rfl, rfl, rfl, trivial, rfl⟩, ?_⟩
        cbv
        injection h with h
        subst h
        subst hS38
        exact lsp rfl zl1 trivial rfl
       ·replace h := og b42 h
        cbv
        injection h with h
        subst h
        subst hS38
        exact lsp rfl zl1 trivial rfl
      ·clear hy34
       subst hS38
       replace h := ol h
       obtain ⟨w39, hw39, h⟩ := h
       have hw39 : w39 = y33 := hw39
       subst hw39
       cbv
       injection h with h
       subst h
       refine ⟨(sp 98 [(2, .c (.v (.bool w39)))] []), ?_, ?_⟩
       ·exact lsp rfl zl1 trivial rfl
       ·exact ⟨lR _, trivial, rfl⟩
     ·replace h := og b107 h
      cbv
      replace h := ob_ h
      obtain ⟨y43, hy44, h⟩ := h
      obtain ⟨S47, hS48⟩ : ∃ S, S = some (sp 98 [(1, .c (.ptr 64 0)), (3, .c (.ptr 192 0)), (20, .c (wi a0.fk)), (69, .c (.v (.bool y43)))] [(64, .var (cE a0)), (192, .var [wi a0.fk, wi a0.fc, wi 0, ws (ByteArray.mk #[]), wi 0, wi 0, wi 0, wi 0, wi 0, wi 0, wi 0, wi 0, ws (ByteArray.mk #[]), wi 0, wi 0, wi 0, wi 0, wi 0, wi 0, wi 0, wi 0])]) := ⟨_, rfl⟩
      refine ⟨S47, ?_, ?_⟩
      ·clear h
       have h := hy44
       clear hy44
       cbv
       refine fork (fun b58 => ?_) (fun b58 => ?_)
       ·replace h := ot b58 h
        cbv
        injection h with h
        subst h
        subst hS48
        exact lsp rfl zl4 ⟨rfl, rfl, tv⟩ rfl
       ·replace h := og b58 h
        cbv
        replace h := ob_ h
        obtain ⟨y50, hy51, h⟩ := h
        obtain ⟨S54, hS55⟩ : ∃ S, S = some (sp 98 [(1, .c (.ptr 64 0)), (3, .c (.ptr 192 0)), (20, .c (wi a0.fk)), (69, .c (.v (.bool y50)))] [(64, .var (cE a0)), (192, .var [wi a0.fk, wi a0.fc, wi 0, ws (ByteArray.mk #[]), wi 0, wi 0, wi 0, wi 0, wi 0, wi 0, wi 0, wi 0, ws (ByteArray.mk #[]), wi 0, wi 0, wi 0, wi 0, wi 0, wi 0, wi 0, wi 0])]) := ⟨_, rfl⟩
        refine ⟨S54, ?_, ?_⟩
        ·clear h
         have h := hy51
         clear hy51
         cbv
         refine fork (fun b57 => ?_) (fun b57 => ?_)
         ·replace h := ot b57 h
          cbv
          injection h with h
          subst h
          subst hS55
          exact lsp rfl zl4 ⟨rfl, rfl, tv⟩ rfl
         ·replace h := og b57 h
          cbv
          injection h with h
          subst h
          subst hS55
          exact lsp rfl zl4 ⟨rfl, rfl, tv⟩ rfl
        ·clear hy51
         subst hS55
         replace h := ol h
         obtain ⟨w56, hw56, h⟩ := h
         have hw56 : w56 = y50 := hw56
         subst hw56
         cbv
         injection h with h
         subst h
         subst hS48
         exact lsp rfl zl4 ⟨rfl, rfl, tv⟩ rfl
      ·clear hy44
       subst hS48
       replace h := ol h
       obtain ⟨w49, hw49, h⟩ := h
       have hw49 : w49 = y43 := hw49
       subst hw49
       cbv
       replace h := ob_ h
       obtain ⟨z61, hy60, hz62⟩ := h
       obtain ⟨S63, hS64⟩ : ∃ S, S = (match z61 with | .inl _ => none | .inr y59 => some (sp 98 [] [])) := ⟨_, rfl⟩
       refine ⟨S63, ?_, ?_⟩
       ·have h := hy60
        clear hy60
        cbv
        refine fork (fun b106 => ?_) (fun b106 => ?_)
        ·replace h := ot b106 h
         cbv
         replace h := ob_ h
         obtain ⟨r65, h66, he67⟩ := h
         injection he67 with he67
         subst he67
         injection hz62 with hz62
         subst hz62
         have h := h66
         injection h with h
         subst h
         refine ⟨(sp 98 [(2, .c (.v (.bool (A.band (A.eq a0.fk a0.fk) (A.band (A.eq a0.fc a0.fc) (A.band (A.eq a0.fx a0.fx) (A.band (A.seq (ByteArray.mk #[]) a0.fN) (A.band (A.band (A.eq 0 a0.fs_.fy) (A.band (A.band (A.eq 0 a0.fs_.fb.fX0) (A.band (A.eq 0 a0.fs_.fb.fY0) (A.band (A.eq 0 a0.fs_.fb.fX1) (A.band (A.eq 0 a0.fs_.fb.fY1) (true))))) (true))) (A.band (A.band (A.eq 0 a0.fl_.fy) (A.band (A.band (A.eq 0 a0.fl_.fa.fX) (A.band (A.eq 0 a0.fl_.fa.fY) (true))) (A.band (A.seq (ByteArray.mk #[]) a0.fl_.fN) (true)))) (A.band (A.band (A.eq 0 a0.fi_.fc) (A.band (A.band (A.eq 0 a0.fi_.fp.fo) (A.band (A.eq 0 a0.fi_.fp.fX) (A.band (A.eq 0 a0.fi_.fp.fY) (true)))) (A.band (A.eq 0 a0.fi_.fK) (A.band (A.eq 0 a0.fi_.fR) (A.band (A.eq 0 a0.fi_.fu) (A.band (A.eq 0 a0.fi_.fv) (true))))))) (true)))))))))))] []), ?_, ?_⟩
         ·exact lsp rfl zl1 trivial rfl
         ·exact ⟨lR _, trivial, rfl⟩
        ·replace h := og b106 h
         cbv
         replace h := ob_ h
         obtain ⟨y68, hy69, h⟩ := h
         obtain ⟨S72, hS73⟩ : ∃ S, S = some (sp 98 [(1, .c (.ptr 64 0)), (3, .c (.ptr 192 0)), (20, .c (wi a0.fk)), (79, .c (.v (.bool y68)))] [(64, .var (cE a0)), (192, .var [wi a0.fk, wi a0.fc, wi 0, ws (ByteArray.mk #[]), wi 0, wi 0, wi 0, wi 0, wi 0, wi 0, wi 0, wi 0, ws (ByteArray.mk #[]), wi 0, wi 0, wi 0, wi 0, wi 0, wi 0, wi 0, wi 0])]) := ⟨_, rfl⟩
         refine ⟨S72, ?_, ?_⟩
         ·clear h
          have h := hy69
          clear hy69
          cbv
          refine fork (fun b75 => ?_) (fun b75 => ?_)
          ·replace h := ot b75 h
           cbv
           injection h with h
           subst h
           subst hS73
           exact lsp rfl zl4 ⟨rfl, rfl, tv⟩ rfl
          ·replace h := og b75 h
           cbv
           injection h with h
           subst h
           subst hS73
           exact lsp rfl zl4 ⟨rfl, rfl, tv⟩ rfl
         ·clear hy69
          subst hS73
          replace h := ol h
          obtain ⟨w74, hw74, h⟩ := h
          have hw74 : w74 = y68 := hw74
          subst hw74
          cbv
          replace h := ob_ h
          obtain ⟨z78, hy77, hz79⟩ := h
          obtain ⟨S80, hS81⟩ : ∃ S, S = (match z78 with | .inl _ => none | .inr y76 => some (sp 98 [] [])) := ⟨_, rfl⟩
          refine ⟨S80, ?_, ?_⟩
          ·have h := hy77
           clear hy77
           cbv
           refine fork (fun b105 => ?_) (fun b105 => ?_)
           ·replace h := ot b105 h
            cbv
            replace h := ob_ h
            obtain ⟨y82, hy83, h⟩ := h
            obtain ⟨S86, hS87⟩ : ∃ S, S = (sp 98 [(2, .c (.v (.bool y82)))] []) := ⟨_, rfl⟩
            refine ⟨S86, ?_, ?_⟩
            ·clear h
             have h := hy83
             clear hy83
             cbv
             refine fork (fun b91 => ?_) (fun b91 => ?_)
             ·replace h := ot b91 h
              cbv
              replace h := ob_ h
              obtain ⟨y89, hy90, h⟩ := h
              refine ⟨⟨_, _, _, _, _, [], []⟩, hfq12 _ _ hy90, ⟨zs1, trivial, rfl, rfl, rfl, rfl, trivial, rfl⟩, ?_⟩
              cbv
              injection h with h
              subst h
              subst hS87
              exact lsp rfl zl1 trivial rfl
             ·replace h := og b91 h
              cbv
              injection h with h
              subst h
              subst hS87
              exact lsp rfl zl1 trivial rfl
            ·clear hy83
             subst hS87
             replace h := ol h
             obtain ⟨w88, hw88, h⟩ := h
             have hw88 : w88 = y82 := hw88
             subst hw88
             cbv
             replace h := ob_ h
             obtain ⟨r95, h96, he97⟩ := h
             injection he97 with he97
             subst he97
             injection hz79 with hz79
             subst hz79
             have h := h96
             replace h := ob_ h
             obtain ⟨r92, h93, he94⟩ := h
             injection he94 with he94
             subst he94
             injection hz62 with hz62
             subst hz62
             have h := h93
             injection h with h
             subst h
             refine ⟨(sp 98 [(2, .c (.v (.bool w88)))] []), ?_, ?_⟩
             ·exact lsp rfl zl1 trivial rfl
             ·exact ⟨lR _, trivial, rfl⟩
           ·replace h := og b105 h
            cbv
            refine fork (fun b104 => ?_) (fun b104 => ?_)
            ·replace h := ot b104 h
             cbv
             replace h := ob_ h
             obtain ⟨r101, h102, he103⟩ := h
             injection he103 with he103
             subst he103
             injection hz79 with hz79
             subst hz79
             have h := h102
             replace h := ob_ h
             obtain ⟨r98, h99, he100⟩ := h
             injection he100 with he100
             subst he100
             injection hz62 with hz62
             subst hz62
             have h := h99
             injection h with h
             subst h
             refine ⟨(sp 98 [(2, .c (.v (.bool (A.band (A.eq a0.fk a0.fk) (A.band (A.eq a0.fc a0.fc) (A.band (A.eq 0 a0.fx) (A.band (A.seq (ByteArray.mk #[]) a0.fN) (A.band (A.band (A.eq 0 a0.fs_.fy) (A.band (A.band (A.eq 0 a0.fs_.fb.fX0) (A.band (A.eq 0 a0.fs_.fb.fY0) (A.band (A.eq 0 a0.fs_.fb.fX1) (A.band (A.eq 0 a0.fs_.fb.fY1) (true))))) (true))) (A.band (A.band (A.eq 0 a0.fl_.fy) (A.band (A.band (A.eq 0 a0.fl_.fa.fX) (A.band (A.eq 0 a0.fl_.fa.fY) (true))) (A.band (A.seq (ByteArray.mk #[]) a0.fl_.fN) (true)))) (A.band (A.band (A.eq 0 a0.fi_.fc) (A.band (A.band (A.eq 0 a0.fi_.fp.fo) (A.band (A.eq 0 a0.fi_.fp.fX) (A.band (A.eq 0 a0.fi_.fp.fY) (true)))) (A.band (A.eq 0 a0.fi_.fK) (A.band (A.eq 0 a0.fi_.fR) (A.band (A.eq 0 a0.fi_.fu) (A.band (A.eq 0 a0.fi_.fv) (true))))))) (true)))))))))))] []), ?_, ?_⟩
             ·exact lsp rfl zl1 trivial rfl
             ·exact ⟨lR _, trivial, rfl⟩
            ·replace h := og b104 h
             cbv
             injection h with h
             subst h
             subst hS81
             exact lsp rfl trivial trivial rfl
          ·clear hy77
           subst hS81
           rcases z78 with _ | y76
           ·trivial
           ·have h := hz79
            clear hz79
            cbv
            injection h with h
            subst h
            subst hS64
            exact lsp rfl trivial trivial rfl
       ·clear hy60
        subst hS64
        rcases z61 with _ | y59
        ·trivial
        ·have h := hz62
         clear hz62
         cbv
         injection h with h
         subst h
         refine ⟨(sp 98 [(2, .c (.v (.bool false)))] []), ?_, ?_⟩
         ·exact lsp rfl zl1 trivial rfl
         ·exact ⟨lR _, trivial, rfl⟩

/-- impl.insertCode -/
def Fq46 (a0 : Int) (a1 : Int) (a2 : Int) : Option (Int) :=
 br (std.lt a1 a0)
 (some 2)
 (br (std.eq a1 a2)
 (some 3)
 (some 0))
theorem runq46 (a0 : Int) (a1 : Int) (a2 : Int) (r : Int) (h : Fq46 a0 a1 a2 = some r) : Fun Tryz.prog 115 [.c (wi a0), .c (wi a1), .c (wi a2)] [] (.c (wi r)) [] true := by
 refine Fun.of_wp (oneOf []) tok mixed Tryz.func115 (by kernel_rfl) rfl Tryz.ntmps115 rfl trivial (fun _ => ⟨trivial, tv⟩) ?_
 unfold Fq46 at h
 generalize hLEN : @len = LEN, hGD : @gd = GD, hA : std = A, hP : Tryz.prog = P at *
 cbv
 refine fork (fun b2 => ?_) (fun b2 => ?_)
 ·replace h := ot b2 h
  cbv
  injection h with h
  subst h
  refine ⟨(sp 15 [(6, .c (wi 2))] []), ?_, ?_⟩
  ·exact lsp rfl zl1 trivial rfl
  ·exact ⟨lR _, trivial, rfl⟩
 ·replace h := og b2 h
  cbv
  refine fork (fun b1 => ?_) (fun b1 => ?_)
  ·replace h := ot b1 h
   cbv
   injection h with h
   subst h
   refine ⟨(sp 15 [(6, .c (wi 3))] []), ?_, ?_⟩
   ·exact lsp rfl zl1 trivial rfl
   ·exact ⟨lR _, trivial, rfl⟩
  ·replace h := og b1 h
   cbv
   injection h with h
   subst h
   refine ⟨(sp 15 [(6, .c (wi 0))] []), ?_, ?_⟩
   ·exact lsp rfl zl1 trivial rfl
   ·exact ⟨lR _, trivial, rfl⟩

/-- impl.deleteCode -/
def Fq45 (a0 : Int) (a1 : Int) : Option (Int) :=
 br (std.le a1 a0)
 (some 5)
 (some 0)
theorem runq45 (a0 : Int) (a1 : Int) (r : Int) (h : Fq45 a0 a1 = some r) : Fun Tryz.prog 116 [.c (wi a0), .c (wi a1)] [] (.c (wi r)) [] true := by
 refine Fun.of_wp (oneOf []) tok mixed Tryz.func116 (by kernel_rfl) rfl Tryz.ntmps116 rfl trivial (fun _ => ⟨trivial, tv⟩) ?_
 unfold Fq45 at h
 generalize hLEN : @len = LEN, hGD : @gd = GD, hA : std = A, hP : Tryz.prog = P at *
 cbv
 refine fork (fun b1 => ?_) (fun b1 => ?_)
 ·replace h := ot b1 h
  cbv
  injection h with h
  subst h
  refine ⟨(sp 8 [(4, .c (wi 5))] []), ?_, ?_⟩
  ·exact lsp rfl zl1 trivial rfl
  ·exact ⟨lR _, trivial, rfl⟩
 ·replace h := og b1 h
  cbv
  injection h with h
  subst h
  refine ⟨(sp 8 [(4, .c (wi 0))] []), ?_, ?_⟩
  ·exact lsp rfl zl1 trivial rfl
  ·exact ⟨lR _, trivial, rfl⟩

/-- impl.hasCell -/
def Fq51 (a0 : TL) (a1 : Int) : Option (Bool) :=
 ((
 (Fq5 a0).bind fun y8 =>
 br y8
 ((Fq2 a1 0 (std.sub .i64 (std.ofN (len a0.fC)) 1)).bind fun y10 =>
 some y10)
 (some false)
 ) : Option (Bool)).bind fun y1 =>
 letO y1 fun w7 =>
 some w7
theorem runq51 (a0 : TL) (a1 : Int) (r : Bool) (h : Fq51 a0 a1 = some r) : Fun Tryz.prog 194 [.agg [.bs (len a0.fC) 4 (row gd (eC len gd) a0.fC)], .c (wi a1)] [] (.c (.v (.bool r))) [] true := by
 refine Fun.of_wp (oneOf [1]) tok mixed Tryz.func194 (by kernel_rfl) rfl Tryz.ntmps194 rfl trivial (fun _ => ⟨trivial, tv⟩) ?_
 unfold Fq51 at h
 have hfq5 := @runq5
 have hfq2 := @runq2
 generalize hLEN : @len = LEN, hGD : @gd = GD, hA : std = A, hP : Tryz.prog = P at *
 cbv
 replace h := ob_ h
 obtain ⟨y1, hy2, h⟩ := h
 obtain ⟨S5, hS6⟩ : ∃ S, S = (sp 15 [(4, .c (.v (.bool y1)))] []) := ⟨_, rfl⟩
 refine ⟨S5, ?_, ?_⟩
 ·clear h
  have h := hy2
  clear hy2
  cbv
  replace h := ob_ h
  obtain ⟨y8, hy9, h⟩ := h
  refine ⟨⟨_, _, _, _, _, [], []⟩, hfq5 _ _ hy9, ⟨zs1, trivial, rfl, rfl, rfl, rfl, trivial, rfl⟩, ?_⟩
  cbv
  refine fork (fun b12 => ?_) (fun b12 => ?_)
  ·replace h := ot b12 h
   cbv
   replace h := ob_ h
   obtain ⟨y10, hy11, h⟩ := h
   refine ⟨⟨_, _, _, _, _, [], []⟩, hfq2 _ _ _ _ hy11, ⟨zs3, trivial, rfl, rfl, rfl, rfl, trivial, rfl⟩, ?_⟩
   cbv
   injection h with h
   subst h
   subst hS6
   exact lsp rfl zl1 trivial rfl
  ·replace h := og b12 h
   cbv
   injection h with h
   subst h
   subst hS6
   exact lsp rfl zl1 trivial rfl
 ·clear hy2
  subst hS6
  replace h := ol h
  obtain ⟨w7, hw7, h⟩ := h
  have hw7 : w7 = y1 := hw7
  subst hw7
  cbv
  injection h with h
  subst h
  refine ⟨(sp 15 [(4, .c (.v (.bool w7)))] []), ?_, ?_⟩
  ·exact lsp rfl zl1 trivial rfl
  ·exact ⟨lR _, trivial, rfl⟩

/-- impl.UsersOf$1 -/
def Fq85 (a0 : TI) (a1 : Int) : Option (Bool) :=
 some (std.eq a0.fc a1)
theorem runq85 (a0 : TI) (a1 : Int) (r : Bool) (h : Fq85 a0 a1 = some r) : Fun Tryz.prog 195 [.agg [wi a0.fc, wi a0.fp.fo, wi a0.fp.fX, wi a0.fp.fY, wi a0.fK, wi a0.fR, wi a0.fu, wi a0.fv], .c (.bp 1 (encI .i64 a1))] [] (.c (.v (.bool r))) [] true := by
 refine Fun.of_wp (oneOf []) tok mixed Tryz.func195 (by kernel_rfl) rfl Tryz.ntmps195 rfl trivial (fun _ => ⟨trivial, tv⟩) ?_
 unfold Fq85 at h
 generalize hLEN : @len = LEN, hGD : @gd = GD, hA : std = A, hP : Tryz.prog = P at *
 cbv
 injection h with h
 subst h
 refine ⟨(sp 8 [(3, .c (.v (.bool (A.eq a0.fc a1))))] []), ?_, ?_⟩
 ·exact lsp rfl zl1 trivial rfl
 ·exact ⟨lR _, trivial, rfl⟩
set_option maxHeartbeats 4000000
def Lq41_x2 (a0 : List TI) (a1_0 : Int) : (Int) -> Option ((Int) ⊕ ((Int) ⊕ (Unit))) := fun x2 =>
 letO x2 fun v1 =>
 br (std.lt v1 (std.ofN (len a0)))
 (req (std.inR v1 (len a0)) <|
 (Fq85 (gd a0 (std.toN v1)) a1_0).bind fun y15 =>
 br y15
 (some (.inr (.inl v1)))
 (some (.inl (std.add .i64 v1 1))))
 (some (.inr (.inr ())))
/-- impl.Instance] -/
def Fq41 (a0 : List TI) (a1_0 : Int) : Option (Int) :=
 (whileP (σ := Int) (ρ := (Int) ⊕ (Unit)) (Lq41_x2 a0 a1_0) 0).bind fun y3 =>
 (match y3 with
 | .inl y3k0 => (
 letO y3k0 fun w19 =>
 some w19)
 | .inr y3m0 =>
 some (-1))
theorem runq41 (a0 : List TI) (a1_0 : Int) (r : Int) (h : Fq41 a0 a1_0 = some r) : Fun Tryz.prog 238 [.c (.bs (len a0) 8 (row gd (eI) a0)), .c (.fn 195 1 fun j => ([.bp 1 (encI .i64 a1_0)] : List AC).getD j .junk)] [] (.c (wi r)) [] true := by
 refine Fun.of_wp (oneOf []) tok mixed Tryz.func238 (by kernel_rfl) rfl Tryz.ntmps238 rfl trivial (fun _ => ⟨trivial, tv⟩) ?_
 unfold Fq41 at h
 unfold Lq41_x2 at h
 have hfq85 := @runq85
 generalize hLEN : @len = LEN, hGD : @gd = GD, hA : std = A, hP : Tryz.prog = P at *
 cbv
 replace h := ob_ h
 obtain ⟨y3, hr4, hN5⟩ := h
 refine loop_cut hr4 (fun x => (sp 19 [(0, .c (.bs (LEN a0) 8 (row GD (eI) a0))), (1, .c (.fn 195 1 fun j => ([.bp 1 (encI .i64 a1_0)] : List AC).getD j .junk)), (7, .c (wi (A.ofN (LEN a0)))), (8, .c (wi x))] [])) ?_ (fun y e s => (match y with | .inl w => e = .ret /\ s.le (sp 19 [(4, .c (wi w))] []) | .inr w0 => (fun (w : Unit) => e = .exit 0 /\ s.le (sp 19 [] [])) w0)) ?_ ?_
 ·clear hr4 hN5
  show St.le _ _
  exact lsp rfl zl4 trivial rfl
 ·clear hr4 hN5
  intro x z9 h K7 hK8 hY6
  replace h := ol h
  obtain ⟨v1, hv1, h⟩ := h
  have hv1 : v1 = x := hv1
  subst hv1
  cbv
  refine fork (fun b18 => ?_) (fun b18 => ?_)
  ·replace h := ot b18 h
   cbv
   replace h := oq_ h
   obtain ⟨c14, h⟩ := h
   refine ⟨⟨c14, tv⟩, ?_⟩
   replace h := ob_ h
   obtain ⟨y15, hy16, h⟩ := h
   refine ⟨⟨_, _, _, _, _, [], []⟩, hfq85 _ _ _ hy16, ⟨lc (lR _) (lc (le_bp (show 1 <= 1 from by decide) (by intro j hj; match j, hj with | 0, _ => exact rle_refl _ | (j_ + 1), h_ => omega)) (ln_)), trivial, rfl, rfl, rfl, rfl, trivial, rfl⟩, ?_⟩
   cbv
   refine fork (fun b17 => ?_) (fun b17 => ?_)
   ·replace h := ot b17 h
    cbv
    injection h with h
    refine hY6 _ h.symm _ _ (And.intro rfl ?_) (by intro hh; cases hh)
    exact lsp rfl zl1 trivial rfl
   ·replace h := og b17 h
    cbv
    injection h with h
    refine hK8 _ h.symm _ ?_
    exact lsp rfl zl4 trivial rfl
  ·replace h := og b18 h
   cbv
   injection h with h
   refine hY6 _ h.symm _ _ (And.intro rfl ?_) (by intro hh; cases hh)
   exact lsp rfl trivial trivial rfl
 ·clear hr4
  have h := hN5
  clear hN5
  intro e12 s13 q11 hne
  rcases y3 with y3k0 | y3m0
  ·replace h := h
   obtain ⟨rfl, q11⟩ := q11
   replace h := ol h
   obtain ⟨w19, hw19, h⟩ := h
   have hw19 : w19 = y3k0 := hw19
   subst hw19
   cbv
   injection h with h
   subst h
   refine ⟨(sp 19 [(4, .c (wi w19))] []), ?_, ?_⟩
   ·refine St.le_trans q11 ?_
    exact lsp rfl zl1 trivial rfl
   ·exact ⟨lR _, trivial, rfl⟩
  ·obtain ⟨rfl, q11⟩ := q11
   cbv
   refine ⟨_, q11, ?_⟩
   cbv
   injection h with h
   subst h
   refine ⟨(sp 19 [(4, .c (wi (-1)))] []), ?_, ?_⟩
   ·exact lsp rfl zl1 trivial rfl
   ·exact ⟨lR _, trivial, rfl⟩

/-- impl.Instance] -/
def Fq64 (a0 : List TI) (a1_0 : Int) : Option (Bool) :=
 (Fq41 a0 a1_0).bind fun y1 =>
 some (std.le 0 y1)
theorem runq64 (a0 : List TI) (a1_0 : Int) (r : Bool) (h : Fq64 a0 a1_0 = some r) : Fun Tryz.prog 168 [.c (.bs (len a0) 8 (row gd (eI) a0)), .c (.fn 195 1 fun j => ([.bp 1 (encI .i64 a1_0)] : List AC).getD j .junk)] [] (.c (.v (.bool r))) [] true := by
 refine Fun.of_wp (oneOf []) tok mixed Tryz.func168 (by kernel_rfl) rfl Tryz.ntmps168 rfl trivial (fun _ => ⟨trivial, tv⟩) ?_
 unfold Fq64 at h
 have hfq41 := @runq41
 generalize hLEN : @len = LEN, hGD : @gd = GD, hA : std = A, hP : Tryz.prog = P at *
 cbv
 replace h := ob_ h
 obtain ⟨y1, hy2, h⟩ := h
 refine ⟨⟨_, _, _, _, _, [], []⟩, hfq41 _ _ _ hy2, ⟨lc (lR _) (lc (le_fn (by intro j hj; match j, hj with | 0, _ => exact le_bp (show 1 <= 1 from by decide) (by intro j hj; match j, hj with | 0, _ => exact rle_refl _ | (j_ + 1), h_ => omega) | (j_ + 1), h_ => omega)) (ln_)), trivial, rfl, rfl, rfl, rfl, trivial, rfl⟩, ?_⟩
 cbv
 injection h with h
 subst h
 refine ⟨(sp 9 [(4, .c (.v (.bool (A.le 0 y1))))] []), ?_, ?_⟩
 ·exact lsp rfl zl1 trivial rfl
 ·exact ⟨lR _, trivial, rfl⟩

def Lq9_x7 (a0 : TL) (a1 : Int) : (Int × (List Int)) -> Option ((Int × (List Int)) ⊕ (((List Int)))) := fun x7 =>
 letO x7.1 fun v5 =>
 letO x7.2 fun v6 =>
 br (std.lt v5 (std.ofN (len a0.fC)))
 (req (std.inR v5 (len a0.fC)) <|
 (Fq64 (gd a0.fC (std.toN v5)).fI a1).bind fun y20 =>
 ((
 br y20
 (letO ([v5] : List Int) fun l29 =>
 req (std.room (std.nadd (len v6) (len l29)) 8) <|
 letO (v6 ++ l29) fun l31 =>
 some l31)
 (some v6)
 ) : Option ((List Int))).bind fun y22 =>
 letO y22 fun w28 =>
 some (.inl (std.add .i64 v5 1, w28)))
 (some (.inr v6))
/-- impl.UsersOf -/
def Fq9 (a0 : TL) (a1 : Int) : Option (List Int) :=
 (Fq51 (TL.mk a0.fC) a1).bind fun y1 =>
 br (!(y1))
 (some ([] : List Int))
 (letO ([] : List Int) fun l3 =>
 (whileP (σ := Int × (List Int)) (ρ := ((List Int))) (Lq9_x7 a0 a1) (0, l3)).bind fun y8 =>
 letO y8 fun y8k0 =>
 letO y8k0 fun w36 =>
 some w36)
theorem runq9 (a0 : TL) (a1 : Int) (r : List Int) (h : Fq9 a0 a1 = some r) : Fun Tryz.prog 117 [.agg [.bs (len a0.fC) 4 (row gd (eC len gd) a0.fC)], .c (wi a1)] [] (.c (.os 64000 0 (len r))) [(64000, .arr .rw [] (len r) 1 (row gd (encI .i64) r))] true := by
 refine Fun.of_wp (oneOf [100024]) tok mixed Tryz.func117 (by kernel_rfl) rfl Tryz.ntmps117 rfl trivial (fun _ => ⟨trivial, ⟨fun i _ j _ => val_flat (rfl), tv⟩⟩) ?_
 unfold Fq9 at h
 unfold Lq9_x7 at h
 have hfq51 := @runq51
 have hfq64 := @runq64
 generalize hLEN : @len = LEN, hGD : @gd = GD, hA : std = A, hP : Tryz.prog = P at *
 cbv
 replace h := ob_ h
 obtain ⟨y1, hy2, h⟩ := h
 refine ⟨⟨_, _, _, _, _, [], []⟩, hfq51 _ _ _ hy2, ⟨zs2, trivial, rfl, rfl, rfl, rfl, trivial, rfl⟩, ?_⟩
 cbv
 refine fork (fun b37 => ?_) (fun b37 => ?_)
 ·replace h := ot b37 h
  cbv
  injection h with h
  subst h
  refine ⟨(sp 31 [(4, .c (.os 64000 0 (LEN ([] : List Int))))] [(64000, .arr .rw [] (LEN ([] : List Int)) 1 (row GD (encI .i64) ([] : List Int)))]), ?_, ?_⟩
  ·refine St.le_trans (le_nilT 4 64000 1 (row GD (encI .i64) ([] : List Int)) (by decide) rfl) ?_
   subst hLEN
   exact lsp rfl zl1 ⟨oS, tv⟩ rfl
  ·subst hLEN
   exact ⟨lR _, ⟨oS, tv⟩, rfl⟩
 ·replace h := og b37 h
  cbv
  replace h := ol h
  obtain ⟨l3, hl3, h⟩ := h
  have e4 : 0 = LEN l3 := by subst hl3 hLEN; rfl
  refine ⟨_, congrArg (fun n => AV.c (AC.os 768 0 n)) e4, _, row GD (encI .i64) l3, e4, wkOf ?_, ?_⟩
  ·intro i hi j hj
   rw [<- e4] at hi
   subst hl3
   subst hGD
   omega
  cbv
  replace h := ob_ h
  obtain ⟨y8, hr9, hN10⟩ := h
  refine loop_cut hr9 (fun x => (sp 31 [(3, .c (.ptr 192 0)), (5, .c (.os 768 0 (LEN x.2))), (14, .c (.bs (LEN a0.fC) 4 (row GD (eC LEN GD) a0.fC))), (15, .c (wi (A.ofN (LEN a0.fC)))), (16, .c (wi x.1))] [(192, .var [wi a1]), (768, .arr .rw [] (LEN x.2) 1 (row GD (encI .i64) x.2))])) ?_ (fun y e s => (fun (w : (List Int)) => e = .exit 0 /\ s.le (sp 31 [(5, .c (.os 768 0 (LEN w)))] [(768, .arr .rw [] (LEN w) 1 (row GD (encI .i64) w))])) y) ?_ ?_
  ·clear hr9 hN10
   show St.le _ _
   exact lsp rfl zl5 ⟨rfl, oS, tv⟩ rfl
  ·clear hr9 hN10
   intro x z14 h K12 hK13 hY11
   obtain ⟨x0_, x1_⟩ := x
   replace h := ol h
   obtain ⟨v5, hv5, h⟩ := h
   have hv5 : v5 = x0_ := hv5
   subst hv5
   replace h := ol h
   obtain ⟨v6, hv6, h⟩ := h
   have hv6 : v6 = x1_ := hv6
   subst hv6
   cbv
   refine fork (fun b35 => ?_) (fun b35 => ?_)
   ·replace h := ot b35 h
    cbv
    replace h := oq_ h
    obtain ⟨c19, h⟩ := h
    refine ⟨⟨c19, tv⟩, ?_⟩
    replace h := ob_ h
    obtain ⟨y20, hy21, h⟩ := h
    refine ⟨⟨_, _, _, _, _, [], []⟩, hfq64 _ _ _ hy21, ⟨lc (lR _) (lc (le_fn (by intro j hj; match j, hj with | 0, _ => exact le_bp (show 1 <= 1 from by decide) (by intro j hj; match j, hj with | 0, _ => exact rle_refl _ | (j_ + 1), h_ => omega) | (j_ + 1), h_ => omega)) (ln_)), trivial, rfl, rfl, rfl, rfl, trivial, rfl⟩, ?_⟩
    cbv
    replace h := ob_ h
    obtain ⟨y22, hy23, h⟩ := h
    obtain ⟨S26, hS27⟩ : ∃ S, S = some (sp 31 [(3, .c (.ptr 192 0)), (5, .c (.os 768 0 (LEN y22))), (14, .c (.bs (LEN a0.fC) 4 (row GD (eC LEN GD) a0.fC))), (15, .c (wi (A.ofN (LEN a0.fC)))), (16, .c (wi v5))] [(192, .var [wi a1]), (768, .arr .rw [] (LEN y22) 1 (row GD (encI .i64) y22))]) := ⟨_, rfl⟩
    refine ⟨S26, ?_, ?_⟩
    ·clear h
     have h := hy23
     clear hy23
     cbv
     refine fork (fun b34 => ?_) (fun b34 => ?_)
     ·replace h := ot b34 h
      cbv
      replace h := ol h
      obtain ⟨l29, hl29, h⟩ := h
      have e30 : 1 = LEN l29 := by subst hl29 hLEN; rfl
      refine ⟨_, congrArg (fun n => AV.c (AC.os 1728 0 n)) e30, _, row GD (encI .i64) l29, e30, wkOf ?_, ?_⟩
      ·intro i hi j hj
       rw [<- e30] at hi
       subst hl29
       subst hGD
       obtain rfl : i = 0 := (by omega)
       all_goals obtain rfl : j = 0 := by omega
       all_goals rfl
      cbv
      replace h := oq_ h
      obtain ⟨c33, h⟩ := h
      replace h := ol h
      obtain ⟨l31, hl31, h⟩ := h
      have e32 : A.nadd (LEN v6) (LEN l29) = LEN l31 := by subst hl31 hLEN hA; simp [std, len]
      refine ⟨c33, _, congrArg (fun n => AV.c (AC.os 768 0 n)) e32, _, row GD (encI .i64) l31, e32, wkOf ?_, ?_⟩
      ·subst hGD hLEN hA
       exact app_os (off := 0) (fun _ _ => rfl) hl31 (Nat.le_refl _)
      cbv
      injection h with h
      subst h
      subst hS27
      exact lsp rfl zl5 ⟨rfl, oS, tv⟩ rfl
     ·replace h := og b34 h
      cbv
      injection h with h
      subst h
      subst hS27
      exact lsp rfl zl5 ⟨rfl, oS, tv⟩ rfl
    ·clear hy23
     subst hS27
     replace h := ol h
     obtain ⟨w28, hw28, h⟩ := h
     have hw28 : w28 = y22 := hw28
     subst hw28
     cbv
     injection h with h
     refine hK13 _ h.symm _ ?_
     exact lsp rfl zl5 ⟨rfl, oS, tv⟩ rfl
   ·replace h := og b35 h
    cbv
    injection h with h
    refine hY11 _ h.symm _ _ (And.intro rfl ?_) (by intro hh; cases hh)
    exact lsp rfl zl1 ⟨oS, tv⟩ rfl
  ·clear hr9
   have h := hN10
   clear hN10
   intro e17 s18 q16 hne
   replace h := ol h
   obtain ⟨y8k0, hyk, h⟩ := h
   have hyk : y8k0 = y8 := hyk
   subst hyk
   obtain ⟨rfl, q16⟩ := q16
   replace h := ol h
   obtain ⟨w36, hw36, h⟩ := h
   have hw36 : w36 = y8k0 := hw36
   subst hw36
   cbv
   refine ⟨_, q16, ?_⟩
   cbv
   injection h with h
   subst h
   refine ⟨(sp 31 [(4, .c (.os 64000 0 (LEN w36)))] [(64000, .arr .rw [] (LEN w36) 1 (row GD (encI .i64) w36))]), ?_, ?_⟩
   ·refine St.le_trans (le_ren 768 64000 (by decide) rfl) ?_
    exact lsp rfl zl1 ⟨oS, tv⟩ rfl
   ·exact ⟨lR _, ⟨oS, tv⟩, rfl⟩

/-- impl.editCode -/
def Fq35 (a0 : TL) (a1 : TE) : Option (Int) :=
 ((
 (Fq5 (TL.mk a0.fC)).bind fun y8 =>
 br (!(y8))
 (some true)
 ((Fq82 a1).bind fun y10 =>
 some (!(y10)))
 ) : Option (Bool)).bind fun y1 =>
 letO y1 fun w7 =>
 br w7
 (some 1)
 (br (std.eq a1.fk 8)
 (br (std.lt (std.ofN (len a0.fC)) a1.fc)
 (some 5)
 (br (std.eq (std.ofN (len a0.fC)) 8)
 (some 3)
 ((Fq7 (TL.mk a0.fC) a1.fN).bind fun y13 =>
 br (std.le 0 y13)
 (some 6)
 (some 0))))
 (br (std.le (std.ofN (len a0.fC)) a1.fc)
 (some 5)
 (req (std.inR a1.fc (len a0.fC)) <|
 br (std.eq a1.fk 1)
 ((Fq46 a1.fx (std.ofN (len (gd a0.fC (std.toN a1.fc)).fS)) 24).bind fun y19 =>
 some y19)
 (br (std.eq a1.fk 2)
 ((Fq45 a1.fx (std.ofN (len (gd a0.fC (std.toN a1.fc)).fS))).bind fun y21 =>
 some y21)
 (br (std.eq a1.fk 3)
 ((Fq46 a1.fx (std.ofN (len (gd a0.fC (std.toN a1.fc)).fL)) 8).bind fun y23 =>
 some y23)
 (br (std.eq a1.fk 4)
 ((Fq45 a1.fx (std.ofN (len (gd a0.fC (std.toN a1.fc)).fL))).bind fun y25 =>
 some y25)
 (br (std.eq a1.fk 5)
 ((Fq46 a1.fx (std.ofN (len (gd a0.fC (std.toN a1.fc)).fI)) 8).bind fun y27 =>
 ((
 br (std.eq y27 0)
 (some (std.le a1.fc a1.fi_.fc))
 (some false)
 ) : Option (Bool)).bind fun y29 =>
 letO y29 fun w35 =>
 ((
 br w35
 (some 6)
 (some y27)
 ) : Option (Int)).bind fun y37 =>
 letO y37 fun w43 =>
 some w43)
 (br (std.eq a1.fk 6)
 ((Fq45 a1.fx (std.ofN (len (gd a0.fC (std.toN a1.fc)).fI))).bind fun y45 =>
 some y45)
 (((
 br (std.eq a1.fk 7)
 ((Fq7 (TL.mk a0.fC) a1.fN).bind fun y53 =>
 ((
 br (std.le 0 y53)
 (some (std.not (std.eq y53 a1.fc)))
 (some false)
 ) : Option (Bool)).bind fun y55 =>
 letO y55 fun w61 =>
 br w61
 ((some 6).bind fun r63 => some (.inl r63))
 (some (.inr ())))
 (((
 br (std.eq a1.fk 9)
 (((
 br (std.eq (std.ofN (len a0.fC)) 1)
 (some true)
 (br (std.lt 0 (std.add .i64 (std.add .i64 (std.ofN (len (gd a0.fC (std.toN a1.fc)).fS)) (std.ofN (len (gd a0.fC (std.toN a1.fc)).fL))) (std.ofN (len (gd a0.fC (std.toN a1.fc)).fI))))
 (some true)
 ((Fq9 (TL.mk a0.fC) a1.fc).bind fun y80 =>
 some (std.lt 0 (std.ofN (len y80)))))
 ) : Option (Bool)).bind fun y73 =>
 letO y73 fun w79 =>
 br w79
 (((some 6).bind fun r84 => some (.inl r84)).bind fun r87 => some (.inl r87))
 (some (.inr ())))
 (some (.inr ()))
 ) : Option (_ ⊕ Unit)).bind fun z69 => (match z69 with
 | .inl r => some r
 | .inr y67 =>
 some (.inr ())))
 ) : Option (_ ⊕ Unit)).bind fun z49 => (match z49 with
 | .inl r => some r
 | .inr y47 =>
 some 0))))))))))
theorem runq35 (a0 : TL) (a1 : TE) (r : Int) (h : Fq35 a0 a1 = some r) : Fun Tryz.prog 64 [.agg [.bs (len a0.fC) 4 (row gd (eC len gd) a0.fC)], .agg (cE a1)] [] (.c (wi r)) [] true := by
 refine Fun.of_wp (oneOf [1, 27, 34, 37, 100100, 100108, 100122]) tok mixed Tryz.func64 (by kernel_rfl) rfl Tryz.ntmps64 rfl trivial (fun _ => ⟨trivial, tv⟩) ?_
 unfold Fq35 at h
 have hfq82 := @runq82
 have hfq5 := @runq5
 have hfq9 := @runq9
 have hfq45 := @runq45
 have hfq46 := @runq46
 have hfq7 := @runq7
 generalize hLEN : @len = LEN, hGD : @gd = GD, hA : std = A, hP : Tryz.prog = P at *
 cbv
 replace h := ob_ h
 obtain ⟨y1, hy2, h⟩ := h
 obtain ⟨S5, hS6⟩ : ∃ S, S = (sp 142 [(2, .c (.ptr 128 0)), (3, .c (.ptr 192 0)), (19, .c (.v (.bool y1)))] [(128, .var [.bs (LEN a0.fC) 4 (row GD (eC LEN GD) a0.fC)]), (192, .var (cE a1))]) := ⟨_, rfl⟩
 refine ⟨S5, ?_, ?_⟩
 ·clear h
  have h := hy2
  clear hy2
  cbv
  replace h := ob_ h
  obtain ⟨y8, hy9, h⟩ := h
  refine ⟨⟨_, _, _, _, _, [], []⟩, hfq5 _ _ hy9, ⟨zs1, trivial, rfl, rfl, rfl, rfl, trivial, rfl⟩, ?_⟩
  cbv
  refine fork (fun b12 => ?_) (fun b12 => ?_)
  ·replace h := ot b12 h
   cbv
   injection h with h
   subst h
   subst hS6
   exact lsp rfl zl3 ⟨rfl, rfl, tv⟩ rfl
  ·replace h := og b12 h
   cbv
   replace h := ob_ h
   obtain ⟨y10, hy11, h⟩ := h
   refine ⟨⟨_, _, _, _, _, [], []⟩, hfq82 _ _ hy11, ⟨zs1, trivial, rfl, rfl, rfl, rfl, trivial, rfl⟩, ?_⟩
   cbv
   injection h with h
   subst h
   subst hS6
   exact lsp rfl zl3 ⟨rfl, rfl, tv⟩ rfl
 ·clear hy2
  subst hS6
  replace h := ol h
  obtain ⟨w7, hw7, h⟩ := h
  have hw7 : w7 = y1 := hw7
  subst hw7
  cbv
  refine fork (fun b101 => ?_) (fun b101 => ?_)
  ·replace h := ot b101 h
   cbv
   injection h with h
   subst h
   refine ⟨(sp 142 [(4, .c (wi 1))] []), ?_, ?_⟩
   ·exact lsp rfl zl1 trivial rfl
   ·exact ⟨lR _, trivial, rfl⟩
  ·replace h := og b101 h
   cbv
   refine fork (fun b100 => ?_) (fun b100 => ?_)
   ·replace h := ot b100 h
    cbv
    refine fork (fun b17 => ?_) (fun b17 => ?_)
    ·replace h := ot b17 h
     cbv
     injection h with h
     subst h
     refine ⟨(sp 142 [(4, .c (wi 5))] []), ?_, ?_⟩
     ·exact lsp rfl zl1 trivial rfl
     ·exact ⟨lR _, trivial, rfl⟩
    ·replace h := og b17 h
     cbv
     refine fork (fun b16 => ?_) (fun b16 => ?_)
     ·replace h := ot b16 h
      cbv
      injection h with h
      subst h
      refine ⟨(sp 142 [(4, .c (wi 3))] []), ?_, ?_⟩
      ·exact lsp rfl zl1 trivial rfl
      ·exact ⟨lR _, trivial, rfl⟩
     ·replace h := og b16 h
      cbv
      replace h := ob_ h
      obtain ⟨y13, hy14, h⟩ := h
      refine ⟨⟨_, _, _, _, _, [], []⟩, hfq7 _ _ _ hy14, ⟨zs2, trivial, rfl, rfl, rfl, rfl, trivial, rfl⟩, ?_⟩
      cbv
      refine fork (fun b15 => ?_) (fun b15 => ?_)
      ·replace h := ot b15 h
       cbv
       injection h with h
       subst h
       refine ⟨(sp 142 [(4, .c (wi 6))] []), ?_, ?_⟩
       ·exact lsp rfl zl1 trivial rfl
       ·exact ⟨lR _, trivial, rfl⟩
      ·replace h := og b15 h
       cbv
       injection h with h
       subst h
       refine ⟨(sp 142 [(4, .c (wi 0))] []), ?_, ?_⟩
       ·exact lsp rfl zl1 trivial rfl
       ·exact ⟨lR _, trivial, rfl⟩
   ·replace h := og b100 h
    cbv
    refine fork (fun b99 => ?_) (fun b99 => ?_)
    ·replace h := ot b99 h
     cbv
     injection h with h
     subst h
     refine ⟨(sp 142 [(4, .c (wi 5))] []), ?_, ?_⟩
     ·exact lsp rfl zl1 trivial rfl
     ·exact ⟨lR _, trivial, rfl⟩
    ·replace h := og b99 h
     cbv
     replace h := oq_ h
     obtain ⟨c18, h⟩ := h
     refine ⟨⟨c18, tv⟩, ?_⟩
     refine fork (fun b98 => ?_) (fun b98 => ?_)
     ·replace h := ot b98 h
      cbv
      replace h := ob_ h
      obtain ⟨y19, hy20, h⟩ := h
      refine ⟨⟨_, _, _, _, _, [], []⟩, hfq46 _ _ _ _ hy20, ⟨zs3, trivial, rfl, rfl, rfl, rfl, trivial, rfl⟩, ?_⟩
      cbv
      injection h with h
      subst h
      refine ⟨(sp 142 [(4, .c (wi y19))] []), ?_, ?_⟩
      ·exact lsp rfl zl1 trivial rfl
      ·exact ⟨lR _, trivial, rfl⟩
     ·replace h := og b98 h
      cbv
      refine fork (fun b97 => ?_) (fun b97 => ?_)
      ·replace h := ot b97 h
       cbv
       replace h := ob_ h
       obtain ⟨y21, hy22, h⟩ := h
       refine ⟨⟨_, _, _, _, _, [], []⟩, hfq45 _ _ _ hy22, ⟨zs2, trivial, rfl, rfl, rfl, rfl, trivial, rfl⟩, ?_⟩
       cbv
       injection h with h
       subst h
       refine ⟨(sp 142 [(4, .c (wi y21))] []), ?_, ?_⟩
       ·exact lsp rfl zl1 trivial rfl
       ·exact ⟨lR _, trivial, rfl⟩
      ·replace h := og b97 h
       cbv
       refine fork (fun b96 => ?_) (fun b96 => ?_)
       ·replace h := ot b96 h
        cbv
        replace h := ob_ h
        obtain ⟨y23, hy24, h⟩ := h
        refine ⟨⟨_, _, _, _, _, [], []⟩, hfq46 _ _ _ _ hy24, ⟨zs3, trivial, rfl, rfl, rfl, rfl, trivial, rfl⟩, ?_⟩
        cbv
        injection h with h
        subst h
        refine ⟨(sp 142 [(4, .c (wi y23))] []), ?_, ?_⟩
        ·exact lsp rfl zl1 trivial rfl
        ·exact ⟨lR _, trivial, rfl⟩
       ·replace h := og b96 h
        cbv
        refine fork (fun b95 => ?_) (fun b95 => ?_)
        ·replace h := ot b95 h
         cbv
         replace h := ob_ h
         obtain ⟨y25, hy26, h⟩ := h
         refine ⟨⟨_, _, _, _, _, [], []⟩, hfq45 _ _ _ hy26, ⟨zs2, trivial, rfl, rfl, rfl, rfl, trivial, rfl⟩, ?_⟩
         cbv
         injection h with h
         subst h
         refine ⟨(sp 142 [(4, .c (wi y25))] []), ?_, ?_⟩
         ·exact lsp rfl zl1 trivial rfl
         ·exact ⟨lR _, trivial, rfl⟩
        ·replace h := og b95 h
         cbv
         refine fork (fun b94 => ?_) (fun b94 => ?_)
         ·replace h := ot b94 h
          cbv
          replace h := ob_ h
          obtain ⟨y27, hy28, h⟩ := h
          refine ⟨⟨_, _, _, _, _, [], []⟩, hfq46 _ _ _ _ hy28, ⟨zs3, trivial, rfl, rfl, rfl, rfl, trivial, rfl⟩, ?_⟩
          cbv
          replace h := ob_ h
          obtain ⟨y29, hy30, h⟩ := h
          obtain ⟨S33, hS34⟩ : ∃ S, S = (sp 142 [(10, .c (wi y27)), (100, .c (.v (.bool y29)))] []) := ⟨_, rfl⟩
          refine ⟨S33, ?_, ?_⟩
          ·clear h
           have h := hy30
           clear hy30
           cbv
           refine fork (fun b36 => ?_) (fun b36 => ?_)
           ·replace h := ot b36 h
            cbv
            injection h with h
            subst h
            subst hS34
            exact lsp rfl zl2 trivial rfl
           ·replace h := og b36 h
            cbv
            injection h with h
            subst h
            subst hS34
            exact lsp rfl zl2 trivial rfl
          ·clear hy30
           subst hS34
           replace h := ol h
           obtain ⟨w35, hw35, h⟩ := h
           have hw35 : w35 = y29 := hw35
           subst hw35
           cbv
           replace h := ob_ h
           obtain ⟨y37, hy38, h⟩ := h
           obtain ⟨S41, hS42⟩ : ∃ S, S = some (sp 142 [(10, .c (wi y37))] []) := ⟨_, rfl⟩
           refine ⟨S41, ?_, ?_⟩
           ·clear h
            have h := hy38
            clear hy38
            cbv
            refine fork (fun b44 => ?_) (fun b44 => ?_)
            ·replace h := ot b44 h
             cbv
             injection h with h
             subst h
             subst hS42
             exact lsp rfl zl1 trivial rfl
            ·replace h := og b44 h
             cbv
             injection h with h
             subst h
             subst hS42
             exact lsp rfl zl1 trivial rfl
           ·clear hy38
            subst hS42
            replace h := ol h
            obtain ⟨w43, hw43, h⟩ := h
            have hw43 : w43 = y37 := hw43
            subst hw43
            cbv
            injection h with h
            subst h
            refine ⟨(sp 142 [(4, .c (wi w43))] []), ?_, ?_⟩
            ·exact lsp rfl zl1 trivial rfl
            ·exact ⟨lR _, trivial, rfl⟩
         ·replace h := og b94 h
          cbv
          refine fork (fun b93 => ?_) (fun b93 => ?_)
          ·replace h := ot b93 h
           cbv
           replace h := ob_ h
           obtain ⟨y45, hy46, h⟩ := h
           refine ⟨⟨_, _, _, _, _, [], []⟩, hfq45 _ _ _ hy46, ⟨zs2, trivial, rfl, rfl, rfl, rfl, trivial, rfl⟩, ?_⟩
           cbv
           injection h with h
           subst h
           refine ⟨(sp 142 [(4, .c (wi y45))] []), ?_, ?_⟩
           ·exact lsp rfl zl1 trivial rfl
           ·exact ⟨lR _, trivial, rfl⟩
          ·replace h := og b93 h
           cbv
           replace h := ob_ h
           obtain ⟨z49, hy48, hz50⟩ := h
           obtain ⟨S51, hS52⟩ : ∃ S, S = (match z49 with | .inl _ => none | .inr y47 => some (sp 142 [] [])) := ⟨_, rfl⟩
           refine ⟨S51, ?_, ?_⟩
           ·have h := hy48
            clear hy48
            cbv
            refine fork (fun b92 => ?_) (fun b92 => ?_)
            ·replace h := ot b92 h
             cbv
             replace h := ob_ h
             obtain ⟨y53, hy54, h⟩ := h
             refine ⟨⟨_, _, _, _, _, [], []⟩, hfq7 _ _ _ hy54, ⟨zs2, trivial, rfl, rfl, rfl, rfl, trivial, rfl⟩, ?_⟩
             cbv
             replace h := ob_ h
             obtain ⟨y55, hy56, h⟩ := h
             obtain ⟨S59, hS60⟩ : ∃ S, S = (sp 142 [(121, .c (.v (.bool y55)))] []) := ⟨_, rfl⟩
             refine ⟨S59, ?_, ?_⟩
             ·clear h
              have h := hy56
              clear hy56
              cbv
              refine fork (fun b62 => ?_) (fun b62 => ?_)
              ·replace h := ot b62 h
               cbv
               injection h with h
               subst h
               subst hS60
               exact lsp rfl zl1 trivial rfl
              ·replace h := og b62 h
               cbv
               injection h with h
               subst h
               subst hS60
               exact lsp rfl zl1 trivial rfl
             ·clear hy56
              subst hS60
              replace h := ol h
              obtain ⟨w61, hw61, h⟩ := h
              have hw61 : w61 = y55 := hw61
              subst hw61
              cbv
              refine fork (fun b66 => ?_) (fun b66 => ?_)
              ·replace h := ot b66 h
               cbv
               replace h := ob_ h
               obtain ⟨r63, h64, he65⟩ := h
               injection he65 with he65
               subst he65
               injection hz50 with hz50
               subst hz50
               have h := h64
               injection h with h
               subst h
               refine ⟨(sp 142 [(4, .c (wi 6))] []), ?_, ?_⟩
               ·exact lsp rfl zl1 trivial rfl
               ·exact ⟨lR _, trivial, rfl⟩
              ·replace h := og b66 h
               cbv
               injection h with h
               subst h
               subst hS52
               exact lsp rfl trivial trivial rfl
            ·replace h := og b92 h
             cbv
             replace h := ob_ h
             obtain ⟨z69, hy68, hz70⟩ := h
             obtain ⟨S71, hS72⟩ : ∃ S, S = (match z69 with | .inl _ => none | .inr y67 => some (sp 142 [] [])) := ⟨_, rfl⟩
             refine ⟨S71, ?_, ?_⟩
             ·have h := hy68
              clear hy68
              cbv
              refine fork (fun b91 => ?_) (fun b91 => ?_)
              ·replace h := ot b91 h
               cbv
               replace h := ob_ h
               obtain ⟨y73, hy74, h⟩ := h
               obtain ⟨S77, hS78⟩ : ∃ S, S = (sp 142 [(141, .c (.v (.bool y73)))] []) := ⟨_, rfl⟩
               refine ⟨S77, ?_, ?_⟩
               ·clear h
                have h := hy74
                clear hy74
                cbv
                refine fork (fun b83 => ?_) (fun b83 => ?_)
                ·replace h := ot b83 h
                 cbv
                 injection h with h
                 subst h
                 subst hS78
                 exact lsp rfl zl1 trivial rfl
                ·replace h := og b83 h
                 cbv
                 refine fork (fun b82 => ?_) (fun b82 => ?_)
                 ·replace h := ot b82 h
                  cbv
                  injection h with h
                  subst h
                  subst hS78
                  exact lsp rfl zl1 trivial rfl
                 ·replace h := og b82 h
                  cbv
                  replace h := ob_ h
                  obtain ⟨y80, hy81, h⟩ := h
                  refine ⟨⟨_, _, _, _, _, [], [(64000, 8832)]⟩, hfq9 _ _ _ hy81, ⟨zs2, trivial, rfl, rfl, rfl, rfl, ⟨evn 64000 rfl, tv⟩, rfl⟩, _, rfl, _, _, rfl, fun _ _ _ _ => .refl _, ?_⟩
                  cbv
                  injection h with h
                  subst h
                  subst hS78
                  exact lsp rfl zl1 trivial rfl
               ·clear hy74
                subst hS78
                replace h := ol h
                obtain ⟨w79, hw79, h⟩ := h
                have hw79 : w79 = y73 := hw79
                subst hw79
                cbv
                refine fork (fun b90 => ?_) (fun b90 => ?_)
                ·replace h := ot b90 h
                 cbv
                 replace h := ob_ h
                 obtain ⟨r87, h88, he89⟩ := h
                 injection he89 with he89
                 subst he89
                 injection hz70 with hz70
                 subst hz70
                 have h := h88
                 replace h := ob_ h
                 obtain ⟨r84, h85, he86⟩ := h
                 injection he86 with he86
                 subst he86
                 injection hz50 with hz50
                 subst hz50
                 have h := h85
                 injection h with h
                 subst h
                 refine ⟨(sp 142 [(4, .c (wi 6))] []), ?_, ?_⟩
                 ·exact lsp rfl zl1 trivial rfl
                 ·exact ⟨lR _, trivial, rfl⟩
                ·replace h := og b90 h
                 cbv
                 injection h with h
                 subst h
                 subst hS72
                 exact lsp rfl trivial trivial rfl
              ·replace h := og b91 h
               cbv
               injection h with h
               subst h
               subst hS72
               exact lsp rfl trivial trivial rfl
             ·clear hy68
              subst hS72
              rcases z69 with _ | y67
              ·trivial
              ·have h := hz70
               clear hz70
               cbv
               injection h with h
               subst h
               subst hS52
               exact lsp rfl trivial trivial rfl
           ·clear hy48
            subst hS52
            rcases z49 with _ | y47
            ·trivial
            ·have h := hz50
             clear hz50
             cbv
             injection h with h
             subst h
             refine ⟨(sp 142 [(4, .c (wi 0))] []), ?_, ?_⟩
             ·exact lsp rfl zl1 trivial rfl
             ·exact ⟨lR _, trivial, rfl⟩

/-- impl.Shape] -/
def Fq71 (a0 : List TS) : Option (List TS) :=
 nilB (len a0)
 (some ([] : List TS))
 (letO ([] : List TS) fun l1 =>
 req (std.room (std.nadd (len l1) (len a0)) 40) <|
 letO (l1 ++ a0) fun l3 =>
 some l3)
theorem runq71 (a0 : List TS) (r : List TS) (h : Fq71 a0 = some r) : Fun Tryz.prog 226 [.c (.bs (len a0) 5 (row gd (eS) a0))] [] (.c (.os 64000 0 (len r))) [(64000, .arr .rw [] (len r) 5 (row gd (eS) r))] true := by
 refine Fun.of_wp (oneOf []) tok mixed Tryz.func226 (by kernel_rfl) rfl Tryz.ntmps226 rfl trivial (fun _ => ⟨trivial, ⟨fun i _ j _ => val_flat (vl_encShape _ _), tv⟩⟩) ?_
 unfold Fq71 at h
 generalize hLEN : @len = LEN, hGD : @gd = GD, hA : std = A, hP : Tryz.prog = P at *
 cbv
 replace h := of_nilB h
 obtain ⟨h, hz7⟩ := h
 refine And.intro (fun hn6 => ?_) ?_
 ·have h := hz7 hn6
  clear hz7
  cbv
  injection h with h
  subst h
  refine ⟨(sp 8 [(2, .c (.os 64000 0 (LEN ([] : List TS))))] [(64000, .arr .rw [] (LEN ([] : List TS)) 5 (row GD (eS) ([] : List TS)))]), ?_, ?_⟩
  ·refine St.le_trans (le_nilT 2 64000 5 (row GD (eS) ([] : List TS)) (by decide) rfl) ?_
   subst hLEN
   exact lsp rfl zl1 ⟨oS, tv⟩ rfl
  ·subst hLEN
   exact ⟨lR _, ⟨oS, tv⟩, rfl⟩
 ·clear hz7
  cbv
  replace h := ol h
  obtain ⟨l1, hl1, h⟩ := h
  have e2 : 0 = LEN l1 := by subst hl1 hLEN; rfl
  refine ⟨_, congrArg (fun n => AV.c (AC.os 320 0 n)) e2, _, row GD (eS) l1, e2, wkOf ?_, ?_⟩
  ·intro i hi j hj
   rw [<- e2] at hi
   subst hl1
   subst hGD
   omega
  cbv
  replace h := oq_ h
  obtain ⟨c5, h⟩ := h
  replace h := ol h
  obtain ⟨l3, hl3, h⟩ := h
  have e4 : A.nadd (LEN l1) (LEN a0) = LEN l3 := by subst hl3 hLEN hA; simp [std, len]
  refine ⟨c5, _, congrArg (fun n => AV.c (AC.os 320 0 n)) e4, _, row GD (eS) l3, e4, wkOf ?_, ?_⟩
  ·subst hGD hLEN hA
   exact app_bs (pl_encShape) hl3 (Nat.le_refl _)
  cbv
  injection h with h
  subst h
  refine ⟨(sp 8 [(2, .c (.os 64000 0 (LEN l3)))] [(64000, .arr .rw [] (LEN l3) 5 (row GD (eS) l3))]), ?_, ?_⟩
  ·refine St.le_trans (le_ren 320 64000 (by decide) rfl) ?_
   exact lsp rfl zl1 ⟨oS, tv⟩ rfl
  ·exact ⟨lR _, ⟨oS, tv⟩, rfl⟩

/-- impl.Label] -/
def Fq68 (a0 : List TB) : Option (List TB) :=
 nilB (len a0)
 (some ([] : List TB))
 (letO ([] : List TB) fun l1 =>
 req (std.room (std.nadd (len l1) (len a0)) 40) <|
 letO (l1 ++ a0) fun l3 =>
 some l3)
theorem runq68 (a0 : List TB) (r : List TB) (h : Fq68 a0 = some r) : Fun Tryz.prog 227 [.c (.bs (len a0) 4 (row gd (eL) a0))] [] (.c (.os 64000 0 (len r))) [(64000, .arr .rw [] (len r) 4 (row gd (eL) r))] true := by
 refine Fun.of_wp (oneOf []) tok mixed Tryz.func227 (by kernel_rfl) rfl Tryz.ntmps227 rfl trivial (fun _ => ⟨trivial, ⟨fun i _ j _ => val_flat (vl_encLabel _ _), tv⟩⟩) ?_
 unfold Fq68 at h
 generalize hLEN : @len = LEN, hGD : @gd = GD, hA : std = A, hP : Tryz.prog = P at *
 cbv
 replace h := of_nilB h
 obtain ⟨h, hz7⟩ := h
 refine And.intro (fun hn6 => ?_) ?_
 ·have h := hz7 hn6
  clear hz7
  cbv
  injection h with h
  subst h
  refine ⟨(sp 8 [(2, .c (.os 64000 0 (LEN ([] : List TB))))] [(64000, .arr .rw [] (LEN ([] : List TB)) 4 (row GD (eL) ([] : List TB)))]), ?_, ?_⟩
  ·refine St.le_trans (le_nilT 2 64000 4 (row GD (eL) ([] : List TB)) (by decide) rfl) ?_
   subst hLEN
   exact lsp rfl zl1 ⟨oS, tv⟩ rfl
  ·subst hLEN
   exact ⟨lR _, ⟨oS, tv⟩, rfl⟩
 ·clear hz7
  cbv
  replace h := ol h
  obtain ⟨l1, hl1, h⟩ := h
  have e2 : 0 = LEN l1 := by subst hl1 hLEN; rfl
  refine ⟨_, congrArg (fun n => AV.c (AC.os 320 0 n)) e2, _, row GD (eL) l1, e2, wkOf ?_, ?_⟩
  ·intro i hi j hj
   rw [<- e2] at hi
   subst hl1
   subst hGD
   omega
  cbv
  replace h := oq_ h
  obtain ⟨c5, h⟩ := h
  replace h := ol h
  obtain ⟨l3, hl3, h⟩ := h
  have e4 : A.nadd (LEN l1) (LEN a0) = LEN l3 := by subst hl3 hLEN hA; simp [std, len]
  refine ⟨c5, _, congrArg (fun n => AV.c (AC.os 320 0 n)) e4, _, row GD (eL) l3, e4, wkOf ?_, ?_⟩
  ·subst hGD hLEN hA
   exact app_bs (pl_encLabel) hl3 (Nat.le_refl _)
  cbv
  injection h with h
  subst h
  refine ⟨(sp 8 [(2, .c (.os 64000 0 (LEN l3)))] [(64000, .arr .rw [] (LEN l3) 4 (row GD (eL) l3))]), ?_, ?_⟩
  ·refine St.le_trans (le_ren 320 64000 (by decide) rfl) ?_
   exact lsp rfl zl1 ⟨oS, tv⟩ rfl
  ·exact ⟨lR _, ⟨oS, tv⟩, rfl⟩
set_option maxHeartbeats 4000000
/-- impl.Instance] -/
def Fq83 (a0 : List TI) : Option (List TI) :=
 nilB (len a0)
 (some ([] : List TI))
 (letO ([] : List TI) fun l1 =>
 req (std.room (std.nadd (len l1) (len a0)) 64) <|
 letO (l1 ++ a0) fun l3 =>
 some l3)
theorem runq83 (a0 : List TI) (r : List TI) (h : Fq83 a0 = some r) : Fun Tryz.prog 228 [.c (.bs (len a0) 8 (row gd (eI) a0))] [] (.c (.os 64000 0 (len r))) [(64000, .arr .rw [] (len r) 8 (row gd (eI) r))] true := by
 refine Fun.of_wp (oneOf []) tok mixed Tryz.func228 (by kernel_rfl) rfl Tryz.ntmps228 rfl trivial (fun _ => ⟨trivial, ⟨fun i _ j _ => val_flat (vl_encInstance _ _), tv⟩⟩) ?_
 unfold Fq83 at h
 generalize hLEN : @len = LEN, hGD : @gd = GD, hA : std = A, hP : Tryz.prog = P at *
 cbv
 replace h := of_nilB h
 obtain ⟨h, hz7⟩ := h
 refine And.intro (fun hn6 => ?_) ?_
 ·have h := hz7 hn6
  clear hz7
  cbv
  injection h with h
  subst h
  refine ⟨(sp 8 [(2, .c (.os 64000 0 (LEN ([] : List TI))))] [(64000, .arr .rw [] (LEN ([] : List TI)) 8 (row GD (eI) ([] : List TI)))]), ?_, ?_⟩
  ·refine St.le_trans (le_nilT 2 64000 8 (row GD (eI) ([] : List TI)) (by decide) rfl) ?_
   subst hLEN
   exact lsp rfl zl1 ⟨oS, tv⟩ rfl
  ·subst hLEN
   exact ⟨lR _, ⟨oS, tv⟩, rfl⟩
 ·clear hz7
  cbv
  replace h := ol h
  obtain ⟨l1, hl1, h⟩ := h
  have e2 : 0 = LEN l1 := by subst hl1 hLEN; rfl
  refine ⟨_, congrArg (fun n => AV.c (AC.os 320 0 n)) e2, _, row GD (eI) l1, e2, wkOf ?_, ?_⟩
  ·intro i hi j hj
   rw [<- e2] at hi
   subst hl1
   subst hGD
   omega
  cbv
  replace h := oq_ h
  obtain ⟨c5, h⟩ := h
  replace h := ol h
  obtain ⟨l3, hl3, h⟩ := h
  have e4 : A.nadd (LEN l1) (LEN a0) = LEN l3 := by subst hl3 hLEN hA; simp [std, len]
  refine ⟨c5, _, congrArg (fun n => AV.c (AC.os 320 0 n)) e4, _, row GD (eI) l3, e4, wkOf ?_, ?_⟩
  ·subst hGD hLEN hA
   exact app_bs (pl_encInstance) hl3 (Nat.le_refl _)
  cbv
  injection h with h
  subst h
  refine ⟨(sp 8 [(2, .c (.os 64000 0 (LEN l3)))] [(64000, .arr .rw [] (LEN l3) 8 (row GD (eI) l3))]), ?_, ?_⟩
  ·refine St.le_trans (le_ren 320 64000 (by decide) rfl) ?_
   exact lsp rfl zl1 ⟨oS, tv⟩ rfl
  ·exact ⟨lR _, ⟨oS, tv⟩, rfl⟩

/-- impl.copyCell -/
def Fq59 (a0 : TC) : Option (TC) :=
 (Fq71 a0.fS).bind fun y1 =>
 (Fq68 a0.fL).bind fun y3 =>
 (Fq83 a0.fI).bind fun y5 =>
 some (TC.mk a0.fN y1 y3 y5)
theorem runq59 (a0 : TC) (r : TC) (h : Fq59 a0 = some r) : Fun Tryz.prog 149 [.agg [ws a0.fN, .bs (len a0.fS) 5 (row gd (eS) a0.fS), .bs (len a0.fL) 4 (row gd (eL) a0.fL), .bs (len a0.fI) 8 (row gd (eI) a0.fI)]] [] (.agg [ws r.fN, .os 64000 0 (len r.fS), .os 64002 0 (len r.fL), .os 64004 0 (len r.fI)]) [(64000, .arr .rw [] (len r.fS) 5 (row gd (eS) r.fS)), (64002, .arr .rw [] (len r.fL) 4 (row gd (eL) r.fL)), (64004, .arr .rw [] (len r.fI) 8 (row gd (eI) r.fI))] true := by
 refine Fun.of_wp (oneOf []) tok mixed Tryz.func149 (by kernel_rfl) rfl Tryz.ntmps149 rfl trivial (fun _ => ⟨(by simp [AV.flat, AV.flat1, AC.flat]), ⟨fun i _ j _ => val_flat (vl_encShape _ _), fun i _ j _ => val_flat (vl_encLabel _ _), fun i _ j _ => val_flat (vl_encInstance _ _), tv⟩⟩) ?_
 unfold Fq59 at h
 have hfq83 := @runq83
 have hfq68 := @runq68
 have hfq71 := @runq71
 generalize hLEN : @len = LEN, hGD : @gd = GD, hA : std = A, hP : Tryz.prog = P at *
 cbv
 replace h := ob_ h
 obtain ⟨y1, hy2, h⟩ := h
 refine ⟨⟨_, _, _, _, _, [], [(64000, 448)]⟩, hfq71 _ _ hy2, ⟨zs1, trivial, rfl, rfl, rfl, rfl, ⟨evn 64000 rfl, tv⟩, rfl⟩, _, rfl, _, _, rfl, fun _ _ _ _ => .refl _, ?_⟩
 cbv
 replace h := ob_ h
 obtain ⟨y3, hy4, h⟩ := h
 refine ⟨⟨_, _, _, _, _, [], [(64000, 640)]⟩, hfq68 _ _ hy4, ⟨zs1, trivial, rfl, rfl, rfl, rfl, ⟨evn 64000 rfl, tv⟩, rfl⟩, _, rfl, _, _, rfl, fun _ _ _ _ => .refl _, ?_⟩
 cbv
 replace h := ob_ h
 obtain ⟨y5, hy6, h⟩ := h
 refine ⟨⟨_, _, _, _, _, [], [(64000, 832)]⟩, hfq83 _ _ hy6, ⟨zs1, trivial, rfl, rfl, rfl, rfl, ⟨evn 64000 rfl, tv⟩, rfl⟩, _, rfl, _, _, rfl, fun _ _ _ _ => .refl _, ?_⟩
 cbv
 injection h with h
 subst h
 refine ⟨(sp 15 [(2, .c (.ptr 128 0))] [(128, .var [ws a0.fN, .os 64000 0 (LEN y1), .os 64002 0 (LEN y3), .os 64004 0 (LEN y5)]), (64000, .arr .rw [] (LEN y1) 5 (row GD (eS) y1)), (64002, .arr .rw [] (LEN y3) 4 (row GD (eL) y3)), (64004, .arr .rw [] (LEN y5) 8 (row GD (eI) y5))]), ?_, ?_⟩
 ·refine St.le_trans (le_ren 448 64000 (by decide) rfl) ?_
  refine St.le_trans (le_ren 640 64002 (by decide) rfl) ?_
  refine St.le_trans (le_ren 832 64004 (by decide) rfl) ?_
  exact lsp rfl zl1 ⟨rfl, oS, oS, oS, tv⟩ rfl
 ·exact ⟨lR _, ⟨oS, oS, oS, tv⟩, rfl⟩

def Lq21_x3 (a0 : TL) : (Int × (List TC)) -> Option ((Int × (List TC)) ⊕ (((List TC)))) := fun x3 =>
 letO x3.1 fun v1 =>
 letO x3.2 fun v2 =>
 br (std.lt v1 (std.ofN (len a0.fC)))
 (req (std.inR v1 (len a0.fC)) <|
 ((
 (Fq59 (gd a0.fC (std.toN v1))).bind fun y23 =>
 letO ([y23] : List TC) fun l25 =>
 req (std.room (std.nadd (len v2) (len l25)) 88) <|
 letO (v2 ++ l25) fun l27 =>
 some l27
 ) : Option ((List TC))).bind fun y16 =>
 letO y16 fun w22 =>
 some (.inl (std.add .i64 v1 1, w22)))
 (some (.inr v2))
/-- impl.copyLibrary -/
def Fq21 (a0 : TL) : Option (TL) :=
 (whileP (σ := Int × (List TC)) (ρ := ((List TC))) (Lq21_x3 a0) (0, ([] : List TC))).bind fun y4 =>
 letO y4 fun y4k0 =>
 letO y4k0 fun w31 =>
 some (TL.mk w31)
theorem runq21 (a0 : TL) (r : TL) (h : Fq21 a0 = some r) : Fun Tryz.prog 85 [.agg [.bs (len a0.fC) 4 (row gd (eC len gd) a0.fC)]] [] (.agg [.os 64000 0 (len r.fC)]) [(64000, .arr .rw [] (len r.fC) 4 (row gd (oC len gd) r.fC))] true := by
 refine Fun.of_wp (oneOf [5]) tok mixed Tryz.func85 (by kernel_rfl) rfl Tryz.ntmps85 rfl trivial (fun _ => ⟨(by simp [AV.flat, AV.flat1, AC.flat]), ⟨fun i _ j _ => fl_oncCell _ _, tv⟩⟩) ?_
 unfold Fq21 at h
 unfold Lq21_x3 at h
 have hfq59 := @runq59
 generalize hLEN : @len = LEN, hGD : @gd = GD, hA : std = A, hP : Tryz.prog = P at *
 cbv
 replace h := ob_ h
 obtain ⟨y4, hr5, hN6⟩ := h
 refine loop_cut hr5 (fun x => (sp 23 [(2, .c (.ptr 128 0)), (3, .c (.ptr 192 0)), (8, .c (.bs (LEN a0.fC) 4 (row GD (eC LEN GD) a0.fC))), (9, .c (wi (A.ofN (LEN a0.fC)))), (10, .c (wi x.1))] [(128, .var [.v (.slice none 0 0)]), (192, .var [.os 1216 0 (LEN x.2)]), (1216, .arr .rw [] (LEN x.2) 4 (row GD (oC LEN GD) x.2))])) ?_ (fun y e s => (fun (w : (List TC)) => e = .exit 0 /\ s.le (sp 23 [(2, .c (.ptr 128 0)), (3, .c (.ptr 192 0))] [(128, .var [.v (.slice none 0 0)]), (192, .var [.os 1216 0 (LEN w)]), (1216, .arr .rw [] (LEN w) 4 (row GD (oC LEN GD) w))])) y) ?_ ?_
 ·clear hr5 hN6
  show St.le _ _
  refine St.le_trans (le_nilV 192 0 1216 4 (row GD (oC LEN GD) ([] : List TC)) (by decide) (by decide) rfl rfl) ?_
  subst hLEN
  exact lsp rfl zl5 ⟨rfl, rfl, oS, tv⟩ rfl
 ·clear hr5 hN6
  intro x z10 h K8 hK9 hY7
  obtain ⟨x0_, x1_⟩ := x
  replace h := ol h
  obtain ⟨v1, hv1, h⟩ := h
  have hv1 : v1 = x0_ := hv1
  subst hv1
  replace h := ol h
  obtain ⟨v2, hv2, h⟩ := h
  have hv2 : v2 = x1_ := hv2
  subst hv2
  cbv
  refine fork (fun b30 => ?_) (fun b30 => ?_)
  ·replace h := ot b30 h
   cbv
   replace h := oq_ h
   obtain ⟨c15, h⟩ := h
   refine ⟨⟨c15, tv⟩, ?_⟩
   replace h := ob_ h
   obtain ⟨y16, hy17, h⟩ := h
   obtain ⟨S20, hS21⟩ : ∃ S, S = (sp 23 [(2, .c (.ptr 128 0)), (3, .c (.ptr 192 0)), (8, .c (.bs (LEN a0.fC) 4 (row GD (eC LEN GD) a0.fC))), (9, .c (wi (A.ofN (LEN a0.fC)))), (10, .c (wi v1))] [(128, .var [.v (.slice none 0 0)]), (192, .var [.os 1216 0 (LEN y16)]), (1216, .arr .rw [] (LEN y16) 4 (row GD (oC LEN GD) y16))]) := ⟨_, rfl⟩
   refine ⟨S20, ?_, ?_⟩
   ·clear h
    have h := hy17
    clear hy17
    cbv
    replace h := ob_ h
    obtain ⟨y23, hy24, h⟩ := h
    refine ⟨⟨_, _, _, _, _, [], [(64000, 1088), (64002, 1090), (64004, 1092)]⟩, hfq59 _ _ hy24, ⟨zs1, trivial, rfl, rfl, rfl, rfl, ⟨evn 64000 rfl, evn 64002 rfl, evn 64004 rfl, tv⟩, rfl⟩, _, rfl, _, _, rfl, fun _ _ _ _ => .refl _, _, _, rfl, fun _ _ _ _ => .refl _, _, _, rfl, fun _ _ _ _ => .refl _, ?_⟩
    cbv
    replace h := ol h
    obtain ⟨l25, hl25, h⟩ := h
    have e26 : 1 = LEN l25 := by subst hl25 hLEN; rfl
    refine ⟨_, congrArg (fun n => AV.c (AC.os 1152 0 n)) e26, _, (pC (fun _ _ => AC.junk) 0 [ws y23.fN, .os 1088 0 (LEN y23.fS), .os 1090 0 (LEN y23.fL), .os 1092 0 (LEN y23.fI)]), e26, wkOf ?_, ?_⟩
    ·refine patch_one (by subst hl25 hLEN; rfl) ?_
     intro j hj
     match j, hj with | 0, _ => (rfl) | 1, _ => (rfl) | 2, _ => (rfl) | 3, _ => (rfl) | (j_ + 4), h_ => omega
    cbv
    replace h := oq_ h
    obtain ⟨c29, h⟩ := h
    replace h := ol h
    obtain ⟨l27, hl27, h⟩ := h
    have e28 : A.nadd (LEN v2) (LEN l25) = LEN l27 := by subst hl27 hLEN hA; simp [std, len]
    refine ⟨c29, _, congrArg (fun n => AV.c (AC.os 1216 0 n)) e28, _, (pC (row GD (oC LEN GD) v2) (LEN v2) [ws y23.fN, .os 1088 0 (LEN y23.fS), .os 1090 0 (LEN y23.fL), .os 1092 0 (LEN y23.fI)]), e28, wkOf ?_, ?_⟩
    ·subst hLEN hA
     refine patch_joinG (by first | (rw [hl27]; simp [len]; done) | (rw [hl27]; simp [len]; omega) | (subst_vars; simp [len])) ?_
     intro j hj
     match j, hj with | 0, _ => (rfl) | 1, _ => (rfl) | 2, _ => (rfl) | 3, _ => (rfl) | (j_ + 4), h_ => omega
    cbv
    rw [hl25] at hl27
    injection h with h
    subst h
    subst hS21
    refine St.le_trans (le_foldP 1216 1 1088 rfl rfl rfl (by decide) (by subst hLEN; exact app_lt hl27) (by decide) rfl (fun _ _ => rC _ _)) ?_
    refine St.le_trans (le_foldP 1216 2 1090 rfl rfl rfl (by decide) (by subst hLEN; exact app_lt hl27) (by decide) rfl (fun _ _ => rC _ _)) ?_
    refine St.le_trans (le_foldP 1216 3 1092 rfl rfl rfl (by decide) (by subst hLEN; exact app_lt hl27) (by decide) rfl (fun _ _ => rC _ _)) ?_
    exact lsp rfl zl5 ⟨rfl, rfl, ⟨fun hw => hw, fun c hc => (by cases hc), .inr (fun i _ j _ z hz => (noref (rC _ _) hz).elim), rfl, rfl, (by subst hGD hLEN hA; exact patch_app hl27 (Nat.le_refl _) (by intro j hj; match j, hj with | 0, _ => rfl | 1, _ => rfl | 2, _ => rfl | 3, _ => rfl | (j_ + 4), h_ => omega))⟩, tv⟩ rfl
   ·clear hy17
    subst hS21
    replace h := ol h
    obtain ⟨w22, hw22, h⟩ := h
    have hw22 : w22 = y16 := hw22
    subst hw22
    cbv
    injection h with h
    refine hK9 _ h.symm _ ?_
    exact lsp rfl zl5 ⟨rfl, rfl, oS, tv⟩ rfl
  ·replace h := og b30 h
   cbv
   injection h with h
   refine hY7 _ h.symm _ _ (And.intro rfl ?_) (by intro hh; cases hh)
   exact lsp rfl zl2 ⟨rfl, rfl, oS, tv⟩ rfl
 ·clear hr5
  have h := hN6
  clear hN6
  intro e13 s14 q12 hne
  replace h := ol h
  obtain ⟨y4k0, hyk, h⟩ := h
  have hyk : y4k0 = y4 := hyk
  subst hyk
  obtain ⟨rfl, q12⟩ := q12
  replace h := ol h
  obtain ⟨w31, hw31, h⟩ := h
  have hw31 : w31 = y4k0 := hw31
  subst hw31
  cbv
  refine ⟨_, q12, ?_⟩
  cbv
  injection h with h
  subst h
  refine ⟨(sp 23 [(2, .c (.ptr 128 0))] [(128, .var [.os 64000 0 (LEN w31)]), (64000, .arr .rw [] (LEN w31) 4 (row GD (oC LEN GD) w31))]), ?_, ?_⟩
  ·refine St.le_trans (le_ren 1216 64000 (by decide) rfl) ?_
   exact lsp rfl zl1 ⟨rfl, oS, tv⟩ rfl
  ·exact ⟨lR _, ⟨oS, tv⟩, rfl⟩

section
open Go.RowKit Go.Lib
set_option maxRecDepth 1000000 in
theorem ins_shift_slices_Insert_Limpl_Cell_impl_Cell_mobo (b off n c i vb voff m vc : Nat) (cs vs : List Value) (w : World) (hi : i < n) (hm : 0 < m) (hroom : n + m <= c) (hc63 : n + m <= 9223372036854775807) (hvb : vb ≠ b)
  (hcl : cs.length = n * 4) (hvl : vs.length = m * 4)
  (hcs : ∀ j v, cs[j]? = some v -> w.cell? ⟨b, off + j, none⟩ = some v) (hsp : ∀ j, j < (n + m) * 4 -> (w.cell? ⟨b, off + j, none⟩).isSome = true) (hfz : ∀ j, j < (n + m) * 4 -> w.frozen? ⟨b, off + j, none⟩ = false)
  (hvs : ∀ j v, vs[j]? = some v -> w.cell? ⟨vb, voff + j, none⟩ = some v) (h1c : ∀ v ∈ cs, v.oneCell' = true) (h1v : ∀ v ∈ vs, v.oneCell' = true)
  (tA tB : TypeId) (kA kB : Nat) (hsa : w.shape? vb = some (tA, kA)) (hsb : w.shape? b = some (tB, kB)) (hkB : kB ≠ 0) (hfa : w.frozen? ⟨vb, voff, none⟩ = false) (hfe : w.frozen? ⟨vb, kA, none⟩ = false) :
  Calls Tryz.prog 118 #[.slice (some ⟨b, off, none⟩) n c, .int .i64 i, .slice (some ⟨vb, voff, none⟩) m vc] w fun e w' =>
   e = .returned (.slice (some ⟨b, off, none⟩) (n + m) c) /\ w' = (w.drew.setCells b (off + (i + m) * 4) (cs.drop (i * 4))).setCells b (off + i * 4) vs := by
 have tSl : Tryz.prog.underlying 41 = some (.slice 149) := by kernel_rfl
 have hz1 : ¬ ((m : Int) = 0) := by omega
 have hz2 : ¬ ((i : Int) = (n : Int)) := by omega
 have hsz : (Tryz.prog.info? 149).map (·.size) = some 4 := by kernel_rfl
 have hov : ∀ lb cb, (callFunc 196 #[.slice (some ⟨vb, voff, none⟩) m vc, .slice (some ⟨b, off + (i + m) * 4, none⟩) lb cb]).run Tryz.prog w = .ok (.value (.bool false)) w := fun lb cb => by
  rw [run_callFunc_extern Tryz.func196 (by kernel_rfl) (by kernel_rfl) (by kernel_rfl) (e := Extern.SlicesOverlaps.overlaps #[41, 41] #[4]) (by kernel_rfl),
   Lib.run_overlaps_apart w 41 4 149 tSl 4 (fun w => run_sizeOf tok (show T 149 = some d149 from rfl)) ⟨vb, voff, none⟩ ⟨b, off + (i + m) * 4, none⟩ m vc lb cb hvb tA tB kA kB hsa hsb hkB hfa hfe]
  rfl
 have hdl : (cs.drop (i * 4)).length = (n - i) * 4 := by rw [List.length_drop, hcl, Nat.sub_mul]
 have mixed : Tryz.prog.follows .mixedOrders = true := by kernel_rfl
 have hw1 : IntKind.i64.wrap ((i : Int) + (m : Int)) = (i : Int) + (m : Int) := by rw [IntKind.wrap_i64]; omega
 have hb1 : (0 : Int) <= (i : Int) + (m : Int) := by omega
 have hin : i <= n := by omega
 have htn : ((i : Int) + (m : Int)).toNat = i + m := by omega
 have hb2 : ¬ (c = i + m) := by omega
 have hb3 : (i : Int) <= (n : Int) + (m : Int) := by omega
 have hb4 : ¬ (c = i) := by omega
 have hcp1 : ∀ ty dc sc, (Builtin.copy_ #[41, 41] ty #[.slice (some ⟨b, off + (i + m) * 4, none⟩) (n + m - (i + m)) dc, .slice (some ⟨b, off + i * 4, none⟩) (n + m - i) sc]).run Tryz.prog w.drew = .ok (goInt (Nat.min (n + m - i) (n + m - (i + m)))) (w.drew.setCells b (off + (i + m) * 4) (cs.drop (i * 4))) := fun ty dc sc =>
  run_copy_cellsN 4 w.drew _ _ ty 149 b (off + (i + m) * 4) (n + m - (i + m)) dc ⟨b, off + i * 4, none⟩ (n + m - i) sc (cs.drop (i * 4)) tSl hsz (by rw [hdl, show Nat.min (n + m - i) (n + m - (i + m)) = n - i by simp only [Nat.min_def]; split <;> omega])
   (fun j v hj => by rw [Addr.add_lit, Nat.add_assoc]; exact hcs (i * 4 + j) v (by rwa [List.getElem?_drop] at hj))
   (fun j hj => by rw [Nat.add_assoc]; exact hsp _ (by omega)) (fun j hj => by rw [Nat.add_assoc]; exact hfz _ (by omega)) (fun v hv => h1c v (List.mem_of_mem_drop hv))
 obtain ⟨W1, hW1⟩ : ∃ W1, W1 = w.drew.setCells b (off + (i + m) * 4) (cs.drop (i * 4)) := ⟨_, rfl⟩
 have hsp1 : ∀ k, k < (n + m) * 4 -> (W1.cell? ⟨b, off + k, none⟩).isSome = true := fun k hk => by
  rw [hW1]
  exact isSome_setCells b _ _ _ (fun j hj => by rw [Nat.add_assoc]; exact hsp _ (by omega)) _ (hsp k hk)
 have hcp2 : ∀ (W : World), (∀ x, W.cell? x = W1.cell? x) -> (∀ x, W.frozen? x = W1.frozen? x) -> ∀ ty dc, (Builtin.copy_ #[41, 41] ty #[.slice (some ⟨b, off + i * 4, none⟩) (n + m - i) dc, .slice (some ⟨vb, voff, none⟩) m vc]).run Tryz.prog W = .ok (goInt (Nat.min m (n + m - i))) (W.setCells b (off + i * 4) vs) := fun W hWc hWf ty dc =>
  run_copy_cellsN 4 W _ _ ty 149 b (off + i * 4) (n + m - i) dc ⟨vb, voff, none⟩ m vc vs tSl hsz (by rw [hvl, show Nat.min m (n + m - i) = m by simp only [Nat.min_def]; split <;> omega])
   (fun j v hj => by
    rw [Addr.add_lit, hWc, hW1, World.cell?_setCells_out b _ _ _ _ (fun h _ => absurd h hvb)]
    exact hvs j v hj)
   (fun j hj => by rw [hWc, Nat.add_assoc]; exact hsp1 _ (by omega)) (fun j hj => by rw [hWf, hW1, World.frozen?_setCells, Nat.add_assoc]; exact hfz _ (by omega)) h1v
 rw [<- hW1] at hcp1
 clear hsp hfz hcs hvs h1c h1v
 go_enter Tryz.func118, Tryz.ntmps118
 go_wp2_with (simp only [hov])
 go_region_law_o (refine step_copy_runI rfl _ _ 41 41 rfl _ _ (by simp [Act.eval, Act.put]) (by simp [Act.eval, Act.put]) (hcp1 _ _ _) ?_)
 go_wp2_with (at_builtin; refine wpList_copy_runI _ rfl _ _ 41 41 rfl _ _ rfl rfl (hcp2 _ (fun _ => rfl) (fun _ => rfl) _ _) ?_)
 go_ret
 first | exact ⟨rfl, rfl⟩ | exact ⟨rfl, by rw [hW1]⟩
set_option maxRecDepth 1000000 in
theorem ins_end_room_slices_Insert_Limpl_Cell_impl_Cell_mobo (b off n c vb voff m vc : Nat) (vs : List Value) (w : World) (hm : 0 < m) (hroom : n + m <= c) (hc63 : n + m <= 9223372036854775807)
  (hvl : vs.length = m * 4) (hsp : ∀ j, j < m * 4 -> (w.cell? ⟨b, off + n * 4 + j, none⟩).isSome = true) (hfz : ∀ j, j < m * 4 -> w.frozen? ⟨b, off + n * 4 + j, none⟩ = false)
  (hvs : ∀ j v, vs[j]? = some v -> w.cell? ⟨vb, voff + j, none⟩ = some v) (h1v : ∀ v ∈ vs, v.oneCell' = true) :
  Calls Tryz.prog 118 #[.slice (some ⟨b, off, none⟩) n c, .int .i64 n, .slice (some ⟨vb, voff, none⟩) m vc] w fun e w' =>
   e = .returned (.slice (some ⟨b, off, none⟩) (n + m) c) /\ w' = w.setCells b (off + n * 4) vs := by
 have tSl : Tryz.prog.underlying 41 = some (.slice 149) := by kernel_rfl
 have mixed : Tryz.prog.follows .mixedOrders = true := by kernel_rfl
 have hI : (Tryz.prog.info? 149).map (·.size) = some 4 := by kernel_rfl
 obtain ⟨i0, hi0, hz5⟩ : ∃ i0, Tryz.prog.info? 149 = some i0 /\ i0.size = 4 := by
  cases h : Tryz.prog.info? 149 with
  | none => rw [h] at hI; cases hI
  | some i0 => rw [h] at hI; exact ⟨i0, rfl, by injection hI⟩
 have hz1 : ¬ ((m : Int) = 0) := by omega
 have hsrc : Src Tryz.prog i0.size 41 (.slice (some ⟨vb, voff, none⟩) m vc) m vs w := Src.ofSlice w tSl ⟨vb, voff, none⟩ m vc vs (by rw [hz5]; exact hvl) (fun j u hj => by rw [Addr.add_lit]; exact hvs j u hj) h1v
 have s1 : Hid (∀ j, j < vs.length -> (w.cell? ⟨b, off + n * i0.size + j, none⟩).isSome = true) := by rw [hvl, hz5]; exact hsp
 have s2 : Hid (∀ j, j < vs.length -> w.frozen? ⟨b, off + n * i0.size + j, none⟩ = false) := by rw [hvl, hz5]; exact hfz
 clear hsp hfz hvs
 go_enter Tryz.func118, Tryz.ntmps118
 go_wp2_with (at_builtin; refine wpList_append_room_src _ rfl _ _ 41 41 rfl 149 i0 tSl hi0 b off n c rfl _ rfl m vs hsrc hroom s1.out s2.out ?_)
 go_ret
 exact ⟨rfl, rfl⟩
set_option maxRecDepth 1000000 in
theorem ins_end_grow_slices_Insert_Limpl_Cell_impl_Cell_mobo (base : Option Addr) (n c vb voff m vc : Nat) (cs vs : List Value) (w : World) (hm : 0 < m) (hnc : n <= c) (hroom : c < n + m) (hbig : (n + m) * 88 <= 140737488355328)
  (hcl : cs.length = n * 4) (hvl : vs.length = m * 4) (hnil : base = none -> n = 0)
  (hcs : ∀ a, base = some a -> ∀ j v, cs[j]? = some v -> w.cell? (a.add j) = some v)
  (hvs : ∀ j v, vs[j]? = some v -> w.cell? ⟨vb, voff + j, none⟩ = some v) (h1v : ∀ v ∈ vs, v.oneCell' = true) :
  Calls Tryz.prog 118 #[.slice base n c, .int .i64 n, .slice (some ⟨vb, voff, none⟩) m vc] w fun e w' =>
   e = .returned (.slice (some ⟨w.heap.size, 0, none⟩) (n + m) (grownCap w (n + m) c 149)) /\
   w' = w.drew.alloc (.cells ((cs ++ vs).toArray ++ Builtin.zeroCells d149.zero.cells (grownCap w (n + m) c 149 - (n + m))) 149) := by
 have tSl : Tryz.prog.underlying 41 = some (.slice 149) := by kernel_rfl
 have mixed : Tryz.prog.follows .mixedOrders = true := by kernel_rfl
 obtain ⟨i0, hi0, hzs, hzb, hz0⟩ := (tok 149 d149 rfl).2.1
 have hzs : i0.size = 4 := hzs
 have hzb : i0.bytes = 88 := hzb
 have hz1 : ¬ ((m : Int) = 0) := by omega
 have hsrc : Src Tryz.prog i0.size 41 (.slice (some ⟨vb, voff, none⟩) m vc) m vs w := Src.ofSlice w tSl ⟨vb, voff, none⟩ m vc vs (by rw [hzs]; exact hvl) (fun j u hj => by rw [Addr.add_lit]; exact hvs j u hj) h1v
 have hold : (Builtin.firstCells i0.size n (.slice base n c)).run Tryz.prog w.drew = .ok cs.toArray w.drew := by
  rw [hzs]
  cases base with
  | none =>
   have h0 := hnil rfl
   subst h0
   have hc0 : cs.length = 0 := by rw [hcl, Nat.zero_mul]
   rw [List.length_eq_zero_iff.1 hc0]
   exact run_firstCells_none w.drew 4 0 0 c
  | some a => exact run_firstCells_some w.drew 4 n a n c cs hcl (fun j v hj => hcs a rfl j v hj)
 have hrun : ∀ ty, (Builtin.append_ #[41, 41] ty #[.slice base n c, .slice (some ⟨vb, voff, none⟩) m vc]).run Tryz.prog w = _ := fun ty =>
  run_append_grow_src w 41 41 ty 149 i0 _ tSl hi0 hz0 base n c cs hold _ m vs hsrc hroom (by omega) (by rw [hzb]; exact growslice_fits hroom hbig)
 go_enter Tryz.func118, Tryz.ntmps118
 cases base with
 | none =>
  have h0 := hnil rfl
  subst h0
  go_wp2_with (at_builtin; refine Lib.wpList_append_run _ rfl _ _ _ _ rfl _ _ rfl rfl _ _ (hrun _) ?_)
  go_ret
  exact ⟨rfl, rfl⟩
 | some a =>
  obtain ⟨ab, ao, asp⟩ := a
  go_wp2_with (at_builtin; refine Lib.wpList_append_run _ rfl _ _ _ _ rfl _ _ rfl rfl _ _ (hrun _) ?_)
  all_goals (go_ret; exact ⟨rfl, rfl⟩)
set_option maxRecDepth 1000000 in
theorem ins_grow_slices_Insert_Limpl_Cell_impl_Cell_mobo (b off n c i vb voff m vc : Nat) (cs vs : List Value) (w : World) (hi : i < n) (hm : 0 < m) (hnc : n <= c) (hroom : c < n + m) (hbig : (n + m) * 88 <= 140737488355328)
  (hcl : cs.length = n * 4) (hvl : vs.length = m * 4)
  (hcs : ∀ j v, cs[j]? = some v -> w.cell? ⟨b, off + j, none⟩ = some v)
  (hvs : ∀ j v, vs[j]? = some v -> w.cell? ⟨vb, voff + j, none⟩ = some v) (h1c : ∀ v ∈ cs, v.oneCell' = true) (h1v : ∀ v ∈ vs, v.oneCell' = true) :
  Calls Tryz.prog 118 #[.slice (some ⟨b, off, none⟩) n c, .int .i64 i, .slice (some ⟨vb, voff, none⟩) m vc] w fun e w' =>
   e = .returned (.slice (some ⟨w.heap.size, 0, none⟩) (n + m) (grownCap w (n + m) c 149)) /\
   w' = (((w.alloc (.cells ((cs.take (i * 4)).toArray ++ Builtin.zeroCells d149.zero.cells (n + m - i) ++ Builtin.zeroCells d149.zero.cells (grownCap w (n + m) c 149 - (n + m))) 149)).drew.setCells w.heap.size (i * 4) vs).drew).setCells w.heap.size ((i + m) * 4) (cs.drop (i * 4)) := by
 have tSl : Tryz.prog.underlying 41 = some (.slice 149) := by kernel_rfl
 have t3 : Tryz.prog.underlying 3 = some (.int .i64) := by kernel_rfl
 have mixed : Tryz.prog.follows .mixedOrders = true := by kernel_rfl
 obtain ⟨i0, hi0, hzs, hzb, hz0⟩ := (tok 149 d149 rfl).2.1
 have hzs : i0.size = 4 := hzs
 have hzb : i0.bytes = 88 := hzb
 have hz5 : d149.zero.cells.size = 4 := by kernel_rfl
 have hz1 : ¬ ((m : Int) = 0) := by omega
 have hz2 : ¬ ((i : Int) = (n : Int)) := by omega
 have hz3 : (c : Int) < (n : Int) + (m : Int) := by omega
 have hsz : (Tryz.prog.info? 149).map (·.size) = some 4 := by rw [hi0]; simp [hzs]
 have hbw : b < w.heap.size := block_lt_of_cell (hcs 0 _ (List.getElem?_eq_getElem (by omega)))
 have hvw : vb < w.heap.size := block_lt_of_cell (hvs 0 _ (List.getElem?_eq_getElem (by omega)))
 have hkk : (n : Int) + (m : Int) - (i : Int) = ((n + m - i : Nat) : Int) := by omega
 have hik : i + (n + m - i) = n + m := by omega
 have htl : (cs.take (i * 4)).length = i * 4 := by rw [List.length_take, hcl]; omega
 have hold : (Builtin.firstCells i0.size i (.slice (some ⟨b, off, none⟩) i c)).run Tryz.prog w.drew = .ok (cs.take (i * 4)).toArray w.drew := by
  rw [hzs]
  exact run_firstCells_some w.drew 4 i ⟨b, off, none⟩ i c (cs.take (i * 4)) htl (fun j v hj => by
   rw [Addr.add_lit]
   rw [List.getElem?_take] at hj
   split at hj
   ·exact hcs j v hj
   ·cases hj)
 have hrz : ∀ ty, (Builtin.append_ #[41, 3] ty #[.slice (some ⟨b, off, none⟩) i c, .int .i64 ((n : Int) + (m : Int) - (i : Int))]).run Tryz.prog w =
   .ok (.slice (some ⟨w.heap.size, 0, none⟩) (n + m) (grownCap w (n + m) c 149)) (w.drew.alloc (.cells ((cs.take (i * 4)).toArray ++ Builtin.zeroCells d149.zero.cells (n + m - i) ++ Builtin.zeroCells d149.zero.cells (grownCap w (n + m) c 149 - (n + m))) 149)) := fun ty => by
  have h := Lib.run_append_grow_zeros w 41 3 ty 149 i0 _ .i64 .i64 tSl t3 hi0 hz0 (some ⟨b, off, none⟩) i c (cs.take (i * 4)) hold (n + m - i) (by omega) (by omega) (by omega) (by omega) (by rw [hzb]; omega) (by rw [hzb, hik]; exact growslice_fits hroom hbig)
  rw [hik] at h
  rw [hkk]
  exact h
 obtain ⟨G, hG⟩ : ∃ G, G = grownCap w (n + m) c 149 := ⟨_, rfl⟩
 obtain ⟨ROW, hROW⟩ : ∃ ROW : Array Value, ROW = (cs.take (i * 4)).toArray ++ Builtin.zeroCells d149.zero.cells (n + m - i) ++ Builtin.zeroCells d149.zero.cells (G - (n + m)) := ⟨_, rfl⟩
 rw [<- hG] at hrz ⊢
 rw [<- hROW] at hrz ⊢
 have hRl : (n + m) * 4 <= ROW.size := by
  rw [hROW, Array.size_append, Array.size_append, size_zeroCells, size_zeroCells, hz5, List.size_toArray, htl]
  omega
 obtain ⟨W1, hW1⟩ : ∃ W1, W1 = w.drew.alloc (.cells ROW 149) := ⟨_, rfl⟩
 rw [<- hW1] at hrz
 have hN : ∀ j, j < (n + m) * 4 -> (W1.cell? ⟨w.heap.size, j, none⟩).isSome = true := fun j hj => by
  rw [hW1, World.cell?_alloc_at (w := w.drew) ROW _ w.heap.size j rfl, Array.getElem?_eq_getElem (by omega)]; rfl
 have hNf : ∀ j, W1.frozen? ⟨w.heap.size, j, none⟩ = false := fun j => by rw [hW1]; exact World.frozen?_alloc_at (w := w.drew) ROW _ w.heap.size j rfl
 have hOb : ∀ j v, w.cell? ⟨b, j, none⟩ = some v -> W1.cell? ⟨b, j, none⟩ = some v := fun j v h => by rw [hW1, World.cell?_alloc_past (w := w.drew) _ b j hbw]; exact h
 have hOv : ∀ j v, w.cell? ⟨vb, j, none⟩ = some v -> W1.cell? ⟨vb, j, none⟩ = some v := fun j v h => by rw [hW1, World.cell?_alloc_past (w := w.drew) _ vb j hvw]; exact h
 have hcpA : ∀ (W : World), (∀ x, W.cell? x = W1.cell? x) -> (∀ x, W.frozen? x = W1.frozen? x) -> ∀ ty dc, (Builtin.copy_ #[41, 41] ty #[.slice (some ⟨w.heap.size, i * 4, none⟩) (n + m - i) dc, .slice (some ⟨vb, voff, none⟩) m vc]).run Tryz.prog W = .ok (goInt (Nat.min m (n + m - i))) (W.setCells w.heap.size (i * 4) vs) := fun W hWc hWf ty dc =>
  run_copy_cellsN 4 W _ _ ty 149 w.heap.size (i * 4) (n + m - i) dc ⟨vb, voff, none⟩ m vc vs tSl hsz (by rw [hvl, show Nat.min m (n + m - i) = m by simp only [Nat.min_def]; split <;> omega])
   (fun j v hj => by rw [Addr.add_lit, hWc]; exact hOv _ v (hvs j v hj))
   (fun j hj => by rw [hWc]; exact hN _ (by omega)) (fun j hj => by rw [hWf]; exact hNf _) h1v
 have hGn : n + m <= G := by rw [hG]; exact grownCap_ge w _ _ _
 have hG63 : G <= 9223372036854775807 := by
  have := grownCap_le_maxLen w (n + m) c 149 (by unfold maxLen; omega)
  rw [<- hG] at this
  unfold maxLen at this
  omega
 have hGi : ¬ (G = i) := by omega
 have hGim : ¬ (G = i + m) := by omega
 have hci : ¬ (c = i) := by omega
 have hbN : b ≠ w.heap.size := by omega
 have hdl : (cs.drop (i * 4)).length = (n - i) * 4 := by rw [List.length_drop, hcl, Nat.sub_mul]
 have hcpB : ∀ (W : World), (∀ x, W.cell? x = (W1.setCells w.heap.size (i * 4) vs).cell? x) -> (∀ x, W.frozen? x = (W1.setCells w.heap.size (i * 4) vs).frozen? x) -> ∀ ty dc sc, (Builtin.copy_ #[41, 41] ty #[.slice (some ⟨w.heap.size, (i + m) * 4, none⟩) (n + m - (i + m)) dc, .slice (some ⟨b, off + i * 4, none⟩) (n - i) sc]).run Tryz.prog W = .ok (goInt (Nat.min (n - i) (n + m - (i + m)))) (W.setCells w.heap.size ((i + m) * 4) (cs.drop (i * 4))) := fun W hWc hWf ty dc sc =>
  run_copy_cellsN 4 W _ _ ty 149 w.heap.size ((i + m) * 4) (n + m - (i + m)) dc ⟨b, off + i * 4, none⟩ (n - i) sc (cs.drop (i * 4)) tSl hsz (by rw [hdl, show Nat.min (n - i) (n + m - (i + m)) = n - i by simp only [Nat.min_def]; split <;> omega])
   (fun j v hj => by
    rw [Addr.add_lit, hWc, World.cell?_setCells_out _ _ _ _ _ (fun h _ => absurd h hbN), Nat.add_assoc]
    exact hOb _ v (hcs (i * 4 + j) v (by rwa [List.getElem?_drop] at hj)))
   (fun j hj => by rw [hWc]; exact isSome_setCells _ _ _ _ (fun t ht => hN _ (by omega)) _ (hN _ (by omega)))
   (fun j hj => by rw [hWf, World.frozen?_setCells]; exact hNf _) (fun v hv => h1c v (List.mem_of_mem_drop hv))
 subst hW1
 have hE1 : ∀ x, ((w.alloc (.cells ROW 149)).drew).cell? x = (w.drew.alloc (.cells ROW 149)).cell? x := fun x => rfl
 have hE2 : ∀ x, ((w.alloc (.cells ROW 149)).drew).frozen? x = (w.drew.alloc (.cells ROW 149)).frozen? x := fun x => rfl
 have hF1 : ∀ x, (((w.alloc (.cells ROW 149)).drew.setCells w.heap.size (i * 4) vs).drew).cell? x = ((w.drew.alloc (.cells ROW 149)).setCells w.heap.size (i * 4) vs).cell? x := fun x => rfl
 have hF2 : ∀ x, (((w.alloc (.cells ROW 149)).drew.setCells w.heap.size (i * 4) vs).drew).frozen? x = ((w.drew.alloc (.cells ROW 149)).setCells w.heap.size (i * 4) vs).frozen? x := fun x => rfl
 have hw1 : IntKind.i64.wrap ((i : Int) + (m : Int)) = (i : Int) + (m : Int) := by rw [IntKind.wrap_i64]; omega
 have hb1 : (0 : Int) <= (i : Int) + (m : Int) := by omega
 have hin : i <= n := by omega
 have htn : ((i : Int) + (m : Int)).toNat = i + m := by omega
 have hb3 : (i : Int) <= (n : Int) := by omega
 clear hkk hik hold hROW hG hRl hcs hvs h1c h1v hN hNf hOb hOv htl hdl
 go_enter Tryz.func118, Tryz.ntmps118
 go_wp2_with (first
  | (at_builtin; refine Lib.wpList_append_run _ rfl _ _ _ _ rfl _ _ rfl rfl _ _ (hrz _) ?_)
  | (at_builtin; refine wpList_copy_runI _ rfl _ _ 41 41 rfl _ _ rfl rfl (hcpA _ hE1 hE2 _ _) ?_)
  | (at_builtin; refine wpList_copy_runI _ rfl _ _ 41 41 rfl _ _ rfl rfl (hcpB _ (fun _ => rfl) (fun _ => rfl) _ _ _) ?_))
 go_region_law_o (refine step_copy_runI rfl _ _ 41 41 rfl (.slice (some ⟨w.heap.size, (i + m) * 4, none⟩) (n + m - (i + m)) (G - (i + m))) (.slice (some ⟨b, off + i * 4, none⟩) (n - i) (c - i)) (by simp [Act.eval, Act.put]) (by simp [Act.eval, Act.put]) (hcpB _ hF1 hF2 3 (G - (i + m)) (c - i)) ?_)
 go_wp2
 go_ret
 exact ⟨rfl, rfl⟩
theorem calls_slices_Insert_Limpl_Cell_impl_Cell_mobo (old : Option (Nat × Nat)) (y : Value) (n cap i vb voff m vc : Nat) (cs vs : List Value) (w : World)
  (hold : (old = none /\ n = 0 /\ cap = 0 /\ ∃ ad, y = .slice ad 0 0) \/ ∃ b off C t, old = some (b, off) /\ y = .slice (some ⟨b, off, none⟩) n cap /\ n <= cap /\ w.heap[b]? = some (.cells C t (0, 0)) /\ off + cap * 4 <= C.size /\ (∀ (q : Nat) u, C[q]? = some u -> u.oneCell' = true) /\ (∀ q, q < n * 4 -> C[off + q]? = cs[q]?) /\ vb ≠ b)
  (hi : i <= n) (hm : 0 < m) (hbig : (n + m) * 88 <= 140737488355328) (hcl : cs.length = n * 4) (hvl : vs.length = m * 4) (hvb : ∃ C2 t2, w.heap[vb]? = some (.cells C2 t2 (0, 0)) /\ ∀ q, q < m * 4 -> C2[voff + q]? = vs[q]?) (h1c : ∀ u ∈ cs, u.oneCell' = true) (h1v : ∀ u ∈ vs, u.oneCell' = true) :
  Calls Tryz.prog 118 #[y, .int .i64 i, .slice (some ⟨vb, voff, none⟩) m vc] w (Inserted w old 4 (n + m) (cs.take (i * 4) ++ vs ++ cs.drop (i * 4))) := by
 obtain ⟨C2, t2, hC2, hvs⟩ := hvb
 have hvcell : ∀ j v, vs[j]? = some v -> w.cell? ⟨vb, voff + j, none⟩ = some v := fun j v h => by
  rw [cell_at hC2, hvs j (by have := (List.getElem?_eq_some_iff.1 h).1; omega)]; exact h
 have hz5 : d149.zero.cells.size = 4 := by kernel_rfl
 have hz1 : ∀ k, ∀ v ∈ (Builtin.zeroCells d149.zero.cells k).toList, v.oneCell' = true := fun k => zeroCells_one _ (fun v hv => by
  have := Array.all_eq_true_iff_forall_mem.1 (show d149.zero.cells.all Value.oneCell' = true by kernel_rfl) v hv
  exact this) _
 have hzn : ∀ k, (Builtin.zeroCells d149.zero.cells k).size = k * 4 := fun k => by rw [size_zeroCells, hz5]
 rcases hold with ⟨ho, h0, hc, ad, rfl⟩ | ⟨b, off, C, t, ho, rfl, hnc, hC, hCs, h1C, hcs, hne⟩
 ·subst h0; subst hc
  obtain rfl : i = 0 := by omega
  have hcs0 : cs = [] := List.length_eq_zero_iff.1 (by omega)
  subst hcs0
  refine (ins_end_grow_slices_Insert_Limpl_Cell_impl_Cell_mobo ad 0 0 vb voff m vc [] vs w hm (Nat.le_refl _) (by omega) hbig hcl hvl (fun _ => rfl) (fun a _ j v h => by simp at h) hvcell h1v).mono ?_
  rintro e w' ⟨rfl, rfl⟩
  exact ins_post_endgrow hcl hvl h1v h1c (grownCap_ge _ _ _ _) (hzn _) (hz1 _)
 ·subst ho
  have hccell : ∀ j v, cs[j]? = some v -> w.cell? ⟨b, off + j, none⟩ = some v := fun j v h => by
   rw [cell_at hC, hcs j (by have := (List.getElem?_eq_some_iff.1 h).1; omega)]; exact h
  by_cases hroom : n + m <= cap
  ·have hsp : ∀ j, j < (n + m) * 4 -> (w.cell? ⟨b, off + j, none⟩).isSome = true := fun j hj => by
    rw [cell_at hC, Array.getElem?_eq_getElem (by omega)]; rfl
   by_cases hin : i = n
   ·subst hin
    refine (ins_end_room_slices_Insert_Limpl_Cell_impl_Cell_mobo b off i cap vb voff m vc vs w hm hroom (by omega) hvl (fun j hj => by rw [Nat.add_assoc]; exact hsp _ (by omega)) (fun j hj => frozen_of hC _) hvcell h1v).mono ?_
    rintro e w' ⟨rfl, rfl⟩
    exact ins_post_end hC hCs h1C hcs hcl hvl h1v hroom
   ·refine (ins_shift_slices_Insert_Limpl_Cell_impl_Cell_mobo b off n cap i vb voff m vc cs vs w (by omega) hm hroom (by omega) hne hcl hvl hccell hsp (fun j hj => frozen_of hC _) hvcell h1c h1v t2 t C2.size C.size (by simp [World.shape?, hC2]) (by simp [World.shape?, hC]) (by omega) (frozen_of hC2 _) (frozen_of hC2 _)).mono ?_
    rintro e w' ⟨rfl, rfl⟩
    exact ins_post_shift hC hCs h1C hcs hcl hvl h1v h1c hi hroom
  ·by_cases hin : i = n
   ·subst hin
    refine (ins_end_grow_slices_Insert_Limpl_Cell_impl_Cell_mobo (some ⟨b, off, none⟩) i cap vb voff m vc cs vs w hm hnc (by omega) hbig hcl hvl (fun h => by cases h) (fun a h j v hv => by injection h with h; subst h; rw [Addr.add_lit]; exact hccell j v hv) hvcell h1v).mono ?_
    rintro e w' ⟨rfl, rfl⟩
    exact ins_post_endgrow hcl hvl h1v h1c (grownCap_ge _ _ _ _) (hzn _) (hz1 _)
   ·refine (ins_grow_slices_Insert_Limpl_Cell_impl_Cell_mobo b off n cap i vb voff m vc cs vs w (by omega) hm hnc (by omega) hbig hcl hvl hccell hvcell h1c h1v).mono ?_
    rintro e w' ⟨rfl, rfl⟩
    exact ins_post_grow hcl hvl h1v h1c hi (grownCap_ge _ _ _ _) (hzn _) (hzn _) (hz1 _) (hz1 _)
end
/-- slices.Insert[[]loop.example/g00890/impl.Cell,loop.example/g00890/impl.Cell] -/
def Fq16 (a0 : List TC) (a1 : Int) (a2 : List TC) : Option (List TC) :=
 if 0 <= a1 /\ a1 <= (a0.length : Int) /\ 0 < a2.length /\ (a0.length + a2.length) * 88 <= 140737488355328 then some (a0.take a1.toNat ++ a2 ++ a0.drop a1.toNat) else none
theorem runq16 (a0 : List TC) (a1 : Int) (a2 : List TC) (r : List TC) (h : Fq16 a0 a1 a2 = some r) : Fun Tryz.prog 118 [.c (.os 5 0 (len a0)), .c (wi a1), .c (.os 7 0 (len a2))] [(5, .arr .rw [] (len a0) 4 (row gd (oC len gd) a0)), (7, .arr .rw [] (len a2) 4 (row gd (oC len gd) a2))] (.c (.os 64000 0 (len r))) [(64000, .arr .rw [] (len r) 4 (row gd (oC len gd) r))] true := by
 unfold Fq16 at h
 split at h
 ·rename_i h1
  injection h with h
  subst h
  obtain ⟨i, rfl⟩ : ∃ i : Nat, a1 = i := ⟨a1.toNat, by omega⟩
  rw [Int.toNat_natCast]
  have e : len (a0.take i ++ a2 ++ a0.drop i) = len a0 + len a2 := by
   show List.length _ = List.length _ + List.length _
   rw [List.length_append, List.length_append, List.length_take, List.length_drop]; omega
  rw [e]
  exact Fun.insert Tryz.func118 (by kernel_rfl) (by kernel_rfl) 4 88 (fun old y n cap i vb voff m vc cs vs w h1 h2 h3 h4 h5 h6 h7 h8 h9 => calls_slices_Insert_Limpl_Cell_impl_Cell_mobo old y n cap i vb voff m vc cs vs w h1 h2 h3 h4 h5 h6 h7 h8 h9) (len a0) i (len a2) _ _ _ (show i <= a0.length by omega) (show 0 < a2.length by omega) (show (a0.length + a2.length) * 88 <= _ by omega)
   (fun t ht q hq => by
    show oC len gd (gd _ t) q = if t < i then oC len gd (gd a0 t) q else if t < i + a2.length then oC len gd (gd a2 (t - i)) q else oC len gd (gd a0 (t - a2.length)) q
    rw [ins_get a0 a2 i t (by omega)]
    split
    ·rfl
    ·split <;> rfl) (fun t q => rC _ _) (fun t q => rC _ _) (fun t q => fl_oncCell _ _)
 ·cases h

def Lq11_x34 (a0 : TL) (a1 : Int) (a2 : Int) (v1 : Int) (v2 : List TC) (w30 : Int) : (Int × (List TI)) -> Option ((Int × (List TI)) ⊕ (((List TC)))) := fun x34 =>
 letO x34.1 fun v32 =>
 letO x34.2 fun v33 =>
 br (std.lt v32 w30)
 (((
 req (std.inR v32 (len (gd v2 (std.nadd 0 (std.toN v1))).fI)) <|
 some (std.le a1 (gd v33 (std.nadd 0 (std.toN v32))).fc)
 ) : Option (Bool)).bind fun y46 =>
 letO y46 fun w52 =>
 ((
 br w52
 (((
 req (std.inR v32 (len (gd v2 (std.nadd 0 (std.toN v1))).fI)) <|
 req (std.inR v32 (len (gd v2 (std.nadd 0 (std.toN v1))).fI)) <|
 req (len (gd v2 (std.nadd 0 (std.toN v1))).fI = len v33) <|
 letO (List.set v33 (std.nadd 0 (std.toN v32)) (TI.mk (std.add .i64 (gd v33 (std.nadd 0 (std.toN v32))).fc a2) (gd v33 (std.nadd 0 (std.toN v32))).fp (gd v33 (std.nadd 0 (std.toN v32))).fK (gd v33 (std.nadd 0 (std.toN v32))).fR (gd v33 (std.nadd 0 (std.toN v32))).fu (gd v33 (std.nadd 0 (std.toN v32))).fv)) fun l70 =>
 some l70
 ) : Option ((List TI))).bind fun y61 =>
 letO y61 fun w67 =>
 some w67)
 (some v33)
 ) : Option ((List TI))).bind fun y54 =>
 letO y54 fun w60 =>
 some (.inl (std.add .i64 v32 1, w60)))
 (req (len (gd v2 (std.nadd 0 (std.toN v1))).fI = len v33) <|
 req (len a0.fC = len v2) <|
 letO (List.set v2 (std.nadd 0 (std.toN v1)) (TC.mk (gd v2 (std.nadd 0 (std.toN v1))).fN (gd v2 (std.nadd 0 (std.toN v1))).fS (gd v2 (std.nadd 0 (std.toN v1))).fL v33)) fun l74 =>
 some (.inr l74))
def Lq11_x3 (a0 : TL) (a1 : Int) (a2 : Int) : (Int × (List TC)) -> Option ((Int × (List TC)) ⊕ (((List TC)))) := fun x3 =>
 letO x3.1 fun v1 =>
 letO x3.2 fun v2 =>
 br (std.lt v1 (std.ofN (len a0.fC)))
 (((
 req (std.inR v1 (len a0.fC)) <|
 some ((gd v2 (std.nadd 0 (std.toN v1))).fN)
 ) : Option (ByteArray)).bind fun y15 =>
 letO y15 fun w21 =>
 req (std.inR v1 (len a0.fC)) <|
 ((
 some (std.ofN (len (gd v2 (std.nadd 0 (std.toN v1))).fI), 0)
 ) : Option (Int × Int)).bind fun y24 =>
 letO y24.1 fun w30 =>
 letO y24.2 fun w31 =>
 (whileP (σ := Int × (List TI)) (ρ := ((List TC))) (Lq11_x34 a0 a1 a2 v1 v2 w30) (w31, (gd v2 (std.nadd 0 (std.toN v1))).fI)).bind fun y35 =>
 letO y35 fun y35k0 =>
 letO y35k0 fun w77 =>
 some (.inl (std.add .i64 v1 1, w77)))
 (some (.inr v2))
/-- impl.renumber -/
def Fq11 (a0 : TL) (a1 : Int) (a2 : Int) : Option (List TC) :=
 (whileP (σ := Int × (List TC)) (ρ := ((List TC))) (Lq11_x3 a0 a1 a2) (0, a0.fC)).bind fun y4 =>
 letO y4 fun y4k0 =>
 letO y4k0 fun w79 =>
 req (len a0.fC = len w79) <|
 some w79
theorem runq11 (a0 : TL) (a1 : Int) (a2 : Int) (r : List TC) (h : Fq11 a0 a1 a2 = some r) : Fun Tryz.prog 119 [.agg [.os 5 0 (len a0.fC)], .c (wi a1), .c (wi a2)] [(5, .arr .rw [] (len a0.fC) 4 (row gd (oC len gd) a0.fC))] (.tup []) [(5, .arr .rw [] (len r) 4 (row gd (oC len gd) r))] true := by
 refine Fun.of_wp (oneOf [3, 4, 7, 8, 100029]) tok mixed Tryz.func119 (by kernel_rfl) rfl Tryz.ntmps119 rfl ⟨fun i _ j _ k hk => (noref (rC _ _) hk).elim, tv⟩ (fun _ => ⟨(by simp [AV.flat, AV.flat1, AC.flat]), ⟨fun i _ j _ => fl_oncCell _ _, tv⟩⟩) ?_
 unfold Fq11 at h
 unfold Lq11_x3 at h
 unfold Lq11_x34 at h
 generalize hLEN : @len = LEN, hGD : @gd = GD, hA : std = A, hP : Tryz.prog = P at *
 cbv
 replace h := ob_ h
 obtain ⟨y4, hr5, hN6⟩ := h
 refine loop_cut hr5 (fun x => (sp 42 [(1, .c (wi a1)), (2, .c (wi a2)), (10, .c (.os 5 0 (LEN a0.fC))), (11, .c (wi (A.ofN (LEN a0.fC)))), (12, .c (wi x.1))] [(5, .arr .rw [] (LEN a0.fC) 4 (row GD (oC LEN GD) x.2))])) ?_ (fun y e s => (fun (w : (List TC)) => e = .exit 0 /\ s.le (sp 42 [] [(5, .arr .rw [] (LEN a0.fC) 4 (row GD (oC LEN GD) w))])) y) ?_ ?_
 ·clear hr5 hN6
  show St.le _ _
  exact lsp rfl zl5 ⟨oS, tv⟩ rfl
 ·clear hr5 hN6
  intro x z10 h K8 hK9 hY7
  obtain ⟨x0_, x1_⟩ := x
  replace h := ol h
  obtain ⟨v1, hv1, h⟩ := h
  have hv1 : v1 = x0_ := hv1
  subst hv1
  replace h := ol h
  obtain ⟨v2, hv2, h⟩ := h
  have hv2 : v2 = x1_ := hv2
  subst hv2
  cbv
  refine fork (fun b78 => ?_) (fun b78 => ?_)
  ·replace h := ot b78 h
   cbv
   replace h := ob_ h
   obtain ⟨y15, hy16, h⟩ := h
   obtain ⟨S19, hS20⟩ : ∃ S, S = (sp 42 [(1, .c (wi a1)), (2, .c (wi a2)), (7, .c (.ptr 448 0)), (10, .c (.os 5 0 (LEN a0.fC))), (11, .c (wi (A.ofN (LEN a0.fC)))), (12, .c (wi v1))] [(448, .var [ws y15, .os 964 0 (LEN (GD v2 (A.nadd 0 (A.toN v1))).fS), .os 966 0 (LEN (GD v2 (A.nadd 0 (A.toN v1))).fL), .os 968 0 (LEN (GD v2 (A.nadd 0 (A.toN v1))).fI)]), (5, .arr .rw [964, 966, 968] (LEN a0.fC) 4 (pC (row GD (oC LEN GD) v2) (A.nadd 0 (A.toN v1)) [ws (GD v2 (A.nadd 0 (A.toN v1))).fN, .os 964 0 (LEN (GD v2 (A.nadd 0 (A.toN v1))).fS), .os 966 0 (LEN (GD v2 (A.nadd 0 (A.toN v1))).fL), .os 968 0 (LEN (GD v2 (A.nadd 0 (A.toN v1))).fI)])), (964, .arr .rw [] (LEN (GD v2 (A.nadd 0 (A.toN v1))).fS) 5 (row GD (eS) (GD v2 (A.nadd 0 (A.toN v1))).fS)), (966, .arr .rw [] (LEN (GD v2 (A.nadd 0 (A.toN v1))).fL) 4 (row GD (eL) (GD v2 (A.nadd 0 (A.toN v1))).fL)), (968, .arr .rw [] (LEN (GD v2 (A.nadd 0 (A.toN v1))).fI) 8 (row GD (eI) (GD v2 (A.nadd 0 (A.toN v1))).fI))]) := ⟨_, rfl⟩
   refine ⟨S19, ?_, ?_⟩
   ·clear h
    have h := hy16
    clear hy16
    cbv
    replace h := oq_ h
    obtain ⟨c22, h⟩ := h
    refine ⟨⟨c22, tv⟩, ?_⟩
    refine And.intro (by subst hA; have p := ix c22; first | exact p | exact ⟨p, tv⟩ | exact ⟨p, trivial, tv⟩) ?_
    refine ⟨_, rfl, _, (pC (row GD (oC LEN GD) v2) (A.nadd 0 (A.toN v1)) [ws (GD v2 (A.nadd 0 (A.toN v1))).fN, .os 964 0 (LEN (GD v2 (A.nadd 0 (A.toN v1))).fS), .os 966 0 (LEN (GD v2 (A.nadd 0 (A.toN v1))).fL), .os 968 0 (LEN (GD v2 (A.nadd 0 (A.toN v1))).fI)]), rfl, wkOf ?_, ?_⟩
    ·refine patch_of ?_
     intro j hj
     match j, hj with | 0, _ => (rfl) | 1, _ => (rfl) | 2, _ => (rfl) | 3, _ => (rfl) | (j_ + 4), h_ => omega
    refine ⟨_, row GD (eS) (GD v2 (A.nadd 0 (A.toN v1))).fS, rfl, wkOf ?_, ?_⟩
    ·exact fun i _ j _ => plain_cp (pl_encShape _ _)
    refine ⟨_, row GD (eL) (GD v2 (A.nadd 0 (A.toN v1))).fL, rfl, wkOf ?_, ?_⟩
    ·exact fun i _ j _ => plain_cp (pl_encLabel _ _)
    refine ⟨_, row GD (eI) (GD v2 (A.nadd 0 (A.toN v1))).fI, rfl, wkOf ?_, ?_⟩
    ·exact fun i _ j _ => plain_cp (pl_encInstance _ _)
    cbv
    injection h with h
    subst h
    subst hS20
    exact lsp rfl zl6 ⟨rfl, oS, oS, oS, oS, tv⟩ rfl
   ·clear hy16
    subst hS20
    replace h := ol h
    obtain ⟨w21, hw21, h⟩ := h
    have hw21 : w21 = y15 := hw21
    subst hw21
    replace h := oq_ h
    obtain ⟨c23, h⟩ := h
    cbv
    replace h := ob_ h
    obtain ⟨y24, hy25, h⟩ := h
    obtain ⟨S28, hS29⟩ : ∃ S, S = (sp 42 [(1, .c (wi a1)), (2, .c (wi a2)), (7, .c (.ptr 448 0)), (10, .c (.os 5 0 (LEN a0.fC))), (11, .c (wi (A.ofN (LEN a0.fC)))), (12, .c (wi v1)), (18, .c (wi y24.1)), (19, .c (wi y24.2))] [(448, .var [ws w21, .os 964 0 (LEN (GD v2 (A.nadd 0 (A.toN v1))).fS), .os 966 0 (LEN (GD v2 (A.nadd 0 (A.toN v1))).fL), .os 968 0 (LEN (GD v2 (A.nadd 0 (A.toN v1))).fI)]), (5, .arr .rw [964, 966, 968] (LEN a0.fC) 4 (pC (row GD (oC LEN GD) v2) (A.nadd 0 (A.toN v1)) [ws (GD v2 (A.nadd 0 (A.toN v1))).fN, .os 964 0 (LEN (GD v2 (A.nadd 0 (A.toN v1))).fS), .os 966 0 (LEN (GD v2 (A.nadd 0 (A.toN v1))).fL), .os 968 0 (LEN (GD v2 (A.nadd 0 (A.toN v1))).fI)])), (964, .arr .rw [] (LEN (GD v2 (A.nadd 0 (A.toN v1))).fS) 5 (row GD (eS) (GD v2 (A.nadd 0 (A.toN v1))).fS)), (966, .arr .rw [] (LEN (GD v2 (A.nadd 0 (A.toN v1))).fL) 4 (row GD (eL) (GD v2 (A.nadd 0 (A.toN v1))).fL)), (968, .arr .rw [] (LEN (GD v2 (A.nadd 0 (A.toN v1))).fI) 8 (row GD (eI) (GD v2 (A.nadd 0 (A.toN v1))).fI))]) := ⟨_, rfl⟩
    refine ⟨S28, ?_, ?_⟩
    ·clear h
     have h := hy25
     clear hy25
     cbv
     injection h with h
     subst h
     subst hS29
     exact lsp rfl zl8 ⟨rfl, oS, oS, oS, oS, tv⟩ rfl
    ·clear hy25
     subst hS29
     obtain ⟨y24_0, y24_1⟩ := y24
     replace h := ol h
     obtain ⟨w30, hw30, h⟩ := h
     have hw30 : w30 = y24_0 := hw30
     subst hw30
     replace h := ol h
     obtain ⟨w31, hw31, h⟩ := h
     have hw31 : w31 = y24_1 := hw31
     subst hw31
     cbv
     replace h := ob_ h
     obtain ⟨y35, hr36, hN37⟩ := h
     refine loop_cut hr36 (fun x => (sp 42 [(1, .c (wi a1)), (2, .c (wi a2)), (7, .c (.ptr 448 0)), (10, .c (.os 5 0 (LEN a0.fC))), (11, .c (wi (A.ofN (LEN a0.fC)))), (12, .c (wi v1)), (18, .c (wi w30)), (19, .c (wi x.1))] [(448, .var [ws w21, .os 964 0 (LEN (GD v2 (A.nadd 0 (A.toN v1))).fS), .os 966 0 (LEN (GD v2 (A.nadd 0 (A.toN v1))).fL), .os 968 0 (LEN (GD v2 (A.nadd 0 (A.toN v1))).fI)]), (5, .arr .rw [964, 966, 968] (LEN a0.fC) 4 (pC (row GD (oC LEN GD) v2) (A.nadd 0 (A.toN v1)) [ws (GD v2 (A.nadd 0 (A.toN v1))).fN, .os 964 0 (LEN (GD v2 (A.nadd 0 (A.toN v1))).fS), .os 966 0 (LEN (GD v2 (A.nadd 0 (A.toN v1))).fL), .os 968 0 (LEN (GD v2 (A.nadd 0 (A.toN v1))).fI)])), (964, .arr .rw [] (LEN (GD v2 (A.nadd 0 (A.toN v1))).fS) 5 (row GD (eS) (GD v2 (A.nadd 0 (A.toN v1))).fS)), (966, .arr .rw [] (LEN (GD v2 (A.nadd 0 (A.toN v1))).fL) 4 (row GD (eL) (GD v2 (A.nadd 0 (A.toN v1))).fL)), (968, .arr .rw [] (LEN (GD v2 (A.nadd 0 (A.toN v1))).fI) 8 (row GD (eI) x.2))])) ?_ (fun y e s => (fun (w : (List TC)) => e = .exit 2 /\ s.le (sp 42 [(1, .c (wi a1)), (2, .c (wi a2)), (10, .c (.os 5 0 (LEN a0.fC))), (11, .c (wi (A.ofN (LEN a0.fC)))), (12, .c (wi v1))] [(5, .arr .rw [] (LEN a0.fC) 4 (row GD (oC LEN GD) w))])) y) ?_ ?_
     ·clear hr36 hN37
      show St.le _ _
      exact lsp rfl zl8 ⟨rfl, oS, oS, oS, oS, tv⟩ rfl
     ·clear hr36 hN37
      intro x z41 h K39 hK40 hY38
      obtain ⟨x0_, x1_⟩ := x
      replace h := ol h
      obtain ⟨v32, hv32, h⟩ := h
      have hv32 : v32 = x0_ := hv32
      subst hv32
      replace h := ol h
      obtain ⟨v33, hv33, h⟩ := h
      have hv33 : v33 = x1_ := hv33
      subst hv33
      cbv
      refine fork (fun b76 => ?_) (fun b76 => ?_)
      ·replace h := ot b76 h
       cbv
       replace h := ob_ h
       obtain ⟨y46, hy47, h⟩ := h
       obtain ⟨S50, hS51⟩ : ∃ S, S = (sp 42 [(1, .c (wi a1)), (2, .c (wi a2)), (7, .c (.ptr 448 0)), (8, .c (wi v32)), (10, .c (.os 5 0 (LEN a0.fC))), (11, .c (wi (A.ofN (LEN a0.fC)))), (12, .c (wi v1)), (18, .c (wi w30)), (19, .c (wi v32)), (29, .c (.v (.bool y46)))] [(448, .var [ws w21, .os 964 0 (LEN (GD v2 (A.nadd 0 (A.toN v1))).fS), .os 966 0 (LEN (GD v2 (A.nadd 0 (A.toN v1))).fL), .os 968 0 (LEN (GD v2 (A.nadd 0 (A.toN v1))).fI)]), (5, .arr .rw [964, 966, 968] (LEN a0.fC) 4 (pC (row GD (oC LEN GD) v2) (A.nadd 0 (A.toN v1)) [ws (GD v2 (A.nadd 0 (A.toN v1))).fN, .os 964 0 (LEN (GD v2 (A.nadd 0 (A.toN v1))).fS), .os 966 0 (LEN (GD v2 (A.nadd 0 (A.toN v1))).fL), .os 968 0 (LEN (GD v2 (A.nadd 0 (A.toN v1))).fI)])), (964, .arr .rw [] (LEN (GD v2 (A.nadd 0 (A.toN v1))).fS) 5 (row GD (eS) (GD v2 (A.nadd 0 (A.toN v1))).fS)), (966, .arr .rw [] (LEN (GD v2 (A.nadd 0 (A.toN v1))).fL) 4 (row GD (eL) (GD v2 (A.nadd 0 (A.toN v1))).fL)), (968, .arr .rw [] (LEN (GD v2 (A.nadd 0 (A.toN v1))).fI) 8 (row GD (eI) v33))]) := ⟨_, rfl⟩
       refine ⟨S50, ?_, ?_⟩
       ·clear h
        have h := hy47
        clear hy47
        cbv
        replace h := oq_ h
        obtain ⟨c53, h⟩ := h
        refine ⟨⟨c53, tv⟩, ?_⟩
        refine And.intro (by subst hA; have p := ix c53; first | exact p | exact ⟨p, tv⟩ | exact ⟨p, trivial, tv⟩) ?_
        injection h with h
        subst h
        subst hS51
        exact lsp rfl zl10 ⟨rfl, oS, oS, oS, oS, tv⟩ rfl
       ·clear hy47
        subst hS51
        replace h := ol h
        obtain ⟨w52, hw52, h⟩ := h
        have hw52 : w52 = y46 := hw52
        subst hw52
        cbv
        replace h := ob_ h
        obtain ⟨y54, hy55, h⟩ := h
        obtain ⟨S58, hS59⟩ : ∃ S, S = some (sp 42 [(1, .c (wi a1)), (2, .c (wi a2)), (7, .c (.ptr 448 0)), (10, .c (.os 5 0 (LEN a0.fC))), (11, .c (wi (A.ofN (LEN a0.fC)))), (12, .c (wi v1)), (18, .c (wi w30)), (19, .c (wi v32))] [(448, .var [ws w21, .os 964 0 (LEN (GD v2 (A.nadd 0 (A.toN v1))).fS), .os 966 0 (LEN (GD v2 (A.nadd 0 (A.toN v1))).fL), .os 968 0 (LEN (GD v2 (A.nadd 0 (A.toN v1))).fI)]), (5, .arr .rw [964, 966, 968] (LEN a0.fC) 4 (pC (row GD (oC LEN GD) v2) (A.nadd 0 (A.toN v1)) [ws (GD v2 (A.nadd 0 (A.toN v1))).fN, .os 964 0 (LEN (GD v2 (A.nadd 0 (A.toN v1))).fS), .os 966 0 (LEN (GD v2 (A.nadd 0 (A.toN v1))).fL), .os 968 0 (LEN (GD v2 (A.nadd 0 (A.toN v1))).fI)])), (964, .arr .rw [] (LEN (GD v2 (A.nadd 0 (A.toN v1))).fS) 5 (row GD (eS) (GD v2 (A.nadd 0 (A.toN v1))).fS)), (966, .arr .rw [] (LEN (GD v2 (A.nadd 0 (A.toN v1))).fL) 4 (row GD (eL) (GD v2 (A.nadd 0 (A.toN v1))).fL)), (968, .arr .rw [] (LEN (GD v2 (A.nadd 0 (A.toN v1))).fI) 8 (row GD (eI) y54))]) := ⟨_, rfl⟩
        refine ⟨S58, ?_, ?_⟩
        ·clear h
         have h := hy55
         clear hy55
         cbv
         refine fork (fun b72 => ?_) (fun b72 => ?_)
         ·replace h := ot b72 h
          cbv
          replace h := ob_ h
          obtain ⟨y61, hy62, h⟩ := h
          obtain ⟨S65, hS66⟩ : ∃ S, S = (sp 42 [(1, .c (wi a1)), (2, .c (wi a2)), (7, .c (.ptr 448 0)), (10, .c (.os 5 0 (LEN a0.fC))), (11, .c (wi (A.ofN (LEN a0.fC)))), (12, .c (wi v1)), (18, .c (wi w30)), (19, .c (wi v32))] [(448, .var [ws w21, .os 964 0 (LEN (GD v2 (A.nadd 0 (A.toN v1))).fS), .os 966 0 (LEN (GD v2 (A.nadd 0 (A.toN v1))).fL), .os 968 0 (LEN (GD v2 (A.nadd 0 (A.toN v1))).fI)]), (5, .arr .rw [964, 966, 968] (LEN a0.fC) 4 (pC (row GD (oC LEN GD) v2) (A.nadd 0 (A.toN v1)) [ws (GD v2 (A.nadd 0 (A.toN v1))).fN, .os 964 0 (LEN (GD v2 (A.nadd 0 (A.toN v1))).fS), .os 966 0 (LEN (GD v2 (A.nadd 0 (A.toN v1))).fL), .os 968 0 (LEN (GD v2 (A.nadd 0 (A.toN v1))).fI)])), (964, .arr .rw [] (LEN (GD v2 (A.nadd 0 (A.toN v1))).fS) 5 (row GD (eS) (GD v2 (A.nadd 0 (A.toN v1))).fS)), (966, .arr .rw [] (LEN (GD v2 (A.nadd 0 (A.toN v1))).fL) 4 (row GD (eL) (GD v2 (A.nadd 0 (A.toN v1))).fL)), (968, .arr .rw [] (LEN (GD v2 (A.nadd 0 (A.toN v1))).fI) 8 (row GD (eI) y61))]) := ⟨_, rfl⟩
          refine ⟨S65, ?_, ?_⟩
          ·clear h
           have h := hy62
           clear hy62
           cbv
           replace h := oq_ h
           obtain ⟨c68, h⟩ := h
           refine ⟨⟨c68, tv⟩, ?_⟩
           refine And.intro (by subst hA; have p := ix c68; first | exact p | exact ⟨p, tv⟩ | exact ⟨p, trivial, tv⟩) ?_
           replace h := oq_ h
           obtain ⟨c69, h⟩ := h
           refine ⟨⟨c69, tv⟩, ?_⟩
           replace h := oq_ h
           obtain ⟨c71, h⟩ := h
           replace h := ol h
           obtain ⟨l70, hl70, h⟩ := h
           refine And.intro (by subst hA; have p := ix c69; first | exact p | exact ⟨p, tv⟩ | exact ⟨p, trivial, tv⟩) ?_
           refine ⟨_, rfl, _, row GD (eI) l70, rfl, wkOf ?_, ?_⟩
           ·subst hGD hLEN hA
            rw [c71] at c69
            refine upd_set hl70 (ix c69) ?_ ?_
            ·intro b hb hh
             match b, hb, hh with | 0, _, hh => exact rfl | 1, _, hh => exact (absurd hh (nd rfl)) | 2, _, hh => exact (absurd hh (nd rfl)) | 3, _, hh => exact (absurd hh (nd rfl)) | 4, _, hh => exact (absurd hh (nd rfl)) | 5, _, hh => exact (absurd hh (nd rfl)) | 6, _, hh => exact (absurd hh (nd rfl)) | 7, _, hh => exact (absurd hh (nd rfl)) | (b_ + 8), h_, _ => omega
            ·intro b hb hh
             match b, hb, hh with | 0, _, hh => exact (hh (yd rfl)).elim | 1, _, hh => exact rfl | 2, _, hh => exact rfl | 3, _, hh => exact rfl | 4, _, hh => exact rfl | 5, _, hh => exact rfl | 6, _, hh => exact rfl | 7, _, hh => exact rfl | (b_ + 8), h_, _ => omega
           cbv
           injection h with h
           subst h
           subst hS66
           exact lsp rfl zl8 ⟨rfl, oS, oS, oS, oS, tv⟩ rfl
          ·clear hy62
           subst hS66
           replace h := ol h
           obtain ⟨w67, hw67, h⟩ := h
           have hw67 : w67 = y61 := hw67
           subst hw67
           cbv
           injection h with h
           subst h
           subst hS59
           exact lsp rfl zl8 ⟨rfl, oS, oS, oS, oS, tv⟩ rfl
         ·replace h := og b72 h
          cbv
          injection h with h
          subst h
          subst hS59
          exact lsp rfl zl8 ⟨rfl, oS, oS, oS, oS, tv⟩ rfl
        ·clear hy55
         subst hS59
         replace h := ol h
         obtain ⟨w60, hw60, h⟩ := h
         have hw60 : w60 = y54 := hw60
         subst hw60
         cbv
         injection h with h
         refine hK40 _ h.symm _ ?_
         exact lsp rfl zl8 ⟨rfl, oS, oS, oS, oS, tv⟩ rfl
      ·replace h := og b76 h
       cbv
       replace h := oq_ h
       obtain ⟨c73, h⟩ := h
       replace h := oq_ h
       obtain ⟨c75, h⟩ := h
       replace h := ol h
       obtain ⟨l74, hl74, h⟩ := h
       injection h with h
       refine hY38 _ h.symm _ _ (And.intro rfl ?_) (by intro hh; cases hh)
       refine St.le_trans (le_foldP 5 1 964 rfl rfl rfl (by decide) (by subst hA; exact ix c23) (by decide) rfl (fun _ _ => rC _ _)) ?_
       refine St.le_trans (le_foldP 5 2 966 rfl rfl rfl (by decide) (by subst hA; exact ix c23) (by decide) rfl (fun _ _ => rC _ _)) ?_
       refine St.le_trans (le_foldP 5 3 968 rfl rfl rfl (by decide) (by subst hA; exact ix c23) (by decide) rfl (fun _ _ => rC _ _)) ?_
       exact lsp rfl zl5 ⟨⟨fun hw => hw, fun c hc => (by cases hc), .inr (fun i _ j _ z hz => (noref (rC _ _) hz).elim), rfl, rfl, (by subst hGD hLEN hA; exact patch_set hl74 (ix (by rw [<- c75]; exact c23)) (by intro j hj; match j, hj with | 0, _ => rfl | 1, _ => rfl | 2, _ => rfl | 3, _ => exact (by first | rfl | exact congrArg (fun n => AC.ow n _ _) (Eq.symm (by assumption)) | exact congrArg (fun n => AC.ow n _ _) (by assumption)) | (j_ + 4), h_ => omega))⟩, tv⟩ rfl
     ·clear hr36
      have h := hN37
      clear hN37
      intro e44 s45 q43 hne
      replace h := ol h
      obtain ⟨y35k0, hyk, h⟩ := h
      have hyk : y35k0 = y35 := hyk
      subst hyk
      obtain ⟨rfl, q43⟩ := q43
      replace h := ol h
      obtain ⟨w77, hw77, h⟩ := h
      have hw77 : w77 = y35k0 := hw77
      subst hw77
      cbv
      refine ⟨_, q43, ?_⟩
      cbv
      injection h with h
      refine hK9 _ h.symm _ ?_
      exact lsp rfl zl5 ⟨oS, tv⟩ rfl
  ·replace h := og b78 h
   cbv
   injection h with h
   refine hY7 _ h.symm _ _ (And.intro rfl ?_) (by intro hh; cases hh)
   exact lsp rfl trivial ⟨oS, tv⟩ rfl
 ·clear hr5
  have h := hN6
  clear hN6
  intro e13 s14 q12 hne
  replace h := ol h
  obtain ⟨y4k0, hyk, h⟩ := h
  have hyk : y4k0 = y4 := hyk
  subst hyk
  obtain ⟨rfl, q12⟩ := q12
  replace h := ol h
  obtain ⟨w79, hw79, h⟩ := h
  have hw79 : w79 = y4k0 := hw79
  subst hw79
  cbv
  refine ⟨_, q12, ?_⟩
  cbv
  replace h := oq_ h
  obtain ⟨c80, h⟩ := h
  injection h with h
  subst h
  refine ⟨(sp 42 [] [(5, .arr .rw [] (LEN w79) 4 (row GD (oC LEN GD) w79))]), ?_, ?_⟩
  ·rw [c80]
   exact lsp rfl trivial ⟨oS, tv⟩ rfl
  ·exact ⟨lR _, ⟨oS, tv⟩, rfl⟩

section
open Go.RowKit Go.Lib
set_option maxRecDepth 1000000 in
/-- slices.Delete: the elements behind those that are taken out lie further ahead, the cells behind are emptied -/
theorem calls_slices_Delete_Limpl_Cell_impl_Cell_mobb (blk off cap n i j : Nat) (D : List Value) (w : World) (hlen : D.length = n * 4) (hD : ∀ t u, D[t]? = some u -> w.cell? ⟨blk, off + t, none⟩ = some u) (h1 : ∀ u ∈ D, u.oneCell' = true) (hfz : ∀ t, t < n * 4 -> w.frozen? ⟨blk, off + t, none⟩ = false) (hcap : n <= cap) (hij : i < j) (hj : j <= n) :
  Calls Tryz.prog 198 #[.slice (some ⟨blk, off, none⟩) n cap, .int .i64 i, .int .i64 j] w fun e w' => e = .returned (.slice (some ⟨blk, off, none⟩) (n - (j - i)) cap) /\ ∃ zs : List Value, zs.length = (j - i) * 4 /\ (∀ u ∈ zs, u.oneCell' = true) /\ w' = (w.drew.setCells blk (off + i * 4) (D.drop (j * 4))).setCells blk (off + (i + (n - j)) * 4) zs := by
 obtain ⟨news, hnews⟩ : ∃ news, news = D.drop (j * 4) := ⟨_, rfl⟩
 have hl : news.length = (n - j) * 4 := by rw [hnews, List.length_drop, hlen, Nat.sub_mul]
 obtain ⟨A, hA, hsrc⟩ : ∃ A : Addr, (if cap = j then some (⟨blk, off, none⟩ : Addr) else some ⟨blk, off + j * 4, none⟩) = some A /\ Hid (∀ t u, news[t]? = some u -> w.drew.cell? (A.add t) = some u) := by
  by_cases h : cap = j
  ·refine ⟨⟨blk, off, none⟩, by simp [h], fun t u hu => ?_⟩
   have h00 : n - j = 0 := by omega
   have h0 : news.length = 0 := by rw [hl, h00, Nat.zero_mul]
   rw [List.length_eq_zero_iff.1 h0] at hu
   simp at hu
  ·refine ⟨⟨blk, off + j * 4, none⟩, by simp [h], fun t u hu => ?_⟩
   rw [Addr.add_lit, Nat.add_assoc]
   exact hD _ u (by rw [hnews, List.getElem?_drop] at hu; exact hu)
 have s1 : Hid (news.length = (n - j) * 4) := hl
 have s2 : Hid (∀ u ∈ news, u.oneCell' = true) := fun u hu => h1 u (List.mem_of_mem_drop (by rw [hnews] at hu; exact hu))
 have hex : ∀ t, t < n * 4 -> (w.cell? ⟨blk, off + t, none⟩).isSome = true := fun t ht => by
  rw [hD t (D[t]'(by omega)) (List.getElem?_eq_getElem (by omega))]; rfl
 have s3 : Hid (∀ t, t < news.length -> (w.drew.cell? ⟨blk, off + i * 4 + t, none⟩).isSome = true /\ w.drew.frozen? ⟨blk, off + i * 4 + t, none⟩ = false) := fun t ht => by
  rw [hl] at ht
  rw [Nat.add_assoc]
  exact ⟨hex _ (by omega), hfz _ (by omega)⟩
 obtain ⟨W1, hW1⟩ : ∃ W1, W1 = w.drew.setCells blk (off + i * 4) news := ⟨_, rfl⟩
 have hW : Hid (W1 = w.drew.setCells blk (off + i * 4) news) := hW1
 obtain ⟨z, hz⟩ : ∃ z, z = (Builtin.zeroCells d149.zero.cells (j - i)).toList := ⟨_, rfl⟩
 have hzs : d149.zero.cells.size = 4 := by kernel_rfl
 have hzl : z.length = (j - i) * 4 := by rw [hz, Array.length_toList, size_zeroCells, hzs]
 have hz1 : ∀ v ∈ z, v.oneCell' = true := by
  rw [hz]
  exact zeroCells_one _ (fun v hv => by
   have := Array.all_eq_true_iff_forall_mem.1 (show d149.zero.cells.all Value.oneCell' = true by kernel_rfl) v hv
   exact this) _
 have hcl : ∀ ty, (Builtin.clear_ #[41] ty #[.slice (some ⟨blk, off + (i + (n - j)) * 4, none⟩) (n - (i + (n - j))) (cap - (i + (n - j)))]).run Tryz.prog W1 = .ok (.tuple #[]) (W1.setCells blk (off + (i + (n - j)) * 4) z) := fun ty => by
  have e : n - (i + (n - j)) = j - i := by omega
  rw [e, hz]
  refine run_clear_cells W1 41 149 ty d149.zero (by kernel_rfl) (fun w => ?_) blk _ _ _ (by omega) ?_ ?_ ?_
  ·exact run_zero tok (show T 149 = some d149 from rfl)
  ·rw [<- hz]; exact hz1
  ·intro t ht
   rw [size_zeroCells, hzs] at ht
   rw [hW1, Nat.add_assoc]
   refine isSome_setCells blk _ _ _ (fun q hq => ?_) _ (hex _ ?_)
   ·rw [hl] at hq
    rw [Nat.add_assoc]; exact hex _ (by omega)
   ·omega
  ·intro t ht
   rw [size_zeroCells, hzs] at ht
   rw [hW1, World.frozen?_setCells, Nat.add_assoc]
   exact hfz _ (by omega)
 have hX : Hid (∃ zs : List Value, zs.length = (j - i) * 4 /\ (∀ u ∈ zs, u.oneCell' = true) /\ W1.setCells blk (off + (i + (n - j)) * 4) z = (w.drew.setCells blk (off + i * 4) (D.drop (j * 4))).setCells blk (off + (i + (n - j)) * 4) zs) := ⟨z, hzl, hz1, by rw [hW1, hnews]⟩
 have hic : i <= cap := by omega
 have hjc : j <= cap := by omega
 have hne : ¬ (i = j) := by omega
 have hI : (Tryz.prog.info? 149).map (·.size) = some 4 := by kernel_rfl
 obtain ⟨i0, hi0, hz5⟩ : ∃ i0, Tryz.prog.info? 149 = some i0 /\ i0.size = 4 := by
  cases h : Tryz.prog.info? 149 with
  | none => rw [h] at hI; cases hI
  | some i0 => rw [h] at hI; exact ⟨i0, rfl, by injection hI⟩
 have mixed : Tryz.prog.follows .mixedOrders = true := by kernel_rfl
 clear hW1 hex hzs hnews hl hz hzl hz1 hD h1 hfz
 go_enter Tryz.func198, Tryz.ntmps198
 go_wp2_with fail
 go_region_law_o (refine step_append_room rfl (.tmp 22) (.tmp 25) 41 rfl 149 i0 4 (by kernel_rfl) hi0 hz5 blk off i cap (by simp [Act.eval, Act.put]) A (n - j) (cap - j) news (by simp [Act.eval, Act.put, hA]) s1.out hsrc.out s2.out (by omega) s3.out ?_; rw [<- hW.out])
 go_wp2
 go_ret
 refine ⟨by rw [show n - (j - i) = i + (n - j) by omega]; rfl, hX.out⟩
end
/-- slices.Delete[[]loop.example/g00890/impl.Cell,loop.example/g00890/impl.Cell] -/
def Fq55 (a0 : List TC) (a1 : Int) (a2 : Int) : Option (List TC) :=
 if 0 <= a1 /\ a1 < a2 /\ a2 <= (a0.length : Int) then some (a0.take a1.toNat ++ a0.drop a2.toNat) else none
theorem runq55 (a0 : List TC) (a1 : Int) (a2 : Int) (r : List TC) (h : Fq55 a0 a1 a2 = some r) : Fun Tryz.prog 198 [.c (.os 5 0 (len a0)), .c (wi a1), .c (wi a2)] [(5, .arr .rw [] (len a0) 4 (row gd (oC len gd) a0))] (.c (.os 64000 0 (len r))) [(64000, .arr .rw [] (len r) 4 (row gd (oC len gd) r))] true := by
 unfold Fq55 at h
 split at h
 ·rename_i h1
  injection h with h
  subst h
  obtain ⟨i, rfl⟩ : ∃ i : Nat, a1 = i := ⟨a1.toNat, by omega⟩
  obtain ⟨j, rfl⟩ : ∃ j : Nat, a2 = j := ⟨a2.toNat, by omega⟩
  rw [Int.toNat_natCast, Int.toNat_natCast]
  have e : len (a0.take i ++ a0.drop j) = len a0 - (j - i) := by
   show List.length _ = List.length _ - _
   rw [List.length_append, List.length_take, List.length_drop]; omega
  rw [e]
  exact Fun.delete Tryz.func198 (by kernel_rfl) (by kernel_rfl) 4 (fun blk off cap n i j D w h1 h2 h3 h4 h5 h6 h7 => calls_slices_Delete_Limpl_Cell_impl_Cell_mobb blk off cap n i j D w h1 h2 h3 h4 h5 h6 h7) (len a0) i j _ _ (by omega) (show j <= a0.length by omega)
   (fun t ht q hq => by show oC len gd (gd _ t) q = oC len gd (gd a0 _) q; rw [cut_get a0 i j t (by omega) (by omega)]) (fun t q => rC _ _) (fun t q => fl_oncCell _ _)
 ·cases h
end
end Go.Proofs.YtohgghncmkiicaaGreat.AM
