/-
  What the functions that the law reaches compute, and that they do. No condition.
-/
import Derived.Test.YtohgghncmkiicaaGreatAmSY
import Derived.Test.YtohgghncmkiicaaGreatAmE
namespace Go.Proofs.YtohgghncmkiicaaGreat.AM
noncomputable section
open Go Go.Proofs Go.RowKit
set_option linter.unusedVariables false
set_option linter.unusedSimpArgs false
set_option maxRecDepth 100000

set_option maxHeartbeats 4000000
def Lq29_x2 (a0 : List TC) (a1 : List TC) : (Int) -> Option ((Int) ⊕ ((Unit) ⊕ (Unit))) := fun x2 =>
 letO x2 fun v1 =>
 br (std.lt v1 (std.ofN (len a0)))
 (req (std.inR v1 (len a0)) <|
 req (std.inR v1 (len a1)) <|
 (Fq74 (gd a0 (std.toN v1)) (gd a1 (std.toN v1))).bind fun y16 =>
 br (!(y16))
 (some (.inr (.inl ())))
 (some (.inl (std.add .i64 v1 1))))
 (some (.inr (.inr ())))
/-- impl.Cell] -/
def Fq29 (a0 : List TC) (a1 : List TC) : Option (Bool) :=
 br (std.not (std.eq (std.ofN (len a0)) (std.ofN (len a1))))
 (some false)
 ((whileP (σ := Int) (ρ := (Unit) ⊕ (Unit)) (Lq29_x2 a0 a1) 0).bind fun y3 =>
 (match y3 with
 | .inl y3k0 => (
 some false)
 | .inr y3m0 =>
 some true))
theorem runq29 (a0 : List TC) (a1 : List TC) (r : Bool) (h : Fq29 a0 a1 = some r) : Fun Tryz.prog 93 [.c (.bs (len a0) 4 (row gd (eC len gd) a0)), .c (.bs (len a1) 4 (row gd (eC len gd) a1)), .c (.fn 94 0 fun _ => .junk)] [] (.c (.v (.bool r))) [] true := by
 refine Fun.of_wp (oneOf []) tok mixed Tryz.func93 (by kernel_rfl) rfl Tryz.ntmps93 rfl trivial (fun _ => ⟨trivial, tv⟩) ?_
 unfold Fq29 at h
 unfold Lq29_x2 at h
 have hfq74 := @runq74
 generalize hLEN : @len = LEN, hGD : @gd = GD, hA : std = A, hP : Tryz.prog = P at *
 cbv
 refine fork (fun b20 => ?_) (fun b20 => ?_)
 ·replace h := ot b20 h
  cbv
  injection h with h
  subst h
  refine ⟨(sp 32 [(6, .c (.v (.bool false)))] []), ?_, ?_⟩
  ·exact lsp rfl zl1 trivial rfl
  ·exact ⟨lR _, trivial, rfl⟩
 ·replace h := og b20 h
  cbv
  replace h := ob_ h
  obtain ⟨y3, hr4, hN5⟩ := h
  refine loop_cut hr4 (fun x => (sp 32 [(1, .c (.bs (LEN a1) 4 (row GD (eC LEN GD) a1))), (2, .c (.fn 94 0 fun _ => .junk)), (15, .c (.bs (LEN a0) 4 (row GD (eC LEN GD) a0))), (16, .c (wi (A.ofN (LEN a0)))), (17, .c (wi x))] [])) ?_ (fun y e s => (match y with | .inl w => e = .ret /\ s.le (sp 32 [(6, .c (.v (.bool false)))] []) | .inr w0 => (fun (w : Unit) => e = .exit 0 /\ s.le (sp 32 [] [])) w0)) ?_ ?_
  ·clear hr4 hN5
   show St.le _ _
   exact lsp rfl zl5 trivial rfl
  ·clear hr4 hN5
   intro x z9 h K7 hK8 hY6
   replace h := ol h
   obtain ⟨v1, hv1, h⟩ := h
   have hv1 : v1 = x := hv1
   subst hv1
   cbv
   refine fork (fun b19 => ?_) (fun b19 => ?_)
   ·replace h := ot b19 h
    cbv
    replace h := oq_ h
    obtain ⟨c14, h⟩ := h
    refine ⟨⟨c14, tv⟩, ?_⟩
    replace h := oq_ h
    obtain ⟨c15, h⟩ := h
    refine ⟨⟨c15, tv⟩, ?_⟩
    replace h := ob_ h
    obtain ⟨y16, hy17, h⟩ := h
    refine ⟨⟨_, _, _, _, _, [], []⟩, hfq74 _ _ _ hy17, ⟨zs2, trivial, rfl, rfl, rfl, rfl, trivial, rfl⟩, ?_⟩
    cbv
    refine fork (fun b18 => ?_) (fun b18 => ?_)
    ·replace h := ot b18 h
     cbv
     injection h with h
     refine hY6 _ h.symm _ _ (And.intro rfl ?_) (by intro hh; cases hh)
     exact lsp rfl zl1 trivial rfl
    ·replace h := og b18 h
     cbv
     injection h with h
     refine hK8 _ h.symm _ ?_
     exact lsp rfl zl5 trivial rfl
   ·replace h := og b19 h
    cbv
    injection h with h
    refine hY6 _ h.symm _ _ (And.intro rfl ?_) (by intro hh; cases hh)
    exact lsp rfl trivial trivial rfl
  ·clear hr4
   have h := hN5
   clear hN5
   intro e12 s13 q11 hne
   rcases y3 with y3k0 | y3m0
   ·replace h := h
    obtain ⟨rfl, q11⟩ := q11
    cbv
    injection h with h
    subst h
    refine ⟨(sp 32 [(6, .c (.v (.bool false)))] []), ?_, ?_⟩
    ·refine St.le_trans q11 ?_
     exact lsp rfl zl1 trivial rfl
    ·exact ⟨lR _, trivial, rfl⟩
   ·obtain ⟨rfl, q11⟩ := q11
    cbv
    refine ⟨_, q11, ?_⟩
    cbv
    injection h with h
    subst h
    refine ⟨(sp 32 [(6, .c (.v (.bool true)))] []), ?_, ?_⟩
    ·exact lsp rfl zl1 trivial rfl
    ·exact ⟨lR _, trivial, rfl⟩

/-- impl.SameLibrary -/
def Fq65 (a0 : TL) (a1 : TL) : Option (Bool) :=
 ((
 (Fq5 (TL.mk a0.fC)).bind fun y8 =>
 br y8
 ((Fq5 (TL.mk a1.fC)).bind fun y10 =>
 br y10
 ((Fq29 a0.fC a1.fC).bind fun y12 =>
 some y12)
 (some false))
 (some false)
 ) : Option (Bool)).bind fun y1 =>
 letO y1 fun w7 =>
 some w7
theorem runq65 (a0 : TL) (a1 : TL) (r : Bool) (h : Fq65 a0 a1 = some r) : Fun Tryz.prog 45 [.agg [.bs (len a0.fC) 4 (row gd (eC len gd) a0.fC)], .agg [.bs (len a1.fC) 4 (row gd (eC len gd) a1.fC)]] [] (.c (.v (.bool r))) [] true := by
 refine Fun.of_wp (oneOf [1]) tok mixed Tryz.func45 (by kernel_rfl) rfl Tryz.ntmps45 rfl trivial (fun _ => ⟨trivial, tv⟩) ?_
 unfold Fq65 at h
 have hfq5 := @runq5
 have hfq29 := @runq29
 generalize hLEN : @len = LEN, hGD : @gd = GD, hA : std = A, hP : Tryz.prog = P at *
 cbv
 replace h := ob_ h
 obtain ⟨y1, hy2, h⟩ := h
 obtain ⟨S5, hS6⟩ : ∃ S, S = (sp 18 [(4, .c (.v (.bool y1)))] []) := ⟨_, rfl⟩
 refine ⟨S5, ?_, ?_⟩
 ·clear h
  have h := hy2
  clear hy2
  cbv
  replace h := ob_ h
  obtain ⟨y8, hy9, h⟩ := h
  refine ⟨⟨_, _, _, _, _, [], []⟩, hfq5 _ _ hy9, ⟨zs1, trivial, rfl, rfl, rfl, rfl, trivial, rfl⟩, ?_⟩
  cbv
  refine fork (fun b15 => ?_) (fun b15 => ?_)
  ·replace h := ot b15 h
   cbv
   replace h := ob_ h
   obtain ⟨y10, hy11, h⟩ := h
   refine ⟨⟨_, _, _, _, _, [], []⟩, hfq5 _ _ hy11, ⟨zs1, trivial, rfl, rfl, rfl, rfl, trivial, rfl⟩, ?_⟩
   cbv
   refine fork (fun b14 => ?_) (fun b14 => ?_)
   ·replace h := ot b14 h
    cbv
    replace h := ob_ h
    obtain ⟨y12, hy13, h⟩ := h
    refine ⟨⟨_, _, _, _, _, [], []⟩, hfq29 _ _ _ hy13, ⟨zs3, trivial, rfl, rfl, rfl, rfl, trivial, rfl⟩, ?_⟩
    cbv
    injection h with h
    subst h
    subst hS6
    exact lsp rfl zl1 trivial rfl
   ·replace h := og b14 h
    cbv
    injection h with h
    subst h
    subst hS6
    exact lsp rfl zl1 trivial rfl
  ·replace h := og b15 h
   cbv
   injection h with h
   subst h
   subst hS6
   exact lsp rfl zl1 trivial rfl
 ·clear hy2
  subst hS6
  replace h := ol h
  obtain ⟨w7, hw7, h⟩ := h
  have hw7 : w7 = y1 := hw7
  subst hw7
  cbv
  injection h with h
  subst h
  refine ⟨(sp 18 [(4, .c (.v (.bool w7)))] []), ?_, ?_⟩
  ·exact lsp rfl zl1 trivial rfl
  ·exact ⟨lR _, trivial, rfl⟩

/-- laws.FnInverse -/
def Fq92 (a0 : List Int) : Option (Bool) :=
 (Fq87 a0).bind fun y1 =>
 br y1
 (some true)
 ((Fq81 a0).bind fun y3 =>
 (Fq47 y3.1 y3.2).bind fun y5 =>
 (Fq75 y3.1 y3.2).bind fun y7 =>
 br (std.not (std.eq y5.2 y7.2))
 (some false)
 (br (std.not (std.eq y5.2 0))
 (some (std.eq (std.ofN (len y5.1.fC)) 0))
 ((Fq47 y5.1 y7.1).bind fun y9 =>
 ((
 br (std.eq y9.2 0)
 ((Fq65 y9.1 y3.1).bind fun y18 =>
 br y18
 ((Fq5 y5.1).bind fun y20 =>
 some y20)
 (some false))
 (some false)
 ) : Option (Bool)).bind fun y11 =>
 letO y11 fun w17 =>
 some w17)))
theorem runq92 (a0 : List Int) (r : Bool) (h : Fq92 a0 = some r) : Fun Tryz.prog 9 [.c (.bs (len a0) 1 (row gd (encI .u8) a0))] [] (.c (.v (.bool r))) [] true := by
 refine Fun.of_wp (oneOf [11]) tok mixed Tryz.func9 (by kernel_rfl) rfl Tryz.ntmps9 rfl trivial (fun _ => ⟨trivial, tv⟩) ?_
 unfold Fq92 at h
 have hfq47 := @runq47
 have hfq75 := @runq75
 have hfq5 := @runq5
 have hfq65 := @runq65
 have hfq87 := @runq87
 have hfq81 := @runq81
 generalize hLEN : @len = LEN, hGD : @gd = GD, hA : std = A, hP : Tryz.prog = P at *
 cbv
 replace h := ob_ h
 obtain ⟨y1, hy2, h⟩ := h
 refine ⟨⟨_, _, _, _, _, [], []⟩, hfq87 _ _ hy2, ⟨zs1, trivial, rfl, rfl, rfl, rfl, trivial, rfl⟩, ?_⟩
 cbv
 refine fork (fun b26 => ?_) (fun b26 => ?_)
 ·replace h := ot b26 h
  cbv
  injection h with h
  subst h
  refine ⟨(sp 56 [(2, .c (.v (.bool true)))] []), ?_, ?_⟩
  ·exact lsp rfl zl1 trivial rfl
  ·exact ⟨lR _, trivial, rfl⟩
 ·replace h := og b26 h
  cbv
  replace h := ob_ h
  obtain ⟨y3, hy4, h⟩ := h
  refine ⟨⟨_, _, _, _, _, [], [(64000, 960)]⟩, hfq81 _ _ hy4, ⟨zs1, trivial, rfl, rfl, rfl, rfl, ⟨evn 64000 rfl, tv⟩, rfl⟩, _, rfl, _, _, rfl, fun _ _ _ _ => .refl _, ?_⟩
  cbv
  replace h := ob_ h
  obtain ⟨y5, hy6, h⟩ := h
  refine ⟨⟨_, _, _, _, _, [], [(64000, 1344)]⟩, hfq47 _ _ _ hy6, ⟨lc (le_agg ⟨give_osD (rC) (ln_oncCell) rfl rfl rfl, tv⟩) (zs1), trivial, rfl, rfl, rfl, rfl, ⟨evn 64000 rfl, tv⟩, rfl⟩, _, rfl, _, _, rfl, fun _ _ _ _ => .refl _, ?_⟩
  cbv
  replace h := ob_ h
  obtain ⟨y7, hy8, h⟩ := h
  refine ⟨⟨_, _, _, _, _, [], []⟩, hfq75 _ _ _ hy8, ⟨lc (le_agg ⟨give_osD (rC) (ln_oncCell) rfl rfl rfl, tv⟩) (zs1), trivial, rfl, rfl, rfl, rfl, trivial, rfl⟩, ?_⟩
  cbv
  refine fork (fun b25 => ?_) (fun b25 => ?_)
  ·replace h := ot b25 h
   cbv
   injection h with h
   subst h
   refine ⟨(sp 56 [(2, .c (.v (.bool false)))] []), ?_, ?_⟩
   ·exact lsp rfl zl1 trivial rfl
   ·exact ⟨lR _, trivial, rfl⟩
  ·replace h := og b25 h
   cbv
   refine fork (fun b24 => ?_) (fun b24 => ?_)
   ·replace h := ot b24 h
    cbv
    injection h with h
    subst h
    refine ⟨(sp 56 [(2, .c (.v (.bool (A.eq (A.ofN (LEN y5.1.fC)) 0))))] []), ?_, ?_⟩
    ·exact lsp rfl zl1 trivial rfl
    ·exact ⟨lR _, trivial, rfl⟩
   ·replace h := og b24 h
    cbv
    replace h := ob_ h
    obtain ⟨y9, hy10, h⟩ := h
    refine ⟨⟨_, _, _, _, _, [], [(64000, 2688)]⟩, hfq47 _ _ _ hy10, ⟨lc (le_agg ⟨give_osD (rC) (ln_oncCell) rfl rfl rfl, tv⟩) (zs1), trivial, rfl, rfl, rfl, rfl, ⟨evn 64000 rfl, tv⟩, rfl⟩, _, rfl, _, _, rfl, fun _ _ _ _ => .refl _, ?_⟩
    cbv
    replace h := ob_ h
    obtain ⟨y11, hy12, h⟩ := h
    obtain ⟨S15, hS16⟩ : ∃ S, S = (sp 56 [(2, .c (.v (.bool y11)))] []) := ⟨_, rfl⟩
    refine ⟨S15, ?_, ?_⟩
    ·clear h
     have h := hy12
     clear hy12
     cbv
     refine fork (fun b23 => ?_) (fun b23 => ?_)
     ·replace h := ot b23 h
      cbv
      replace h := ob_ h
      obtain ⟨y18, hy19, h⟩ := h
      refine ⟨⟨_, _, _, _, _, [], []⟩, hfq65 _ _ _ hy19, ⟨lc (le_agg ⟨give_osD (rC) (ln_oncCell) rfl rfl rfl, tv⟩) (lc (le_agg ⟨give_osD (rC) (ln_oncCell) rfl rfl rfl, tv⟩) (ln_)), trivial, rfl, rfl, rfl, rfl, trivial, rfl⟩, ?_⟩
      cbv
      refine fork (fun b22 => ?_) (fun b22 => ?_)
      ·replace h := ot b22 h
       cbv
       replace h := ob_ h
       obtain ⟨y20, hy21, h⟩ := h
       refine ⟨⟨_, _, _, _, _, [], []⟩, hfq5 _ _ hy21, ⟨lc (le_agg ⟨give_osD (rC) (ln_oncCell) rfl rfl rfl, tv⟩) (ln_), trivial, rfl, rfl, rfl, rfl, trivial, rfl⟩, ?_⟩
       cbv
       injection h with h
       subst h
       subst hS16
       exact lsp rfl zl1 trivial rfl
      ·replace h := og b22 h
       cbv
       injection h with h
       subst h
       subst hS16
       exact lsp rfl zl1 trivial rfl
     ·replace h := og b23 h
      cbv
      injection h with h
      subst h
      subst hS16
      exact lsp rfl zl1 trivial rfl
    ·clear hy12
     subst hS16
     replace h := ol h
     obtain ⟨w17, hw17, h⟩ := h
     have hw17 : w17 = y11 := hw17
     subst hw17
     cbv
     injection h with h
     subst h
     refine ⟨(sp 56 [(2, .c (.v (.bool w17)))] []), ?_, ?_⟩
     ·exact lsp rfl zl1 trivial rfl
     ·exact ⟨lR _, trivial, rfl⟩
set_option maxHeartbeats 4000000
theorem op_5 (d : Nat) : Opens T (d + 1) 5 (clI .u8) (wfI .u8) := op_int .u8 (show T 5 = some d5 from rfl) rfl
theorem op_88 (d : Nat) : Opens T (d + 2) 88 (clL 1 (encI .u8)) (wfL (wfI .u8)) := op_slice (e := 5) (sz := 1) (show T 88 = some d88 from rfl) rfl (show T 5 = some d5 from rfl) rfl (fun x j hj => by match j, hj with | 0, _ => rfl | (j_ + 1), h_ => omega) (op_5 d)
theorem open_88 {H : Type} {enc : TypeId × Value -> H} {W : World} {spare : Nat -> Bool} {held : Bool} {r : Reach} {base : Nat} {v : Value} {x : DataW H} {ps : List MemPlace}
    (hv : Value.okWide Tryz.prog W r base 88 v) (h : DataW.Trod enc Tryz.prog W 0 spare held 88 v x ps) : ∃ e : List Int, (wfL (wfI .u8)) e /\ RelV (RelI (fun b => b < W.heap.size) W) (.c (.bs (len e) 1 (row gd (encI .u8) e))) v := by
  refine opened_one tok (op_88 0) (fun _ => rfl) (by kernel_rfl) ?_ h
  have ht : Tryz.prog.underlying 88 = some (.slice 5) := (tok 88 d88 rfl).1
  unfold Value.okWide at hv
  rw [ht] at hv
  cases v <;> first | rfl | exact False.elim hv
end
end Go.Proofs.YtohgghncmkiicaaGreat.AM
