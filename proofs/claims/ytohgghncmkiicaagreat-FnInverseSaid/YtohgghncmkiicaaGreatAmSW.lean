/-
  What the functions that the law reaches compute, and that they do. No condition.
-/
import Derived.Test.YtohgghncmkiicaaGreatAmSV
namespace Go.Proofs.YtohgghncmkiicaaGreat.AM
noncomputable section
open Go Go.Proofs Go.RowKit
set_option linter.unusedVariables false
set_option linter.unusedSimpArgs false
set_option maxRecDepth 100000

set_option maxHeartbeats 4000000
/-- spec.l13NoInstance -/
def Fq60 (a0 : TI) : Option (Bool) :=
 some (std.band (std.eq a0.fc 0) (std.band (std.band (std.eq a0.fp.fo 0) (std.band (std.eq a0.fp.fX 0) (std.band (std.eq a0.fp.fY 0) (true)))) (std.band (std.eq a0.fK 0) (std.band (std.eq a0.fR 0) (std.band (std.eq a0.fu 0) (std.band (std.eq a0.fv 0) (true)))))))
theorem runq60 (a0 : TI) (r : Bool) (h : Fq60 a0 = some r) : Fun Tryz.prog 188 [.agg [wi a0.fc, wi a0.fp.fo, wi a0.fp.fX, wi a0.fp.fY, wi a0.fK, wi a0.fR, wi a0.fu, wi a0.fv]] [] (.c (.v (.bool r))) [] true := by
 refine Fun.of_wp (oneOf []) tok mixed Tryz.func188 (by kernel_rfl) rfl Tryz.ntmps188 rfl trivial (fun _ => ⟨trivial, tv⟩) ?_
 unfold Fq60 at h
 generalize hLEN : @len = LEN, hGD : @gd = GD, hA : std = A, hP : Tryz.prog = P at *
 cbv
 injection h with h
 subst h
 refine ⟨(sp 6 [(2, .c (.v (.bool (A.band (A.eq a0.fc 0) (A.band (A.band (A.eq a0.fp.fo 0) (A.band (A.eq a0.fp.fX 0) (A.band (A.eq a0.fp.fY 0) (true)))) (A.band (A.eq a0.fK 0) (A.band (A.eq a0.fR 0) (A.band (A.eq a0.fu 0) (A.band (A.eq a0.fv 0) (true))))))))))] []), ?_, ?_⟩
 ·exact lsp rfl zl1 trivial rfl
 ·exact ⟨lR _, trivial, rfl⟩

/-- spec.IsValidEdit -/
def Fq67 (a0 : TE) : Option (Bool) :=
 ((
 (Fq1 a0.fk 1 9).bind fun y8 =>
 br (!(y8))
 (some true)
 ((Fq1 a0.fc 0 8).bind fun y10 =>
 br (!(y10))
 (some true)
 ((Fq1 a0.fx 0 24).bind fun y12 =>
 some (!(y12))))
 ) : Option (Bool)).bind fun y1 =>
 letO y1 fun w7 =>
 br w7
 (some false)
 (((
 br (std.le 7 a0.fk)
 (some (std.not (std.eq a0.fx 0)))
 (some false)
 ) : Option (Bool)).bind fun y16 =>
 letO y16 fun w22 =>
 br w22
 (some false)
 (((
 br (std.eq a0.fk 7)
 (some true)
 (some (std.eq a0.fk 8))
 ) : Option (Bool)).bind fun y24 =>
 letO y24 fun w30 =>
 ((
 br w30
 ((Fq10 a0.fN).bind fun y39 =>
 br (!(y39))
 (some true)
 (br (!(w30))
 (some (std.not (std.seq a0.fN (ByteArray.mk #[]))))
 (some false)))
 (br (!(w30))
 (some (std.not (std.seq a0.fN (ByteArray.mk #[]))))
 (some false))
 ) : Option (Bool)).bind fun y32 =>
 letO y32 fun w38 =>
 br w38
 (some false)
 (((
 br (std.eq a0.fk 1)
 ((Fq31 a0.fs_).bind fun y52 =>
 br (!(y52))
 (some true)
 (br (std.not (std.eq a0.fk 1))
 ((Fq50 a0.fs_).bind fun y54 =>
 some (!(y54)))
 (some false)))
 (br (std.not (std.eq a0.fk 1))
 ((Fq50 a0.fs_).bind fun y58 =>
 some (!(y58)))
 (some false))
 ) : Option (Bool)).bind fun y45 =>
 letO y45 fun w51 =>
 br w51
 (some false)
 (((
 br (std.eq a0.fk 3)
 ((Fq28 a0.fl_).bind fun y69 =>
 br (!(y69))
 (some true)
 (br (std.not (std.eq a0.fk 3))
 ((Fq49 a0.fl_).bind fun y71 =>
 some (!(y71)))
 (some false)))
 (br (std.not (std.eq a0.fk 3))
 ((Fq49 a0.fl_).bind fun y75 =>
 some (!(y75)))
 (some false))
 ) : Option (Bool)).bind fun y62 =>
 letO y62 fun w68 =>
 br w68
 (some false)
 (br (std.eq a0.fk 5)
 ((Fq36 a0.fi_ 8).bind fun y79 =>
 some y79)
 ((Fq60 a0.fi_).bind fun y81 =>
 some y81))))))
theorem runq67 (a0 : TE) (r : Bool) (h : Fq67 a0 = some r) : Fun Tryz.prog 105 [.agg (cE a0)] [] (.c (.v (.bool r))) [] true := by
 refine Fun.of_wp (oneOf [1, 3, 5, 6, 8, 10]) tok mixed Tryz.func105 (by kernel_rfl) rfl Tryz.ntmps105 rfl trivial (fun _ => ⟨trivial, tv⟩) ?_
 unfold Fq67 at h
 have hfq10 := @runq10
 have hfq1 := @runq1
 have hfq36 := @runq36
 have hfq28 := @runq28
 have hfq31 := @runq31
 have hfq60 := @runq60
 have hfq49 := @runq49
 have hfq50 := @runq50
 generalize hLEN : @len = LEN, hGD : @gd = GD, hA : std = A, hP : Tryz.prog = P at *
 cbv
 replace h := ob_ h
 obtain ⟨y1, hy2, h⟩ := h
 obtain ⟨S5, hS6⟩ : ∃ S, S = (sp 101 [(1, .c (.ptr 64 0)), (19, .c (.v (.bool y1)))] [(64, .var (cE a0))]) := ⟨_, rfl⟩
 refine ⟨S5, ?_, ?_⟩
 ·clear h
  have h := hy2
  clear hy2
  cbv
  replace h := ob_ h
  obtain ⟨y8, hy9, h⟩ := h
  refine ⟨⟨_, _, _, _, _, [], []⟩, hfq1 _ _ _ _ hy9, ⟨zs3, trivial, rfl, rfl, rfl, rfl, trivial, rfl⟩, ?_⟩
  cbv
  refine fork (fun b15 => ?_) (fun b15 => ?_)
  ·replace h := ot b15 h
   cbv
   injection h with h
   subst h
   subst hS6
   exact lsp rfl zl2 ⟨rfl, tv⟩ rfl
  ·replace h := og b15 h
   cbv
   replace h := ob_ h
   obtain ⟨y10, hy11, h⟩ := h
   refine ⟨⟨_, _, _, _, _, [], []⟩, hfq1 _ _ _ _ hy11, ⟨zs3, trivial, rfl, rfl, rfl, rfl, trivial, rfl⟩, ?_⟩
   cbv
   refine fork (fun b14 => ?_) (fun b14 => ?_)
   ·replace h := ot b14 h
    cbv
    injection h with h
    subst h
    subst hS6
    exact lsp rfl zl2 ⟨rfl, tv⟩ rfl
   ·replace h := og b14 h
    cbv
    replace h := ob_ h
    obtain ⟨y12, hy13, h⟩ := h
    refine ⟨⟨_, _, _, _, _, [], []⟩, hfq1 _ _ _ _ hy13, ⟨zs3, trivial, rfl, rfl, rfl, rfl, trivial, rfl⟩, ?_⟩
    cbv
    injection h with h
    subst h
    subst hS6
    exact lsp rfl zl2 ⟨rfl, tv⟩ rfl
 ·clear hy2
  subst hS6
  replace h := ol h
  obtain ⟨w7, hw7, h⟩ := h
  have hw7 : w7 = y1 := hw7
  subst hw7
  cbv
  refine fork (fun b88 => ?_) (fun b88 => ?_)
  ·replace h := ot b88 h
   cbv
   injection h with h
   subst h
   refine ⟨(sp 101 [(2, .c (.v (.bool false)))] []), ?_, ?_⟩
   ·exact lsp rfl zl1 trivial rfl
   ·exact ⟨lR _, trivial, rfl⟩
  ·replace h := og b88 h
   cbv
   replace h := ob_ h
   obtain ⟨y16, hy17, h⟩ := h
   obtain ⟨S20, hS21⟩ : ∃ S, S = (sp 101 [(1, .c (.ptr 64 0)), (27, .c (.v (.bool y16)))] [(64, .var (cE a0))]) := ⟨_, rfl⟩
   refine ⟨S20, ?_, ?_⟩
   ·clear h
    have h := hy17
    clear hy17
    cbv
    refine fork (fun b23 => ?_) (fun b23 => ?_)
    ·replace h := ot b23 h
     cbv
     injection h with h
     subst h
     subst hS21
     exact lsp rfl zl2 ⟨rfl, tv⟩ rfl
    ·replace h := og b23 h
     cbv
     injection h with h
     subst h
     subst hS21
     exact lsp rfl zl2 ⟨rfl, tv⟩ rfl
   ·clear hy17
    subst hS21
    replace h := ol h
    obtain ⟨w22, hw22, h⟩ := h
    have hw22 : w22 = y16 := hw22
    subst hw22
    cbv
    refine fork (fun b87 => ?_) (fun b87 => ?_)
    ·replace h := ot b87 h
     cbv
     injection h with h
     subst h
     refine ⟨(sp 101 [(2, .c (.v (.bool false)))] []), ?_, ?_⟩
     ·exact lsp rfl zl1 trivial rfl
     ·exact ⟨lR _, trivial, rfl⟩
    ·replace h := og b87 h
     cbv
     replace h := ob_ h
     obtain ⟨y24, hy25, h⟩ := h
     obtain ⟨S28, hS29⟩ : ∃ S, S = (sp 101 [(1, .c (.ptr 64 0)), (3, .c (.v (.bool y24)))] [(64, .var (cE a0))]) := ⟨_, rfl⟩
     refine ⟨S28, ?_, ?_⟩
     ·clear h
      have h := hy25
      clear hy25
      cbv
      refine fork (fun b31 => ?_) (fun b31 => ?_)
      ·replace h := ot b31 h
       cbv
       injection h with h
       subst h
       subst hS29
       exact lsp rfl zl2 ⟨rfl, tv⟩ rfl
      ·replace h := og b31 h
       cbv
       injection h with h
       subst h
       subst hS29
       exact lsp rfl zl2 ⟨rfl, tv⟩ rfl
     ·clear hy25
      subst hS29
      replace h := ol h
      obtain ⟨w30, hw30, h⟩ := h
      have hw30 : w30 = y24 := hw30
      subst hw30
      cbv
      replace h := ob_ h
      obtain ⟨y32, hy33, h⟩ := h
      obtain ⟨S36, hS37⟩ : ∃ S, S = (sp 101 [(1, .c (.ptr 64 0)), (51, .c (.v (.bool y32)))] [(64, .var (cE a0))]) := ⟨_, rfl⟩
      refine ⟨S36, ?_, ?_⟩
      ·clear h
       have h := hy33
       clear hy33
       cbv
       refine fork (fun b44 => ?_) (fun b44 => ?_)
       ·replace h := ot b44 h
        cbv
        replace h := ob_ h
        obtain ⟨y39, hy40, h⟩ := h
        refine ⟨⟨_, _, _, _, _, [], []⟩, hfq10 _ _ hy40, ⟨zs1, trivial, rfl, rfl, rfl, rfl, trivial, rfl⟩, ?_⟩
        cbv
        refine fork (fun b42 => ?_) (fun b42 => ?_)
        ·replace h := ot b42 h
         cbv
         injection h with h
         subst h
         subst hS37
         exact lsp rfl zl2 ⟨rfl, tv⟩ rfl
        ·replace h := og b42 h
         cbv
         refine fork (fun b41 => ?_) (fun b41 => ?_)
         ·replace h := ot b41 h
          cbv
          injection h with h
          subst h
          subst hS37
          exact lsp rfl zl2 ⟨rfl, tv⟩ rfl
         ·replace h := og b41 h
          cbv
          injection h with h
          subst h
          subst hS37
          exact lsp rfl zl2 ⟨rfl, tv⟩ rfl
       ·replace h := og b44 h
        cbv
        refine fork (fun b43 => ?_) (fun b43 => ?_)
        ·replace h := ot b43 h
         cbv
         injection h with h
         subst h
         subst hS37
         exact lsp rfl zl2 ⟨rfl, tv⟩ rfl
        ·replace h := og b43 h
         cbv
         injection h with h
         subst h
         subst hS37
         exact lsp rfl zl2 ⟨rfl, tv⟩ rfl
      ·clear hy33
       subst hS37
       replace h := ol h
       obtain ⟨w38, hw38, h⟩ := h
       have hw38 : w38 = y32 := hw38
       subst hw38
       cbv
       refine fork (fun b86 => ?_) (fun b86 => ?_)
       ·replace h := ot b86 h
        cbv
        injection h with h
        subst h
        refine ⟨(sp 101 [(2, .c (.v (.bool false)))] []), ?_, ?_⟩
        ·exact lsp rfl zl1 trivial rfl
        ·exact ⟨lR _, trivial, rfl⟩
       ·replace h := og b86 h
        cbv
        replace h := ob_ h
        obtain ⟨y45, hy46, h⟩ := h
        obtain ⟨S49, hS50⟩ : ∃ S, S = (sp 101 [(1, .c (.ptr 64 0)), (71, .c (.v (.bool y45)))] [(64, .var (cE a0))]) := ⟨_, rfl⟩
        refine ⟨S49, ?_, ?_⟩
        ·clear h
         have h := hy46
         clear hy46
         cbv
         refine fork (fun b61 => ?_) (fun b61 => ?_)
         ·replace h := ot b61 h
          cbv
          replace h := ob_ h
          obtain ⟨y52, hy53, h⟩ := h
          refine ⟨⟨_, _, _, _, _, [], []⟩, hfq31 _ _ hy53, ⟨zs1, trivial, rfl, rfl, rfl, rfl, trivial, rfl⟩, ?_⟩
          cbv
          refine fork (fun b57 => ?_) (fun b57 => ?_)
          ·replace h := ot b57 h
           cbv
           injection h with h
           subst h
           subst hS50
           exact lsp rfl zl2 ⟨rfl, tv⟩ rfl
          ·replace h := og b57 h
           cbv
           refine fork (fun b56 => ?_) (fun b56 => ?_)
           ·replace h := ot b56 h
            cbv
            replace h := ob_ h
            obtain ⟨y54, hy55, h⟩ := h
            refine ⟨⟨_, _, _, _, _, [], []⟩, hfq50 _ _ hy55, ⟨zs1, trivial, rfl, rfl, rfl, rfl, trivial, rfl⟩, ?_⟩
            cbv
            injection h with h
            subst h
            subst hS50
            exact lsp rfl zl2 ⟨rfl, tv⟩ rfl
           ·replace h := og b56 h
            cbv
            injection h with h
            subst h
            subst hS50
            exact lsp rfl zl2 ⟨rfl, tv⟩ rfl
         ·replace h := og b61 h
          cbv
          refine fork (fun b60 => ?_) (fun b60 => ?_)
          ·replace h := ot b60 h
           cbv
           replace h := ob_ h
           obtain ⟨y58, hy59, h⟩ := h
           refine ⟨⟨_, _, _, _, _, [], []⟩, hfq50 _ _ hy59, ⟨zs1, trivial, rfl, rfl, rfl, rfl, trivial, rfl⟩, ?_⟩
           cbv
           injection h with h
           subst h
           subst hS50
           exact lsp rfl zl2 ⟨rfl, tv⟩ rfl
          ·replace h := og b60 h
           cbv
           injection h with h
           subst h
           subst hS50
           exact lsp rfl zl2 ⟨rfl, tv⟩ rfl
        ·clear hy46
         subst hS50
         replace h := ol h
         obtain ⟨w51, hw51, h⟩ := h
         have hw51 : w51 = y45 := hw51
         subst hw51
         cbv
         refine fork (fun b85 => ?_) (fun b85 => ?_)
         ·replace h := ot b85 h
          cbv
          injection h with h
          subst h
          refine ⟨(sp 101 [(2, .c (.v (.bool false)))] []), ?_, ?_⟩
          ·exact lsp rfl zl1 trivial rfl
          ·exact ⟨lR _, trivial, rfl⟩
         ·replace h := og b85 h
          cbv
          replace h := ob_ h
          obtain ⟨y62, hy63, h⟩ := h
          obtain ⟨S66, hS67⟩ : ∃ S, S = (sp 101 [(1, .c (.ptr 64 0)), (91, .c (.v (.bool y62)))] [(64, .var (cE a0))]) := ⟨_, rfl⟩
          refine ⟨S66, ?_, ?_⟩
          ·clear h
           have h := hy63
           clear hy63
           cbv
           refine fork (fun b78 => ?_) (fun b78 => ?_)
           ·replace h := ot b78 h
            cbv
            replace h := ob_ h
            obtain ⟨y69, hy70, h⟩ := h
            refine ⟨⟨_, _, _, _, _, [], []⟩, hfq28 _ _ hy70, ⟨zs1, trivial, rfl, rfl, rfl, rfl, trivial, rfl⟩, ?_⟩
            cbv
            refine fork (fun b74 => ?_) (fun b74 => ?_)
            ·replace h := ot b74 h
             cbv
             injection h with h
             subst h
             subst hS67
             exact lsp rfl zl2 ⟨rfl, tv⟩ rfl
            ·replace h := og b74 h
             cbv
             refine fork (fun b73 => ?_) (fun b73 => ?_)
             ·replace h := ot b73 h
              cbv
              replace h := ob_ h
              obtain ⟨y71, hy72, h⟩ := h
              refine ⟨⟨_, _, _, _, _, [], []⟩, hfq49 _ _ hy72, ⟨zs1, trivial, rfl, rfl, rfl, rfl, trivial, rfl⟩, ?_⟩
              cbv
              injection h with h
              subst h
              subst hS67
              exact lsp rfl zl2 ⟨rfl, tv⟩ rfl
             ·replace h := og b73 h
              cbv
              injection h with h
              subst h
              subst hS67
              exact lsp rfl zl2 ⟨rfl, tv⟩ rfl
           ·replace h := og b78 h
            cbv
            refine fork (fun b77 => ?_) (fun b77 => ?_)
            ·replace h := ot b77 h
             cbv
             replace h := ob_ h
             obtain ⟨y75, hy76, h⟩ := h
             refine ⟨⟨_, _, _, _, _, [], []⟩, hfq49 _ _ hy76, ⟨zs1, trivial, rfl, rfl, rfl, rfl, trivial, rfl⟩, ?_⟩
             cbv
             injection h with h
             subst h
             subst hS67
             exact lsp rfl zl2 ⟨rfl, tv⟩ rfl
            ·replace h := og b77 h
             cbv
             injection h with h
             subst h
             subst hS67
             exact lsp rfl zl2 ⟨rfl, tv⟩ rfl
          ·clear hy63
           subst hS67
           replace h := ol h
           obtain ⟨w68, hw68, h⟩ := h
           have hw68 : w68 = y62 := hw68
           subst hw68
           cbv
           refine fork (fun b84 => ?_) (fun b84 => ?_)
           ·replace h := ot b84 h
            cbv
            injection h with h
            subst h
            refine ⟨(sp 101 [(2, .c (.v (.bool false)))] []), ?_, ?_⟩
            ·exact lsp rfl zl1 trivial rfl
            ·exact ⟨lR _, trivial, rfl⟩
           ·replace h := og b84 h
            cbv
            refine fork (fun b83 => ?_) (fun b83 => ?_)
            ·replace h := ot b83 h
             cbv
             replace h := ob_ h
             obtain ⟨y79, hy80, h⟩ := h
             refine ⟨⟨_, _, _, _, _, [], []⟩, hfq36 _ _ _ hy80, ⟨zs2, trivial, rfl, rfl, rfl, rfl, trivial, rfl⟩, ?_⟩
             cbv
             injection h with h
             subst h
             refine ⟨(sp 101 [(2, .c (.v (.bool y79)))] []), ?_, ?_⟩
             ·exact lsp rfl zl1 trivial rfl
             ·exact ⟨lR _, trivial, rfl⟩
            ·replace h := og b83 h
             cbv
             replace h := ob_ h
             obtain ⟨y81, hy82, h⟩ := h
             refine ⟨⟨_, _, _, _, _, [], []⟩, hfq60 _ _ hy82, ⟨zs1, trivial, rfl, rfl, rfl, rfl, trivial, rfl⟩, ?_⟩
             cbv
             injection h with h
             subst h
             refine ⟨(sp 101 [(2, .c (.v (.bool y81)))] []), ?_, ?_⟩
             ·exact lsp rfl zl1 trivial rfl
             ·exact ⟨lR _, trivial, rfl⟩

def Lq20_x2 (a0 : TL) (a1 : Int) (a2 : ByteArray) : (Int) -> Option ((Int) ⊕ ((Bool) ⊕ (Unit))) := fun x2 =>
 letO x2 fun v1 =>
 br (std.lt v1 (std.ofN (len a0.fC)))
 (((
 br (std.not (std.eq v1 a1))
 (req (std.inR v1 (len a0.fC)) <|
 some (std.seq (gd a0.fC (std.toN v1)).fN a2))
 (some false)
 ) : Option (Bool)).bind fun y14 =>
 letO y14 fun w20 =>
 br w20
 (some (.inr (.inl true)))
 (some (.inl (std.add .i64 v1 1))))
 (some (.inr (.inr ())))
/-- spec.l13Named -/
def Fq20 (a0 : TL) (a1 : Int) (a2 : ByteArray) : Option (Bool) :=
 (whileP (σ := Int) (ρ := (Bool) ⊕ (Unit)) (Lq20_x2 a0 a1 a2) 0).bind fun y3 =>
 (match y3 with
 | .inl y3k0 => (
 letO y3k0 fun w25 =>
 some w25)
 | .inr y3m0 =>
 some false)
theorem runq20 (a0 : TL) (a1 : Int) (a2 : ByteArray) (r : Bool) (h : Fq20 a0 a1 a2 = some r) : Fun Tryz.prog 189 [.agg [.bs (len a0.fC) 4 (row gd (eC len gd) a0.fC)], .c (wi a1), .c (ws a2)] [] (.c (.v (.bool r))) [] true := by
 refine Fun.of_wp (oneOf [4]) tok mixed Tryz.func189 (by kernel_rfl) rfl Tryz.ntmps189 rfl trivial (fun _ => ⟨trivial, tv⟩) ?_
 unfold Fq20 at h
 unfold Lq20_x2 at h
 generalize hLEN : @len = LEN, hGD : @gd = GD, hA : std = A, hP : Tryz.prog = P at *
 cbv
 replace h := ob_ h
 obtain ⟨y3, hr4, hN5⟩ := h
 refine loop_cut hr4 (fun x => (sp 28 [(1, .c (wi a1)), (2, .c (ws a2)), (3, .c (.ptr 192 0)), (7, .c (wi x))] [(192, .var [.bs (LEN a0.fC) 4 (row GD (eC LEN GD) a0.fC)])])) ?_ (fun y e s => (match y with | .inl w => e = .ret /\ s.le (sp 28 [(6, .c (.v (.bool w)))] []) | .inr w0 => (fun (w : Unit) => e = .exit 0 /\ s.le (sp 28 [] [])) w0)) ?_ ?_
 ·clear hr4 hN5
  show St.le _ _
  exact lsp rfl zl4 ⟨rfl, tv⟩ rfl
 ·clear hr4 hN5
  intro x z9 h K7 hK8 hY6
  replace h := ol h
  obtain ⟨v1, hv1, h⟩ := h
  have hv1 : v1 = x := hv1
  subst hv1
  cbv
  refine fork (fun b24 => ?_) (fun b24 => ?_)
  ·replace h := ot b24 h
   cbv
   replace h := ob_ h
   obtain ⟨y14, hy15, h⟩ := h
   obtain ⟨S18, hS19⟩ : ∃ S, S = (sp 28 [(1, .c (wi a1)), (2, .c (ws a2)), (3, .c (.ptr 192 0)), (7, .c (wi v1)), (27, .c (.v (.bool y14)))] [(192, .var [.bs (LEN a0.fC) 4 (row GD (eC LEN GD) a0.fC)])]) := ⟨_, rfl⟩
   refine ⟨S18, ?_, ?_⟩
   ·clear h
    have h := hy15
    clear hy15
    cbv
    refine fork (fun b22 => ?_) (fun b22 => ?_)
    ·replace h := ot b22 h
     cbv
     replace h := oq_ h
     obtain ⟨c21, h⟩ := h
     refine ⟨⟨c21, tv⟩, ?_⟩
     injection h with h
     subst h
     subst hS19
     exact lsp rfl zl5 ⟨rfl, tv⟩ rfl
    ·replace h := og b22 h
     cbv
     injection h with h
     subst h
     subst hS19
     exact lsp rfl zl5 ⟨rfl, tv⟩ rfl
   ·clear hy15
    subst hS19
    replace h := ol h
    obtain ⟨w20, hw20, h⟩ := h
    have hw20 : w20 = y14 := hw20
    subst hw20
    cbv
    refine fork (fun b23 => ?_) (fun b23 => ?_)
    ·replace h := ot b23 h
     cbv
     injection h with h
     refine hY6 _ h.symm _ _ (And.intro rfl ?_) (by intro hh; cases hh)
     exact lsp rfl zl1 trivial rfl
    ·replace h := og b23 h
     cbv
     injection h with h
     refine hK8 _ h.symm _ ?_
     exact lsp rfl zl4 ⟨rfl, tv⟩ rfl
  ·replace h := og b24 h
   cbv
   injection h with h
   refine hY6 _ h.symm _ _ (And.intro rfl ?_) (by intro hh; cases hh)
   exact lsp rfl trivial trivial rfl
 ·clear hr4
  have h := hN5
  clear hN5
  intro e12 s13 q11 hne
  rcases y3 with y3k0 | y3m0
  ·replace h := h
   obtain ⟨rfl, q11⟩ := q11
   replace h := ol h
   obtain ⟨w25, hw25, h⟩ := h
   have hw25 : w25 = y3k0 := hw25
   subst hw25
   cbv
   injection h with h
   subst h
   refine ⟨(sp 28 [(6, .c (.v (.bool w25)))] []), ?_, ?_⟩
   ·refine St.le_trans q11 ?_
    exact lsp rfl zl1 trivial rfl
   ·exact ⟨lR _, trivial, rfl⟩
  ·obtain ⟨rfl, q11⟩ := q11
   cbv
   refine ⟨_, q11, ?_⟩
   cbv
   injection h with h
   subst h
   refine ⟨(sp 28 [(6, .c (.v (.bool false)))] []), ?_, ?_⟩
   ·exact lsp rfl zl1 trivial rfl
   ·exact ⟨lR _, trivial, rfl⟩

def Lq22_x2 (a0 : TC) (a1 : Int) : (Int) -> Option ((Int) ⊕ ((Bool) ⊕ (Unit))) := fun x2 =>
 letO x2 fun v1 =>
 br (std.lt v1 (std.ofN (len a0.fI)))
 (req (std.inR v1 (len a0.fI)) <|
 br (std.eq (gd a0.fI (std.toN v1)).fc a1)
 (some (.inr (.inl true)))
 (some (.inl (std.add .i64 v1 1))))
 (some (.inr (.inr ())))
/-- spec.l09Uses -/
def Fq22 (a0 : TC) (a1 : Int) : Option (Bool) :=
 (whileP (σ := Int) (ρ := (Bool) ⊕ (Unit)) (Lq22_x2 a0 a1) 0).bind fun y3 =>
 (match y3 with
 | .inl y3k0 => (
 letO y3k0 fun w17 =>
 some w17)
 | .inr y3m0 =>
 some false)
theorem runq22 (a0 : TC) (a1 : Int) (r : Bool) (h : Fq22 a0 a1 = some r) : Fun Tryz.prog 246 [.agg [ws a0.fN, .bs (len a0.fS) 5 (row gd (eS) a0.fS), .bs (len a0.fL) 4 (row gd (eL) a0.fL), .bs (len a0.fI) 8 (row gd (eI) a0.fI)], .c (wi a1)] [] (.c (.v (.bool r))) [] true := by
 refine Fun.of_wp (oneOf []) tok mixed Tryz.func246 (by kernel_rfl) rfl Tryz.ntmps246 rfl trivial (fun _ => ⟨trivial, tv⟩) ?_
 unfold Fq22 at h
 unfold Lq22_x2 at h
 generalize hLEN : @len = LEN, hGD : @gd = GD, hA : std = A, hP : Tryz.prog = P at *
 cbv
 replace h := ob_ h
 obtain ⟨y3, hr4, hN5⟩ := h
 refine loop_cut hr4 (fun x => (sp 21 [(1, .c (wi a1)), (2, .c (.ptr 128 0)), (5, .c (wi x))] [(128, .var [ws a0.fN, .bs (LEN a0.fS) 5 (row GD (eS) a0.fS), .bs (LEN a0.fL) 4 (row GD (eL) a0.fL), .bs (LEN a0.fI) 8 (row GD (eI) a0.fI)])])) ?_ (fun y e s => (match y with | .inl w => e = .ret /\ s.le (sp 21 [(4, .c (.v (.bool w)))] []) | .inr w0 => (fun (w : Unit) => e = .exit 0 /\ s.le (sp 21 [] [])) w0)) ?_ ?_
 ·clear hr4 hN5
  show St.le _ _
  exact lsp rfl zl3 ⟨rfl, tv⟩ rfl
 ·clear hr4 hN5
  intro x z9 h K7 hK8 hY6
  replace h := ol h
  obtain ⟨v1, hv1, h⟩ := h
  have hv1 : v1 = x := hv1
  subst hv1
  cbv
  refine fork (fun b16 => ?_) (fun b16 => ?_)
  ·replace h := ot b16 h
   cbv
   replace h := oq_ h
   obtain ⟨c14, h⟩ := h
   refine ⟨⟨c14, tv⟩, ?_⟩
   refine fork (fun b15 => ?_) (fun b15 => ?_)
   ·replace h := ot b15 h
    cbv
    injection h with h
    refine hY6 _ h.symm _ _ (And.intro rfl ?_) (by intro hh; cases hh)
    exact lsp rfl zl1 trivial rfl
   ·replace h := og b15 h
    cbv
    injection h with h
    refine hK8 _ h.symm _ ?_
    exact lsp rfl zl3 ⟨rfl, tv⟩ rfl
  ·replace h := og b16 h
   cbv
   injection h with h
   refine hY6 _ h.symm _ _ (And.intro rfl ?_) (by intro hh; cases hh)
   exact lsp rfl trivial trivial rfl
 ·clear hr4
  have h := hN5
  clear hN5
  intro e12 s13 q11 hne
  rcases y3 with y3k0 | y3m0
  ·replace h := h
   obtain ⟨rfl, q11⟩ := q11
   replace h := ol h
   obtain ⟨w17, hw17, h⟩ := h
   have hw17 : w17 = y3k0 := hw17
   subst hw17
   cbv
   injection h with h
   subst h
   refine ⟨(sp 21 [(4, .c (.v (.bool w17)))] []), ?_, ?_⟩
   ·refine St.le_trans q11 ?_
    exact lsp rfl zl1 trivial rfl
   ·exact ⟨lR _, trivial, rfl⟩
  ·obtain ⟨rfl, q11⟩ := q11
   cbv
   refine ⟨_, q11, ?_⟩
   cbv
   injection h with h
   subst h
   refine ⟨(sp 21 [(4, .c (.v (.bool false)))] []), ?_, ?_⟩
   ·exact lsp rfl zl1 trivial rfl
   ·exact ⟨lR _, trivial, rfl⟩

def Lq23_x2 (a0 : TL) (a1 : Int) : (Int) -> Option ((Int) ⊕ ((Bool) ⊕ (Unit))) := fun x2 =>
 letO x2 fun v1 =>
 br (std.lt v1 (std.ofN (len a0.fC)))
 (req (std.inR v1 (len a0.fC)) <|
 (Fq22 (gd a0.fC (std.toN v1)) a1).bind fun y15 =>
 br y15
 (some (.inr (.inl true)))
 (some (.inl (std.add .i64 v1 1))))
 (some (.inr (.inr ())))
/-- spec.l13Placed -/
def Fq23 (a0 : TL) (a1 : Int) : Option (Bool) :=
 (whileP (σ := Int) (ρ := (Bool) ⊕ (Unit)) (Lq23_x2 a0 a1) 0).bind fun y3 =>
 (match y3 with
 | .inl y3k0 => (
 letO y3k0 fun w19 =>
 some w19)
 | .inr y3m0 =>
 some false)
theorem runq23 (a0 : TL) (a1 : Int) (r : Bool) (h : Fq23 a0 a1 = some r) : Fun Tryz.prog 190 [.agg [.bs (len a0.fC) 4 (row gd (eC len gd) a0.fC)], .c (wi a1)] [] (.c (.v (.bool r))) [] true := by
 refine Fun.of_wp (oneOf []) tok mixed Tryz.func190 (by kernel_rfl) rfl Tryz.ntmps190 rfl trivial (fun _ => ⟨trivial, tv⟩) ?_
 unfold Fq23 at h
 unfold Lq23_x2 at h
 have hfq22 := @runq22
 generalize hLEN : @len = LEN, hGD : @gd = GD, hA : std = A, hP : Tryz.prog = P at *
 cbv
 replace h := ob_ h
 obtain ⟨y3, hr4, hN5⟩ := h
 refine loop_cut hr4 (fun x => (sp 20 [(1, .c (wi a1)), (2, .c (.ptr 128 0)), (5, .c (wi x))] [(128, .var [.bs (LEN a0.fC) 4 (row GD (eC LEN GD) a0.fC)])])) ?_ (fun y e s => (match y with | .inl w => e = .ret /\ s.le (sp 20 [(4, .c (.v (.bool w)))] []) | .inr w0 => (fun (w : Unit) => e = .exit 0 /\ s.le (sp 20 [] [])) w0)) ?_ ?_
 ·clear hr4 hN5
  show St.le _ _
  exact lsp rfl zl3 ⟨rfl, tv⟩ rfl
 ·clear hr4 hN5
  intro x z9 h K7 hK8 hY6
  replace h := ol h
  obtain ⟨v1, hv1, h⟩ := h
  have hv1 : v1 = x := hv1
  subst hv1
  cbv
  refine fork (fun b18 => ?_) (fun b18 => ?_)
  ·replace h := ot b18 h
   cbv
   replace h := oq_ h
   obtain ⟨c14, h⟩ := h
   refine ⟨⟨c14, tv⟩, ?_⟩
   replace h := ob_ h
   obtain ⟨y15, hy16, h⟩ := h
   refine ⟨⟨_, _, _, _, _, [], []⟩, hfq22 _ _ _ hy16, ⟨zs2, trivial, rfl, rfl, rfl, rfl, trivial, rfl⟩, ?_⟩
   cbv
   refine fork (fun b17 => ?_) (fun b17 => ?_)
   ·replace h := ot b17 h
    cbv
    injection h with h
    refine hY6 _ h.symm _ _ (And.intro rfl ?_) (by intro hh; cases hh)
    exact lsp rfl zl1 trivial rfl
   ·replace h := og b17 h
    cbv
    injection h with h
    refine hK8 _ h.symm _ ?_
    exact lsp rfl zl3 ⟨rfl, tv⟩ rfl
  ·replace h := og b18 h
   cbv
   injection h with h
   refine hY6 _ h.symm _ _ (And.intro rfl ?_) (by intro hh; cases hh)
   exact lsp rfl trivial trivial rfl
 ·clear hr4
  have h := hN5
  clear hN5
  intro e12 s13 q11 hne
  rcases y3 with y3k0 | y3m0
  ·replace h := h
   obtain ⟨rfl, q11⟩ := q11
   replace h := ol h
   obtain ⟨w19, hw19, h⟩ := h
   have hw19 : w19 = y3k0 := hw19
   subst hw19
   cbv
   injection h with h
   subst h
   refine ⟨(sp 20 [(4, .c (.v (.bool w19)))] []), ?_, ?_⟩
   ·refine St.le_trans q11 ?_
    exact lsp rfl zl1 trivial rfl
   ·exact ⟨lR _, trivial, rfl⟩
  ·obtain ⟨rfl, q11⟩ := q11
   cbv
   refine ⟨_, q11, ?_⟩
   cbv
   injection h with h
   subst h
   refine ⟨(sp 20 [(4, .c (.v (.bool false)))] []), ?_, ?_⟩
   ·exact lsp rfl zl1 trivial rfl
   ·exact ⟨lR _, trivial, rfl⟩

/-- spec.l13CellCode -/
def Fq57 (a0 : TL) (a1 : TE) : Option (Int) :=
 ((
 br (std.eq a1.fk 8)
 (br (std.lt (std.ofN (len a0.fC)) a1.fc)
 (some true)
 (br (std.not (std.eq a1.fk 8))
 (some (std.le (std.ofN (len a0.fC)) a1.fc))
 (some false)))
 (br (std.not (std.eq a1.fk 8))
 (some (std.le (std.ofN (len a0.fC)) a1.fc))
 (some false))
 ) : Option (Bool)).bind fun y1 =>
 letO y1 fun w7 =>
 br w7
 (some 5)
 (((
 br (std.eq a1.fk 8)
 (some (std.eq (std.ofN (len a0.fC)) 8))
 (some false)
 ) : Option (Bool)).bind fun y12 =>
 letO y12 fun w18 =>
 br w18
 (some 3)
 (((
 br (std.eq a1.fk 8)
 ((Fq20 (TL.mk a0.fC) (-1) a1.fN).bind fun y27 =>
 some y27)
 (some false)
 ) : Option (Bool)).bind fun y20 =>
 letO y20 fun w26 =>
 br w26
 (some 6)
 (((
 br (std.eq a1.fk 7)
 ((Fq20 (TL.mk a0.fC) a1.fc a1.fN).bind fun y37 =>
 some y37)
 (some false)
 ) : Option (Bool)).bind fun y30 =>
 letO y30 fun w36 =>
 br w36
 (some 6)
 (((
 br (std.eq a1.fk 9)
 (req (std.inR a1.fc (len a0.fC)) <|
 ((
 br (std.eq (std.ofN (len a0.fC)) 1)
 (some true)
 (br (std.lt 0 (std.add .i64 (std.add .i64 (std.ofN (len (gd a0.fC (std.toN a1.fc)).fS)) (std.ofN (len (gd a0.fC (std.toN a1.fc)).fL))) (std.ofN (len (gd a0.fC (std.toN a1.fc)).fI))))
 (some true)
 ((Fq23 (TL.mk a0.fC) a1.fc).bind fun y54 =>
 some y54))
 ) : Option (Bool)).bind fun y47 =>
 letO y47 fun w53 =>
 br w53
 ((some 6).bind fun r58 => some (.inl r58))
 (some (.inr ())))
 (some (.inr ()))
 ) : Option (_ ⊕ Unit)).bind fun z42 => (match z42 with
 | .inl r => some r
 | .inr y40 =>
 some 0)))))
theorem runq57 (a0 : TL) (a1 : TE) (r : Int) (h : Fq57 a0 a1 = some r) : Fun Tryz.prog 106 [.agg [.bs (len a0.fC) 4 (row gd (eC len gd) a0.fC)], .agg (cE a1)] [] (.c (wi r)) [] true := by
 refine Fun.of_wp (oneOf [2, 4, 6, 8, 12, 100061]) tok mixed Tryz.func106 (by kernel_rfl) rfl Tryz.ntmps106 rfl trivial (fun _ => ⟨trivial, tv⟩) ?_
 unfold Fq57 at h
 have hfq20 := @runq20
 have hfq23 := @runq23
 generalize hLEN : @len = LEN, hGD : @gd = GD, hA : std = A, hP : Tryz.prog = P at *
 cbv
 replace h := ob_ h
 obtain ⟨y1, hy2, h⟩ := h
 obtain ⟨S5, hS6⟩ : ∃ S, S = (sp 93 [(2, .c (.ptr 128 0)), (3, .c (.ptr 192 0)), (5, .c (wi (A.ofN (LEN a0.fC)))), (10, .c (.v (.bool y1)))] [(128, .var [.bs (LEN a0.fC) 4 (row GD (eC LEN GD) a0.fC)]), (192, .var (cE a1))]) := ⟨_, rfl⟩
 refine ⟨S5, ?_, ?_⟩
 ·clear h
  have h := hy2
  clear hy2
  cbv
  refine fork (fun b11 => ?_) (fun b11 => ?_)
  ·replace h := ot b11 h
   cbv
   refine fork (fun b9 => ?_) (fun b9 => ?_)
   ·replace h := ot b9 h
    cbv
    injection h with h
    subst h
    subst hS6
    exact lsp rfl zl4 ⟨rfl, rfl, tv⟩ rfl
   ·replace h := og b9 h
    cbv
    refine fork (fun b8 => ?_) (fun b8 => ?_)
    ·replace h := ot b8 h
     cbv
     injection h with h
     subst h
     subst hS6
     exact lsp rfl zl4 ⟨rfl, rfl, tv⟩ rfl
    ·replace h := og b8 h
     cbv
     injection h with h
     subst h
     subst hS6
     exact lsp rfl zl4 ⟨rfl, rfl, tv⟩ rfl
  ·replace h := og b11 h
   cbv
   refine fork (fun b10 => ?_) (fun b10 => ?_)
   ·replace h := ot b10 h
    cbv
    injection h with h
    subst h
    subst hS6
    exact lsp rfl zl4 ⟨rfl, rfl, tv⟩ rfl
   ·replace h := og b10 h
    cbv
    injection h with h
    subst h
    subst hS6
    exact lsp rfl zl4 ⟨rfl, rfl, tv⟩ rfl
 ·clear hy2
  subst hS6
  replace h := ol h
  obtain ⟨w7, hw7, h⟩ := h
  have hw7 : w7 = y1 := hw7
  subst hw7
  cbv
  refine fork (fun b66 => ?_) (fun b66 => ?_)
  ·replace h := ot b66 h
   cbv
   injection h with h
   subst h
   refine ⟨(sp 93 [(4, .c (wi 5))] []), ?_, ?_⟩
   ·exact lsp rfl zl1 trivial rfl
   ·exact ⟨lR _, trivial, rfl⟩
  ·replace h := og b66 h
   cbv
   replace h := ob_ h
   obtain ⟨y12, hy13, h⟩ := h
   obtain ⟨S16, hS17⟩ : ∃ S, S = (sp 93 [(2, .c (.ptr 128 0)), (3, .c (.ptr 192 0)), (5, .c (wi (A.ofN (LEN a0.fC)))), (31, .c (.v (.bool y12)))] [(128, .var [.bs (LEN a0.fC) 4 (row GD (eC LEN GD) a0.fC)]), (192, .var (cE a1))]) := ⟨_, rfl⟩
   refine ⟨S16, ?_, ?_⟩
   ·clear h
    have h := hy13
    clear hy13
    cbv
    refine fork (fun b19 => ?_) (fun b19 => ?_)
    ·replace h := ot b19 h
     cbv
     injection h with h
     subst h
     subst hS17
     exact lsp rfl zl4 ⟨rfl, rfl, tv⟩ rfl
    ·replace h := og b19 h
     cbv
     injection h with h
     subst h
     subst hS17
     exact lsp rfl zl4 ⟨rfl, rfl, tv⟩ rfl
   ·clear hy13
    subst hS17
    replace h := ol h
    obtain ⟨w18, hw18, h⟩ := h
    have hw18 : w18 = y12 := hw18
    subst hw18
    cbv
    refine fork (fun b65 => ?_) (fun b65 => ?_)
    ·replace h := ot b65 h
     cbv
     injection h with h
     subst h
     refine ⟨(sp 93 [(4, .c (wi 3))] []), ?_, ?_⟩
     ·exact lsp rfl zl1 trivial rfl
     ·exact ⟨lR _, trivial, rfl⟩
    ·replace h := og b65 h
     cbv
     replace h := ob_ h
     obtain ⟨y20, hy21, h⟩ := h
     obtain ⟨S24, hS25⟩ : ∃ S, S = (sp 93 [(2, .c (.ptr 128 0)), (3, .c (.ptr 192 0)), (5, .c (wi (A.ofN (LEN a0.fC)))), (39, .c (.v (.bool y20)))] [(128, .var [.bs (LEN a0.fC) 4 (row GD (eC LEN GD) a0.fC)]), (192, .var (cE a1))]) := ⟨_, rfl⟩
     refine ⟨S24, ?_, ?_⟩
     ·clear h
      have h := hy21
      clear hy21
      cbv
      refine fork (fun b29 => ?_) (fun b29 => ?_)
      ·replace h := ot b29 h
       cbv
       replace h := ob_ h
       obtain ⟨y27, hy28, h⟩ := h
       refine ⟨⟨_, _, _, _, _, [], []⟩, hfq20 _ _ _ _ hy28, ⟨zs3, trivial, rfl, rfl, rfl, rfl, trivial, rfl⟩, ?_⟩
       cbv
       injection h with h
       subst h
       subst hS25
       exact lsp rfl zl4 ⟨rfl, rfl, tv⟩ rfl
      ·replace h := og b29 h
       cbv
       injection h with h
       subst h
       subst hS25
       exact lsp rfl zl4 ⟨rfl, rfl, tv⟩ rfl
     ·clear hy21
      subst hS25
      replace h := ol h
      obtain ⟨w26, hw26, h⟩ := h
      have hw26 : w26 = y20 := hw26
      subst hw26
      cbv
      refine fork (fun b64 => ?_) (fun b64 => ?_)
      ·replace h := ot b64 h
       cbv
       injection h with h
       subst h
       refine ⟨(sp 93 [(4, .c (wi 6))] []), ?_, ?_⟩
       ·exact lsp rfl zl1 trivial rfl
       ·exact ⟨lR _, trivial, rfl⟩
      ·replace h := og b64 h
       cbv
       replace h := ob_ h
       obtain ⟨y30, hy31, h⟩ := h
       obtain ⟨S34, hS35⟩ : ∃ S, S = (sp 93 [(2, .c (.ptr 128 0)), (3, .c (.ptr 192 0)), (5, .c (wi (A.ofN (LEN a0.fC)))), (49, .c (.v (.bool y30)))] [(128, .var [.bs (LEN a0.fC) 4 (row GD (eC LEN GD) a0.fC)]), (192, .var (cE a1))]) := ⟨_, rfl⟩
       refine ⟨S34, ?_, ?_⟩
       ·clear h
        have h := hy31
        clear hy31
        cbv
        refine fork (fun b39 => ?_) (fun b39 => ?_)
        ·replace h := ot b39 h
         cbv
         replace h := ob_ h
         obtain ⟨y37, hy38, h⟩ := h
         refine ⟨⟨_, _, _, _, _, [], []⟩, hfq20 _ _ _ _ hy38, ⟨zs3, trivial, rfl, rfl, rfl, rfl, trivial, rfl⟩, ?_⟩
         cbv
         injection h with h
         subst h
         subst hS35
         exact lsp rfl zl4 ⟨rfl, rfl, tv⟩ rfl
        ·replace h := og b39 h
         cbv
         injection h with h
         subst h
         subst hS35
         exact lsp rfl zl4 ⟨rfl, rfl, tv⟩ rfl
       ·clear hy31
        subst hS35
        replace h := ol h
        obtain ⟨w36, hw36, h⟩ := h
        have hw36 : w36 = y30 := hw36
        subst hw36
        cbv
        refine fork (fun b63 => ?_) (fun b63 => ?_)
        ·replace h := ot b63 h
         cbv
         injection h with h
         subst h
         refine ⟨(sp 93 [(4, .c (wi 6))] []), ?_, ?_⟩
         ·exact lsp rfl zl1 trivial rfl
         ·exact ⟨lR _, trivial, rfl⟩
        ·replace h := og b63 h
         cbv
         replace h := ob_ h
         obtain ⟨z42, hy41, hz43⟩ := h
         obtain ⟨S44, hS45⟩ : ∃ S, S = (match z42 with | .inl _ => none | .inr y40 => some (sp 93 [] [])) := ⟨_, rfl⟩
         refine ⟨S44, ?_, ?_⟩
         ·have h := hy41
          clear hy41
          cbv
          refine fork (fun b62 => ?_) (fun b62 => ?_)
          ·replace h := ot b62 h
           cbv
           replace h := oq_ h
           obtain ⟨c46, h⟩ := h
           refine ⟨⟨c46, tv⟩, ?_⟩
           replace h := ob_ h
           obtain ⟨y47, hy48, h⟩ := h
           obtain ⟨S51, hS52⟩ : ∃ S, S = (sp 93 [(92, .c (.v (.bool y47)))] []) := ⟨_, rfl⟩
           refine ⟨S51, ?_, ?_⟩
           ·clear h
            have h := hy48
            clear hy48
            cbv
            refine fork (fun b57 => ?_) (fun b57 => ?_)
            ·replace h := ot b57 h
             cbv
             injection h with h
             subst h
             subst hS52
             exact lsp rfl zl1 trivial rfl
            ·replace h := og b57 h
             cbv
             refine fork (fun b56 => ?_) (fun b56 => ?_)
             ·replace h := ot b56 h
              cbv
              injection h with h
              subst h
              subst hS52
              exact lsp rfl zl1 trivial rfl
             ·replace h := og b56 h
              cbv
              replace h := ob_ h
              obtain ⟨y54, hy55, h⟩ := h
              refine ⟨⟨_, _, _, _, _, [], []⟩, hfq23 _ _ _ hy55, ⟨zs2, trivial, rfl, rfl, rfl, rfl, trivial, rfl⟩, ?_⟩
              cbv
              injection h with h
              subst h
              subst hS52
              exact lsp rfl zl1 trivial rfl
           ·clear hy48
            subst hS52
            replace h := ol h
            obtain ⟨w53, hw53, h⟩ := h
            have hw53 : w53 = y47 := hw53
            subst hw53
            cbv
            refine fork (fun b61 => ?_) (fun b61 => ?_)
            ·replace h := ot b61 h
             cbv
             replace h := ob_ h
             obtain ⟨r58, h59, he60⟩ := h
             injection he60 with he60
             subst he60
             injection hz43 with hz43
             subst hz43
             have h := h59
             injection h with h
             subst h
             refine ⟨(sp 93 [(4, .c (wi 6))] []), ?_, ?_⟩
             ·exact lsp rfl zl1 trivial rfl
             ·exact ⟨lR _, trivial, rfl⟩
            ·replace h := og b61 h
             cbv
             injection h with h
             subst h
             subst hS45
             exact lsp rfl trivial trivial rfl
          ·replace h := og b62 h
           cbv
           injection h with h
           subst h
           subst hS45
           exact lsp rfl trivial trivial rfl
         ·clear hy41
          subst hS45
          rcases z42 with _ | y40
          ·trivial
          ·have h := hz43
           clear hz43
           cbv
           injection h with h
           subst h
           refine ⟨(sp 93 [(4, .c (wi 0))] []), ?_, ?_⟩
           ·exact lsp rfl zl1 trivial rfl
           ·exact ⟨lR _, trivial, rfl⟩
set_option maxHeartbeats 4000000
/-- spec.l13Counts -/
def Fq84 (a0 : TC) (a1 : Int) : Option (Int × Int) :=
 ((
 br (std.eq a1 1)
 (some true)
 (some (std.eq a1 2))
 ) : Option (Bool)).bind fun y1 =>
 letO y1 fun w7 =>
 ((
 br w7
 ((some (std.ofN (len a0.fS), (24 : Int))).bind fun r15 => some (.inl r15))
 (((
 br (std.eq a1 3)
 (some true)
 (some (std.eq a1 4))
 ) : Option (Bool)).bind fun y18 =>
 letO y18 fun w24 =>
 ((
 br w24
 (((some (std.ofN (len a0.fL), (8 : Int))).bind fun r32 => some (.inl r32)).bind fun r35 => some (.inl r35))
 (some (.inr ()))
 ) : Option (_ ⊕ Unit)).bind fun z28 => (match z28 with
 | .inl r => some r
 | .inr y26 =>
 some (.inr ())))
 ) : Option (_ ⊕ Unit)).bind fun z11 => (match z11 with
 | .inl r => some r
 | .inr y9 =>
 some (std.ofN (len a0.fI), (8 : Int)))
theorem runq84 (a0 : TC) (a1 : Int) (r : Int × Int) (h : Fq84 a0 a1 = some r) : Fun Tryz.prog 107 [.agg [ws a0.fN, .bs (len a0.fS) 5 (row gd (eS) a0.fS), .bs (len a0.fL) 4 (row gd (eL) a0.fL), .bs (len a0.fI) 8 (row gd (eI) a0.fI)], .c (wi a1)] [] (.tup [.c (wi r.1), .c (wi r.2)]) [] true := by
 refine Fun.of_wp (oneOf [100007, 100013]) tok mixed Tryz.func107 (by kernel_rfl) rfl Tryz.ntmps107 rfl trivial (fun _ => ⟨(by simp [AV.flat, AV.flat1, AC.flat]), tv⟩) ?_
 unfold Fq84 at h
 generalize hLEN : @len = LEN, hGD : @gd = GD, hA : std = A, hP : Tryz.prog = P at *
 cbv
 replace h := ob_ h
 obtain ⟨y1, hy2, h⟩ := h
 obtain ⟨S5, hS6⟩ : ∃ S, S = some (sp 22 [(2, .c (.ptr 128 0)), (6, .c (wi a1)), (7, .c (.v (.bool y1)))] [(128, .var [ws a0.fN, .bs (LEN a0.fS) 5 (row GD (eS) a0.fS), .bs (LEN a0.fL) 4 (row GD (eL) a0.fL), .bs (LEN a0.fI) 8 (row GD (eI) a0.fI)])]) := ⟨_, rfl⟩
 refine ⟨S5, ?_, ?_⟩
 ·clear h
  have h := hy2
  clear hy2
  cbv
  refine fork (fun b8 => ?_) (fun b8 => ?_)
  ·replace h := ot b8 h
   cbv
   injection h with h
   subst h
   subst hS6
   exact lsp rfl zl3 ⟨rfl, tv⟩ rfl
  ·replace h := og b8 h
   cbv
   injection h with h
   subst h
   subst hS6
   exact lsp rfl zl3 ⟨rfl, tv⟩ rfl
 ·clear hy2
  subst hS6
  replace h := ol h
  obtain ⟨w7, hw7, h⟩ := h
  have hw7 : w7 = y1 := hw7
  subst hw7
  cbv
  replace h := ob_ h
  obtain ⟨z11, hy10, hz12⟩ := h
  obtain ⟨S13, hS14⟩ : ∃ S, S = (match z11 with | .inl _ => none | .inr y9 => some (sp 22 [(2, .c (.ptr 128 0))] [(128, .var [ws a0.fN, .bs (LEN a0.fS) 5 (row GD (eS) a0.fS), .bs (LEN a0.fL) 4 (row GD (eL) a0.fL), .bs (LEN a0.fI) 8 (row GD (eI) a0.fI)])])) := ⟨_, rfl⟩
  refine ⟨S13, ?_, ?_⟩
  ·have h := hy10
   clear hy10
   cbv
   refine fork (fun b39 => ?_) (fun b39 => ?_)
   ·replace h := ot b39 h
    cbv
    replace h := ob_ h
    obtain ⟨r15, h16, he17⟩ := h
    injection he17 with he17
    subst he17
    injection hz12 with hz12
    subst hz12
    have h := h16
    injection h with h
    subst h
    refine ⟨(sp 22 [(4, .c (wi (A.ofN (LEN a0.fS)))), (5, .c (wi 24))] []), ?_, ?_⟩
    ·exact lsp rfl zl2 trivial rfl
    ·exact ⟨lR _, trivial, rfl⟩
   ·replace h := og b39 h
    cbv
    replace h := ob_ h
    obtain ⟨y18, hy19, h⟩ := h
    obtain ⟨S22, hS23⟩ : ∃ S, S = some (sp 22 [(2, .c (.ptr 128 0)), (13, .c (.v (.bool y18)))] [(128, .var [ws a0.fN, .bs (LEN a0.fS) 5 (row GD (eS) a0.fS), .bs (LEN a0.fL) 4 (row GD (eL) a0.fL), .bs (LEN a0.fI) 8 (row GD (eI) a0.fI)])]) := ⟨_, rfl⟩
    refine ⟨S22, ?_, ?_⟩
    ·clear h
     have h := hy19
     clear hy19
     cbv
     refine fork (fun b25 => ?_) (fun b25 => ?_)
     ·replace h := ot b25 h
      cbv
      injection h with h
      subst h
      subst hS23
      exact lsp rfl zl2 ⟨rfl, tv⟩ rfl
     ·replace h := og b25 h
      cbv
      injection h with h
      subst h
      subst hS23
      exact lsp rfl zl2 ⟨rfl, tv⟩ rfl
    ·clear hy19
     subst hS23
     replace h := ol h
     obtain ⟨w24, hw24, h⟩ := h
     have hw24 : w24 = y18 := hw24
     subst hw24
     cbv
     replace h := ob_ h
     obtain ⟨z28, hy27, hz29⟩ := h
     obtain ⟨S30, hS31⟩ : ∃ S, S = (match z28 with | .inl _ => none | .inr y26 => some (sp 22 [(2, .c (.ptr 128 0))] [(128, .var [ws a0.fN, .bs (LEN a0.fS) 5 (row GD (eS) a0.fS), .bs (LEN a0.fL) 4 (row GD (eL) a0.fL), .bs (LEN a0.fI) 8 (row GD (eI) a0.fI)])])) := ⟨_, rfl⟩
     refine ⟨S30, ?_, ?_⟩
     ·have h := hy27
      clear hy27
      cbv
      refine fork (fun b38 => ?_) (fun b38 => ?_)
      ·replace h := ot b38 h
       cbv
       replace h := ob_ h
       obtain ⟨r35, h36, he37⟩ := h
       injection he37 with he37
       subst he37
       injection hz29 with hz29
       subst hz29
       have h := h36
       replace h := ob_ h
       obtain ⟨r32, h33, he34⟩ := h
       injection he34 with he34
       subst he34
       injection hz12 with hz12
       subst hz12
       have h := h33
       injection h with h
       subst h
       refine ⟨(sp 22 [(4, .c (wi (A.ofN (LEN a0.fL)))), (5, .c (wi 8))] []), ?_, ?_⟩
       ·exact lsp rfl zl2 trivial rfl
       ·exact ⟨lR _, trivial, rfl⟩
      ·replace h := og b38 h
       cbv
       injection h with h
       subst h
       subst hS31
       exact lsp rfl zl1 ⟨rfl, tv⟩ rfl
     ·clear hy27
      subst hS31
      rcases z28 with _ | y26
      ·trivial
      ·have h := hz29
       clear hz29
       cbv
       injection h with h
       subst h
       subst hS14
       exact lsp rfl zl1 ⟨rfl, tv⟩ rfl
  ·clear hy10
   subst hS14
   rcases z11 with _ | y9
   ·trivial
   ·have h := hz12
    clear hz12
    cbv
    injection h with h
    subst h
    refine ⟨(sp 22 [(4, .c (wi (A.ofN (LEN a0.fI)))), (5, .c (wi 8))] []), ?_, ?_⟩
    ·exact lsp rfl zl2 trivial rfl
    ·exact ⟨lR _, trivial, rfl⟩

/-- spec.l13Code -/
def Fq73 (a0 : TL) (a1 : TE) : Option (Int) :=
 ((
 (Fq17 (TL.mk a0.fC)).bind fun y8 =>
 br (!(y8))
 (some true)
 ((Fq67 a1).bind fun y10 =>
 some (!(y10)))
 ) : Option (Bool)).bind fun y1 =>
 letO y1 fun w7 =>
 br w7
 (some 1)
 (br (std.le 7 a1.fk)
 ((Fq57 (TL.mk a0.fC) a1).bind fun y13 =>
 some y13)
 (br (std.le (std.ofN (len a0.fC)) a1.fc)
 (some 5)
 (req (std.inR a1.fc (len a0.fC)) <|
 (Fq84 (gd a0.fC (std.toN a1.fc)) a1.fk).bind fun y16 =>
 ((
 br (std.eq a1.fk 2)
 (some true)
 (br (std.eq a1.fk 4)
 (some true)
 (some (std.eq a1.fk 6)))
 ) : Option (Bool)).bind fun y18 =>
 letO y18 fun w24 =>
 ((
 br w24
 (some (std.le y16.1 a1.fx))
 (some false)
 ) : Option (Bool)).bind fun y27 =>
 letO y27 fun w33 =>
 br w33
 (some 5)
 (br w24
 (some 0)
 (br (std.lt y16.1 a1.fx)
 (some 2)
 (br (std.eq y16.1 y16.2)
 (some 3)
 (((
 br (std.eq a1.fk 5)
 (some (std.le a1.fc a1.fi_.fc))
 (some false)
 ) : Option (Bool)).bind fun y35 =>
 letO y35 fun w41 =>
 br w41
 (some 6)
 (some 0))))))))
theorem runq73 (a0 : TL) (a1 : TE) (r : Int) (h : Fq73 a0 a1 = some r) : Fun Tryz.prog 57 [.agg [.bs (len a0.fC) 4 (row gd (eC len gd) a0.fC)], .agg (cE a1)] [] (.c (wi r)) [] true := by
 refine Fun.of_wp (oneOf [1, 8, 9, 17]) tok mixed Tryz.func57 (by kernel_rfl) rfl Tryz.ntmps57 rfl trivial (fun _ => ⟨trivial, tv⟩) ?_
 unfold Fq73 at h
 have hfq67 := @runq67
 have hfq17 := @runq17
 have hfq57 := @runq57
 have hfq84 := @runq84
 generalize hLEN : @len = LEN, hGD : @gd = GD, hA : std = A, hP : Tryz.prog = P at *
 cbv
 replace h := ob_ h
 obtain ⟨y1, hy2, h⟩ := h
 obtain ⟨S5, hS6⟩ : ∃ S, S = (sp 84 [(2, .c (.ptr 128 0)), (3, .c (.ptr 192 0)), (15, .c (.v (.bool y1)))] [(128, .var [.bs (LEN a0.fC) 4 (row GD (eC LEN GD) a0.fC)]), (192, .var (cE a1))]) := ⟨_, rfl⟩
 refine ⟨S5, ?_, ?_⟩
 ·clear h
  have h := hy2
  clear hy2
  cbv
  replace h := ob_ h
  obtain ⟨y8, hy9, h⟩ := h
  refine ⟨⟨_, _, _, _, _, [], []⟩, hfq17 _ _ hy9, ⟨zs1, trivial, rfl, rfl, rfl, rfl, trivial, rfl⟩, ?_⟩
  cbv
  refine fork (fun b12 => ?_) (fun b12 => ?_)
  ·replace h := ot b12 h
   cbv
   injection h with h
   subst h
   subst hS6
   exact lsp rfl zl3 ⟨rfl, rfl, tv⟩ rfl
  ·replace h := og b12 h
   cbv
   replace h := ob_ h
   obtain ⟨y10, hy11, h⟩ := h
   refine ⟨⟨_, _, _, _, _, [], []⟩, hfq67 _ _ hy11, ⟨zs1, trivial, rfl, rfl, rfl, rfl, trivial, rfl⟩, ?_⟩
   cbv
   injection h with h
   subst h
   subst hS6
   exact lsp rfl zl3 ⟨rfl, rfl, tv⟩ rfl
 ·clear hy2
  subst hS6
  replace h := ol h
  obtain ⟨w7, hw7, h⟩ := h
  have hw7 : w7 = y1 := hw7
  subst hw7
  cbv
  refine fork (fun b50 => ?_) (fun b50 => ?_)
  ·replace h := ot b50 h
   cbv
   injection h with h
   subst h
   refine ⟨(sp 84 [(4, .c (wi 1))] []), ?_, ?_⟩
   ·exact lsp rfl zl1 trivial rfl
   ·exact ⟨lR _, trivial, rfl⟩
  ·replace h := og b50 h
   cbv
   refine fork (fun b49 => ?_) (fun b49 => ?_)
   ·replace h := ot b49 h
    cbv
    replace h := ob_ h
    obtain ⟨y13, hy14, h⟩ := h
    refine ⟨⟨_, _, _, _, _, [], []⟩, hfq57 _ _ _ hy14, ⟨zs2, trivial, rfl, rfl, rfl, rfl, trivial, rfl⟩, ?_⟩
    cbv
    injection h with h
    subst h
    refine ⟨(sp 84 [(4, .c (wi y13))] []), ?_, ?_⟩
    ·exact lsp rfl zl1 trivial rfl
    ·exact ⟨lR _, trivial, rfl⟩
   ·replace h := og b49 h
    cbv
    refine fork (fun b48 => ?_) (fun b48 => ?_)
    ·replace h := ot b48 h
     cbv
     injection h with h
     subst h
     refine ⟨(sp 84 [(4, .c (wi 5))] []), ?_, ?_⟩
     ·exact lsp rfl zl1 trivial rfl
     ·exact ⟨lR _, trivial, rfl⟩
    ·replace h := og b48 h
     cbv
     replace h := oq_ h
     obtain ⟨c15, h⟩ := h
     refine ⟨⟨c15, tv⟩, ?_⟩
     replace h := ob_ h
     obtain ⟨y16, hy17, h⟩ := h
     refine ⟨⟨_, _, _, _, _, [], []⟩, hfq84 _ _ _ hy17, ⟨zs2, trivial, rfl, rfl, rfl, rfl, trivial, rfl⟩, ?_⟩
     cbv
     replace h := ob_ h
     obtain ⟨y18, hy19, h⟩ := h
     obtain ⟨S22, hS23⟩ : ∃ S, S = (sp 84 [(3, .c (.ptr 192 0)), (5, .c (wi y16.1)), (6, .c (wi y16.2)), (7, .c (.v (.bool y18)))] [(192, .var (cE a1))]) := ⟨_, rfl⟩
     refine ⟨S22, ?_, ?_⟩
     ·clear h
      have h := hy19
      clear hy19
      cbv
      refine fork (fun b26 => ?_) (fun b26 => ?_)
      ·replace h := ot b26 h
       cbv
       injection h with h
       subst h
       subst hS23
       exact lsp rfl zl4 ⟨rfl, tv⟩ rfl
      ·replace h := og b26 h
       cbv
       refine fork (fun b25 => ?_) (fun b25 => ?_)
       ·replace h := ot b25 h
        cbv
        injection h with h
        subst h
        subst hS23
        exact lsp rfl zl4 ⟨rfl, tv⟩ rfl
       ·replace h := og b25 h
        cbv
        injection h with h
        subst h
        subst hS23
        exact lsp rfl zl4 ⟨rfl, tv⟩ rfl
     ·clear hy19
      subst hS23
      replace h := ol h
      obtain ⟨w24, hw24, h⟩ := h
      have hw24 : w24 = y18 := hw24
      subst hw24
      cbv
      replace h := ob_ h
      obtain ⟨y27, hy28, h⟩ := h
      obtain ⟨S31, hS32⟩ : ∃ S, S = (sp 84 [(3, .c (.ptr 192 0)), (5, .c (wi y16.1)), (6, .c (wi y16.2)), (7, .c (.v (.bool w24))), (53, .c (.v (.bool y27)))] [(192, .var (cE a1))]) := ⟨_, rfl⟩
      refine ⟨S31, ?_, ?_⟩
      ·clear h
       have h := hy28
       clear hy28
       cbv
       refine fork (fun b34 => ?_) (fun b34 => ?_)
       ·replace h := ot b34 h
        cbv
        injection h with h
        subst h
        subst hS32
        exact lsp rfl zl5 ⟨rfl, tv⟩ rfl
       ·replace h := og b34 h
        cbv
        injection h with h
        subst h
        subst hS32
        exact lsp rfl zl5 ⟨rfl, tv⟩ rfl
      ·clear hy28
       subst hS32
       replace h := ol h
       obtain ⟨w33, hw33, h⟩ := h
       have hw33 : w33 = y27 := hw33
       subst hw33
       cbv
       refine fork (fun b47 => ?_) (fun b47 => ?_)
       ·replace h := ot b47 h
        cbv
        injection h with h
        subst h
        refine ⟨(sp 84 [(4, .c (wi 5))] []), ?_, ?_⟩
        ·exact lsp rfl zl1 trivial rfl
        ·exact ⟨lR _, trivial, rfl⟩
       ·replace h := og b47 h
        cbv
        refine fork (fun b46 => ?_) (fun b46 => ?_)
        ·replace h := ot b46 h
         cbv
         injection h with h
         subst h
         refine ⟨(sp 84 [(4, .c (wi 0))] []), ?_, ?_⟩
         ·exact lsp rfl zl1 trivial rfl
         ·exact ⟨lR _, trivial, rfl⟩
        ·replace h := og b46 h
         cbv
         refine fork (fun b45 => ?_) (fun b45 => ?_)
         ·replace h := ot b45 h
          cbv
          injection h with h
          subst h
          refine ⟨(sp 84 [(4, .c (wi 2))] []), ?_, ?_⟩
          ·exact lsp rfl zl1 trivial rfl
          ·exact ⟨lR _, trivial, rfl⟩
         ·replace h := og b45 h
          cbv
          refine fork (fun b44 => ?_) (fun b44 => ?_)
          ·replace h := ot b44 h
           cbv
           injection h with h
           subst h
           refine ⟨(sp 84 [(4, .c (wi 3))] []), ?_, ?_⟩
           ·exact lsp rfl zl1 trivial rfl
           ·exact ⟨lR _, trivial, rfl⟩
          ·replace h := og b44 h
           cbv
           replace h := ob_ h
           obtain ⟨y35, hy36, h⟩ := h
           obtain ⟨S39, hS40⟩ : ∃ S, S = (sp 84 [(72, .c (.v (.bool y35)))] []) := ⟨_, rfl⟩
           refine ⟨S39, ?_, ?_⟩
           ·clear h
            have h := hy36
            clear hy36
            cbv
            refine fork (fun b42 => ?_) (fun b42 => ?_)
            ·replace h := ot b42 h
             cbv
             injection h with h
             subst h
             subst hS40
             exact lsp rfl zl1 trivial rfl
            ·replace h := og b42 h
             cbv
             injection h with h
             subst h
             subst hS40
             exact lsp rfl zl1 trivial rfl
           ·clear hy36
            subst hS40
            replace h := ol h
            obtain ⟨w41, hw41, h⟩ := h
            have hw41 : w41 = y35 := hw41
            subst hw41
            cbv
            refine fork (fun b43 => ?_) (fun b43 => ?_)
            ·replace h := ot b43 h
             cbv
             injection h with h
             subst h
             refine ⟨(sp 84 [(4, .c (wi 6))] []), ?_, ?_⟩
             ·exact lsp rfl zl1 trivial rfl
             ·exact ⟨lR _, trivial, rfl⟩
            ·replace h := og b43 h
             cbv
             injection h with h
             subst h
             refine ⟨(sp 84 [(4, .c (wi 0))] []), ?_, ?_⟩
             ·exact lsp rfl zl1 trivial rfl
             ·exact ⟨lR _, trivial, rfl⟩

/-- spec.DrawApplyEdit -/
def Fq81 (a0 : List Int) : Option (TL × TE) :=
 (Fq44 a0).bind fun y1 =>
 (Fq4 y1).bind fun y3 =>
 (Fq0 y3.2 20).bind fun y5 =>
 ((
 br (std.eq y5.1 0)
 ((Fq30 y5.2).bind fun y17 =>
 some (y17.2.gcode, y17.2.gat, y17.2.gseed, y17.1.fC))
 (some (y5.2.gcode, y5.2.gat, y5.2.gseed, y3.1.fC))
 ) : Option ((List Int) × Int × Int × (List TC))).bind fun y7 =>
 letO y7.1 fun w13 =>
 letO y7.2.1 fun w14 =>
 letO y7.2.2.1 fun w15 =>
 letO y7.2.2.2 fun w16 =>
 (Fq48 (Tl01Source.mk w13 w14 w15) (TL.mk w16)).bind fun y20 =>
 req (len y20.2.2 = len w16) <|
 ((
 (Fq0 y20.2.1 3).bind fun y32 =>
 br (std.lt 0 y32.1)
 ((Fq73 (TL.mk y20.2.2) y20.1).bind fun y34 =>
 req (len w16 = len y20.2.2) <|
 some (std.not (std.eq y34 0), y32.2.gcode, y32.2.gat, y32.2.gseed))
 (some (false, y32.2.gcode, y32.2.gat, y32.2.gseed))
 ) : Option (Bool × (List Int) × Int × Int)).bind fun y22 =>
 letO y22.1 fun w28 =>
 letO y22.2.1 fun w29 =>
 letO y22.2.2.1 fun w30 =>
 letO y22.2.2.2 fun w31 =>
 ((
 br w28
 ((Fq48 (Tl01Source.mk w29 w30 w31) (TL.mk y20.2.2)).bind fun y66 =>
 req (len w16 = len y20.2.2) <|
 req (len y66.2.2 = len w16) <|
 some (y66.1.fk, y66.1.fc, y66.1.fx, y66.1.fN, y66.1.fs_.fy, y66.1.fs_.fb.fX0, y66.1.fs_.fb.fY0, y66.1.fs_.fb.fX1, y66.1.fs_.fb.fY1, y66.1.fl_.fy, y66.1.fl_.fa.fX, y66.1.fl_.fa.fY, y66.1.fl_.fN, y66.1.fi_.fc, y66.1.fi_.fp.fo, y66.1.fi_.fp.fX, y66.1.fi_.fp.fY, y66.1.fi_.fK, y66.1.fi_.fR, y66.1.fi_.fu, y66.1.fi_.fv, y66.2.2))
 (some (y20.1.fk, y20.1.fc, y20.1.fx, y20.1.fN, y20.1.fs_.fy, y20.1.fs_.fb.fX0, y20.1.fs_.fb.fY0, y20.1.fs_.fb.fX1, y20.1.fs_.fb.fY1, y20.1.fl_.fy, y20.1.fl_.fa.fX, y20.1.fl_.fa.fY, y20.1.fl_.fN, y20.1.fi_.fc, y20.1.fi_.fp.fo, y20.1.fi_.fp.fX, y20.1.fi_.fp.fY, y20.1.fi_.fK, y20.1.fi_.fR, y20.1.fi_.fu, y20.1.fi_.fv, y20.2.2))
 ) : Option (Int × Int × Int × ByteArray × Int × Int × Int × Int × Int × Int × Int × Int × ByteArray × Int × Int × Int × Int × Int × Int × Int × Int × (List TC))).bind fun y38 =>
 letO y38.1 fun w44 =>
 letO y38.2.1 fun w45 =>
 letO y38.2.2.1 fun w46 =>
 letO y38.2.2.2.1 fun w47 =>
 letO y38.2.2.2.2.1 fun w48 =>
 letO y38.2.2.2.2.2.1 fun w49 =>
 letO y38.2.2.2.2.2.2.1 fun w50 =>
 letO y38.2.2.2.2.2.2.2.1 fun w51 =>
 letO y38.2.2.2.2.2.2.2.2.1 fun w52 =>
 letO y38.2.2.2.2.2.2.2.2.2.1 fun w53 =>
 letO y38.2.2.2.2.2.2.2.2.2.2.1 fun w54 =>
 letO y38.2.2.2.2.2.2.2.2.2.2.2.1 fun w55 =>
 letO y38.2.2.2.2.2.2.2.2.2.2.2.2.1 fun w56 =>
 letO y38.2.2.2.2.2.2.2.2.2.2.2.2.2.1 fun w57 =>
 letO y38.2.2.2.2.2.2.2.2.2.2.2.2.2.2.1 fun w58 =>
 letO y38.2.2.2.2.2.2.2.2.2.2.2.2.2.2.2.1 fun w59 =>
 letO y38.2.2.2.2.2.2.2.2.2.2.2.2.2.2.2.2.1 fun w60 =>
 letO y38.2.2.2.2.2.2.2.2.2.2.2.2.2.2.2.2.2.1 fun w61 =>
 letO y38.2.2.2.2.2.2.2.2.2.2.2.2.2.2.2.2.2.2.1 fun w62 =>
 letO y38.2.2.2.2.2.2.2.2.2.2.2.2.2.2.2.2.2.2.2.1 fun w63 =>
 letO y38.2.2.2.2.2.2.2.2.2.2.2.2.2.2.2.2.2.2.2.2.1 fun w64 =>
 letO y38.2.2.2.2.2.2.2.2.2.2.2.2.2.2.2.2.2.2.2.2.2 fun w65 =>
 req (len w16 = len w65) <|
 some ((TL.mk w65), (TE.mk w44 w45 w46 w47 (TS.mk w48 (TRect.mk w49 w50 w51 w52)) (TB.mk w53 (TPoint.mk w54 w55) w56) (TI.mk w57 (TM.mk w58 w59 w60) w61 w62 w63 w64)))
theorem runq81 (a0 : List Int) (r : TL × TE) (h : Fq81 a0 = some r) : Fun Tryz.prog 43 [.c (.bs (len a0) 1 (row gd (encI .u8) a0))] [] (.tup [.agg [.os 64000 0 (len r.1.fC)], .agg [wi r.2.fk, wi r.2.fc, wi r.2.fx, ws r.2.fN, wi r.2.fs_.fy, wi r.2.fs_.fb.fX0, wi r.2.fs_.fb.fY0, wi r.2.fs_.fb.fX1, wi r.2.fs_.fb.fY1, wi r.2.fl_.fy, wi r.2.fl_.fa.fX, wi r.2.fl_.fa.fY, ws r.2.fl_.fN, wi r.2.fi_.fc, wi r.2.fi_.fp.fo, wi r.2.fi_.fp.fX, wi r.2.fi_.fp.fY, wi r.2.fi_.fK, wi r.2.fi_.fR, wi r.2.fi_.fu, wi r.2.fi_.fv]]) [(64000, .arr .rw [] (len r.1.fC) 4 (row gd (oC len gd) r.1.fC))] true := by
 refine Fun.of_wp (oneOf [6, 100013, 100027]) tok mixed Tryz.func43 (by kernel_rfl) rfl Tryz.ntmps43 rfl trivial (fun _ => ⟨(by simp [AV.flat, AV.flat1, AC.flat]), ⟨fun i _ j _ => fl_oncCell _ _, tv⟩⟩) ?_
 unfold Fq81 at h
 have hfq44 := @runq44
 have hfq0 := @runq0
 have hfq30 := @runq30
 have hfq4 := @runq4
 have hfq73 := @runq73
 have hfq48 := @runq48
 generalize hLEN : @len = LEN, hGD : @gd = GD, hA : std = A, hP : Tryz.prog = P at *
 cbv
 replace h := ob_ h
 obtain ⟨y1, hy2, h⟩ := h
 refine ⟨⟨_, _, _, _, _, [], [(64000, 512)]⟩, hfq44 _ _ hy2, ⟨zs1, trivial, rfl, rfl, rfl, rfl, ⟨evn 64000 rfl, tv⟩, rfl⟩, ?_⟩
 cbv
 replace h := ob_ h
 obtain ⟨y3, hy4, h⟩ := h
 refine ⟨⟨_, _, _, _, _, [(5, 512)], [(64000, 640), (5, 512)]⟩, hfq4 _ _ hy4, ⟨zs1, ⟨rfl, tv⟩, rfl, rfl, rfl, rfl, ⟨evn 64000 rfl, fun _ => rfl, tv⟩, rfl⟩, _, rfl, _, _, rfl, fun _ _ _ _ => .refl _, ?_⟩
 cbv
 replace h := ob_ h
 obtain ⟨y5, hy6, h⟩ := h
 refine ⟨⟨_, _, _, _, _, [(5, 512)], [(5, 512)]⟩, hfq0 _ _ _ hy6, ⟨zs2, ⟨rfl, tv⟩, rfl, rfl, rfl, rfl, ⟨fun _ => rfl, tv⟩, rfl⟩, ?_⟩
 cbv
 replace h := ob_ h
 obtain ⟨y7, hy8, h⟩ := h
 obtain ⟨S11, hS12⟩ : ∃ S, S = some (sp 33 [(2, .c (.ptr 128 0)), (3, .c (.ptr 192 0)), (4, .c (.ptr 512 0)), (5, .c (.ptr 320 0))] [(128, .var [.v (.slice none 0 0)]), (192, .var [wi 0, wi 0, wi 0, ws (ByteArray.mk #[]), wi 0, wi 0, wi 0, wi 0, wi 0, wi 0, wi 0, wi 0, ws (ByteArray.mk #[]), wi 0, wi 0, wi 0, wi 0, wi 0, wi 0, wi 0, wi 0]), (512, .var [.bs (LEN y7.1) 1 (row GD (encI .u8) y7.1), wi y7.2.1, wi y7.2.2.1]), (320, .var [.os 960 0 (LEN y7.2.2.2)]), (960, .arr .rw [] (LEN y7.2.2.2) 4 (row GD (oC LEN GD) y7.2.2.2))]) := ⟨_, rfl⟩
 refine ⟨S11, ?_, ?_⟩
 ·clear h
  have h := hy8
  clear hy8
  cbv
  refine fork (fun b19 => ?_) (fun b19 => ?_)
  ·replace h := ot b19 h
   cbv
   replace h := ob_ h
   obtain ⟨y17, hy18, h⟩ := h
   refine ⟨⟨_, _, _, _, _, [(5, 512)], [(64000, 960), (5, 512)]⟩, hfq30 _ _ hy18, ⟨zs1, ⟨rfl, tv⟩, rfl, rfl, rfl, rfl, ⟨evn 64000 rfl, fun _ => rfl, tv⟩, rfl⟩, _, rfl, _, _, rfl, fun _ _ _ _ => .refl _, ?_⟩
   cbv
   injection h with h
   subst h
   subst hS12
   exact lsp rfl zl4 ⟨rfl, rfl, rfl, rfl, oS, tv⟩ rfl
  ·replace h := og b19 h
   cbv
   injection h with h
   subst h
   subst hS12
   refine St.le_trans (le_ren 640 960 (by decide) rfl) ?_
   exact lsp rfl zl4 ⟨rfl, rfl, rfl, rfl, oS, tv⟩ rfl
 ·clear hy8
  subst hS12
  obtain ⟨y7_0, y7_1, y7_2, y7_3⟩ := y7
  replace h := ol h
  obtain ⟨w13, hw13, h⟩ := h
  have hw13 : w13 = y7_0 := hw13
  subst hw13
  replace h := ol h
  obtain ⟨w14, hw14, h⟩ := h
  have hw14 : w14 = y7_1 := hw14
  subst hw14
  replace h := ol h
  obtain ⟨w15, hw15, h⟩ := h
  have hw15 : w15 = y7_2 := hw15
  subst hw15
  replace h := ol h
  obtain ⟨w16, hw16, h⟩ := h
  have hw16 : w16 = y7_3 := hw16
  subst hw16
  cbv
  replace h := ob_ h
  obtain ⟨y20, hy21, h⟩ := h
  replace h := oq_ h
  obtain ⟨c72, h⟩ := h
  refine ⟨⟨_, _, _, _, _, [(5, 512), (7, 960)], [(5, 512), (7, 960)]⟩, hfq48 _ _ _ hy21, ⟨zs2, ⟨rfl, oS, tv⟩, rfl, rfl, rfl, rfl, ⟨fun _ => rfl, fun _ => ⟨c72.symm, rfl, fun c h => h⟩, tv⟩, rfl⟩, _, rfl, LEN w16, _, c72, fun _ _ _ _ => .refl _, ?_⟩
  cbv
  replace h := ob_ h
  obtain ⟨y22, hy23, h⟩ := h
  obtain ⟨S26, hS27⟩ : ∃ S, S = (sp 33 [(2, .c (.ptr 128 0)), (3, .c (.ptr 192 0)), (4, .c (.ptr 512 0)), (5, .c (.ptr 320 0)), (6, .c (.ptr 384 0)), (27, .c (.v (.bool y22.1)))] [(128, .var [.v (.slice none 0 0)]), (192, .var [wi 0, wi 0, wi 0, ws (ByteArray.mk #[]), wi 0, wi 0, wi 0, wi 0, wi 0, wi 0, wi 0, wi 0, ws (ByteArray.mk #[]), wi 0, wi 0, wi 0, wi 0, wi 0, wi 0, wi 0, wi 0]), (512, .var [.bs (LEN y22.2.1) 1 (row GD (encI .u8) y22.2.1), wi y22.2.2.1, wi y22.2.2.2]), (320, .var [.os 960 0 (LEN w16)]), (384, .var [wi y20.1.fk, wi y20.1.fc, wi y20.1.fx, ws y20.1.fN, wi y20.1.fs_.fy, wi y20.1.fs_.fb.fX0, wi y20.1.fs_.fb.fY0, wi y20.1.fs_.fb.fX1, wi y20.1.fs_.fb.fY1, wi y20.1.fl_.fy, wi y20.1.fl_.fa.fX, wi y20.1.fl_.fa.fY, ws y20.1.fl_.fN, wi y20.1.fi_.fc, wi y20.1.fi_.fp.fo, wi y20.1.fi_.fp.fX, wi y20.1.fi_.fp.fY, wi y20.1.fi_.fK, wi y20.1.fi_.fR, wi y20.1.fi_.fu, wi y20.1.fi_.fv]), (960, .arr .rw [] (LEN w16) 4 (row GD (oC LEN GD) y20.2.2))]) := ⟨_, rfl⟩
  refine ⟨S26, ?_, ?_⟩
  ·clear h
   have h := hy23
   clear hy23
   cbv
   replace h := ob_ h
   obtain ⟨y32, hy33, h⟩ := h
   refine ⟨⟨_, _, _, _, _, [(5, 512)], [(5, 512)]⟩, hfq0 _ _ _ hy33, ⟨zs2, ⟨rfl, tv⟩, rfl, rfl, rfl, rfl, ⟨fun _ => rfl, tv⟩, rfl⟩, ?_⟩
   cbv
   refine fork (fun b37 => ?_) (fun b37 => ?_)
   ·replace h := ot b37 h
    cbv
    replace h := ob_ h
    obtain ⟨y34, hy35, h⟩ := h
    replace h := oq_ h
    obtain ⟨c36, h⟩ := h
    refine ⟨⟨_, _, _, _, _, [], []⟩, hfq73 _ _ _ hy35, ⟨lc (le_agg ⟨give_osD (rC) (ln_oncCell) rfl rfl c36, tv⟩) (zs1), trivial, rfl, rfl, rfl, rfl, trivial, rfl⟩, ?_⟩
    cbv
    injection h with h
    subst h
    subst hS27
    exact lsp rfl zl6 ⟨rfl, rfl, rfl, rfl, rfl, oS, tv⟩ rfl
   ·replace h := og b37 h
    cbv
    injection h with h
    subst h
    subst hS27
    exact lsp rfl zl6 ⟨rfl, rfl, rfl, rfl, rfl, oS, tv⟩ rfl
  ·clear hy23
   subst hS27
   obtain ⟨y22_0, y22_1, y22_2, y22_3⟩ := y22
   replace h := ol h
   obtain ⟨w28, hw28, h⟩ := h
   have hw28 : w28 = y22_0 := hw28
   subst hw28
   replace h := ol h
   obtain ⟨w29, hw29, h⟩ := h
   have hw29 : w29 = y22_1 := hw29
   subst hw29
   replace h := ol h
   obtain ⟨w30, hw30, h⟩ := h
   have hw30 : w30 = y22_2 := hw30
   subst hw30
   replace h := ol h
   obtain ⟨w31, hw31, h⟩ := h
   have hw31 : w31 = y22_3 := hw31
   subst hw31
   cbv
   replace h := ob_ h
   obtain ⟨y38, hy39, h⟩ := h
   obtain ⟨S42, hS43⟩ : ∃ S, S = some (sp 33 [(2, .c (.ptr 128 0)), (3, .c (.ptr 192 0)), (5, .c (.ptr 320 0)), (6, .c (.ptr 384 0))] [(128, .var [.v (.slice none 0 0)]), (192, .var [wi 0, wi 0, wi 0, ws (ByteArray.mk #[]), wi 0, wi 0, wi 0, wi 0, wi 0, wi 0, wi 0, wi 0, ws (ByteArray.mk #[]), wi 0, wi 0, wi 0, wi 0, wi 0, wi 0, wi 0, wi 0]), (320, .var [.os 960 0 (LEN w16)]), (384, .var [wi y38.1, wi y38.2.1, wi y38.2.2.1, ws y38.2.2.2.1, wi y38.2.2.2.2.1, wi y38.2.2.2.2.2.1, wi y38.2.2.2.2.2.2.1, wi y38.2.2.2.2.2.2.2.1, wi y38.2.2.2.2.2.2.2.2.1, wi y38.2.2.2.2.2.2.2.2.2.1, wi y38.2.2.2.2.2.2.2.2.2.2.1, wi y38.2.2.2.2.2.2.2.2.2.2.2.1, ws y38.2.2.2.2.2.2.2.2.2.2.2.2.1, wi y38.2.2.2.2.2.2.2.2.2.2.2.2.2.1, wi y38.2.2.2.2.2.2.2.2.2.2.2.2.2.2.1, wi y38.2.2.2.2.2.2.2.2.2.2.2.2.2.2.2.1, wi y38.2.2.2.2.2.2.2.2.2.2.2.2.2.2.2.2.1, wi y38.2.2.2.2.2.2.2.2.2.2.2.2.2.2.2.2.2.1, wi y38.2.2.2.2.2.2.2.2.2.2.2.2.2.2.2.2.2.2.1, wi y38.2.2.2.2.2.2.2.2.2.2.2.2.2.2.2.2.2.2.2.1, wi y38.2.2.2.2.2.2.2.2.2.2.2.2.2.2.2.2.2.2.2.2.1]), (960, .arr .rw [] (LEN w16) 4 (row GD (oC LEN GD) y38.2.2.2.2.2.2.2.2.2.2.2.2.2.2.2.2.2.2.2.2.2))]) := ⟨_, rfl⟩
   refine ⟨S42, ?_, ?_⟩
   ·clear h
    have h := hy39
    clear hy39
    cbv
    refine fork (fun b70 => ?_) (fun b70 => ?_)
    ·replace h := ot b70 h
     cbv
     replace h := ob_ h
     obtain ⟨y66, hy67, h⟩ := h
     replace h := oq_ h
     obtain ⟨c68, h⟩ := h
     replace h := oq_ h
     obtain ⟨c69, h⟩ := h
     refine ⟨⟨_, _, _, _, _, [(5, 512), (7, 960)], [(5, 512), (7, 960)]⟩, hfq48 _ _ _ hy67, ⟨lc (lR _) (lc (le_agg ⟨AV.le_of_eq (congrArg (fun n => AV.c (AC.os 7 0 n)) c68), tv⟩) (ln_)), ⟨rfl, ⟨fun hw => hw, fun c hc => (by cases hc), .inl rfl, c68, rfl, fun i hi j hj => rfl⟩, tv⟩, rfl, rfl, rfl, rfl, ⟨fun _ => rfl, fun _ => ⟨(c69.trans c68).symm, rfl, fun c h => h⟩, tv⟩, rfl⟩, _, rfl, LEN w16, _, c69, fun _ _ _ _ => .refl _, ?_⟩
     cbv
     injection h with h
     subst h
     subst hS43
     exact lsp rfl zl4 ⟨rfl, rfl, rfl, rfl, oS, tv⟩ rfl
    ·replace h := og b70 h
     cbv
     injection h with h
     subst h
     subst hS43
     exact lsp rfl zl4 ⟨rfl, rfl, rfl, rfl, oS, tv⟩ rfl
   ·clear hy39
    subst hS43
    obtain ⟨y38_0, y38_1, y38_2, y38_3, y38_4, y38_5, y38_6, y38_7, y38_8, y38_9, y38_10, y38_11, y38_12, y38_13, y38_14, y38_15, y38_16, y38_17, y38_18, y38_19, y38_20, y38_21⟩ := y38
    replace h := ol h
    obtain ⟨w44, hw44, h⟩ := h
    have hw44 : w44 = y38_0 := hw44
    subst hw44
    replace h := ol h
    obtain ⟨w45, hw45, h⟩ := h
    have hw45 : w45 = y38_1 := hw45
    subst hw45
    replace h := ol h
    obtain ⟨w46, hw46, h⟩ := h
    have hw46 : w46 = y38_2 := hw46
    subst hw46
    replace h := ol h
    obtain ⟨w47, hw47, h⟩ := h
    have hw47 : w47 = y38_3 := hw47
    subst hw47
    replace h := ol h
    obtain ⟨w48, hw48, h⟩ := h
    have hw48 : w48 = y38_4 := hw48
    subst hw48
    replace h := ol h
    obtain ⟨w49, hw49, h⟩ := h
    have hw49 : w49 = y38_5 := hw49
    subst hw49
    replace h := ol h
    obtain ⟨w50, hw50, h⟩ := h
    have hw50 : w50 = y38_6 := hw50
    subst hw50
    replace h := ol h
    obtain ⟨w51, hw51, h⟩ := h
    have hw51 : w51 = y38_7 := hw51
    subst hw51
    replace h := ol h
    obtain ⟨w52, hw52, h⟩ := h
    have hw52 : w52 = y38_8 := hw52
    subst hw52
    replace h := ol h
    obtain ⟨w53, hw53, h⟩ := h
    have hw53 : w53 = y38_9 := hw53
    subst hw53
    replace h := ol h
    obtain ⟨w54, hw54, h⟩ := h
    have hw54 : w54 = y38_10 := hw54
    subst hw54
    replace h := ol h
    obtain ⟨w55, hw55, h⟩ := h
    have hw55 : w55 = y38_11 := hw55
    subst hw55
    replace h := ol h
    obtain ⟨w56, hw56, h⟩ := h
    have hw56 : w56 = y38_12 := hw56
    subst hw56
    replace h := ol h
    obtain ⟨w57, hw57, h⟩ := h
    have hw57 : w57 = y38_13 := hw57
    subst hw57
    replace h := ol h
    obtain ⟨w58, hw58, h⟩ := h
    have hw58 : w58 = y38_14 := hw58
    subst hw58
    replace h := ol h
    obtain ⟨w59, hw59, h⟩ := h
    have hw59 : w59 = y38_15 := hw59
    subst hw59
    replace h := ol h
    obtain ⟨w60, hw60, h⟩ := h
    have hw60 : w60 = y38_16 := hw60
    subst hw60
    replace h := ol h
    obtain ⟨w61, hw61, h⟩ := h
    have hw61 : w61 = y38_17 := hw61
    subst hw61
    replace h := ol h
    obtain ⟨w62, hw62, h⟩ := h
    have hw62 : w62 = y38_18 := hw62
    subst hw62
    replace h := ol h
    obtain ⟨w63, hw63, h⟩ := h
    have hw63 : w63 = y38_19 := hw63
    subst hw63
    replace h := ol h
    obtain ⟨w64, hw64, h⟩ := h
    have hw64 : w64 = y38_20 := hw64
    subst hw64
    replace h := ol h
    obtain ⟨w65, hw65, h⟩ := h
    have hw65 : w65 = y38_21 := hw65
    subst hw65
    cbv
    replace h := oq_ h
    obtain ⟨c71, h⟩ := h
    injection h with h
    subst h
    refine ⟨(sp 33 [(2, .c (.ptr 128 0)), (3, .c (.ptr 192 0))] [(128, .var [.os 64000 0 (LEN w65)]), (192, .var [wi w44, wi w45, wi w46, ws w47, wi w48, wi w49, wi w50, wi w51, wi w52, wi w53, wi w54, wi w55, ws w56, wi w57, wi w58, wi w59, wi w60, wi w61, wi w62, wi w63, wi w64]), (64000, .arr .rw [] (LEN w65) 4 (row GD (oC LEN GD) w65))]), ?_, ?_⟩
    ·refine St.le_trans (le_ren 960 64000 (by decide) rfl) ?_
     rw [c71]
     exact lsp rfl zl2 ⟨rfl, rfl, oS, tv⟩ rfl
    ·exact ⟨lR _, ⟨oS, tv⟩, rfl⟩

def Lq12_x2 (a0 : ByteArray) : (Int) -> Option ((Int) ⊕ ((Unit) ⊕ (Unit))) := fun x2 =>
 letO x2 fun v1 =>
 br (std.lt v1 (std.ofN (std.slen a0)))
 (((
 req (std.inR v1 (std.slen a0)) <|
 br (std.lt (std.sat a0 (std.toN v1)) 97)
 (req (std.inR v1 (std.slen a0)) <|
 br (std.lt (std.sat a0 (std.toN v1)) 48)
 (some true)
 (req (std.inR v1 (std.slen a0)) <|
 some (std.lt 57 (std.sat a0 (std.toN v1)))))
 (req (std.inR v1 (std.slen a0)) <|
 br (std.lt 122 (std.sat a0 (std.toN v1)))
 (req (std.inR v1 (std.slen a0)) <|
 br (std.lt (std.sat a0 (std.toN v1)) 48)
 (some true)
 (req (std.inR v1 (std.slen a0)) <|
 some (std.lt 57 (std.sat a0 (std.toN v1)))))
 (some false))
 ) : Option (Bool)).bind fun y14 =>
 letO y14 fun w20 =>
 br w20
 (some (.inr (.inl ())))
 (some (.inl (std.add .i64 v1 1))))
 (some (.inr (.inr ())))
/-- impl.IsName -/
def Fq12 (a0 : ByteArray) : Option (Bool) :=
 (whileP (σ := Int) (ρ := (Unit) ⊕ (Unit)) (Lq12_x2 a0) 0).bind fun y3 =>
 (match y3 with
 | .inl y3k0 => (
 some false)
 | .inr y3m0 =>
 ((
 br (std.le 1 (std.ofN (std.slen a0)))
 (some (std.le (std.ofN (std.slen a0)) 8))
 (some false)
 ) : Option (Bool)).bind fun y33 =>
 letO y33 fun w39 =>
 some w39)
theorem runq12 (a0 : ByteArray) (r : Bool) (h : Fq12 a0 = some r) : Fun Tryz.prog 161 [.c (ws a0)] [] (.c (.v (.bool r))) [] true := by
 refine Fun.of_wp (oneOf [4, 6]) tok mixed Tryz.func161 (by kernel_rfl) rfl Tryz.ntmps161 rfl trivial (fun _ => ⟨trivial, tv⟩) ?_
 unfold Fq12 at h
 unfold Lq12_x2 at h
 generalize hLEN : @len = LEN, hGD : @gd = GD, hA : std = A, hP : Tryz.prog = P at *
 cbv
 replace h := ob_ h
 obtain ⟨y3, hr4, hN5⟩ := h
 refine loop_cut hr4 (fun x => (sp 40 [(0, .c (ws a0)), (3, .c (wi x))] [])) ?_ (fun y e s => (match y with | .inl w => e = .ret /\ s.le (sp 40 [(2, .c (.v (.bool false)))] []) | .inr w0 => (fun (w : Unit) => e = .exit 0 /\ s.le (sp 40 [(0, .c (ws a0))] [])) w0)) ?_ ?_
 ·clear hr4 hN5
  show St.le _ _
  exact lsp rfl zl2 trivial rfl
 ·clear hr4 hN5
  intro x z9 h K7 hK8 hY6
  replace h := ol h
  obtain ⟨v1, hv1, h⟩ := h
  have hv1 : v1 = x := hv1
  subst hv1
  cbv
  refine fork (fun b32 => ?_) (fun b32 => ?_)
  ·replace h := ot b32 h
   cbv
   replace h := ob_ h
   obtain ⟨y14, hy15, h⟩ := h
   obtain ⟨S18, hS19⟩ : ∃ S, S = (sp 40 [(0, .c (ws a0)), (3, .c (wi v1)), (31, .c (.v (.bool y14)))] []) := ⟨_, rfl⟩
   refine ⟨S18, ?_, ?_⟩
   ·clear h
    have h := hy15
    clear hy15
    cbv
    replace h := oq_ h
    obtain ⟨c21, h⟩ := h
    refine ⟨c21, ?_⟩
    refine fork (fun b30 => ?_) (fun b30 => ?_)
    ·replace h := ot b30 h
     cbv
     replace h := oq_ h
     obtain ⟨c27, h⟩ := h
     refine ⟨c27, ?_⟩
     refine fork (fun b29 => ?_) (fun b29 => ?_)
     ·replace h := ot b29 h
      cbv
      injection h with h
      subst h
      subst hS19
      exact lsp rfl zl3 trivial rfl
     ·replace h := og b29 h
      cbv
      replace h := oq_ h
      obtain ⟨c28, h⟩ := h
      refine ⟨c28, ?_⟩
      injection h with h
      subst h
      subst hS19
      exact lsp rfl zl3 trivial rfl
    ·replace h := og b30 h
     cbv
     replace h := oq_ h
     obtain ⟨c22, h⟩ := h
     refine ⟨c22, ?_⟩
     refine fork (fun b26 => ?_) (fun b26 => ?_)
     ·replace h := ot b26 h
      cbv
      replace h := oq_ h
      obtain ⟨c23, h⟩ := h
      refine ⟨c23, ?_⟩
      refine fork (fun b25 => ?_) (fun b25 => ?_)
      ·replace h := ot b25 h
       cbv
       injection h with h
       subst h
       subst hS19
       exact lsp rfl zl3 trivial rfl
      ·replace h := og b25 h
       cbv
       replace h := oq_ h
       obtain ⟨c24, h⟩ := h
       refine ⟨c24, ?_⟩
       injection h with h
       subst h
       subst hS19
       exact lsp rfl zl3 trivial rfl
     ·replace h := og b26 h
      cbv
      injection h with h
      subst h
      subst hS19
      exact lsp rfl zl3 trivial rfl
   ·clear hy15
    subst hS19
    replace h := ol h
    obtain ⟨w20, hw20, h⟩ := h
    have hw20 : w20 = y14 := hw20
    subst hw20
    cbv
    refine fork (fun b31 => ?_) (fun b31 => ?_)
    ·replace h := ot b31 h
     cbv
     injection h with h
     refine hY6 _ h.symm _ _ (And.intro rfl ?_) (by intro hh; cases hh)
     exact lsp rfl zl1 trivial rfl
    ·replace h := og b31 h
     cbv
     injection h with h
     refine hK8 _ h.symm _ ?_
     exact lsp rfl zl2 trivial rfl
  ·replace h := og b32 h
   cbv
   injection h with h
   refine hY6 _ h.symm _ _ (And.intro rfl ?_) (by intro hh; cases hh)
   exact lsp rfl zl1 trivial rfl
 ·clear hr4
  have h := hN5
  clear hN5
  intro e12 s13 q11 hne
  rcases y3 with y3k0 | y3m0
  ·replace h := h
   obtain ⟨rfl, q11⟩ := q11
   cbv
   injection h with h
   subst h
   refine ⟨(sp 40 [(2, .c (.v (.bool false)))] []), ?_, ?_⟩
   ·refine St.le_trans q11 ?_
    exact lsp rfl zl1 trivial rfl
   ·exact ⟨lR _, trivial, rfl⟩
  ·obtain ⟨rfl, q11⟩ := q11
   cbv
   refine ⟨_, q11, ?_⟩
   cbv
   replace h := ob_ h
   obtain ⟨y33, hy34, h⟩ := h
   obtain ⟨S37, hS38⟩ : ∃ S, S = (sp 40 [(2, .c (.v (.bool y33)))] []) := ⟨_, rfl⟩
   refine ⟨S37, ?_, ?_⟩
   ·clear h
    have h := hy34
    clear hy34
    cbv
    refine fork (fun b40 => ?_) (fun b40 => ?_)
    ·replace h := ot b40 h
     cbv
     injection h with h
     subst h
     subst hS38
     exact lsp rfl zl1 trivial rfl
    ·replace h := og b40 h
     cbv
     injection h with h
     subst h
     subst hS38
     exact lsp rfl zl1 trivial rfl
   ·clear hy34
    subst hS38
    replace h := ol h
    obtain ⟨w39, hw39, h⟩ := h
    have hw39 : w39 = y33 := hw39
    subst hw39
    cbv
    injection h with h
    subst h
    refine ⟨(sp 40 [(2, .c (.v (.bool w39)))] []), ?_, ?_⟩
    ·exact lsp rfl zl1 trivial rfl
    ·exact ⟨lR _, trivial, rfl⟩

/-- impl.within -/
def Fq2 (a0 : Int) (a1 : Int) (a2 : Int) : Option (Bool) :=
 ((
 br (std.le a1 a0)
 (some (std.le a0 a2))
 (some false)
 ) : Option (Bool)).bind fun y1 =>
 letO y1 fun w7 =>
 some w7
theorem runq2 (a0 : Int) (a1 : Int) (a2 : Int) (r : Bool) (h : Fq2 a0 a1 a2 = some r) : Fun Tryz.prog 152 [.c (wi a0), .c (wi a1), .c (wi a2)] [] (.c (.v (.bool r))) [] true := by
 refine Fun.of_wp (oneOf [1]) tok mixed Tryz.func152 (by kernel_rfl) rfl Tryz.ntmps152 rfl trivial (fun _ => ⟨trivial, tv⟩) ?_
 unfold Fq2 at h
 generalize hLEN : @len = LEN, hGD : @gd = GD, hA : std = A, hP : Tryz.prog = P at *
 cbv
 replace h := ob_ h
 obtain ⟨y1, hy2, h⟩ := h
 obtain ⟨S5, hS6⟩ : ∃ S, S = (sp 15 [(6, .c (.v (.bool y1)))] []) := ⟨_, rfl⟩
 refine ⟨S5, ?_, ?_⟩
 ·clear h
  have h := hy2
  clear hy2
  cbv
  refine fork (fun b8 => ?_) (fun b8 => ?_)
  ·replace h := ot b8 h
   cbv
   injection h with h
   subst h
   subst hS6
   exact lsp rfl zl1 trivial rfl
  ·replace h := og b8 h
   cbv
   injection h with h
   subst h
   subst hS6
   exact lsp rfl zl1 trivial rfl
 ·clear hy2
  subst hS6
  replace h := ol h
  obtain ⟨w7, hw7, h⟩ := h
  have hw7 : w7 = y1 := hw7
  subst hw7
  cbv
  injection h with h
  subst h
  refine ⟨(sp 15 [(6, .c (.v (.bool w7)))] []), ?_, ?_⟩
  ·exact lsp rfl zl1 trivial rfl
  ·exact ⟨lR _, trivial, rfl⟩

/-- impl.IsValidRect -/
def Fq76 (a0 : TRect) : Option (Bool) :=
 ((
 br (std.le (-40) a0.fX0)
 (br (std.lt a0.fX0 a0.fX1)
 (br (std.le a0.fX1 40)
 (br (std.le (-40) a0.fY0)
 (br (std.lt a0.fY0 a0.fY1)
 (some (std.le a0.fY1 40))
 (some false))
 (some false))
 (some false))
 (some false))
 (some false)
 ) : Option (Bool)).bind fun y1 =>
 letO y1 fun w7 =>
 some w7
theorem runq76 (a0 : TRect) (r : Bool) (h : Fq76 a0 = some r) : Fun Tryz.prog 235 [.agg [wi a0.fX0, wi a0.fY0, wi a0.fX1, wi a0.fY1]] [] (.c (.v (.bool r))) [] true := by
 refine Fun.of_wp (oneOf [1]) tok mixed Tryz.func235 (by kernel_rfl) rfl Tryz.ntmps235 rfl trivial (fun _ => ⟨trivial, tv⟩) ?_
 unfold Fq76 at h
 generalize hLEN : @len = LEN, hGD : @gd = GD, hA : std = A, hP : Tryz.prog = P at *
 cbv
 replace h := ob_ h
 obtain ⟨y1, hy2, h⟩ := h
 obtain ⟨S5, hS6⟩ : ∃ S, S = (sp 35 [(2, .c (.v (.bool y1)))] []) := ⟨_, rfl⟩
 refine ⟨S5, ?_, ?_⟩
 ·clear h
  have h := hy2
  clear hy2
  cbv
  refine fork (fun b12 => ?_) (fun b12 => ?_)
  ·replace h := ot b12 h
   cbv
   refine fork (fun b11 => ?_) (fun b11 => ?_)
   ·replace h := ot b11 h
    cbv
    refine fork (fun b10 => ?_) (fun b10 => ?_)
    ·replace h := ot b10 h
     cbv
     refine fork (fun b9 => ?_) (fun b9 => ?_)
     ·replace h := ot b9 h
      cbv
      refine fork (fun b8 => ?_) (fun b8 => ?_)
      ·replace h := ot b8 h
       cbv
       injection h with h
       subst h
       subst hS6
       exact lsp rfl zl1 trivial rfl
      ·replace h := og b8 h
       cbv
       injection h with h
       subst h
       subst hS6
       exact lsp rfl zl1 trivial rfl
     ·replace h := og b9 h
      cbv
      injection h with h
      subst h
      subst hS6
      exact lsp rfl zl1 trivial rfl
    ·replace h := og b10 h
     cbv
     injection h with h
     subst h
     subst hS6
     exact lsp rfl zl1 trivial rfl
   ·replace h := og b11 h
    cbv
    injection h with h
    subst h
    subst hS6
    exact lsp rfl zl1 trivial rfl
  ·replace h := og b12 h
   cbv
   injection h with h
   subst h
   subst hS6
   exact lsp rfl zl1 trivial rfl
 ·clear hy2
  subst hS6
  replace h := ol h
  obtain ⟨w7, hw7, h⟩ := h
  have hw7 : w7 = y1 := hw7
  subst hw7
  cbv
  injection h with h
  subst h
  refine ⟨(sp 35 [(2, .c (.v (.bool w7)))] []), ?_, ?_⟩
  ·exact lsp rfl zl1 trivial rfl
  ·exact ⟨lR _, trivial, rfl⟩
set_option maxHeartbeats 4000000
/-- impl.validShape -/
def Fq39 (a0 : TS) : Option (Bool) :=
 ((
 (Fq2 a0.fy 0 7).bind fun y8 =>
 br y8
 ((Fq76 a0.fb).bind fun y10 =>
 some y10)
 (some false)
 ) : Option (Bool)).bind fun y1 =>
 letO y1 fun w7 =>
 some w7
theorem runq39 (a0 : TS) (r : Bool) (h : Fq39 a0 = some r) : Fun Tryz.prog 164 [.agg [wi a0.fy, wi a0.fb.fX0, wi a0.fb.fY0, wi a0.fb.fX1, wi a0.fb.fY1]] [] (.c (.v (.bool r))) [] true := by
 refine Fun.of_wp (oneOf [1]) tok mixed Tryz.func164 (by kernel_rfl) rfl Tryz.ntmps164 rfl trivial (fun _ => ⟨trivial, tv⟩) ?_
 unfold Fq39 at h
 have hfq76 := @runq76
 have hfq2 := @runq2
 generalize hLEN : @len = LEN, hGD : @gd = GD, hA : std = A, hP : Tryz.prog = P at *
 cbv
 replace h := ob_ h
 obtain ⟨y1, hy2, h⟩ := h
 obtain ⟨S5, hS6⟩ : ∃ S, S = (sp 11 [(2, .c (.v (.bool y1)))] []) := ⟨_, rfl⟩
 refine ⟨S5, ?_, ?_⟩
 ·clear h
  have h := hy2
  clear hy2
  cbv
  replace h := ob_ h
  obtain ⟨y8, hy9, h⟩ := h
  refine ⟨⟨_, _, _, _, _, [], []⟩, hfq2 _ _ _ _ hy9, ⟨zs3, trivial, rfl, rfl, rfl, rfl, trivial, rfl⟩, ?_⟩
  cbv
  refine fork (fun b12 => ?_) (fun b12 => ?_)
  ·replace h := ot b12 h
   cbv
   replace h := ob_ h
   obtain ⟨y10, hy11, h⟩ := h
   refine ⟨⟨_, _, _, _, _, [], []⟩, hfq76 _ _ hy11, ⟨zs1, trivial, rfl, rfl, rfl, rfl, trivial, rfl⟩, ?_⟩
   cbv
   injection h with h
   subst h
   subst hS6
   exact lsp rfl zl1 trivial rfl
  ·replace h := og b12 h
   cbv
   injection h with h
   subst h
   subst hS6
   exact lsp rfl zl1 trivial rfl
 ·clear hy2
  subst hS6
  replace h := ol h
  obtain ⟨w7, hw7, h⟩ := h
  have hw7 : w7 = y1 := hw7
  subst hw7
  cbv
  injection h with h
  subst h
  refine ⟨(sp 11 [(2, .c (.v (.bool w7)))] []), ?_, ?_⟩
  ·exact lsp rfl zl1 trivial rfl
  ·exact ⟨lR _, trivial, rfl⟩

/-- impl.validCell$1 -/
def Fq88 (a0 : TS) : Option (Bool) :=
 (Fq39 (TS.mk a0.fy a0.fb)).bind fun y1 =>
 some (!(y1))
theorem runq88 (a0 : TS) (r : Bool) (h : Fq88 a0 = some r) : Fun Tryz.prog 163 [.agg [wi a0.fy, wi a0.fb.fX0, wi a0.fb.fY0, wi a0.fb.fX1, wi a0.fb.fY1]] [] (.c (.v (.bool r))) [] true := by
 refine Fun.of_wp (oneOf []) tok mixed Tryz.func163 (by kernel_rfl) rfl Tryz.ntmps163 rfl trivial (fun _ => ⟨trivial, tv⟩) ?_
 unfold Fq88 at h
 have hfq39 := @runq39
 generalize hLEN : @len = LEN, hGD : @gd = GD, hA : std = A, hP : Tryz.prog = P at *
 cbv
 replace h := ob_ h
 obtain ⟨y1, hy2, h⟩ := h
 refine ⟨⟨_, _, _, _, _, [], []⟩, hfq39 _ _ hy2, ⟨zs1, trivial, rfl, rfl, rfl, rfl, trivial, rfl⟩, ?_⟩
 cbv
 injection h with h
 subst h
 refine ⟨(sp 6 [(2, .c (.v (.bool (!(y1)))))] []), ?_, ?_⟩
 ·exact lsp rfl zl1 trivial rfl
 ·exact ⟨lR _, trivial, rfl⟩

def Lq43_x2 (a0 : List TS) : (Int) -> Option ((Int) ⊕ ((Int) ⊕ (Unit))) := fun x2 =>
 letO x2 fun v1 =>
 br (std.lt v1 (std.ofN (len a0)))
 (req (std.inR v1 (len a0)) <|
 (Fq88 (gd a0 (std.toN v1))).bind fun y15 =>
 br y15
 (some (.inr (.inl v1)))
 (some (.inl (std.add .i64 v1 1))))
 (some (.inr (.inr ())))
/-- impl.Shape] -/
def Fq43 (a0 : List TS) : Option (Int) :=
 (whileP (σ := Int) (ρ := (Int) ⊕ (Unit)) (Lq43_x2 a0) 0).bind fun y3 =>
 (match y3 with
 | .inl y3k0 => (
 letO y3k0 fun w19 =>
 some w19)
 | .inr y3m0 =>
 some (-1))
theorem runq43 (a0 : List TS) (r : Int) (h : Fq43 a0 = some r) : Fun Tryz.prog 234 [.c (.bs (len a0) 5 (row gd (eS) a0)), .c (.fn 163 0 fun _ => .junk)] [] (.c (wi r)) [] true := by
 refine Fun.of_wp (oneOf []) tok mixed Tryz.func234 (by kernel_rfl) rfl Tryz.ntmps234 rfl trivial (fun _ => ⟨trivial, tv⟩) ?_
 unfold Fq43 at h
 unfold Lq43_x2 at h
 have hfq88 := @runq88
 generalize hLEN : @len = LEN, hGD : @gd = GD, hA : std = A, hP : Tryz.prog = P at *
 cbv
 replace h := ob_ h
 obtain ⟨y3, hr4, hN5⟩ := h
 refine loop_cut hr4 (fun x => (sp 19 [(0, .c (.bs (LEN a0) 5 (row GD (eS) a0))), (1, .c (.fn 163 0 fun _ => .junk)), (7, .c (wi (A.ofN (LEN a0)))), (8, .c (wi x))] [])) ?_ (fun y e s => (match y with | .inl w => e = .ret /\ s.le (sp 19 [(4, .c (wi w))] []) | .inr w0 => (fun (w : Unit) => e = .exit 0 /\ s.le (sp 19 [] [])) w0)) ?_ ?_
 ·clear hr4 hN5
  show St.le _ _
  exact lsp rfl zl4 trivial rfl
 ·clear hr4 hN5
  intro x z9 h K7 hK8 hY6
  replace h := ol h
  obtain ⟨v1, hv1, h⟩ := h
  have hv1 : v1 = x := hv1
  subst hv1
  cbv
  refine fork (fun b18 => ?_) (fun b18 => ?_)
  ·replace h := ot b18 h
   cbv
   replace h := oq_ h
   obtain ⟨c14, h⟩ := h
   refine ⟨⟨c14, tv⟩, ?_⟩
   replace h := ob_ h
   obtain ⟨y15, hy16, h⟩ := h
   refine ⟨⟨_, _, _, _, _, [], []⟩, hfq88 _ _ hy16, ⟨zs1, trivial, rfl, rfl, rfl, rfl, trivial, rfl⟩, ?_⟩
   cbv
   refine fork (fun b17 => ?_) (fun b17 => ?_)
   ·replace h := ot b17 h
    cbv
    injection h with h
    refine hY6 _ h.symm _ _ (And.intro rfl ?_) (by intro hh; cases hh)
    exact lsp rfl zl1 trivial rfl
   ·replace h := og b17 h
    cbv
    injection h with h
    refine hK8 _ h.symm _ ?_
    exact lsp rfl zl4 trivial rfl
  ·replace h := og b18 h
   cbv
   injection h with h
   refine hY6 _ h.symm _ _ (And.intro rfl ?_) (by intro hh; cases hh)
   exact lsp rfl trivial trivial rfl
 ·clear hr4
  have h := hN5
  clear hN5
  intro e12 s13 q11 hne
  rcases y3 with y3k0 | y3m0
  ·replace h := h
   obtain ⟨rfl, q11⟩ := q11
   replace h := ol h
   obtain ⟨w19, hw19, h⟩ := h
   have hw19 : w19 = y3k0 := hw19
   subst hw19
   cbv
   injection h with h
   subst h
   refine ⟨(sp 19 [(4, .c (wi w19))] []), ?_, ?_⟩
   ·refine St.le_trans q11 ?_
    exact lsp rfl zl1 trivial rfl
   ·exact ⟨lR _, trivial, rfl⟩
  ·obtain ⟨rfl, q11⟩ := q11
   cbv
   refine ⟨_, q11, ?_⟩
   cbv
   injection h with h
   subst h
   refine ⟨(sp 19 [(4, .c (wi (-1)))] []), ?_, ?_⟩
   ·exact lsp rfl zl1 trivial rfl
   ·exact ⟨lR _, trivial, rfl⟩

/-- impl.Shape] -/
def Fq58 (a0 : List TS) : Option (Bool) :=
 (Fq43 a0).bind fun y1 =>
 some (std.le 0 y1)
theorem runq58 (a0 : List TS) (r : Bool) (h : Fq58 a0 = some r) : Fun Tryz.prog 162 [.c (.bs (len a0) 5 (row gd (eS) a0)), .c (.fn 163 0 fun _ => .junk)] [] (.c (.v (.bool r))) [] true := by
 refine Fun.of_wp (oneOf []) tok mixed Tryz.func162 (by kernel_rfl) rfl Tryz.ntmps162 rfl trivial (fun _ => ⟨trivial, tv⟩) ?_
 unfold Fq58 at h
 have hfq43 := @runq43
 generalize hLEN : @len = LEN, hGD : @gd = GD, hA : std = A, hP : Tryz.prog = P at *
 cbv
 replace h := ob_ h
 obtain ⟨y1, hy2, h⟩ := h
 refine ⟨⟨_, _, _, _, _, [], []⟩, hfq43 _ _ hy2, ⟨zs2, trivial, rfl, rfl, rfl, rfl, trivial, rfl⟩, ?_⟩
 cbv
 injection h with h
 subst h
 refine ⟨(sp 9 [(4, .c (.v (.bool (A.le 0 y1))))] []), ?_, ?_⟩
 ·exact lsp rfl zl1 trivial rfl
 ·exact ⟨lR _, trivial, rfl⟩

/-- impl.isUnitCell -/
def Fq69 (a0 : TPoint) : Option (Bool) :=
 ((
 (Fq2 a0.fX (-40) 39).bind fun y8 =>
 br y8
 ((Fq2 a0.fY (-40) 39).bind fun y10 =>
 some y10)
 (some false)
 ) : Option (Bool)).bind fun y1 =>
 letO y1 fun w7 =>
 some w7
theorem runq69 (a0 : TPoint) (r : Bool) (h : Fq69 a0 = some r) : Fun Tryz.prog 237 [.agg [wi a0.fX, wi a0.fY]] [] (.c (.v (.bool r))) [] true := by
 refine Fun.of_wp (oneOf [1]) tok mixed Tryz.func237 (by kernel_rfl) rfl Tryz.ntmps237 rfl trivial (fun _ => ⟨trivial, tv⟩) ?_
 unfold Fq69 at h
 have hfq2 := @runq2
 generalize hLEN : @len = LEN, hGD : @gd = GD, hA : std = A, hP : Tryz.prog = P at *
 cbv
 replace h := ob_ h
 obtain ⟨y1, hy2, h⟩ := h
 obtain ⟨S5, hS6⟩ : ∃ S, S = (sp 11 [(2, .c (.v (.bool y1)))] []) := ⟨_, rfl⟩
 refine ⟨S5, ?_, ?_⟩
 ·clear h
  have h := hy2
  clear hy2
  cbv
  replace h := ob_ h
  obtain ⟨y8, hy9, h⟩ := h
  refine ⟨⟨_, _, _, _, _, [], []⟩, hfq2 _ _ _ _ hy9, ⟨zs3, trivial, rfl, rfl, rfl, rfl, trivial, rfl⟩, ?_⟩
  cbv
  refine fork (fun b12 => ?_) (fun b12 => ?_)
  ·replace h := ot b12 h
   cbv
   replace h := ob_ h
   obtain ⟨y10, hy11, h⟩ := h
   refine ⟨⟨_, _, _, _, _, [], []⟩, hfq2 _ _ _ _ hy11, ⟨zs3, trivial, rfl, rfl, rfl, rfl, trivial, rfl⟩, ?_⟩
   cbv
   injection h with h
   subst h
   subst hS6
   exact lsp rfl zl1 trivial rfl
  ·replace h := og b12 h
   cbv
   injection h with h
   subst h
   subst hS6
   exact lsp rfl zl1 trivial rfl
 ·clear hy2
  subst hS6
  replace h := ol h
  obtain ⟨w7, hw7, h⟩ := h
  have hw7 : w7 = y1 := hw7
  subst hw7
  cbv
  injection h with h
  subst h
  refine ⟨(sp 11 [(2, .c (.v (.bool w7)))] []), ?_, ?_⟩
  ·exact lsp rfl zl1 trivial rfl
  ·exact ⟨lR _, trivial, rfl⟩

/-- impl.validLabel -/
def Fq34 (a0 : TB) : Option (Bool) :=
 ((
 (Fq2 a0.fy 0 7).bind fun y8 =>
 br y8
 ((Fq69 a0.fa).bind fun y10 =>
 br y10
 ((Fq12 a0.fN).bind fun y12 =>
 some y12)
 (some false))
 (some false)
 ) : Option (Bool)).bind fun y1 =>
 letO y1 fun w7 =>
 some w7
theorem runq34 (a0 : TB) (r : Bool) (h : Fq34 a0 = some r) : Fun Tryz.prog 167 [.agg [wi a0.fy, wi a0.fa.fX, wi a0.fa.fY, ws a0.fN]] [] (.c (.v (.bool r))) [] true := by
 refine Fun.of_wp (oneOf [1]) tok mixed Tryz.func167 (by kernel_rfl) rfl Tryz.ntmps167 rfl trivial (fun _ => ⟨trivial, tv⟩) ?_
 unfold Fq34 at h
 have hfq12 := @runq12
 have hfq69 := @runq69
 have hfq2 := @runq2
 generalize hLEN : @len = LEN, hGD : @gd = GD, hA : std = A, hP : Tryz.prog = P at *
 cbv
 replace h := ob_ h
 obtain ⟨y1, hy2, h⟩ := h
 obtain ⟨S5, hS6⟩ : ∃ S, S = (sp 16 [(2, .c (.v (.bool y1)))] []) := ⟨_, rfl⟩
 refine ⟨S5, ?_, ?_⟩
 ·clear h
  have h := hy2
  clear hy2
  cbv
  replace h := ob_ h
  obtain ⟨y8, hy9, h⟩ := h
  refine ⟨⟨_, _, _, _, _, [], []⟩, hfq2 _ _ _ _ hy9, ⟨zs3, trivial, rfl, rfl, rfl, rfl, trivial, rfl⟩, ?_⟩
  cbv
  refine fork (fun b15 => ?_) (fun b15 => ?_)
  ·replace h := ot b15 h
   cbv
   replace h := ob_ h
   obtain ⟨y10, hy11, h⟩ := h
   refine ⟨⟨_, _, _, _, _, [], []⟩, hfq69 _ _ hy11, ⟨zs1, trivial, rfl, rfl, rfl, rfl, trivial, rfl⟩, ?_⟩
   cbv
   refine fork (fun b14 => ?_) (fun b14 => ?_)
   ·replace h := ot b14 h
    cbv
    replace h := ob_ h
    obtain ⟨y12, hy13, h⟩ := h
    refine ⟨⟨_, _, _, _, _, [], []⟩, hfq12 _ _ hy13, ⟨zs1, trivial, rfl, rfl, rfl, rfl, trivial, rfl⟩, ?_⟩
    cbv
    injection h with h
    subst h
    subst hS6
    exact lsp rfl zl1 trivial rfl
   ·replace h := og b14 h
    cbv
    injection h with h
    subst h
    subst hS6
    exact lsp rfl zl1 trivial rfl
  ·replace h := og b15 h
   cbv
   injection h with h
   subst h
   subst hS6
   exact lsp rfl zl1 trivial rfl
 ·clear hy2
  subst hS6
  replace h := ol h
  obtain ⟨w7, hw7, h⟩ := h
  have hw7 : w7 = y1 := hw7
  subst hw7
  cbv
  injection h with h
  subst h
  refine ⟨(sp 16 [(2, .c (.v (.bool w7)))] []), ?_, ?_⟩
  ·exact lsp rfl zl1 trivial rfl
  ·exact ⟨lR _, trivial, rfl⟩
set_option maxHeartbeats 4000000
/-- impl.validCell$2 -/
def Fq86 (a0 : TB) : Option (Bool) :=
 (Fq34 (TB.mk a0.fy a0.fa a0.fN)).bind fun y1 =>
 some (!(y1))
theorem runq86 (a0 : TB) (r : Bool) (h : Fq86 a0 = some r) : Fun Tryz.prog 166 [.agg [wi a0.fy, wi a0.fa.fX, wi a0.fa.fY, ws a0.fN]] [] (.c (.v (.bool r))) [] true := by
 refine Fun.of_wp (oneOf []) tok mixed Tryz.func166 (by kernel_rfl) rfl Tryz.ntmps166 rfl trivial (fun _ => ⟨trivial, tv⟩) ?_
 unfold Fq86 at h
 have hfq34 := @runq34
 generalize hLEN : @len = LEN, hGD : @gd = GD, hA : std = A, hP : Tryz.prog = P at *
 cbv
 replace h := ob_ h
 obtain ⟨y1, hy2, h⟩ := h
 refine ⟨⟨_, _, _, _, _, [], []⟩, hfq34 _ _ hy2, ⟨zs1, trivial, rfl, rfl, rfl, rfl, trivial, rfl⟩, ?_⟩
 cbv
 injection h with h
 subst h
 refine ⟨(sp 6 [(2, .c (.v (.bool (!(y1)))))] []), ?_, ?_⟩
 ·exact lsp rfl zl1 trivial rfl
 ·exact ⟨lR _, trivial, rfl⟩

def Lq40_x2 (a0 : List TB) : (Int) -> Option ((Int) ⊕ ((Int) ⊕ (Unit))) := fun x2 =>
 letO x2 fun v1 =>
 br (std.lt v1 (std.ofN (len a0)))
 (req (std.inR v1 (len a0)) <|
 (Fq86 (gd a0 (std.toN v1))).bind fun y15 =>
 br y15
 (some (.inr (.inl v1)))
 (some (.inl (std.add .i64 v1 1))))
 (some (.inr (.inr ())))
/-- impl.Label] -/
def Fq40 (a0 : List TB) : Option (Int) :=
 (whileP (σ := Int) (ρ := (Int) ⊕ (Unit)) (Lq40_x2 a0) 0).bind fun y3 =>
 (match y3 with
 | .inl y3k0 => (
 letO y3k0 fun w19 =>
 some w19)
 | .inr y3m0 =>
 some (-1))
theorem runq40 (a0 : List TB) (r : Int) (h : Fq40 a0 = some r) : Fun Tryz.prog 236 [.c (.bs (len a0) 4 (row gd (eL) a0)), .c (.fn 166 0 fun _ => .junk)] [] (.c (wi r)) [] true := by
 refine Fun.of_wp (oneOf []) tok mixed Tryz.func236 (by kernel_rfl) rfl Tryz.ntmps236 rfl trivial (fun _ => ⟨trivial, tv⟩) ?_
 unfold Fq40 at h
 unfold Lq40_x2 at h
 have hfq86 := @runq86
 generalize hLEN : @len = LEN, hGD : @gd = GD, hA : std = A, hP : Tryz.prog = P at *
 cbv
 replace h := ob_ h
 obtain ⟨y3, hr4, hN5⟩ := h
 refine loop_cut hr4 (fun x => (sp 19 [(0, .c (.bs (LEN a0) 4 (row GD (eL) a0))), (1, .c (.fn 166 0 fun _ => .junk)), (7, .c (wi (A.ofN (LEN a0)))), (8, .c (wi x))] [])) ?_ (fun y e s => (match y with | .inl w => e = .ret /\ s.le (sp 19 [(4, .c (wi w))] []) | .inr w0 => (fun (w : Unit) => e = .exit 0 /\ s.le (sp 19 [] [])) w0)) ?_ ?_
 ·clear hr4 hN5
  show St.le _ _
  exact lsp rfl zl4 trivial rfl
 ·clear hr4 hN5
  intro x z9 h K7 hK8 hY6
  replace h := ol h
  obtain ⟨v1, hv1, h⟩ := h
  have hv1 : v1 = x := hv1
  subst hv1
  cbv
  refine fork (fun b18 => ?_) (fun b18 => ?_)
  ·replace h := ot b18 h
   cbv
   replace h := oq_ h
   obtain ⟨c14, h⟩ := h
   refine ⟨⟨c14, tv⟩, ?_⟩
   replace h := ob_ h
   obtain ⟨y15, hy16, h⟩ := h
   refine ⟨⟨_, _, _, _, _, [], []⟩, hfq86 _ _ hy16, ⟨zs1, trivial, rfl, rfl, rfl, rfl, trivial, rfl⟩, ?_⟩
   cbv
   refine fork (fun b17 => ?_) (fun b17 => ?_)
   ·replace h := ot b17 h
    cbv
    injection h with h
    refine hY6 _ h.symm _ _ (And.intro rfl ?_) (by intro hh; cases hh)
    exact lsp rfl zl1 trivial rfl
   ·replace h := og b17 h
    cbv
    injection h with h
    refine hK8 _ h.symm _ ?_
    exact lsp rfl zl4 trivial rfl
  ·replace h := og b18 h
   cbv
   injection h with h
   refine hY6 _ h.symm _ _ (And.intro rfl ?_) (by intro hh; cases hh)
   exact lsp rfl trivial trivial rfl
 ·clear hr4
  have h := hN5
  clear hN5
  intro e12 s13 q11 hne
  rcases y3 with y3k0 | y3m0
  ·replace h := h
   obtain ⟨rfl, q11⟩ := q11
   replace h := ol h
   obtain ⟨w19, hw19, h⟩ := h
   have hw19 : w19 = y3k0 := hw19
   subst hw19
   cbv
   injection h with h
   subst h
   refine ⟨(sp 19 [(4, .c (wi w19))] []), ?_, ?_⟩
   ·refine St.le_trans q11 ?_
    exact lsp rfl zl1 trivial rfl
   ·exact ⟨lR _, trivial, rfl⟩
  ·obtain ⟨rfl, q11⟩ := q11
   cbv
   refine ⟨_, q11, ?_⟩
   cbv
   injection h with h
   subst h
   refine ⟨(sp 19 [(4, .c (wi (-1)))] []), ?_, ?_⟩
   ·exact lsp rfl zl1 trivial rfl
   ·exact ⟨lR _, trivial, rfl⟩

/-- impl.Label] -/
def Fq56 (a0 : List TB) : Option (Bool) :=
 (Fq40 a0).bind fun y1 =>
 some (std.le 0 y1)
theorem runq56 (a0 : List TB) (r : Bool) (h : Fq56 a0 = some r) : Fun Tryz.prog 165 [.c (.bs (len a0) 4 (row gd (eL) a0)), .c (.fn 166 0 fun _ => .junk)] [] (.c (.v (.bool r))) [] true := by
 refine Fun.of_wp (oneOf []) tok mixed Tryz.func165 (by kernel_rfl) rfl Tryz.ntmps165 rfl trivial (fun _ => ⟨trivial, tv⟩) ?_
 unfold Fq56 at h
 have hfq40 := @runq40
 generalize hLEN : @len = LEN, hGD : @gd = GD, hA : std = A, hP : Tryz.prog = P at *
 cbv
 replace h := ob_ h
 obtain ⟨y1, hy2, h⟩ := h
 refine ⟨⟨_, _, _, _, _, [], []⟩, hfq40 _ _ hy2, ⟨zs2, trivial, rfl, rfl, rfl, rfl, trivial, rfl⟩, ?_⟩
 cbv
 injection h with h
 subst h
 refine ⟨(sp 9 [(4, .c (.v (.bool (A.le 0 y1))))] []), ?_, ?_⟩
 ·exact lsp rfl zl1 trivial rfl
 ·exact ⟨lR _, trivial, rfl⟩

/-- impl.IsValidTransform -/
def Fq66 (a0 : TM) : Option (Bool) :=
 ((
 (Fq2 a0.fo 0 7).bind fun y8 =>
 br y8
 ((Fq2 a0.fX (-80) 80).bind fun y10 =>
 br y10
 ((Fq2 a0.fY (-80) 80).bind fun y12 =>
 some y12)
 (some false))
 (some false)
 ) : Option (Bool)).bind fun y1 =>
 letO y1 fun w7 =>
 some w7
theorem runq66 (a0 : TM) (r : Bool) (h : Fq66 a0 = some r) : Fun Tryz.prog 239 [.agg [wi a0.fo, wi a0.fX, wi a0.fY]] [] (.c (.v (.bool r))) [] true := by
 refine Fun.of_wp (oneOf [1]) tok mixed Tryz.func239 (by kernel_rfl) rfl Tryz.ntmps239 rfl trivial (fun _ => ⟨trivial, tv⟩) ?_
 unfold Fq66 at h
 have hfq2 := @runq2
 generalize hLEN : @len = LEN, hGD : @gd = GD, hA : std = A, hP : Tryz.prog = P at *
 cbv
 replace h := ob_ h
 obtain ⟨y1, hy2, h⟩ := h
 obtain ⟨S5, hS6⟩ : ∃ S, S = (sp 16 [(2, .c (.v (.bool y1)))] []) := ⟨_, rfl⟩
 refine ⟨S5, ?_, ?_⟩
 ·clear h
  have h := hy2
  clear hy2
  cbv
  replace h := ob_ h
  obtain ⟨y8, hy9, h⟩ := h
  refine ⟨⟨_, _, _, _, _, [], []⟩, hfq2 _ _ _ _ hy9, ⟨zs3, trivial, rfl, rfl, rfl, rfl, trivial, rfl⟩, ?_⟩
  cbv
  refine fork (fun b15 => ?_) (fun b15 => ?_)
  ·replace h := ot b15 h
   cbv
   replace h := ob_ h
   obtain ⟨y10, hy11, h⟩ := h
   refine ⟨⟨_, _, _, _, _, [], []⟩, hfq2 _ _ _ _ hy11, ⟨zs3, trivial, rfl, rfl, rfl, rfl, trivial, rfl⟩, ?_⟩
   cbv
   refine fork (fun b14 => ?_) (fun b14 => ?_)
   ·replace h := ot b14 h
    cbv
    replace h := ob_ h
    obtain ⟨y12, hy13, h⟩ := h
    refine ⟨⟨_, _, _, _, _, [], []⟩, hfq2 _ _ _ _ hy13, ⟨zs3, trivial, rfl, rfl, rfl, rfl, trivial, rfl⟩, ?_⟩
    cbv
    injection h with h
    subst h
    subst hS6
    exact lsp rfl zl1 trivial rfl
   ·replace h := og b14 h
    cbv
    injection h with h
    subst h
    subst hS6
    exact lsp rfl zl1 trivial rfl
  ·replace h := og b15 h
   cbv
   injection h with h
   subst h
   subst hS6
   exact lsp rfl zl1 trivial rfl
 ·clear hy2
  subst hS6
  replace h := ol h
  obtain ⟨w7, hw7, h⟩ := h
  have hw7 : w7 = y1 := hw7
  subst hw7
  cbv
  injection h with h
  subst h
  refine ⟨(sp 16 [(2, .c (.v (.bool w7)))] []), ?_, ?_⟩
  ·exact lsp rfl zl1 trivial rfl
  ·exact ⟨lR _, trivial, rfl⟩

/-- impl.validInstance -/
def Fq33 (a0 : TI) (a1 : Int) : Option (Bool) :=
 ((
 (Fq2 a0.fc 0 (std.sub .i64 a1 1)).bind fun y8 =>
 br y8
 ((Fq66 a0.fp).bind fun y10 =>
 br y10
 ((Fq2 a0.fK 1 4).bind fun y12 =>
 br y12
 ((Fq2 a0.fR 1 4).bind fun y14 =>
 br y14
 ((Fq2 a0.fu (-80) 80).bind fun y16 =>
 br y16
 ((Fq2 a0.fv (-80) 80).bind fun y18 =>
 br y18
 (br (std.eq a0.fu 0)
 (br (std.eq a0.fv 0)
 (some true)
 (some (std.lt 1 a0.fR)))
 (br (std.lt 1 a0.fK)
 (br (std.eq a0.fv 0)
 (some true)
 (some (std.lt 1 a0.fR)))
 (some false)))
 (some false))
 (some false))
 (some false))
 (some false))
 (some false))
 (some false)
 ) : Option (Bool)).bind fun y1 =>
 letO y1 fun w7 =>
 some w7
theorem runq33 (a0 : TI) (a1 : Int) (r : Bool) (h : Fq33 a0 a1 = some r) : Fun Tryz.prog 170 [.agg [wi a0.fc, wi a0.fp.fo, wi a0.fp.fX, wi a0.fp.fY, wi a0.fK, wi a0.fR, wi a0.fu, wi a0.fv], .c (wi a1)] [] (.c (.v (.bool r))) [] true := by
 refine Fun.of_wp (oneOf [1]) tok mixed Tryz.func170 (by kernel_rfl) rfl Tryz.ntmps170 rfl trivial (fun _ => ⟨trivial, tv⟩) ?_
 unfold Fq33 at h
 have hfq66 := @runq66
 have hfq2 := @runq2
 generalize hLEN : @len = LEN, hGD : @gd = GD, hA : std = A, hP : Tryz.prog = P at *
 cbv
 replace h := ob_ h
 obtain ⟨y1, hy2, h⟩ := h
 obtain ⟨S5, hS6⟩ : ∃ S, S = (sp 55 [(4, .c (.v (.bool y1)))] []) := ⟨_, rfl⟩
 refine ⟨S5, ?_, ?_⟩
 ·clear h
  have h := hy2
  clear hy2
  cbv
  replace h := ob_ h
  obtain ⟨y8, hy9, h⟩ := h
  refine ⟨⟨_, _, _, _, _, [], []⟩, hfq2 _ _ _ _ hy9, ⟨zs3, trivial, rfl, rfl, rfl, rfl, trivial, rfl⟩, ?_⟩
  cbv
  refine fork (fun b29 => ?_) (fun b29 => ?_)
  ·replace h := ot b29 h
   cbv
   replace h := ob_ h
   obtain ⟨y10, hy11, h⟩ := h
   refine ⟨⟨_, _, _, _, _, [], []⟩, hfq66 _ _ hy11, ⟨zs1, trivial, rfl, rfl, rfl, rfl, trivial, rfl⟩, ?_⟩
   cbv
   refine fork (fun b28 => ?_) (fun b28 => ?_)
   ·replace h := ot b28 h
    cbv
    replace h := ob_ h
    obtain ⟨y12, hy13, h⟩ := h
    refine ⟨⟨_, _, _, _, _, [], []⟩, hfq2 _ _ _ _ hy13, ⟨zs3, trivial, rfl, rfl, rfl, rfl, trivial, rfl⟩, ?_⟩
    cbv
    refine fork (fun b27 => ?_) (fun b27 => ?_)
    ·replace h := ot b27 h
     cbv
     replace h := ob_ h
     obtain ⟨y14, hy15, h⟩ := h
     refine ⟨⟨_, _, _, _, _, [], []⟩, hfq2 _ _ _ _ hy15, ⟨zs3, trivial, rfl, rfl, rfl, rfl, trivial, rfl⟩, ?_⟩
     cbv
     refine fork (fun b26 => ?_) (fun b26 => ?_)
     ·replace h := ot b26 h
      cbv
      replace h := ob_ h
      obtain ⟨y16, hy17, h⟩ := h
      refine ⟨⟨_, _, _, _, _, [], []⟩, hfq2 _ _ _ _ hy17, ⟨zs3, trivial, rfl, rfl, rfl, rfl, trivial, rfl⟩, ?_⟩
      cbv
      refine fork (fun b25 => ?_) (fun b25 => ?_)
      ·replace h := ot b25 h
       cbv
       replace h := ob_ h
       obtain ⟨y18, hy19, h⟩ := h
       refine ⟨⟨_, _, _, _, _, [], []⟩, hfq2 _ _ _ _ hy19, ⟨zs3, trivial, rfl, rfl, rfl, rfl, trivial, rfl⟩, ?_⟩
       cbv
       refine fork (fun b24 => ?_) (fun b24 => ?_)
       ·replace h := ot b24 h
        cbv
        refine fork (fun b23 => ?_) (fun b23 => ?_)
        ·replace h := ot b23 h
         cbv
         refine fork (fun b22 => ?_) (fun b22 => ?_)
         ·replace h := ot b22 h
          cbv
          injection h with h
          subst h
          subst hS6
          exact lsp rfl zl1 trivial rfl
         ·replace h := og b22 h
          cbv
          injection h with h
          subst h
          subst hS6
          exact lsp rfl zl1 trivial rfl
        ·replace h := og b23 h
         cbv
         refine fork (fun b21 => ?_) (fun b21 => ?_)
         ·replace h := ot b21 h
          cbv
          refine fork (fun b20 => ?_) (fun b20 => ?_)
          ·replace h := ot b20 h
           cbv
           injection h with h
           subst h
           subst hS6
           exact lsp rfl zl1 trivial rfl
          ·replace h := og b20 h
           cbv
           injection h with h
           subst h
           subst hS6
           exact lsp rfl zl1 trivial rfl
         ·replace h := og b21 h
          cbv
          injection h with h
          subst h
          subst hS6
          exact lsp rfl zl1 trivial rfl
       ·replace h := og b24 h
        cbv
        injection h with h
        subst h
        subst hS6
        exact lsp rfl zl1 trivial rfl
      ·replace h := og b25 h
       cbv
       injection h with h
       subst h
       subst hS6
       exact lsp rfl zl1 trivial rfl
     ·replace h := og b26 h
      cbv
      injection h with h
      subst h
      subst hS6
      exact lsp rfl zl1 trivial rfl
    ·replace h := og b27 h
     cbv
     injection h with h
     subst h
     subst hS6
     exact lsp rfl zl1 trivial rfl
   ·replace h := og b28 h
    cbv
    injection h with h
    subst h
    subst hS6
    exact lsp rfl zl1 trivial rfl
  ·replace h := og b29 h
   cbv
   injection h with h
   subst h
   subst hS6
   exact lsp rfl zl1 trivial rfl
 ·clear hy2
  subst hS6
  replace h := ol h
  obtain ⟨w7, hw7, h⟩ := h
  have hw7 : w7 = y1 := hw7
  subst hw7
  cbv
  injection h with h
  subst h
  refine ⟨(sp 55 [(4, .c (.v (.bool w7)))] []), ?_, ?_⟩
  ·exact lsp rfl zl1 trivial rfl
  ·exact ⟨lR _, trivial, rfl⟩

/-- impl.validCell$3 -/
def Fq89 (a0 : TI) (a1 : Int) : Option (Bool) :=
 (Fq33 (TI.mk a0.fc a0.fp a0.fK a0.fR a0.fu a0.fv) a1).bind fun y1 =>
 some (!(y1))
theorem runq89 (a0 : TI) (a1 : Int) (r : Bool) (h : Fq89 a0 a1 = some r) : Fun Tryz.prog 169 [.agg [wi a0.fc, wi a0.fp.fo, wi a0.fp.fX, wi a0.fp.fY, wi a0.fK, wi a0.fR, wi a0.fu, wi a0.fv], .c (.bp 1 (encI .i64 a1))] [] (.c (.v (.bool r))) [] true := by
 refine Fun.of_wp (oneOf []) tok mixed Tryz.func169 (by kernel_rfl) rfl Tryz.ntmps169 rfl trivial (fun _ => ⟨trivial, tv⟩) ?_
 unfold Fq89 at h
 have hfq33 := @runq33
 generalize hLEN : @len = LEN, hGD : @gd = GD, hA : std = A, hP : Tryz.prog = P at *
 cbv
 replace h := ob_ h
 obtain ⟨y1, hy2, h⟩ := h
 refine ⟨⟨_, _, _, _, _, [], []⟩, hfq33 _ _ _ hy2, ⟨zs2, trivial, rfl, rfl, rfl, rfl, trivial, rfl⟩, ?_⟩
 cbv
 injection h with h
 subst h
 refine ⟨(sp 8 [(3, .c (.v (.bool (!(y1)))))] []), ?_, ?_⟩
 ·exact lsp rfl zl1 trivial rfl
 ·exact ⟨lR _, trivial, rfl⟩
end
end Go.Proofs.YtohgghncmkiicaaGreat.AM
