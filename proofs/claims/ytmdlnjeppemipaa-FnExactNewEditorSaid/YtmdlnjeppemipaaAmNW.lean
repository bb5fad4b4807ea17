/-
  What the functions that the law reaches compute, and that they do. No condition.
-/
import Derived.Test.YtmdlnjeppemipaaAmNV
namespace Go.Proofs.Ytmdlnjeppemipaa.AM
open Go Go.Proofs Go.RowKit
set_option linter.unusedVariables false
set_option linter.unusedSimpArgs false
set_option maxRecDepth 100000

/-- spec.l09Unit -/
noncomputable def F_spec_l09Unit (a0 : TPoint) : Option (Bool) :=
  ((
        (F_spec_l09In a0.fX (-40) 39).bind fun y8 =>
        br y8
        ((F_spec_l09In a0.fY (-40) 39).bind fun y10 =>
        some y10)
        (some false)
    ) : Option (Bool)).bind fun y1 =>
  letO y1 fun w7 =>
  some w7
theorem run_spec_l09Unit (a0 : TPoint) (r : Bool) (h : F_spec_l09Unit a0 = some r) : Fun Try.prog 209 [.agg [.v (.int .i64 a0.fX), .v (.int .i64 a0.fY)]] [] (.c (.v (.bool r))) [] true := by
  refine Fun.of_wp (oneOf [1]) tok mixed Try.func209 (by kernel_rfl) rfl Try.ntmps209 rfl trivial (fun _ => ⟨trivial, trivial⟩) ?_
  unfold F_spec_l09Unit at h
  have hf_spec_l09In := @run_spec_l09In
  generalize hLEN : @len = LEN at *
  generalize hGD : @gd = GD at *
  generalize hA : std = A at *
  generalize hP : Try.prog = P at *
  cbv
  replace h := of_bind h
  obtain ⟨y1, hy2, h⟩ := h
  obtain ⟨S5, hS6⟩ : ∃ S, S = (sparse 11 [(2, .c (.v (.bool y1)))] []) := ⟨_, rfl⟩
  refine ⟨S5, ?_, ?_⟩
  · clear h
    have h := hy2
    clear hy2
    cbv
    replace h := of_bind h
    obtain ⟨y8, hy9, h⟩ := h
    refine ⟨{ args := [.c (.v (.int .i64 a0.fX)), .c (.v (.int .i64 (-40))), .c (.v (.int .i64 39))], o0 := [], r := .c (.v (.bool y8)), o1 := [], fl := true, σ := [], τ := [] }, hf_spec_l09In _ _ _ _ hy9, ⟨les_cons (AV.le_refl _) (les_cons (AV.le_refl _) (les_cons (AV.le_refl _) (les_nil))), trivial, rfl, rfl, rfl, rfl, trivial, rfl⟩, ?_⟩
    cbv
    refine fork (fun b12 => ?_) (fun b12 => ?_)
    · replace h := of_br_t b12 h
      cbv
      replace h := of_bind h
      obtain ⟨y10, hy11, h⟩ := h
      refine ⟨{ args := [.c (.v (.int .i64 a0.fY)), .c (.v (.int .i64 (-40))), .c (.v (.int .i64 39))], o0 := [], r := .c (.v (.bool y10)), o1 := [], fl := true, σ := [], τ := [] }, hf_spec_l09In _ _ _ _ hy11, ⟨les_cons (AV.le_refl _) (les_cons (AV.le_refl _) (les_cons (AV.le_refl _) (les_nil))), trivial, rfl, rfl, rfl, rfl, trivial, rfl⟩, ?_⟩
      cbv
      injection h with h
      subst h
      subst hS6
      show St.le _ _
      exact le_sparse rfl ⟨AV.le_refl _, trivial⟩ trivial rfl
    · replace h := of_br_f b12 h
      cbv
      injection h with h
      subst h
      subst hS6
      show St.le _ _
      exact le_sparse rfl ⟨AV.le_refl _, trivial⟩ trivial rfl
  · clear hy2
    subst hS6
    replace h := of_let h
    obtain ⟨w7, hw7, h⟩ := h
    have hw7 : w7 = y1 := hw7
    subst hw7
    cbv
    injection h with h
    subst h
    refine ⟨(sparse 11 [(2, .c (.v (.bool w7)))] []), ?_, ?_⟩
    · exact le_sparse rfl ⟨AV.le_refl _, trivial⟩ trivial rfl
    · exact ⟨AV.le_refl _, trivial, rfl⟩

/-- spec.l09Label -/
noncomputable def F_spec_l09Label (a0 : TLabel) : Option (Bool) :=
  ((
        (F_spec_l09Layer a0.fLayer).bind fun y8 =>
        br y8
        ((F_spec_l09Unit a0.fAt).bind fun y10 =>
        br y10
        ((F_spec_IsName a0.fName).bind fun y12 =>
        some y12)
        (some false))
        (some false)
    ) : Option (Bool)).bind fun y1 =>
  letO y1 fun w7 =>
  some w7
theorem run_spec_l09Label (a0 : TLabel) (r : Bool) (h : F_spec_l09Label a0 = some r) : Fun Try.prog 159 [.agg [.v (.int .i64 a0.fLayer), .v (.int .i64 a0.fAt.fX), .v (.int .i64 a0.fAt.fY), .v (.string a0.fName)]] [] (.c (.v (.bool r))) [] true := by
  refine Fun.of_wp (oneOf [1]) tok mixed Try.func159 (by kernel_rfl) rfl Try.ntmps159 rfl trivial (fun _ => ⟨trivial, trivial⟩) ?_
  unfold F_spec_l09Label at h
  have hf_spec_IsName := @run_spec_IsName
  have hf_spec_l09Layer := @run_spec_l09Layer
  have hf_spec_l09Unit := @run_spec_l09Unit
  generalize hLEN : @len = LEN at *
  generalize hGD : @gd = GD at *
  generalize hA : std = A at *
  generalize hP : Try.prog = P at *
  cbv
  replace h := of_bind h
  obtain ⟨y1, hy2, h⟩ := h
  obtain ⟨S5, hS6⟩ : ∃ S, S = (sparse 16 [(2, .c (.v (.bool y1)))] []) := ⟨_, rfl⟩
  refine ⟨S5, ?_, ?_⟩
  · clear h
    have h := hy2
    clear hy2
    cbv
    replace h := of_bind h
    obtain ⟨y8, hy9, h⟩ := h
    refine ⟨{ args := [.c (.v (.int .i64 a0.fLayer))], o0 := [], r := .c (.v (.bool y8)), o1 := [], fl := true, σ := [], τ := [] }, hf_spec_l09Layer _ _ hy9, ⟨les_cons (AV.le_refl _) (les_nil), trivial, rfl, rfl, rfl, rfl, trivial, rfl⟩, ?_⟩
    cbv
    refine fork (fun b15 => ?_) (fun b15 => ?_)
    · replace h := of_br_t b15 h
      cbv
      replace h := of_bind h
      obtain ⟨y10, hy11, h⟩ := h
      refine ⟨{ args := [.agg [.v (.int .i64 a0.fAt.fX), .v (.int .i64 a0.fAt.fY)]], o0 := [], r := .c (.v (.bool y10)), o1 := [], fl := true, σ := [], τ := [] }, hf_spec_l09Unit _ _ hy11, ⟨les_cons (AV.le_refl _) (les_nil), trivial, rfl, rfl, rfl, rfl, trivial, rfl⟩, ?_⟩
      cbv
      refine fork (fun b14 => ?_) (fun b14 => ?_)
      · replace h := of_br_t b14 h
        cbv
        replace h := of_bind h
        obtain ⟨y12, hy13, h⟩ := h
        refine ⟨{ args := [.c (.v (.string a0.fName))], o0 := [], r := .c (.v (.bool y12)), o1 := [], fl := true, σ := [], τ := [] }, hf_spec_IsName _ _ hy13, ⟨les_cons (AV.le_refl _) (les_nil), trivial, rfl, rfl, rfl, rfl, trivial, rfl⟩, ?_⟩
        cbv
        injection h with h
        subst h
        subst hS6
        show St.le _ _
        exact le_sparse rfl ⟨AV.le_refl _, trivial⟩ trivial rfl
      · replace h := of_br_f b14 h
        cbv
        injection h with h
        subst h
        subst hS6
        show St.le _ _
        exact le_sparse rfl ⟨AV.le_refl _, trivial⟩ trivial rfl
    · replace h := of_br_f b15 h
      cbv
      injection h with h
      subst h
      subst hS6
      show St.le _ _
      exact le_sparse rfl ⟨AV.le_refl _, trivial⟩ trivial rfl
  · clear hy2
    subst hS6
    replace h := of_let h
    obtain ⟨w7, hw7, h⟩ := h
    have hw7 : w7 = y1 := hw7
    subst hw7
    cbv
    injection h with h
    subst h
    refine ⟨(sparse 16 [(2, .c (.v (.bool w7)))] []), ?_, ?_⟩
    · exact le_sparse rfl ⟨AV.le_refl _, trivial⟩ trivial rfl
    · exact ⟨AV.le_refl _, trivial, rfl⟩

/-- spec.l09Transform -/
noncomputable def F_spec_l09Transform (a0 : TTransform) : Option (Bool) :=
  ((
        (F_spec_l09In a0.fOrientation 0 7).bind fun y8 =>
        br y8
        ((F_spec_l09In a0.fX (-80) 80).bind fun y10 =>
        br y10
        ((F_spec_l09In a0.fY (-80) 80).bind fun y12 =>
        some y12)
        (some false))
        (some false)
    ) : Option (Bool)).bind fun y1 =>
  letO y1 fun w7 =>
  some w7
theorem run_spec_l09Transform (a0 : TTransform) (r : Bool) (h : F_spec_l09Transform a0 = some r) : Fun Try.prog 210 [.agg [.v (.int .i64 a0.fOrientation), .v (.int .i64 a0.fX), .v (.int .i64 a0.fY)]] [] (.c (.v (.bool r))) [] true := by
  refine Fun.of_wp (oneOf [1]) tok mixed Try.func210 (by kernel_rfl) rfl Try.ntmps210 rfl trivial (fun _ => ⟨trivial, trivial⟩) ?_
  unfold F_spec_l09Transform at h
  have hf_spec_l09In := @run_spec_l09In
  generalize hLEN : @len = LEN at *
  generalize hGD : @gd = GD at *
  generalize hA : std = A at *
  generalize hP : Try.prog = P at *
  cbv
  replace h := of_bind h
  obtain ⟨y1, hy2, h⟩ := h
  obtain ⟨S5, hS6⟩ : ∃ S, S = (sparse 16 [(2, .c (.v (.bool y1)))] []) := ⟨_, rfl⟩
  refine ⟨S5, ?_, ?_⟩
  · clear h
    have h := hy2
    clear hy2
    cbv
    replace h := of_bind h
    obtain ⟨y8, hy9, h⟩ := h
    refine ⟨{ args := [.c (.v (.int .i64 a0.fOrientation)), .c (.v (.int .i64 0)), .c (.v (.int .i64 7))], o0 := [], r := .c (.v (.bool y8)), o1 := [], fl := true, σ := [], τ := [] }, hf_spec_l09In _ _ _ _ hy9, ⟨les_cons (AV.le_refl _) (les_cons (AV.le_refl _) (les_cons (AV.le_refl _) (les_nil))), trivial, rfl, rfl, rfl, rfl, trivial, rfl⟩, ?_⟩
    cbv
    refine fork (fun b15 => ?_) (fun b15 => ?_)
    · replace h := of_br_t b15 h
      cbv
      replace h := of_bind h
      obtain ⟨y10, hy11, h⟩ := h
      refine ⟨{ args := [.c (.v (.int .i64 a0.fX)), .c (.v (.int .i64 (-80))), .c (.v (.int .i64 80))], o0 := [], r := .c (.v (.bool y10)), o1 := [], fl := true, σ := [], τ := [] }, hf_spec_l09In _ _ _ _ hy11, ⟨les_cons (AV.le_refl _) (les_cons (AV.le_refl _) (les_cons (AV.le_refl _) (les_nil))), trivial, rfl, rfl, rfl, rfl, trivial, rfl⟩, ?_⟩
      cbv
      refine fork (fun b14 => ?_) (fun b14 => ?_)
      · replace h := of_br_t b14 h
        cbv
        replace h := of_bind h
        obtain ⟨y12, hy13, h⟩ := h
        refine ⟨{ args := [.c (.v (.int .i64 a0.fY)), .c (.v (.int .i64 (-80))), .c (.v (.int .i64 80))], o0 := [], r := .c (.v (.bool y12)), o1 := [], fl := true, σ := [], τ := [] }, hf_spec_l09In _ _ _ _ hy13, ⟨les_cons (AV.le_refl _) (les_cons (AV.le_refl _) (les_cons (AV.le_refl _) (les_nil))), trivial, rfl, rfl, rfl, rfl, trivial, rfl⟩, ?_⟩
        cbv
        injection h with h
        subst h
        subst hS6
        show St.le _ _
        exact le_sparse rfl ⟨AV.le_refl _, trivial⟩ trivial rfl
      · replace h := of_br_f b14 h
        cbv
        injection h with h
        subst h
        subst hS6
        show St.le _ _
        exact le_sparse rfl ⟨AV.le_refl _, trivial⟩ trivial rfl
    · replace h := of_br_f b15 h
      cbv
      injection h with h
      subst h
      subst hS6
      show St.le _ _
      exact le_sparse rfl ⟨AV.le_refl _, trivial⟩ trivial rfl
  · clear hy2
    subst hS6
    replace h := of_let h
    obtain ⟨w7, hw7, h⟩ := h
    have hw7 : w7 = y1 := hw7
    subst hw7
    cbv
    injection h with h
    subst h
    refine ⟨(sparse 16 [(2, .c (.v (.bool w7)))] []), ?_, ?_⟩
    · exact le_sparse rfl ⟨AV.le_refl _, trivial⟩ trivial rfl
    · exact ⟨AV.le_refl _, trivial, rfl⟩

/-- spec.l09Instance -/
noncomputable def F_spec_l09Instance (a0 : TInstance) (a1 : Int) : Option (Bool) :=
  ((
        (F_spec_l09In a0.fCell 0 (std.sub .i64 a1 1)).bind fun y8 =>
        br (!(y8))
        (some true)
        ((F_spec_l09Transform a0.fPlace).bind fun y10 =>
        br (!(y10))
        (some true)
        ((F_spec_l09In a0.fColumns 1 4).bind fun y12 =>
        br (!(y12))
        (some true)
        ((F_spec_l09In a0.fRows 1 4).bind fun y14 =>
        some (!(y14)))))
    ) : Option (Bool)).bind fun y1 =>
  letO y1 fun w7 =>
  br w7
  (some false)
  (((
        (F_spec_l09In a0.fStepX (-80) 80).bind fun y26 =>
        br (!(y26))
        (some true)
        ((F_spec_l09In a0.fStepY (-80) 80).bind fun y28 =>
        some (!(y28)))
    ) : Option (Bool)).bind fun y19 =>
  letO y19 fun w25 =>
  br w25
  (some false)
  (((
        br (std.lt 1 a0.fColumns)
        (br (std.lt 1 a0.fRows)
        (some true)
        (some (std.eq a0.fStepY 0)))
        (br (std.eq a0.fStepX 0)
        (br (std.lt 1 a0.fRows)
        (some true)
        (some (std.eq a0.fStepY 0)))
        (some false))
    ) : Option (Bool)).bind fun y31 =>
  letO y31 fun w37 =>
  some w37))
theorem run_spec_l09Instance (a0 : TInstance) (a1 : Int) (r : Bool) (h : F_spec_l09Instance a0 a1 = some r) : Fun Try.prog 161 [.agg [.v (.int .i64 a0.fCell), .v (.int .i64 a0.fPlace.fOrientation), .v (.int .i64 a0.fPlace.fX), .v (.int .i64 a0.fPlace.fY), .v (.int .i64 a0.fColumns), .v (.int .i64 a0.fRows), .v (.int .i64 a0.fStepX), .v (.int .i64 a0.fStepY)], .c (.v (.int .i64 a1))] [] (.c (.v (.bool r))) [] true := by
  refine Fun.of_wp (oneOf [1, 3, 5]) tok mixed Try.func161 (by kernel_rfl) rfl Try.ntmps161 rfl trivial (fun _ => ⟨trivial, trivial⟩) ?_
  unfold F_spec_l09Instance at h
  have hf_spec_l09In := @run_spec_l09In
  have hf_spec_l09Transform := @run_spec_l09Transform
  generalize hLEN : @len = LEN at *
  generalize hGD : @gd = GD at *
  generalize hA : std = A at *
  generalize hP : Try.prog = P at *
  cbv
  replace h := of_bind h
  obtain ⟨y1, hy2, h⟩ := h
  obtain ⟨S5, hS6⟩ : ∃ S, S = (sparse 57 [(2, .c (.ptr 128 0)), (28, .c (.v (.bool y1)))] [(128, .var [.v (.int .i64 a0.fCell), .v (.int .i64 a0.fPlace.fOrientation), .v (.int .i64 a0.fPlace.fX), .v (.int .i64 a0.fPlace.fY), .v (.int .i64 a0.fColumns), .v (.int .i64 a0.fRows), .v (.int .i64 a0.fStepX), .v (.int .i64 a0.fStepY)])]) := ⟨_, rfl⟩
  refine ⟨S5, ?_, ?_⟩
  · clear h
    have h := hy2
    clear hy2
    cbv
    replace h := of_bind h
    obtain ⟨y8, hy9, h⟩ := h
    refine ⟨{ args := [.c (.v (.int .i64 a0.fCell)), .c (.v (.int .i64 0)), .c (.v (.int .i64 (A.sub .i64 a1 1)))], o0 := [], r := .c (.v (.bool y8)), o1 := [], fl := true, σ := [], τ := [] }, hf_spec_l09In _ _ _ _ hy9, ⟨les_cons (AV.le_refl _) (les_cons (AV.le_refl _) (les_cons (AV.le_refl _) (les_nil))), trivial, rfl, rfl, rfl, rfl, trivial, rfl⟩, ?_⟩
    cbv
    refine fork (fun b18 => ?_) (fun b18 => ?_)
    · replace h := of_br_t b18 h
      cbv
      injection h with h
      subst h
      subst hS6
      show St.le _ _
      exact le_sparse rfl ⟨AV.le_refl _, AV.le_refl _, trivial⟩ ⟨rfl, trivial⟩ rfl
    · replace h := of_br_f b18 h
      cbv
      replace h := of_bind h
      obtain ⟨y10, hy11, h⟩ := h
      refine ⟨{ args := [.agg [.v (.int .i64 a0.fPlace.fOrientation), .v (.int .i64 a0.fPlace.fX), .v (.int .i64 a0.fPlace.fY)]], o0 := [], r := .c (.v (.bool y10)), o1 := [], fl := true, σ := [], τ := [] }, hf_spec_l09Transform _ _ hy11, ⟨les_cons (AV.le_refl _) (les_nil), trivial, rfl, rfl, rfl, rfl, trivial, rfl⟩, ?_⟩
      cbv
      refine fork (fun b17 => ?_) (fun b17 => ?_)
      · replace h := of_br_t b17 h
        cbv
        injection h with h
        subst h
        subst hS6
        show St.le _ _
        exact le_sparse rfl ⟨AV.le_refl _, AV.le_refl _, trivial⟩ ⟨rfl, trivial⟩ rfl
      · replace h := of_br_f b17 h
        cbv
        replace h := of_bind h
        obtain ⟨y12, hy13, h⟩ := h
        refine ⟨{ args := [.c (.v (.int .i64 a0.fColumns)), .c (.v (.int .i64 1)), .c (.v (.int .i64 4))], o0 := [], r := .c (.v (.bool y12)), o1 := [], fl := true, σ := [], τ := [] }, hf_spec_l09In _ _ _ _ hy13, ⟨les_cons (AV.le_refl _) (les_cons (AV.le_refl _) (les_cons (AV.le_refl _) (les_nil))), trivial, rfl, rfl, rfl, rfl, trivial, rfl⟩, ?_⟩
        cbv
        refine fork (fun b16 => ?_) (fun b16 => ?_)
        · replace h := of_br_t b16 h
          cbv
          injection h with h
          subst h
          subst hS6
          show St.le _ _
          exact le_sparse rfl ⟨AV.le_refl _, AV.le_refl _, trivial⟩ ⟨rfl, trivial⟩ rfl
        · replace h := of_br_f b16 h
          cbv
          replace h := of_bind h
          obtain ⟨y14, hy15, h⟩ := h
          refine ⟨{ args := [.c (.v (.int .i64 a0.fRows)), .c (.v (.int .i64 1)), .c (.v (.int .i64 4))], o0 := [], r := .c (.v (.bool y14)), o1 := [], fl := true, σ := [], τ := [] }, hf_spec_l09In _ _ _ _ hy15, ⟨les_cons (AV.le_refl _) (les_cons (AV.le_refl _) (les_cons (AV.le_refl _) (les_nil))), trivial, rfl, rfl, rfl, rfl, trivial, rfl⟩, ?_⟩
          cbv
          injection h with h
          subst h
          subst hS6
          show St.le _ _
          exact le_sparse rfl ⟨AV.le_refl _, AV.le_refl _, trivial⟩ ⟨rfl, trivial⟩ rfl
  · clear hy2
    subst hS6
    replace h := of_let h
    obtain ⟨w7, hw7, h⟩ := h
    have hw7 : w7 = y1 := hw7
    subst hw7
    cbv
    refine fork (fun b43 => ?_) (fun b43 => ?_)
    · replace h := of_br_t b43 h
      cbv
      injection h with h
      subst h
      refine ⟨(sparse 57 [(4, .c (.v (.bool false)))] []), ?_, ?_⟩
      · exact le_sparse rfl ⟨AV.le_refl _, trivial⟩ trivial rfl
      · exact ⟨AV.le_refl _, trivial, rfl⟩
    · replace h := of_br_f b43 h
      cbv
      replace h := of_bind h
      obtain ⟨y19, hy20, h⟩ := h
      obtain ⟨S23, hS24⟩ : ∃ S, S = (sparse 57 [(2, .c (.ptr 128 0)), (38, .c (.v (.bool y19)))] [(128, .var [.v (.int .i64 a0.fCell), .v (.int .i64 a0.fPlace.fOrientation), .v (.int .i64 a0.fPlace.fX), .v (.int .i64 a0.fPlace.fY), .v (.int .i64 a0.fColumns), .v (.int .i64 a0.fRows), .v (.int .i64 a0.fStepX), .v (.int .i64 a0.fStepY)])]) := ⟨_, rfl⟩
      refine ⟨S23, ?_, ?_⟩
      · clear h
        have h := hy20
        clear hy20
        cbv
        replace h := of_bind h
        obtain ⟨y26, hy27, h⟩ := h
        refine ⟨{ args := [.c (.v (.int .i64 a0.fStepX)), .c (.v (.int .i64 (-80))), .c (.v (.int .i64 80))], o0 := [], r := .c (.v (.bool y26)), o1 := [], fl := true, σ := [], τ := [] }, hf_spec_l09In _ _ _ _ hy27, ⟨les_cons (AV.le_refl _) (les_cons (AV.le_refl _) (les_cons (AV.le_refl _) (les_nil))), trivial, rfl, rfl, rfl, rfl, trivial, rfl⟩, ?_⟩
        cbv
        refine fork (fun b30 => ?_) (fun b30 => ?_)
        · replace h := of_br_t b30 h
          cbv
          injection h with h
          subst h
          subst hS24
          show St.le _ _
          exact le_sparse rfl ⟨AV.le_refl _, AV.le_refl _, trivial⟩ ⟨rfl, trivial⟩ rfl
        · replace h := of_br_f b30 h
          cbv
          replace h := of_bind h
          obtain ⟨y28, hy29, h⟩ := h
          refine ⟨{ args := [.c (.v (.int .i64 a0.fStepY)), .c (.v (.int .i64 (-80))), .c (.v (.int .i64 80))], o0 := [], r := .c (.v (.bool y28)), o1 := [], fl := true, σ := [], τ := [] }, hf_spec_l09In _ _ _ _ hy29, ⟨les_cons (AV.le_refl _) (les_cons (AV.le_refl _) (les_cons (AV.le_refl _) (les_nil))), trivial, rfl, rfl, rfl, rfl, trivial, rfl⟩, ?_⟩
          cbv
          injection h with h
          subst h
          subst hS24
          show St.le _ _
          exact le_sparse rfl ⟨AV.le_refl _, AV.le_refl _, trivial⟩ ⟨rfl, trivial⟩ rfl
      · clear hy20
        subst hS24
        replace h := of_let h
        obtain ⟨w25, hw25, h⟩ := h
        have hw25 : w25 = y19 := hw25
        subst hw25
        cbv
        refine fork (fun b42 => ?_) (fun b42 => ?_)
        · replace h := of_br_t b42 h
          cbv
          injection h with h
          subst h
          refine ⟨(sparse 57 [(4, .c (.v (.bool false)))] []), ?_, ?_⟩
          · exact le_sparse rfl ⟨AV.le_refl _, trivial⟩ trivial rfl
          · exact ⟨AV.le_refl _, trivial, rfl⟩
        · replace h := of_br_f b42 h
          cbv
          replace h := of_bind h
          obtain ⟨y31, hy32, h⟩ := h
          obtain ⟨S35, hS36⟩ : ∃ S, S = (sparse 57 [(4, .c (.v (.bool y31)))] []) := ⟨_, rfl⟩
          refine ⟨S35, ?_, ?_⟩
          · clear h
            have h := hy32
            clear hy32
            cbv
            refine fork (fun b41 => ?_) (fun b41 => ?_)
            · replace h := of_br_t b41 h
              cbv
              refine fork (fun b40 => ?_) (fun b40 => ?_)
              · replace h := of_br_t b40 h
                cbv
                injection h with h
                subst h
                subst hS36
                show St.le _ _
                exact le_sparse rfl ⟨AV.le_refl _, trivial⟩ trivial rfl
              · replace h := of_br_f b40 h
                cbv
                injection h with h
                subst h
                subst hS36
                show St.le _ _
                exact le_sparse rfl ⟨AV.le_refl _, trivial⟩ trivial rfl
            · replace h := of_br_f b41 h
              cbv
              refine fork (fun b39 => ?_) (fun b39 => ?_)
              · replace h := of_br_t b39 h
                cbv
                refine fork (fun b38 => ?_) (fun b38 => ?_)
                · replace h := of_br_t b38 h
                  cbv
                  injection h with h
                  subst h
                  subst hS36
                  show St.le _ _
                  exact le_sparse rfl ⟨AV.le_refl _, trivial⟩ trivial rfl
                · replace h := of_br_f b38 h
                  cbv
                  injection h with h
                  subst h
                  subst hS36
                  show St.le _ _
                  exact le_sparse rfl ⟨AV.le_refl _, trivial⟩ trivial rfl
              · replace h := of_br_f b39 h
                cbv
                injection h with h
                subst h
                subst hS36
                show St.le _ _
                exact le_sparse rfl ⟨AV.le_refl _, trivial⟩ trivial rfl
          · clear hy32
            subst hS36
            replace h := of_let h
            obtain ⟨w37, hw37, h⟩ := h
            have hw37 : w37 = y31 := hw37
            subst hw37
            cbv
            injection h with h
            subst h
            refine ⟨(sparse 57 [(4, .c (.v (.bool w37)))] []), ?_, ?_⟩
            · exact le_sparse rfl ⟨AV.le_refl _, trivial⟩ trivial rfl
            · exact ⟨AV.le_refl _, trivial, rfl⟩

noncomputable def L_spec_l09Cell_x52 (a0 : TCell) (a1 : Int) : (Int) → Option ((Int) ⊕ ((Bool) ⊕ (Unit))) := fun x52 =>
  letO x52 fun v51 =>
  br (std.lt v51 (std.ofN (len a0.fInstances)))
  (req (std.inR v51 (len a0.fInstances)) <|
  (F_spec_l09Instance (gd a0.fInstances (std.toN v51)) a1).bind fun y65 =>
  br (!(y65))
  (some (.inr (.inl false)))
  (some (.inl (std.add .i64 v51 1))))
  (some (.inr (.inr ())))
noncomputable def L_spec_l09Cell_x33 (a0 : TCell) : (Int) → Option ((Int) ⊕ ((Bool) ⊕ (Unit))) := fun x33 =>
  letO x33 fun v32 =>
  br (std.lt v32 (std.ofN (len a0.fLabels)))
  (req (std.inR v32 (len a0.fLabels)) <|
  (F_spec_l09Label (gd a0.fLabels (std.toN v32))).bind fun y46 =>
  br (!(y46))
  (some (.inr (.inl false)))
  (some (.inl (std.add .i64 v32 1))))
  (some (.inr (.inr ())))
noncomputable def L_spec_l09Cell_x14 (a0 : TCell) : (Int) → Option ((Int) ⊕ ((Bool) ⊕ (Unit))) := fun x14 =>
  letO x14 fun v13 =>
  br (std.lt v13 (std.ofN (len a0.fShapes)))
  (req (std.inR v13 (len a0.fShapes)) <|
  (F_spec_l09Shape (gd a0.fShapes (std.toN v13))).bind fun y27 =>
  br (!(y27))
  (some (.inr (.inl false)))
  (some (.inl (std.add .i64 v13 1))))
  (some (.inr (.inr ())))
/-- spec.l09Cell -/
noncomputable def F_spec_l09Cell (a0 : TCell) (a1 : Int) : Option (Bool) :=
  ((
        (F_spec_IsName a0.fName).bind fun y8 =>
        br (!(y8))
        (some true)
        (br (std.lt 24 (std.ofN (len a0.fShapes)))
        (some true)
        (br (std.lt 8 (std.ofN (len a0.fLabels)))
        (some true)
        (some (std.lt 8 (std.ofN (len a0.fInstances))))))
    ) : Option (Bool)).bind fun y1 =>
  letO y1 fun w7 =>
  br w7
  (some false)
  ((whileP (σ := Int) (ρ := (Bool) ⊕ (Unit)) (L_spec_l09Cell_x14 a0) 0).bind fun y15 =>
  (match y15 with
    | .inl y15k0 => (
        letO y15k0 fun w31 =>
        some w31)
    | .inr y15m0 =>
        (whileP (σ := Int) (ρ := (Bool) ⊕ (Unit)) (L_spec_l09Cell_x33 a0) 0).bind fun y34 =>
        (match y34 with
          | .inl y34k0 => (
              letO y34k0 fun w50 =>
              some w50)
          | .inr y34m0 =>
              (whileP (σ := Int) (ρ := (Bool) ⊕ (Unit)) (L_spec_l09Cell_x52 a0 a1) 0).bind fun y53 =>
              (match y53 with
                | .inl y53k0 => (
                    letO y53k0 fun w69 =>
                    some w69)
                | .inr y53m0 =>
                    some true))))
theorem run_spec_l09Cell (a0 : TCell) (a1 : Int) (r : Bool) (h : F_spec_l09Cell a0 a1 = some r) : Fun Try.prog 131 [.agg [.v (.string a0.fName), .bs (len a0.fShapes) 5 (row gd (encShape) a0.fShapes), .bs (len a0.fLabels) 4 (row gd (encLabel) a0.fLabels), .bs (len a0.fInstances) 8 (row gd (encInstance) a0.fInstances)], .c (.v (.int .i64 a1))] [] (.c (.v (.bool r))) [] true := by
  refine Fun.of_wp (oneOf [1]) tok mixed Try.func131 (by kernel_rfl) rfl Try.ntmps131 rfl trivial (fun _ => ⟨trivial, trivial⟩) ?_
  unfold F_spec_l09Cell at h
  unfold L_spec_l09Cell_x14 at h
  unfold L_spec_l09Cell_x33 at h
  unfold L_spec_l09Cell_x52 at h
  have hf_spec_IsName := @run_spec_IsName
  have hf_spec_l09Instance := @run_spec_l09Instance
  have hf_spec_l09Label := @run_spec_l09Label
  have hf_spec_l09Shape := @run_spec_l09Shape
  generalize hLEN : @len = LEN at *
  generalize hGD : @gd = GD at *
  generalize hA : std = A at *
  generalize hP : Try.prog = P at *
  cbv
  replace h := of_bind h
  obtain ⟨y1, hy2, h⟩ := h
  obtain ⟨S5, hS6⟩ : ∃ S, S = (sparse 73 [(1, .c (.v (.int .i64 a1))), (2, .c (.ptr 128 0)), (29, .c (.v (.bool y1)))] [(128, .var [.v (.string a0.fName), .bs (LEN a0.fShapes) 5 (row GD (encShape) a0.fShapes), .bs (LEN a0.fLabels) 4 (row GD (encLabel) a0.fLabels), .bs (LEN a0.fInstances) 8 (row GD (encInstance) a0.fInstances)])]) := ⟨_, rfl⟩
  refine ⟨S5, ?_, ?_⟩
  · clear h
    have h := hy2
    clear hy2
    cbv
    replace h := of_bind h
    obtain ⟨y8, hy9, h⟩ := h
    refine ⟨{ args := [.c (.v (.string a0.fName))], o0 := [], r := .c (.v (.bool y8)), o1 := [], fl := true, σ := [], τ := [] }, hf_spec_IsName _ _ hy9, ⟨les_cons (AV.le_refl _) (les_nil), trivial, rfl, rfl, rfl, rfl, trivial, rfl⟩, ?_⟩
    cbv
    refine fork (fun b12 => ?_) (fun b12 => ?_)
    · replace h := of_br_t b12 h
      cbv
      injection h with h
      subst h
      subst hS6
      show St.le _ _
      exact le_sparse rfl ⟨AV.le_refl _, AV.le_refl _, AV.le_refl _, trivial⟩ ⟨rfl, trivial⟩ rfl
    · replace h := of_br_f b12 h
      cbv
      refine fork (fun b11 => ?_) (fun b11 => ?_)
      · replace h := of_br_t b11 h
        cbv
        injection h with h
        subst h
        subst hS6
        show St.le _ _
        exact le_sparse rfl ⟨AV.le_refl _, AV.le_refl _, AV.le_refl _, trivial⟩ ⟨rfl, trivial⟩ rfl
      · replace h := of_br_f b11 h
        cbv
        refine fork (fun b10 => ?_) (fun b10 => ?_)
        · replace h := of_br_t b10 h
          cbv
          injection h with h
          subst h
          subst hS6
          show St.le _ _
          exact le_sparse rfl ⟨AV.le_refl _, AV.le_refl _, AV.le_refl _, trivial⟩ ⟨rfl, trivial⟩ rfl
        · replace h := of_br_f b10 h
          cbv
          injection h with h
          subst h
          subst hS6
          show St.le _ _
          exact le_sparse rfl ⟨AV.le_refl _, AV.le_refl _, AV.le_refl _, trivial⟩ ⟨rfl, trivial⟩ rfl
  · clear hy2
    subst hS6
    replace h := of_let h
    obtain ⟨w7, hw7, h⟩ := h
    have hw7 : w7 = y1 := hw7
    subst hw7
    cbv
    refine fork (fun b70 => ?_) (fun b70 => ?_)
    · replace h := of_br_t b70 h
      cbv
      injection h with h
      subst h
      refine ⟨(sparse 73 [(4, .c (.v (.bool false)))] []), ?_, ?_⟩
      · exact le_sparse rfl ⟨AV.le_refl _, trivial⟩ trivial rfl
      · exact ⟨AV.le_refl _, trivial, rfl⟩
    · replace h := of_br_f b70 h
      cbv
      replace h := of_bind h
      obtain ⟨y15, hr16, hN17⟩ := h
      refine loop_cut hr16 (fun x => (sparse 73 [(1, .c (.v (.int .i64 a1))), (2, .c (.ptr 128 0)), (5, .c (.v (.int .i64 x)))] [(128, .var [.v (.string a0.fName), .bs (LEN a0.fShapes) 5 (row GD (encShape) a0.fShapes), .bs (LEN a0.fLabels) 4 (row GD (encLabel) a0.fLabels), .bs (LEN a0.fInstances) 8 (row GD (encInstance) a0.fInstances)])])) ?_ (fun y e s => (match y with | .inl w => e = .ret ∧ s.le (sparse 73 [(4, .c (.v (.bool w)))] []) | .inr w0 => (fun (w : Unit) => e = .exit 0 ∧ s.le (sparse 73 [(1, .c (.v (.int .i64 a1))), (2, .c (.ptr 128 0))] [(128, .var [.v (.string a0.fName), .bs (LEN a0.fShapes) 5 (row GD (encShape) a0.fShapes), .bs (LEN a0.fLabels) 4 (row GD (encLabel) a0.fLabels), .bs (LEN a0.fInstances) 8 (row GD (encInstance) a0.fInstances)])])) w0)) ?_ ?_
      · clear hr16 hN17
        show St.le _ _
        exact le_sparse rfl ⟨AV.le_refl _, AV.le_refl _, AV.le_refl _, trivial⟩ ⟨rfl, trivial⟩ rfl
      · clear hr16 hN17
        intro x z21 h K19 hK20 hY18
        replace h := of_let h
        obtain ⟨v13, hv13, h⟩ := h
        have hv13 : v13 = x := hv13
        subst hv13
        cbv
        refine fork (fun b30 => ?_) (fun b30 => ?_)
        · replace h := of_br_t b30 h
          cbv
          replace h := of_req h
          obtain ⟨c26, h⟩ := h
          refine ⟨⟨c26, trivial⟩, ?_⟩
          replace h := of_bind h
          obtain ⟨y27, hy28, h⟩ := h
          refine ⟨{ args := [.agg [.v (.int .i64 (GD a0.fShapes (A.toN v13)).fLayer), .v (.int .i64 (GD a0.fShapes (A.toN v13)).fBox.fX0), .v (.int .i64 (GD a0.fShapes (A.toN v13)).fBox.fY0), .v (.int .i64 (GD a0.fShapes (A.toN v13)).fBox.fX1), .v (.int .i64 (GD a0.fShapes (A.toN v13)).fBox.fY1)]], o0 := [], r := .c (.v (.bool y27)), o1 := [], fl := true, σ := [], τ := [] }, hf_spec_l09Shape _ _ hy28, ⟨les_cons (AV.le_refl _) (les_nil), trivial, rfl, rfl, rfl, rfl, trivial, rfl⟩, ?_⟩
          cbv
          refine fork (fun b29 => ?_) (fun b29 => ?_)
          · replace h := of_br_t b29 h
            cbv
            injection h with h
            refine hY18 _ h.symm _ _ (And.intro rfl ?_) (by intro hh; cases hh)
            exact le_sparse rfl ⟨AV.le_refl _, trivial⟩ trivial rfl
          · replace h := of_br_f b29 h
            cbv
            injection h with h
            refine hK20 _ h.symm _ ?_
            exact le_sparse rfl ⟨AV.le_refl _, AV.le_refl _, AV.le_refl _, trivial⟩ ⟨rfl, trivial⟩ rfl
        · replace h := of_br_f b30 h
          cbv
          injection h with h
          refine hY18 _ h.symm _ _ (And.intro rfl ?_) (by intro hh; cases hh)
          exact le_sparse rfl ⟨AV.le_refl _, AV.le_refl _, trivial⟩ ⟨rfl, trivial⟩ rfl
      · clear hr16
        have h := hN17
        clear hN17
        intro e24 s25 q23 hne
        rcases y15 with y15k0 | y15m0
        · replace h := h
          obtain ⟨rfl, q23⟩ := q23
          replace h := of_let h
          obtain ⟨w31, hw31, h⟩ := h
          have hw31 : w31 = y15k0 := hw31
          subst hw31
          cbv
          injection h with h
          subst h
          refine ⟨(sparse 73 [(4, .c (.v (.bool w31)))] []), ?_, ?_⟩
          · refine St.le_trans q23 ?_
            exact le_sparse rfl ⟨AV.le_refl _, trivial⟩ trivial rfl
          · exact ⟨AV.le_refl _, trivial, rfl⟩
        · obtain ⟨rfl, q23⟩ := q23
          cbv
          refine ⟨_, q23, ?_⟩
          cbv
          replace h := of_bind h
          obtain ⟨y34, hr35, hN36⟩ := h
          refine loop_cut hr35 (fun x => (sparse 73 [(1, .c (.v (.int .i64 a1))), (2, .c (.ptr 128 0)), (6, .c (.v (.int .i64 x)))] [(128, .var [.v (.string a0.fName), .bs (LEN a0.fShapes) 5 (row GD (encShape) a0.fShapes), .bs (LEN a0.fLabels) 4 (row GD (encLabel) a0.fLabels), .bs (LEN a0.fInstances) 8 (row GD (encInstance) a0.fInstances)])])) ?_ (fun y e s => (match y with | .inl w => e = .ret ∧ s.le (sparse 73 [(4, .c (.v (.bool w)))] []) | .inr w0 => (fun (w : Unit) => e = .exit 2 ∧ s.le (sparse 73 [(1, .c (.v (.int .i64 a1))), (2, .c (.ptr 128 0))] [(128, .var [.v (.string a0.fName), .bs (LEN a0.fShapes) 5 (row GD (encShape) a0.fShapes), .bs (LEN a0.fLabels) 4 (row GD (encLabel) a0.fLabels), .bs (LEN a0.fInstances) 8 (row GD (encInstance) a0.fInstances)])])) w0)) ?_ ?_
          · clear hr35 hN36
            show St.le _ _
            exact le_sparse rfl ⟨AV.le_refl _, AV.le_refl _, AV.le_refl _, trivial⟩ ⟨rfl, trivial⟩ rfl
          · clear hr35 hN36
            intro x z40 h K38 hK39 hY37
            replace h := of_let h
            obtain ⟨v32, hv32, h⟩ := h
            have hv32 : v32 = x := hv32
            subst hv32
            cbv
            refine fork (fun b49 => ?_) (fun b49 => ?_)
            · replace h := of_br_t b49 h
              cbv
              replace h := of_req h
              obtain ⟨c45, h⟩ := h
              refine ⟨⟨c45, trivial⟩, ?_⟩
              replace h := of_bind h
              obtain ⟨y46, hy47, h⟩ := h
              refine ⟨{ args := [.agg [.v (.int .i64 (GD a0.fLabels (A.toN v32)).fLayer), .v (.int .i64 (GD a0.fLabels (A.toN v32)).fAt.fX), .v (.int .i64 (GD a0.fLabels (A.toN v32)).fAt.fY), .v (.string (GD a0.fLabels (A.toN v32)).fName)]], o0 := [], r := .c (.v (.bool y46)), o1 := [], fl := true, σ := [], τ := [] }, hf_spec_l09Label _ _ hy47, ⟨les_cons (AV.le_refl _) (les_nil), trivial, rfl, rfl, rfl, rfl, trivial, rfl⟩, ?_⟩
              cbv
              refine fork (fun b48 => ?_) (fun b48 => ?_)
              · replace h := of_br_t b48 h
                cbv
                injection h with h
                refine hY37 _ h.symm _ _ (And.intro rfl ?_) (by intro hh; cases hh)
                exact le_sparse rfl ⟨AV.le_refl _, trivial⟩ trivial rfl
              · replace h := of_br_f b48 h
                cbv
                injection h with h
                refine hK39 _ h.symm _ ?_
                exact le_sparse rfl ⟨AV.le_refl _, AV.le_refl _, AV.le_refl _, trivial⟩ ⟨rfl, trivial⟩ rfl
            · replace h := of_br_f b49 h
              cbv
              injection h with h
              refine hY37 _ h.symm _ _ (And.intro rfl ?_) (by intro hh; cases hh)
              exact le_sparse rfl ⟨AV.le_refl _, AV.le_refl _, trivial⟩ ⟨rfl, trivial⟩ rfl
          · clear hr35
            have h := hN36
            clear hN36
            intro e43 s44 q42 hne
            rcases y34 with y34k0 | y34m0
            · replace h := h
              obtain ⟨rfl, q42⟩ := q42
              replace h := of_let h
              obtain ⟨w50, hw50, h⟩ := h
              have hw50 : w50 = y34k0 := hw50
              subst hw50
              cbv
              injection h with h
              subst h
              refine ⟨(sparse 73 [(4, .c (.v (.bool w50)))] []), ?_, ?_⟩
              · refine St.le_trans q42 ?_
                exact le_sparse rfl ⟨AV.le_refl _, trivial⟩ trivial rfl
              · exact ⟨AV.le_refl _, trivial, rfl⟩
            · obtain ⟨rfl, q42⟩ := q42
              cbv
              refine ⟨_, q42, ?_⟩
              cbv
              replace h := of_bind h
              obtain ⟨y53, hr54, hN55⟩ := h
              refine loop_cut hr54 (fun x => (sparse 73 [(1, .c (.v (.int .i64 a1))), (2, .c (.ptr 128 0)), (7, .c (.v (.int .i64 x)))] [(128, .var [.v (.string a0.fName), .bs (LEN a0.fShapes) 5 (row GD (encShape) a0.fShapes), .bs (LEN a0.fLabels) 4 (row GD (encLabel) a0.fLabels), .bs (LEN a0.fInstances) 8 (row GD (encInstance) a0.fInstances)])])) ?_ (fun y e s => (match y with | .inl w => e = .ret ∧ s.le (sparse 73 [(4, .c (.v (.bool w)))] []) | .inr w0 => (fun (w : Unit) => e = .exit 4 ∧ s.le (sparse 73 [] [])) w0)) ?_ ?_
              · clear hr54 hN55
                show St.le _ _
                exact le_sparse rfl ⟨AV.le_refl _, AV.le_refl _, AV.le_refl _, trivial⟩ ⟨rfl, trivial⟩ rfl
              · clear hr54 hN55
                intro x z59 h K57 hK58 hY56
                replace h := of_let h
                obtain ⟨v51, hv51, h⟩ := h
                have hv51 : v51 = x := hv51
                subst hv51
                cbv
                refine fork (fun b68 => ?_) (fun b68 => ?_)
                · replace h := of_br_t b68 h
                  cbv
                  replace h := of_req h
                  obtain ⟨c64, h⟩ := h
                  refine ⟨⟨c64, trivial⟩, ?_⟩
                  replace h := of_bind h
                  obtain ⟨y65, hy66, h⟩ := h
                  refine ⟨{ args := [.agg [.v (.int .i64 (GD a0.fInstances (A.toN v51)).fCell), .v (.int .i64 (GD a0.fInstances (A.toN v51)).fPlace.fOrientation), .v (.int .i64 (GD a0.fInstances (A.toN v51)).fPlace.fX), .v (.int .i64 (GD a0.fInstances (A.toN v51)).fPlace.fY), .v (.int .i64 (GD a0.fInstances (A.toN v51)).fColumns), .v (.int .i64 (GD a0.fInstances (A.toN v51)).fRows), .v (.int .i64 (GD a0.fInstances (A.toN v51)).fStepX), .v (.int .i64 (GD a0.fInstances (A.toN v51)).fStepY)], .c (.v (.int .i64 a1))], o0 := [], r := .c (.v (.bool y65)), o1 := [], fl := true, σ := [], τ := [] }, hf_spec_l09Instance _ _ _ hy66, ⟨les_cons (AV.le_refl _) (les_cons (AV.le_refl _) (les_nil)), trivial, rfl, rfl, rfl, rfl, trivial, rfl⟩, ?_⟩
                  cbv
                  refine fork (fun b67 => ?_) (fun b67 => ?_)
                  · replace h := of_br_t b67 h
                    cbv
                    injection h with h
                    refine hY56 _ h.symm _ _ (And.intro rfl ?_) (by intro hh; cases hh)
                    exact le_sparse rfl ⟨AV.le_refl _, trivial⟩ trivial rfl
                  · replace h := of_br_f b67 h
                    cbv
                    injection h with h
                    refine hK58 _ h.symm _ ?_
                    exact le_sparse rfl ⟨AV.le_refl _, AV.le_refl _, AV.le_refl _, trivial⟩ ⟨rfl, trivial⟩ rfl
                · replace h := of_br_f b68 h
                  cbv
                  injection h with h
                  refine hY56 _ h.symm _ _ (And.intro rfl ?_) (by intro hh; cases hh)
                  exact le_sparse rfl trivial trivial rfl
              · clear hr54
                have h := hN55
                clear hN55
                intro e62 s63 q61 hne
                rcases y53 with y53k0 | y53m0
                · replace h := h
                  obtain ⟨rfl, q61⟩ := q61
                  replace h := of_let h
                  obtain ⟨w69, hw69, h⟩ := h
                  have hw69 : w69 = y53k0 := hw69
                  subst hw69
                  cbv
                  injection h with h
                  subst h
                  refine ⟨(sparse 73 [(4, .c (.v (.bool w69)))] []), ?_, ?_⟩
                  · refine St.le_trans q61 ?_
                    exact le_sparse rfl ⟨AV.le_refl _, trivial⟩ trivial rfl
                  · exact ⟨AV.le_refl _, trivial, rfl⟩
                · obtain ⟨rfl, q61⟩ := q61
                  cbv
                  refine ⟨_, q61, ?_⟩
                  cbv
                  injection h with h
                  subst h
                  refine ⟨(sparse 73 [(4, .c (.v (.bool true)))] []), ?_, ?_⟩
                  · exact le_sparse rfl ⟨AV.le_refl _, trivial⟩ trivial rfl
                  · exact ⟨AV.le_refl _, trivial, rfl⟩

noncomputable def L_spec_IsValidLibrary_x26 (a0 : TLibrary) (v9 : Int) : (Int) → Option ((Int) ⊕ ((Bool) ⊕ (Unit))) := fun x26 =>
  letO x26 fun v25 =>
  br (std.lt v25 v9)
  (req (std.inR v25 (len a0.fCells)) <|
  req (std.inR v9 (len a0.fCells)) <|
  br (std.seq (gd a0.fCells (std.toN v25)).fName (gd a0.fCells (std.toN v9)).fName)
  (some (.inr (.inl false)))
  (some (.inl (std.add .i64 v25 1))))
  (some (.inr (.inr ())))
noncomputable def L_spec_IsValidLibrary_x10 (a0 : TLibrary) : (Int) → Option ((Int) ⊕ ((Bool) ⊕ (Unit))) := fun x10 =>
  letO x10 fun v9 =>
  br (std.lt v9 (std.ofN (len a0.fCells)))
  (req (std.inR v9 (len a0.fCells)) <|
  (F_spec_l09Cell (gd a0.fCells (std.toN v9)) v9).bind fun y23 =>
  br (!(y23))
  (some (.inr (.inl false)))
  ((whileP (σ := Int) (ρ := (Bool) ⊕ (Unit)) (L_spec_IsValidLibrary_x26 a0 v9) 0).bind fun y27 =>
  (match y27 with
    | .inl y27k0 => (
        letO y27k0 fun w42 =>
        some (.inr (.inl w42)))
    | .inr y27m0 =>
        some (.inl (std.add .i64 v9 1)))))
  (some (.inr (.inr ())))
/-- spec.IsValidLibrary -/
noncomputable def F_spec_IsValidLibrary (a0 : TLibrary) : Option (Bool) :=
  ((
        br (std.lt (std.ofN (len a0.fCells)) 1)
        (some true)
        (some (std.lt 8 (std.ofN (len a0.fCells))))
    ) : Option (Bool)).bind fun y1 =>
  letO y1 fun w7 =>
  br w7
  (some false)
  ((whileP (σ := Int) (ρ := (Bool) ⊕ (Unit)) (L_spec_IsValidLibrary_x10 a0) 0).bind fun y11 =>
  (match y11 with
    | .inl y11k0 => (
        letO y11k0 fun w45 =>
        some w45)
    | .inr y11m0 =>
        some true))
theorem run_spec_IsValidLibrary (a0 : TLibrary) (r : Bool) (h : F_spec_IsValidLibrary a0 = some r) : Fun Try.prog 83 [.agg [.bs (len a0.fCells) 4 (row gd (encCell len gd) a0.fCells)]] [] (.c (.v (.bool r))) [] true := by
  refine Fun.of_wp (oneOf [1]) tok mixed Try.func83 (by kernel_rfl) rfl Try.ntmps83 rfl trivial (fun _ => ⟨trivial, trivial⟩) ?_
  unfold F_spec_IsValidLibrary at h
  unfold L_spec_IsValidLibrary_x10 at h
  unfold L_spec_IsValidLibrary_x26 at h
  have hf_spec_l09Cell := @run_spec_l09Cell
  generalize hLEN : @len = LEN at *
  generalize hGD : @gd = GD at *
  generalize hA : std = A at *
  generalize hP : Try.prog = P at *
  cbv
  replace h := of_bind h
  obtain ⟨y1, hy2, h⟩ := h
  obtain ⟨S5, hS6⟩ : ∃ S, S = (sparse 48 [(1, .c (.ptr 64 0)), (14, .c (.v (.bool y1)))] [(64, .var [.bs (LEN a0.fCells) 4 (row GD (encCell LEN GD) a0.fCells)])]) := ⟨_, rfl⟩
  refine ⟨S5, ?_, ?_⟩
  · clear h
    have h := hy2
    clear hy2
    cbv
    refine fork (fun b8 => ?_) (fun b8 => ?_)
    · replace h := of_br_t b8 h
      cbv
      injection h with h
      subst h
      subst hS6
      show St.le _ _
      exact le_sparse rfl ⟨AV.le_refl _, AV.le_refl _, trivial⟩ ⟨rfl, trivial⟩ rfl
    · replace h := of_br_f b8 h
      cbv
      injection h with h
      subst h
      subst hS6
      show St.le _ _
      exact le_sparse rfl ⟨AV.le_refl _, AV.le_refl _, trivial⟩ ⟨rfl, trivial⟩ rfl
  · clear hy2
    subst hS6
    replace h := of_let h
    obtain ⟨w7, hw7, h⟩ := h
    have hw7 : w7 = y1 := hw7
    subst hw7
    cbv
    refine fork (fun b46 => ?_) (fun b46 => ?_)
    · replace h := of_br_t b46 h
      cbv
      injection h with h
      subst h
      refine ⟨(sparse 48 [(2, .c (.v (.bool false)))] []), ?_, ?_⟩
      · exact le_sparse rfl ⟨AV.le_refl _, trivial⟩ trivial rfl
      · exact ⟨AV.le_refl _, trivial, rfl⟩
    · replace h := of_br_f b46 h
      cbv
      replace h := of_bind h
      obtain ⟨y11, hr12, hN13⟩ := h
      refine loop_cut hr12 (fun x => (sparse 48 [(1, .c (.ptr 64 0)), (3, .c (.v (.int .i64 x)))] [(64, .var [.bs (LEN a0.fCells) 4 (row GD (encCell LEN GD) a0.fCells)])])) ?_ (fun y e s => (match y with | .inl w => e = .ret ∧ s.le (sparse 48 [(2, .c (.v (.bool w)))] []) | .inr w0 => (fun (w : Unit) => e = .exit 0 ∧ s.le (sparse 48 [] [])) w0)) ?_ ?_
      · clear hr12 hN13
        show St.le _ _
        exact le_sparse rfl ⟨AV.le_refl _, AV.le_refl _, trivial⟩ ⟨rfl, trivial⟩ rfl
      · clear hr12 hN13
        intro x z17 h K15 hK16 hY14
        replace h := of_let h
        obtain ⟨v9, hv9, h⟩ := h
        have hv9 : v9 = x := hv9
        subst hv9
        cbv
        refine fork (fun b44 => ?_) (fun b44 => ?_)
        · replace h := of_br_t b44 h
          cbv
          replace h := of_req h
          obtain ⟨c22, h⟩ := h
          refine ⟨⟨c22, trivial⟩, ?_⟩
          replace h := of_bind h
          obtain ⟨y23, hy24, h⟩ := h
          refine ⟨{ args := [.agg [.v (.string (GD a0.fCells (A.toN v9)).fName), .bs (LEN (GD a0.fCells (A.toN v9)).fShapes) 5 (row GD (encShape) (GD a0.fCells (A.toN v9)).fShapes), .bs (LEN (GD a0.fCells (A.toN v9)).fLabels) 4 (row GD (encLabel) (GD a0.fCells (A.toN v9)).fLabels), .bs (LEN (GD a0.fCells (A.toN v9)).fInstances) 8 (row GD (encInstance) (GD a0.fCells (A.toN v9)).fInstances)], .c (.v (.int .i64 v9))], o0 := [], r := .c (.v (.bool y23)), o1 := [], fl := true, σ := [], τ := [] }, hf_spec_l09Cell _ _ _ hy24, ⟨les_cons (AV.le_refl _) (les_cons (AV.le_refl _) (les_nil)), trivial, rfl, rfl, rfl, rfl, trivial, rfl⟩, ?_⟩
          cbv
          refine fork (fun b43 => ?_) (fun b43 => ?_)
          · replace h := of_br_t b43 h
            cbv
            injection h with h
            refine hY14 _ h.symm _ _ (And.intro rfl ?_) (by intro hh; cases hh)
            exact le_sparse rfl ⟨AV.le_refl _, trivial⟩ trivial rfl
          · replace h := of_br_f b43 h
            cbv
            replace h := of_bind h
            obtain ⟨y27, hr28, hN29⟩ := h
            refine loop_cut hr28 (fun x => (sparse 48 [(1, .c (.ptr 64 0)), (3, .c (.v (.int .i64 v9))), (4, .c (.v (.int .i64 x)))] [(64, .var [.bs (LEN a0.fCells) 4 (row GD (encCell LEN GD) a0.fCells)])])) ?_ (fun y e s => (match y with | .inl w => e = .ret ∧ s.le (sparse 48 [(2, .c (.v (.bool w)))] []) | .inr w0 => (fun (w : Unit) => e = .exit 2 ∧ s.le (sparse 48 [(1, .c (.ptr 64 0)), (3, .c (.v (.int .i64 v9)))] [(64, .var [.bs (LEN a0.fCells) 4 (row GD (encCell LEN GD) a0.fCells)])])) w0)) ?_ ?_
            · clear hr28 hN29
              show St.le _ _
              exact le_sparse rfl ⟨AV.le_refl _, AV.le_refl _, AV.le_refl _, trivial⟩ ⟨rfl, trivial⟩ rfl
            · clear hr28 hN29
              intro x z33 h K31 hK32 hY30
              replace h := of_let h
              obtain ⟨v25, hv25, h⟩ := h
              have hv25 : v25 = x := hv25
              subst hv25
              cbv
              refine fork (fun b41 => ?_) (fun b41 => ?_)
              · replace h := of_br_t b41 h
                cbv
                replace h := of_req h
                obtain ⟨c38, h⟩ := h
                refine ⟨⟨c38, trivial⟩, ?_⟩
                replace h := of_req h
                obtain ⟨c39, h⟩ := h
                refine ⟨⟨c39, trivial⟩, ?_⟩
                refine fork (fun b40 => ?_) (fun b40 => ?_)
                · replace h := of_br_t b40 h
                  cbv
                  injection h with h
                  refine hY30 _ h.symm _ _ (And.intro rfl ?_) (by intro hh; cases hh)
                  exact le_sparse rfl ⟨AV.le_refl _, trivial⟩ trivial rfl
                · replace h := of_br_f b40 h
                  cbv
                  injection h with h
                  refine hK32 _ h.symm _ ?_
                  exact le_sparse rfl ⟨AV.le_refl _, AV.le_refl _, AV.le_refl _, trivial⟩ ⟨rfl, trivial⟩ rfl
              · replace h := of_br_f b41 h
                cbv
                injection h with h
                refine hY30 _ h.symm _ _ (And.intro rfl ?_) (by intro hh; cases hh)
                exact le_sparse rfl ⟨AV.le_refl _, AV.le_refl _, trivial⟩ ⟨rfl, trivial⟩ rfl
            · clear hr28
              have h := hN29
              clear hN29
              intro e36 s37 q35 hne
              rcases y27 with y27k0 | y27m0
              · replace h := h
                obtain ⟨rfl, q35⟩ := q35
                replace h := of_let h
                obtain ⟨w42, hw42, h⟩ := h
                have hw42 : w42 = y27k0 := hw42
                subst hw42
                cbv
                injection h with h
                refine hY14 _ h.symm _ _ (And.intro rfl ?_) (by intro hh; cases hh)
                refine St.le_trans q35 ?_
                exact le_sparse rfl ⟨AV.le_refl _, trivial⟩ trivial rfl
              · obtain ⟨rfl, q35⟩ := q35
                cbv
                refine ⟨_, q35, ?_⟩
                cbv
                injection h with h
                refine hK16 _ h.symm _ ?_
                exact le_sparse rfl ⟨AV.le_refl _, AV.le_refl _, trivial⟩ ⟨rfl, trivial⟩ rfl
        · replace h := of_br_f b44 h
          cbv
          injection h with h
          refine hY14 _ h.symm _ _ (And.intro rfl ?_) (by intro hh; cases hh)
          exact le_sparse rfl trivial trivial rfl
      · clear hr12
        have h := hN13
        clear hN13
        intro e20 s21 q19 hne
        rcases y11 with y11k0 | y11m0
        · replace h := h
          obtain ⟨rfl, q19⟩ := q19
          replace h := of_let h
          obtain ⟨w45, hw45, h⟩ := h
          have hw45 : w45 = y11k0 := hw45
          subst hw45
          cbv
          injection h with h
          subst h
          refine ⟨(sparse 48 [(2, .c (.v (.bool w45)))] []), ?_, ?_⟩
          · refine St.le_trans q19 ?_
            exact le_sparse rfl ⟨AV.le_refl _, trivial⟩ trivial rfl
          · exact ⟨AV.le_refl _, trivial, rfl⟩
        · obtain ⟨rfl, q19⟩ := q19
          cbv
          refine ⟨_, q19, ?_⟩
          cbv
          injection h with h
          subst h
          refine ⟨(sparse 48 [(2, .c (.v (.bool true)))] []), ?_, ?_⟩
          · exact le_sparse rfl ⟨AV.le_refl _, trivial⟩ trivial rfl
          · exact ⟨AV.le_refl _, trivial, rfl⟩
/-- spec.l09CopyCell -/
noncomputable def F_spec_l09CopyCell (a0 : TCell) : Option (TCell) :=
  letO ([] : List TShape) fun l1 =>
  req (std.room (std.nadd (len l1) (len a0.fShapes)) 40) <|
  letO (l1 ++ a0.fShapes) fun l3 =>
  letO ([] : List TLabel) fun l6 =>
  req (std.room (std.nadd (len l6) (len a0.fLabels)) 40) <|
  letO (l6 ++ a0.fLabels) fun l8 =>
  letO ([] : List TInstance) fun l11 =>
  req (std.room (std.nadd (len l11) (len a0.fInstances)) 64) <|
  letO (l11 ++ a0.fInstances) fun l13 =>
  some (TCell.mk a0.fName l3 l8 l13)
theorem run_spec_l09CopyCell (a0 : TCell) (r : TCell) (h : F_spec_l09CopyCell a0 = some r) : Fun Try.prog 132 [.agg [.v (.string a0.fName), .bs (len a0.fShapes) 5 (row gd (encShape) a0.fShapes), .bs (len a0.fLabels) 4 (row gd (encLabel) a0.fLabels), .bs (len a0.fInstances) 8 (row gd (encInstance) a0.fInstances)]] [] (.agg [.v (.string r.fName), .os 64000 0 (len r.fShapes), .os 64002 0 (len r.fLabels), .os 64004 0 (len r.fInstances)]) [(64000, .arr .rw [] (len r.fShapes) 5 (row gd (encShape) r.fShapes)), (64002, .arr .rw [] (len r.fLabels) 4 (row gd (encLabel) r.fLabels)), (64004, .arr .rw [] (len r.fInstances) 8 (row gd (encInstance) r.fInstances))] true := by
  refine Fun.of_wp (oneOf []) tok mixed Try.func132 (by kernel_rfl) rfl Try.ntmps132 rfl trivial (fun _ => ⟨(by simp [AV.flat, AV.flat1, AC.flat]), ⟨fun i _ j _ => val_flat (vl_encShape _ _), fun i _ j _ => val_flat (vl_encLabel _ _), fun i _ j _ => val_flat (vl_encInstance _ _), trivial⟩⟩) ?_
  unfold F_spec_l09CopyCell at h
  generalize hLEN : @len = LEN at *
  generalize hGD : @gd = GD at *
  generalize hA : std = A at *
  generalize hP : Try.prog = P at *
  cbv
  replace h := of_let h
  obtain ⟨l1, hl1, h⟩ := h
  have e2 : 0 = LEN l1 := by subst hl1 hLEN; rfl
  refine ⟨_, congrArg (fun n => AV.c (AC.os 320 0 n)) e2, _, row GD (encShape) l1, e2, ?_, ?_⟩
  · intro i hi j hj
    rw [← e2] at hi
    subst hl1
    subst hGD
    omega
  cbv
  replace h := of_req h
  obtain ⟨c5, h⟩ := h
  replace h := of_let h
  obtain ⟨l3, hl3, h⟩ := h
  have e4 : A.nadd (LEN l1) (LEN a0.fShapes) = LEN l3 := by subst hl3 hLEN hA; simp [std, len]
  refine ⟨c5, _, congrArg (fun n => AV.c (AC.os 320 0 n)) e4, _, row GD (encShape) l3, e4, ?_, ?_⟩
  · subst hGD hLEN hA
    exact app_bs (pl_encShape) hl3 (Nat.le_refl _)
  cbv
  replace h := of_let h
  obtain ⟨l6, hl6, h⟩ := h
  have e7 : 0 = LEN l6 := by subst hl6 hLEN; rfl
  refine ⟨_, congrArg (fun n => AV.c (AC.os 576 0 n)) e7, _, row GD (encLabel) l6, e7, ?_, ?_⟩
  · intro i hi j hj
    rw [← e7] at hi
    subst hl6
    subst hGD
    omega
  cbv
  replace h := of_req h
  obtain ⟨c10, h⟩ := h
  replace h := of_let h
  obtain ⟨l8, hl8, h⟩ := h
  have e9 : A.nadd (LEN l6) (LEN a0.fLabels) = LEN l8 := by subst hl8 hLEN hA; simp [std, len]
  refine ⟨c10, _, congrArg (fun n => AV.c (AC.os 576 0 n)) e9, _, row GD (encLabel) l8, e9, ?_, ?_⟩
  · subst hGD hLEN hA
    exact app_bs (pl_encLabel) hl8 (Nat.le_refl _)
  cbv
  replace h := of_let h
  obtain ⟨l11, hl11, h⟩ := h
  have e12 : 0 = LEN l11 := by subst hl11 hLEN; rfl
  refine ⟨_, congrArg (fun n => AV.c (AC.os 832 0 n)) e12, _, row GD (encInstance) l11, e12, ?_, ?_⟩
  · intro i hi j hj
    rw [← e12] at hi
    subst hl11
    subst hGD
    omega
  cbv
  replace h := of_req h
  obtain ⟨c15, h⟩ := h
  replace h := of_let h
  obtain ⟨l13, hl13, h⟩ := h
  have e14 : A.nadd (LEN l11) (LEN a0.fInstances) = LEN l13 := by subst hl13 hLEN hA; simp [std, len]
  refine ⟨c15, _, congrArg (fun n => AV.c (AC.os 832 0 n)) e14, _, row GD (encInstance) l13, e14, ?_, ?_⟩
  · subst hGD hLEN hA
    exact app_bs (pl_encInstance) hl13 (Nat.le_refl _)
  cbv
  injection h with h
  subst h
  refine ⟨(sparse 18 [(2, .c (.ptr 128 0))] [(128, .var [.v (.string a0.fName), .os 64000 0 (LEN l3), .os 64002 0 (LEN l8), .os 64004 0 (LEN l13)]), (64000, .arr .rw [] (LEN l3) 5 (row GD (encShape) l3)), (64002, .arr .rw [] (LEN l8) 4 (row GD (encLabel) l8)), (64004, .arr .rw [] (LEN l13) 8 (row GD (encInstance) l13))]), ?_, ?_⟩
  · refine St.le_trans (le_ren 320 64000 (by decide) rfl) ?_
    refine St.le_trans (le_ren 576 64002 (by decide) rfl) ?_
    refine St.le_trans (le_ren 832 64004 (by decide) rfl) ?_
    exact le_sparse rfl ⟨AV.le_refl _, trivial⟩ ⟨rfl, ⟨fun hw => hw, fun c hc => (by cases hc), .inl rfl, rfl, rfl, fun i hi j hj => rfl⟩, ⟨fun hw => hw, fun c hc => (by cases hc), .inl rfl, rfl, rfl, fun i hi j hj => rfl⟩, ⟨fun hw => hw, fun c hc => (by cases hc), .inl rfl, rfl, rfl, fun i hi j hj => rfl⟩, trivial⟩ rfl
  · exact ⟨AV.le_refl _, ⟨⟨fun hw => hw, fun c hc => (by cases hc), .inl rfl, rfl, rfl, fun i hi j hj => rfl⟩, ⟨fun hw => hw, fun c hc => (by cases hc), .inl rfl, rfl, rfl, fun i hi j hj => rfl⟩, ⟨fun hw => hw, fun c hc => (by cases hc), .inl rfl, rfl, rfl, fun i hi j hj => rfl⟩, trivial⟩, rfl⟩

noncomputable def L_spec_l09Copy_x3 (a0 : TLibrary) : (Int × (List TCell)) → Option ((Int × (List TCell)) ⊕ (((List TCell)))) := fun x3 =>
  letO x3.1 fun v1 =>
  letO x3.2 fun v2 =>
  br (std.lt v1 (std.ofN (len a0.fCells)))
  (((
        req (std.inR v1 (len a0.fCells)) <|
        (F_spec_l09CopyCell (gd a0.fCells (std.toN v1))).bind fun y23 =>
        letO ([y23] : List TCell) fun l25 =>
        req (std.room (std.nadd (len v2) (len l25)) 88) <|
        letO (v2 ++ l25) fun l27 =>
        some l27
    ) : Option ((List TCell))).bind fun y15 =>
  letO y15 fun w21 =>
  some (.inl (std.add .i64 v1 1, w21)))
  (some (.inr v2))
/-- spec.l09Copy -/
noncomputable def F_spec_l09Copy (a0 : TLibrary) : Option (TLibrary) :=
  (whileP (σ := Int × (List TCell)) (ρ := ((List TCell))) (L_spec_l09Copy_x3 a0) (0, ([] : List TCell))).bind fun y4 =>
  letO y4 fun y4k0 =>
  letO y4k0 fun w31 =>
  some (TLibrary.mk w31)
theorem run_spec_l09Copy (a0 : TLibrary) (r : TLibrary) (h : F_spec_l09Copy a0 = some r) : Fun Try.prog 84 [.agg [.bs (len a0.fCells) 4 (row gd (encCell len gd) a0.fCells)]] [] (.agg [.os 64000 0 (len r.fCells)]) [(64000, .arr .rw [] (len r.fCells) 4 (row gd (oncCell len gd) r.fCells))] true := by
  refine Fun.of_wp (oneOf [5]) tok mixed Try.func84 (by kernel_rfl) rfl Try.ntmps84 rfl trivial (fun _ => ⟨(by simp [AV.flat, AV.flat1, AC.flat]), ⟨fun i _ j _ => fl_oncCell _ _, trivial⟩⟩) ?_
  unfold F_spec_l09Copy at h
  unfold L_spec_l09Copy_x3 at h
  have hf_spec_l09CopyCell := @run_spec_l09CopyCell
  generalize hLEN : @len = LEN at *
  generalize hGD : @gd = GD at *
  generalize hA : std = A at *
  generalize hP : Try.prog = P at *
  cbv
  replace h := of_bind h
  obtain ⟨y4, hr5, hN6⟩ := h
  refine loop_cut hr5 (fun x => (sparse 25 [(1, .c (.ptr 64 0)), (2, .c (.ptr 128 0)), (3, .c (.ptr 192 0)), (4, .c (.v (.int .i64 x.1)))] [(64, .var [.bs (LEN a0.fCells) 4 (row GD (encCell LEN GD) a0.fCells)]), (128, .var [.v (.slice none 0 0)]), (192, .var [.os 1408 0 (LEN x.2)]), (1408, .arr .rw [] (LEN x.2) 4 (row GD (oncCell LEN GD) x.2))])) ?_ (fun y e s => (fun (w : (List TCell)) => e = .exit 0 ∧ s.le (sparse 25 [(2, .c (.ptr 128 0)), (3, .c (.ptr 192 0))] [(128, .var [.v (.slice none 0 0)]), (192, .var [.os 1408 0 (LEN w)]), (1408, .arr .rw [] (LEN w) 4 (row GD (oncCell LEN GD) w))])) y) ?_ ?_
  · clear hr5 hN6
    show St.le _ _
    refine St.le_trans (le_nilV 192 0 1408 4 (row GD (oncCell LEN GD) ([] : List TCell)) (by decide) (by decide) rfl rfl) ?_
    subst hLEN
    exact le_sparse rfl ⟨AV.le_refl _, AV.le_refl _, AV.le_refl _, AV.le_refl _, trivial⟩ ⟨rfl, rfl, rfl, ⟨fun hw => hw, fun c hc => (by cases hc), .inl rfl, rfl, rfl, fun i hi j hj => rfl⟩, trivial⟩ rfl
  · clear hr5 hN6
    intro x z10 h K8 hK9 hY7
    obtain ⟨x0_, x1_⟩ := x
    replace h := of_let h
    obtain ⟨v1, hv1, h⟩ := h
    have hv1 : v1 = x0_ := hv1
    subst hv1
    replace h := of_let h
    obtain ⟨v2, hv2, h⟩ := h
    have hv2 : v2 = x1_ := hv2
    subst hv2
    cbv
    refine fork (fun b30 => ?_) (fun b30 => ?_)
    · replace h := of_br_t b30 h
      cbv
      replace h := of_bind h
      obtain ⟨y15, hy16, h⟩ := h
      obtain ⟨S19, hS20⟩ : ∃ S, S = (sparse 25 [(1, .c (.ptr 64 0)), (2, .c (.ptr 128 0)), (3, .c (.ptr 192 0)), (4, .c (.v (.int .i64 v1)))] [(64, .var [.bs (LEN a0.fCells) 4 (row GD (encCell LEN GD) a0.fCells)]), (128, .var [.v (.slice none 0 0)]), (192, .var [.os 1408 0 (LEN y15)]), (1408, .arr .rw [] (LEN y15) 4 (row GD (oncCell LEN GD) y15))]) := ⟨_, rfl⟩
      refine ⟨S19, ?_, ?_⟩
      · clear h
        have h := hy16
        clear hy16
        cbv
        replace h := of_req h
        obtain ⟨c22, h⟩ := h
        refine ⟨⟨c22, trivial⟩, ?_⟩
        replace h := of_bind h
        obtain ⟨y23, hy24, h⟩ := h
        refine ⟨{ args := [.agg [.v (.string (GD a0.fCells (A.toN v1)).fName), .bs (LEN (GD a0.fCells (A.toN v1)).fShapes) 5 (row GD (encShape) (GD a0.fCells (A.toN v1)).fShapes), .bs (LEN (GD a0.fCells (A.toN v1)).fLabels) 4 (row GD (encLabel) (GD a0.fCells (A.toN v1)).fLabels), .bs (LEN (GD a0.fCells (A.toN v1)).fInstances) 8 (row GD (encInstance) (GD a0.fCells (A.toN v1)).fInstances)]], o0 := [], r := .agg [.v (.string y23.fName), .os 64000 0 (LEN y23.fShapes), .os 64002 0 (LEN y23.fLabels), .os 64004 0 (LEN y23.fInstances)], o1 := [(64000, .arr .rw [] (LEN y23.fShapes) 5 (row GD (encShape) y23.fShapes)), (64002, .arr .rw [] (LEN y23.fLabels) 4 (row GD (encLabel) y23.fLabels)), (64004, .arr .rw [] (LEN y23.fInstances) 8 (row GD (encInstance) y23.fInstances))], fl := true, σ := [], τ := [(64000, 1280), (64002, 1282), (64004, 1284)] }, hf_spec_l09CopyCell _ _ hy24, ⟨les_cons (AV.le_refl _) (les_nil), trivial, rfl, rfl, rfl, rfl, ⟨fun h => absurd (show (64000 : Nat) % 2 = 1 from h) (by decide), fun h => absurd (show (64002 : Nat) % 2 = 1 from h) (by decide), fun h => absurd (show (64004 : Nat) % 2 = 1 from h) (by decide), trivial⟩, rfl⟩, _, rfl, _, _, rfl, fun _ _ _ _ => rfl, _, _, rfl, fun _ _ _ _ => rfl, _, _, rfl, fun _ _ _ _ => rfl, ?_⟩
        cbv
        replace h := of_let h
        obtain ⟨l25, hl25, h⟩ := h
        have e26 : 1 = LEN l25 := by subst hl25 hLEN; rfl
        refine ⟨_, congrArg (fun n => AV.c (AC.os 1344 0 n)) e26, _, (patchC (row GD (oncCell LEN GD) ([] : List TCell)) 0 [.v (.string y23.fName), .os 1280 0 (LEN y23.fShapes), .os 1282 0 (LEN y23.fLabels), .os 1284 0 (LEN y23.fInstances)]), e26, ?_, ?_⟩
        · refine patch_one (by subst hl25 hLEN; rfl) ?_
          intro j hj
          match j, hj with | 0, _ => (rfl) | 1, _ => (rfl) | 2, _ => (rfl) | 3, _ => (rfl) | (j_ + 4), h_ => exact absurd h_ (by omega)
        cbv
        replace h := of_req h
        obtain ⟨c29, h⟩ := h
        replace h := of_let h
        obtain ⟨l27, hl27, h⟩ := h
        have e28 : A.nadd (LEN v2) (LEN l25) = LEN l27 := by subst hl27 hLEN hA; simp [std, len]
        refine ⟨c29, _, congrArg (fun n => AV.c (AC.os 1408 0 n)) e28, _, (patchC (row GD (oncCell LEN GD) v2) (LEN v2) [.v (.string y23.fName), .os 1280 0 (LEN y23.fShapes), .os 1282 0 (LEN y23.fLabels), .os 1284 0 (LEN y23.fInstances)]), e28, ?_, ?_⟩
        · subst hLEN hA
          refine patch_joinG (by first | (rw [hl27]; simp [len]; done) | (rw [hl27]; simp [len]; omega) | (subst_vars; simp [len])) ?_
          intro j hj
          match j, hj with | 0, _ => (rfl) | 1, _ => (rfl) | 2, _ => (rfl) | 3, _ => (rfl) | (j_ + 4), h_ => exact absurd h_ (by omega)
        cbv
        rw [hl25] at hl27
        injection h with h
        subst h
        subst hS20
        show St.le _ _
        refine St.le_trans (le_foldP 1408 1 1280 rfl rfl rfl (by decide) (by subst hLEN; exact app_lt hl27) (by decide) rfl (fun _ _ => rf_oncCell _ _)) ?_
        refine St.le_trans (le_foldP 1408 2 1282 rfl rfl rfl (by decide) (by subst hLEN; exact app_lt hl27) (by decide) rfl (fun _ _ => rf_oncCell _ _)) ?_
        refine St.le_trans (le_foldP 1408 3 1284 rfl rfl rfl (by decide) (by subst hLEN; exact app_lt hl27) (by decide) rfl (fun _ _ => rf_oncCell _ _)) ?_
        exact le_sparse rfl ⟨AV.le_refl _, AV.le_refl _, AV.le_refl _, AV.le_refl _, trivial⟩ ⟨rfl, rfl, rfl, ⟨fun hw => hw, fun c hc => (by cases hc), .inr (fun i _ j _ z hz => (noref (rf_oncCell _ _) hz).elim), rfl, rfl, (by subst hGD hLEN hA; exact patch_app hl27 (Nat.le_refl _) (by intro j hj; match j, hj with | 0, _ => rfl | 1, _ => rfl | 2, _ => rfl | 3, _ => rfl | (j_ + 4), h_ => exact absurd h_ (by omega)))⟩, trivial⟩ rfl
      · clear hy16
        subst hS20
        replace h := of_let h
        obtain ⟨w21, hw21, h⟩ := h
        have hw21 : w21 = y15 := hw21
        subst hw21
        cbv
        injection h with h
        refine hK9 _ h.symm _ ?_
        exact le_sparse rfl ⟨AV.le_refl _, AV.le_refl _, AV.le_refl _, AV.le_refl _, trivial⟩ ⟨rfl, rfl, rfl, ⟨fun hw => hw, fun c hc => (by cases hc), .inl rfl, rfl, rfl, fun i hi j hj => rfl⟩, trivial⟩ rfl
    · replace h := of_br_f b30 h
      cbv
      injection h with h
      refine hY7 _ h.symm _ _ (And.intro rfl ?_) (by intro hh; cases hh)
      exact le_sparse rfl ⟨AV.le_refl _, AV.le_refl _, trivial⟩ ⟨rfl, rfl, ⟨fun hw => hw, fun c hc => (by cases hc), .inl rfl, rfl, rfl, fun i hi j hj => rfl⟩, trivial⟩ rfl
  · clear hr5
    have h := hN6
    clear hN6
    intro e13 s14 q12 hne
    replace h := of_let h
    obtain ⟨y4k0, hyk, h⟩ := h
    have hyk : y4k0 = y4 := hyk
    subst hyk
    obtain ⟨rfl, q12⟩ := q12
    replace h := of_let h
    obtain ⟨w31, hw31, h⟩ := h
    have hw31 : w31 = y4k0 := hw31
    subst hw31
    cbv
    refine ⟨_, q12, ?_⟩
    cbv
    injection h with h
    subst h
    refine ⟨(sparse 25 [(2, .c (.ptr 128 0))] [(128, .var [.os 64000 0 (LEN w31)]), (64000, .arr .rw [] (LEN w31) 4 (row GD (oncCell LEN GD) w31))]), ?_, ?_⟩
    · refine St.le_trans (le_ren 1408 64000 (by decide) rfl) ?_
      exact le_sparse rfl ⟨AV.le_refl _, trivial⟩ ⟨rfl, ⟨fun hw => hw, fun c hc => (by cases hc), .inl rfl, rfl, rfl, fun i hi j hj => rfl⟩, trivial⟩ rfl
    · exact ⟨AV.le_refl _, ⟨⟨fun hw => hw, fun c hc => (by cases hc), .inl rfl, rfl, rfl, fun i hi j hj => rfl⟩, trivial⟩, rfl⟩

/-- spec.NewEditor -/
noncomputable def F_spec_NewEditor (a0 : TLibrary) : Option (TEditor × Bool) :=
  (F_spec_IsValidLibrary (TLibrary.mk a0.fCells)).bind fun y1 =>
  br (!(y1))
  (some ((TEditor.mk (TLibrary.mk ([] : List TCell)) ([] : List (List TEdit)) ([] : List (List TEdit))), false))
  ((F_spec_l09Copy (TLibrary.mk a0.fCells)).bind fun y3 =>
  some ((TEditor.mk y3 ([] : List (List TEdit)) ([] : List (List TEdit))), true))
theorem run_spec_NewEditor (a0 : TLibrary) (r : TEditor × Bool) (h : F_spec_NewEditor a0 = some r) : Fun Try.prog 43 [.agg [.bs (len a0.fCells) 4 (row gd (encCell len gd) a0.fCells)]] [] (.tup [.agg [.os 64000 0 (len r.1.fCurrent.fCells), .v (.slice none 0 0), .v (.slice none 0 0)], .c (.v (.bool r.2))]) [(64000, .arr .rw [] (len r.1.fCurrent.fCells) 4 (row gd (oncCell len gd) r.1.fCurrent.fCells))] true := by
  refine Fun.of_wp (oneOf []) tok mixed Try.func43 (by kernel_rfl) rfl Try.ntmps43 rfl trivial (fun _ => ⟨(by simp [AV.flat, AV.flat1, AC.flat]), ⟨fun i _ j _ => fl_oncCell _ _, trivial⟩⟩) ?_
  unfold F_spec_NewEditor at h
  have hf_spec_IsValidLibrary := @run_spec_IsValidLibrary
  have hf_spec_l09Copy := @run_spec_l09Copy
  generalize hLEN : @len = LEN at *
  generalize hGD : @gd = GD at *
  generalize hA : std = A at *
  generalize hP : Try.prog = P at *
  cbv
  replace h := of_bind h
  obtain ⟨y1, hy2, h⟩ := h
  refine ⟨{ args := [.agg [.bs (LEN a0.fCells) 4 (row GD (encCell LEN GD) a0.fCells)]], o0 := [], r := .c (.v (.bool y1)), o1 := [], fl := true, σ := [], τ := [] }, hf_spec_IsValidLibrary _ _ hy2, ⟨les_cons (AV.le_refl _) (les_nil), trivial, rfl, rfl, rfl, rfl, trivial, rfl⟩, ?_⟩
  cbv
  refine fork (fun b5 => ?_) (fun b5 => ?_)
  · replace h := of_br_t b5 h
    cbv
    injection h with h
    subst h
    refine ⟨(sparse 11 [(2, .c (.ptr 128 0)), (3, .c (.v (.bool false)))] [(128, .var [.os 64000 0 (LEN ([] : List TCell)), .v (.slice none 0 0), .v (.slice none 0 0)]), (64000, .arr .rw [] (LEN ([] : List TCell)) 4 (row GD (oncCell LEN GD) ([] : List TCell)))]), ?_, ?_⟩
    · refine St.le_trans (le_nilV 128 0 64000 4 (row GD (oncCell LEN GD) ([] : List TCell)) (by decide) (by decide) rfl rfl) ?_
      subst hLEN
      exact le_sparse rfl ⟨AV.le_refl _, AV.le_refl _, trivial⟩ ⟨rfl, ⟨fun hw => hw, fun c hc => (by cases hc), .inl rfl, rfl, rfl, fun i hi j hj => rfl⟩, trivial⟩ rfl
    · subst hLEN
      exact ⟨AV.le_refl _, ⟨⟨fun hw => hw, fun c hc => (by cases hc), .inl rfl, rfl, rfl, fun i hi j hj => rfl⟩, trivial⟩, rfl⟩
  · replace h := of_br_f b5 h
    cbv
    replace h := of_bind h
    obtain ⟨y3, hy4, h⟩ := h
    refine ⟨{ args := [.agg [.bs (LEN a0.fCells) 4 (row GD (encCell LEN GD) a0.fCells)]], o0 := [], r := .agg [.os 64000 0 (LEN y3.fCells)], o1 := [(64000, .arr .rw [] (LEN y3.fCells) 4 (row GD (oncCell LEN GD) y3.fCells))], fl := true, σ := [], τ := [(64000, 576)] }, hf_spec_l09Copy _ _ hy4, ⟨les_cons (AV.le_refl _) (les_nil), trivial, rfl, rfl, rfl, rfl, ⟨fun h => absurd (show (64000 : Nat) % 2 = 1 from h) (by decide), trivial⟩, rfl⟩, _, rfl, _, _, rfl, fun _ _ _ _ => rfl, ?_⟩
    cbv
    injection h with h
    subst h
    refine ⟨(sparse 11 [(2, .c (.ptr 128 0)), (3, .c (.v (.bool true)))] [(128, .var [.os 64000 0 (LEN y3.fCells), .v (.slice none 0 0), .v (.slice none 0 0)]), (64000, .arr .rw [] (LEN y3.fCells) 4 (row GD (oncCell LEN GD) y3.fCells))]), ?_, ?_⟩
    · refine St.le_trans (le_ren 576 64000 (by decide) rfl) ?_
      exact le_sparse rfl ⟨AV.le_refl _, AV.le_refl _, trivial⟩ ⟨rfl, ⟨fun hw => hw, fun c hc => (by cases hc), .inl rfl, rfl, rfl, fun i hi j hj => rfl⟩, trivial⟩ rfl
    · exact ⟨AV.le_refl _, ⟨⟨fun hw => hw, fun c hc => (by cases hc), .inl rfl, rfl, rfl, fun i hi j hj => rfl⟩, trivial⟩, rfl⟩

noncomputable def L_impl_IsName_x2 (a0 : ByteArray) : (Int) → Option ((Int) ⊕ ((Unit) ⊕ (Unit))) := fun x2 =>
  letO x2 fun v1 =>
  br (std.lt v1 (std.ofN (std.slen a0)))
  (((
        req (std.inR v1 (std.slen a0)) <|
        br (std.lt (std.sat a0 (std.toN v1)) 97)
        (req (std.inR v1 (std.slen a0)) <|
        br (std.lt (std.sat a0 (std.toN v1)) 48)
        (some true)
        (req (std.inR v1 (std.slen a0)) <|
        some (std.lt 57 (std.sat a0 (std.toN v1)))))
        (req (std.inR v1 (std.slen a0)) <|
        br (std.lt 122 (std.sat a0 (std.toN v1)))
        (req (std.inR v1 (std.slen a0)) <|
        br (std.lt (std.sat a0 (std.toN v1)) 48)
        (some true)
        (req (std.inR v1 (std.slen a0)) <|
        some (std.lt 57 (std.sat a0 (std.toN v1)))))
        (some false))
    ) : Option (Bool)).bind fun y14 =>
  letO y14 fun w20 =>
  br w20
  (some (.inr (.inl ())))
  (some (.inl (std.add .i64 v1 1))))
  (some (.inr (.inr ())))
/-- impl.IsName -/
noncomputable def F_impl_IsName (a0 : ByteArray) : Option (Bool) :=
  (whileP (σ := Int) (ρ := (Unit) ⊕ (Unit)) (L_impl_IsName_x2 a0) 0).bind fun y3 =>
  (match y3 with
    | .inl y3k0 => (
        some false)
    | .inr y3m0 =>
        ((
              br (std.le 1 (std.ofN (std.slen a0)))
              (some (std.le (std.ofN (std.slen a0)) 8))
              (some false)
          ) : Option (Bool)).bind fun y33 =>
        letO y33 fun w39 =>
        some w39)
theorem run_impl_IsName (a0 : ByteArray) (r : Bool) (h : F_impl_IsName a0 = some r) : Fun Try.prog 168 [.c (.v (.string a0))] [] (.c (.v (.bool r))) [] true := by
  refine Fun.of_wp (oneOf [4, 6]) tok mixed Try.func168 (by kernel_rfl) rfl Try.ntmps168 rfl trivial (fun _ => ⟨trivial, trivial⟩) ?_
  unfold F_impl_IsName at h
  unfold L_impl_IsName_x2 at h
  generalize hLEN : @len = LEN at *
  generalize hGD : @gd = GD at *
  generalize hA : std = A at *
  generalize hP : Try.prog = P at *
  cbv
  replace h := of_bind h
  obtain ⟨y3, hr4, hN5⟩ := h
  refine loop_cut hr4 (fun x => (sparse 40 [(0, .c (.v (.string a0))), (3, .c (.v (.int .i64 x)))] [])) ?_ (fun y e s => (match y with | .inl w => e = .ret ∧ s.le (sparse 40 [(2, .c (.v (.bool false)))] []) | .inr w0 => (fun (w : Unit) => e = .exit 0 ∧ s.le (sparse 40 [(0, .c (.v (.string a0)))] [])) w0)) ?_ ?_
  · clear hr4 hN5
    show St.le _ _
    exact le_sparse rfl ⟨AV.le_refl _, AV.le_refl _, trivial⟩ trivial rfl
  · clear hr4 hN5
    intro x z9 h K7 hK8 hY6
    replace h := of_let h
    obtain ⟨v1, hv1, h⟩ := h
    have hv1 : v1 = x := hv1
    subst hv1
    cbv
    refine fork (fun b32 => ?_) (fun b32 => ?_)
    · replace h := of_br_t b32 h
      cbv
      replace h := of_bind h
      obtain ⟨y14, hy15, h⟩ := h
      obtain ⟨S18, hS19⟩ : ∃ S, S = (sparse 40 [(0, .c (.v (.string a0))), (3, .c (.v (.int .i64 v1))), (31, .c (.v (.bool y14)))] []) := ⟨_, rfl⟩
      refine ⟨S18, ?_, ?_⟩
      · clear h
        have h := hy15
        clear hy15
        cbv
        replace h := of_req h
        obtain ⟨c21, h⟩ := h
        refine ⟨c21, ?_⟩
        refine fork (fun b30 => ?_) (fun b30 => ?_)
        · replace h := of_br_t b30 h
          cbv
          replace h := of_req h
          obtain ⟨c27, h⟩ := h
          refine ⟨c27, ?_⟩
          refine fork (fun b29 => ?_) (fun b29 => ?_)
          · replace h := of_br_t b29 h
            cbv
            injection h with h
            subst h
            subst hS19
            show St.le _ _
            exact le_sparse rfl ⟨AV.le_refl _, AV.le_refl _, AV.le_refl _, trivial⟩ trivial rfl
          · replace h := of_br_f b29 h
            cbv
            replace h := of_req h
            obtain ⟨c28, h⟩ := h
            refine ⟨c28, ?_⟩
            injection h with h
            subst h
            subst hS19
            show St.le _ _
            exact le_sparse rfl ⟨AV.le_refl _, AV.le_refl _, AV.le_refl _, trivial⟩ trivial rfl
        · replace h := of_br_f b30 h
          cbv
          replace h := of_req h
          obtain ⟨c22, h⟩ := h
          refine ⟨c22, ?_⟩
          refine fork (fun b26 => ?_) (fun b26 => ?_)
          · replace h := of_br_t b26 h
            cbv
            replace h := of_req h
            obtain ⟨c23, h⟩ := h
            refine ⟨c23, ?_⟩
            refine fork (fun b25 => ?_) (fun b25 => ?_)
            · replace h := of_br_t b25 h
              cbv
              injection h with h
              subst h
              subst hS19
              show St.le _ _
              exact le_sparse rfl ⟨AV.le_refl _, AV.le_refl _, AV.le_refl _, trivial⟩ trivial rfl
            · replace h := of_br_f b25 h
              cbv
              replace h := of_req h
              obtain ⟨c24, h⟩ := h
              refine ⟨c24, ?_⟩
              injection h with h
              subst h
              subst hS19
              show St.le _ _
              exact le_sparse rfl ⟨AV.le_refl _, AV.le_refl _, AV.le_refl _, trivial⟩ trivial rfl
          · replace h := of_br_f b26 h
            cbv
            injection h with h
            subst h
            subst hS19
            show St.le _ _
            exact le_sparse rfl ⟨AV.le_refl _, AV.le_refl _, AV.le_refl _, trivial⟩ trivial rfl
      · clear hy15
        subst hS19
        replace h := of_let h
        obtain ⟨w20, hw20, h⟩ := h
        have hw20 : w20 = y14 := hw20
        subst hw20
        cbv
        refine fork (fun b31 => ?_) (fun b31 => ?_)
        · replace h := of_br_t b31 h
          cbv
          injection h with h
          refine hY6 _ h.symm _ _ (And.intro rfl ?_) (by intro hh; cases hh)
          exact le_sparse rfl ⟨AV.le_refl _, trivial⟩ trivial rfl
        · replace h := of_br_f b31 h
          cbv
          injection h with h
          refine hK8 _ h.symm _ ?_
          exact le_sparse rfl ⟨AV.le_refl _, AV.le_refl _, trivial⟩ trivial rfl
    · replace h := of_br_f b32 h
      cbv
      injection h with h
      refine hY6 _ h.symm _ _ (And.intro rfl ?_) (by intro hh; cases hh)
      exact le_sparse rfl ⟨AV.le_refl _, trivial⟩ trivial rfl
  · clear hr4
    have h := hN5
    clear hN5
    intro e12 s13 q11 hne
    rcases y3 with y3k0 | y3m0
    · replace h := h
      obtain ⟨rfl, q11⟩ := q11
      cbv
      injection h with h
      subst h
      refine ⟨(sparse 40 [(2, .c (.v (.bool false)))] []), ?_, ?_⟩
      · refine St.le_trans q11 ?_
        exact le_sparse rfl ⟨AV.le_refl _, trivial⟩ trivial rfl
      · exact ⟨AV.le_refl _, trivial, rfl⟩
    · obtain ⟨rfl, q11⟩ := q11
      cbv
      refine ⟨_, q11, ?_⟩
      cbv
      replace h := of_bind h
      obtain ⟨y33, hy34, h⟩ := h
      obtain ⟨S37, hS38⟩ : ∃ S, S = (sparse 40 [(2, .c (.v (.bool y33)))] []) := ⟨_, rfl⟩
      refine ⟨S37, ?_, ?_⟩
      · clear h
        have h := hy34
        clear hy34
        cbv
        refine fork (fun b40 => ?_) (fun b40 => ?_)
        · replace h := of_br_t b40 h
          cbv
          injection h with h
          subst h
          subst hS38
          show St.le _ _
          exact le_sparse rfl ⟨AV.le_refl _, trivial⟩ trivial rfl
        · replace h := of_br_f b40 h
          cbv
          injection h with h
          subst h
          subst hS38
          show St.le _ _
          exact le_sparse rfl ⟨AV.le_refl _, trivial⟩ trivial rfl
      · clear hy34
        subst hS38
        replace h := of_let h
        obtain ⟨w39, hw39, h⟩ := h
        have hw39 : w39 = y33 := hw39
        subst hw39
        cbv
        injection h with h
        subst h
        refine ⟨(sparse 40 [(2, .c (.v (.bool w39)))] []), ?_, ?_⟩
        · exact le_sparse rfl ⟨AV.le_refl _, trivial⟩ trivial rfl
        · exact ⟨AV.le_refl _, trivial, rfl⟩

/-- impl.within -/
noncomputable def F_impl_within (a0 : Int) (a1 : Int) (a2 : Int) : Option (Bool) :=
  ((
        br (std.le a1 a0)
        (some (std.le a0 a2))
        (some false)
    ) : Option (Bool)).bind fun y1 =>
  letO y1 fun w7 =>
  some w7
theorem run_impl_within (a0 : Int) (a1 : Int) (a2 : Int) (r : Bool) (h : F_impl_within a0 a1 a2 = some r) : Fun Try.prog 61 [.c (.v (.int .i64 a0)), .c (.v (.int .i64 a1)), .c (.v (.int .i64 a2))] [] (.c (.v (.bool r))) [] true := by
  refine Fun.of_wp (oneOf [1]) tok mixed Try.func61 (by kernel_rfl) rfl Try.ntmps61 rfl trivial (fun _ => ⟨trivial, trivial⟩) ?_
  unfold F_impl_within at h
  generalize hLEN : @len = LEN at *
  generalize hGD : @gd = GD at *
  generalize hA : std = A at *
  generalize hP : Try.prog = P at *
  cbv
  replace h := of_bind h
  obtain ⟨y1, hy2, h⟩ := h
  obtain ⟨S5, hS6⟩ : ∃ S, S = (sparse 15 [(6, .c (.v (.bool y1)))] []) := ⟨_, rfl⟩
  refine ⟨S5, ?_, ?_⟩
  · clear h
    have h := hy2
    clear hy2
    cbv
    refine fork (fun b8 => ?_) (fun b8 => ?_)
    · replace h := of_br_t b8 h
      cbv
      injection h with h
      subst h
      subst hS6
      show St.le _ _
      exact le_sparse rfl ⟨AV.le_refl _, trivial⟩ trivial rfl
    · replace h := of_br_f b8 h
      cbv
      injection h with h
      subst h
      subst hS6
      show St.le _ _
      exact le_sparse rfl ⟨AV.le_refl _, trivial⟩ trivial rfl
  · clear hy2
    subst hS6
    replace h := of_let h
    obtain ⟨w7, hw7, h⟩ := h
    have hw7 : w7 = y1 := hw7
    subst hw7
    cbv
    injection h with h
    subst h
    refine ⟨(sparse 15 [(6, .c (.v (.bool w7)))] []), ?_, ?_⟩
    · exact le_sparse rfl ⟨AV.le_refl _, trivial⟩ trivial rfl
    · exact ⟨AV.le_refl _, trivial, rfl⟩

/-- impl.IsValidRect -/
noncomputable def F_impl_IsValidRect (a0 : TRect) : Option (Bool) :=
  ((
        br (std.le (-40) a0.fX0)
        (br (std.lt a0.fX0 a0.fX1)
        (br (std.le a0.fX1 40)
        (br (std.le (-40) a0.fY0)
        (br (std.lt a0.fY0 a0.fY1)
        (some (std.le a0.fY1 40))
        (some false))
        (some false))
        (some false))
        (some false))
        (some false)
    ) : Option (Bool)).bind fun y1 =>
  letO y1 fun w7 =>
  some w7
theorem run_impl_IsValidRect (a0 : TRect) (r : Bool) (h : F_impl_IsValidRect a0 = some r) : Fun Try.prog 50 [.agg [.v (.int .i64 a0.fX0), .v (.int .i64 a0.fY0), .v (.int .i64 a0.fX1), .v (.int .i64 a0.fY1)]] [] (.c (.v (.bool r))) [] true := by
  refine Fun.of_wp (oneOf [1]) tok mixed Try.func50 (by kernel_rfl) rfl Try.ntmps50 rfl trivial (fun _ => ⟨trivial, trivial⟩) ?_
  unfold F_impl_IsValidRect at h
  generalize hLEN : @len = LEN at *
  generalize hGD : @gd = GD at *
  generalize hA : std = A at *
  generalize hP : Try.prog = P at *
  cbv
  replace h := of_bind h
  obtain ⟨y1, hy2, h⟩ := h
  obtain ⟨S5, hS6⟩ : ∃ S, S = (sparse 35 [(2, .c (.v (.bool y1)))] []) := ⟨_, rfl⟩
  refine ⟨S5, ?_, ?_⟩
  · clear h
    have h := hy2
    clear hy2
    cbv
    refine fork (fun b12 => ?_) (fun b12 => ?_)
    · replace h := of_br_t b12 h
      cbv
      refine fork (fun b11 => ?_) (fun b11 => ?_)
      · replace h := of_br_t b11 h
        cbv
        refine fork (fun b10 => ?_) (fun b10 => ?_)
        · replace h := of_br_t b10 h
          cbv
          refine fork (fun b9 => ?_) (fun b9 => ?_)
          · replace h := of_br_t b9 h
            cbv
            refine fork (fun b8 => ?_) (fun b8 => ?_)
            · replace h := of_br_t b8 h
              cbv
              injection h with h
              subst h
              subst hS6
              show St.le _ _
              exact le_sparse rfl ⟨AV.le_refl _, trivial⟩ trivial rfl
            · replace h := of_br_f b8 h
              cbv
              injection h with h
              subst h
              subst hS6
              show St.le _ _
              exact le_sparse rfl ⟨AV.le_refl _, trivial⟩ trivial rfl
          · replace h := of_br_f b9 h
            cbv
            injection h with h
            subst h
            subst hS6
            show St.le _ _
            exact le_sparse rfl ⟨AV.le_refl _, trivial⟩ trivial rfl
        · replace h := of_br_f b10 h
          cbv
          injection h with h
          subst h
          subst hS6
          show St.le _ _
          exact le_sparse rfl ⟨AV.le_refl _, trivial⟩ trivial rfl
      · replace h := of_br_f b11 h
        cbv
        injection h with h
        subst h
        subst hS6
        show St.le _ _
        exact le_sparse rfl ⟨AV.le_refl _, trivial⟩ trivial rfl
    · replace h := of_br_f b12 h
      cbv
      injection h with h
      subst h
      subst hS6
      show St.le _ _
      exact le_sparse rfl ⟨AV.le_refl _, trivial⟩ trivial rfl
  · clear hy2
    subst hS6
    replace h := of_let h
    obtain ⟨w7, hw7, h⟩ := h
    have hw7 : w7 = y1 := hw7
    subst hw7
    cbv
    injection h with h
    subst h
    refine ⟨(sparse 35 [(2, .c (.v (.bool w7)))] []), ?_, ?_⟩
    · exact le_sparse rfl ⟨AV.le_refl _, trivial⟩ trivial rfl
    · exact ⟨AV.le_refl _, trivial, rfl⟩
/-- impl.validShape -/
noncomputable def F_impl_validShape (a0 : TShape) : Option (Bool) :=
  ((
        (F_impl_within a0.fLayer 0 7).bind fun y8 =>
        br y8
        ((F_impl_IsValidRect a0.fBox).bind fun y10 =>
        some y10)
        (some false)
    ) : Option (Bool)).bind fun y1 =>
  letO y1 fun w7 =>
  some w7
theorem run_impl_validShape (a0 : TShape) (r : Bool) (h : F_impl_validShape a0 = some r) : Fun Try.prog 165 [.agg [.v (.int .i64 a0.fLayer), .v (.int .i64 a0.fBox.fX0), .v (.int .i64 a0.fBox.fY0), .v (.int .i64 a0.fBox.fX1), .v (.int .i64 a0.fBox.fY1)]] [] (.c (.v (.bool r))) [] true := by
  refine Fun.of_wp (oneOf [1]) tok mixed Try.func165 (by kernel_rfl) rfl Try.ntmps165 rfl trivial (fun _ => ⟨trivial, trivial⟩) ?_
  unfold F_impl_validShape at h
  have hf_impl_IsValidRect := @run_impl_IsValidRect
  have hf_impl_within := @run_impl_within
  generalize hLEN : @len = LEN at *
  generalize hGD : @gd = GD at *
  generalize hA : std = A at *
  generalize hP : Try.prog = P at *
  cbv
  replace h := of_bind h
  obtain ⟨y1, hy2, h⟩ := h
  obtain ⟨S5, hS6⟩ : ∃ S, S = (sparse 11 [(2, .c (.v (.bool y1)))] []) := ⟨_, rfl⟩
  refine ⟨S5, ?_, ?_⟩
  · clear h
    have h := hy2
    clear hy2
    cbv
    replace h := of_bind h
    obtain ⟨y8, hy9, h⟩ := h
    refine ⟨{ args := [.c (.v (.int .i64 a0.fLayer)), .c (.v (.int .i64 0)), .c (.v (.int .i64 7))], o0 := [], r := .c (.v (.bool y8)), o1 := [], fl := true, σ := [], τ := [] }, hf_impl_within _ _ _ _ hy9, ⟨les_cons (AV.le_refl _) (les_cons (AV.le_refl _) (les_cons (AV.le_refl _) (les_nil))), trivial, rfl, rfl, rfl, rfl, trivial, rfl⟩, ?_⟩
    cbv
    refine fork (fun b12 => ?_) (fun b12 => ?_)
    · replace h := of_br_t b12 h
      cbv
      replace h := of_bind h
      obtain ⟨y10, hy11, h⟩ := h
      refine ⟨{ args := [.agg [.v (.int .i64 a0.fBox.fX0), .v (.int .i64 a0.fBox.fY0), .v (.int .i64 a0.fBox.fX1), .v (.int .i64 a0.fBox.fY1)]], o0 := [], r := .c (.v (.bool y10)), o1 := [], fl := true, σ := [], τ := [] }, hf_impl_IsValidRect _ _ hy11, ⟨les_cons (AV.le_refl _) (les_nil), trivial, rfl, rfl, rfl, rfl, trivial, rfl⟩, ?_⟩
      cbv
      injection h with h
      subst h
      subst hS6
      show St.le _ _
      exact le_sparse rfl ⟨AV.le_refl _, trivial⟩ trivial rfl
    · replace h := of_br_f b12 h
      cbv
      injection h with h
      subst h
      subst hS6
      show St.le _ _
      exact le_sparse rfl ⟨AV.le_refl _, trivial⟩ trivial rfl
  · clear hy2
    subst hS6
    replace h := of_let h
    obtain ⟨w7, hw7, h⟩ := h
    have hw7 : w7 = y1 := hw7
    subst hw7
    cbv
    injection h with h
    subst h
    refine ⟨(sparse 11 [(2, .c (.v (.bool w7)))] []), ?_, ?_⟩
    · exact le_sparse rfl ⟨AV.le_refl _, trivial⟩ trivial rfl
    · exact ⟨AV.le_refl _, trivial, rfl⟩

/-- impl.validCell$1 -/
noncomputable def F_impl_validCell_1 (a0 : TShape) : Option (Bool) :=
  (F_impl_validShape (TShape.mk a0.fLayer a0.fBox)).bind fun y1 =>
  some (!(y1))
theorem run_impl_validCell_1 (a0 : TShape) (r : Bool) (h : F_impl_validCell_1 a0 = some r) : Fun Try.prog 193 [.agg [.v (.int .i64 a0.fLayer), .v (.int .i64 a0.fBox.fX0), .v (.int .i64 a0.fBox.fY0), .v (.int .i64 a0.fBox.fX1), .v (.int .i64 a0.fBox.fY1)]] [] (.c (.v (.bool r))) [] true := by
  refine Fun.of_wp (oneOf []) tok mixed Try.func193 (by kernel_rfl) rfl Try.ntmps193 rfl trivial (fun _ => ⟨trivial, trivial⟩) ?_
  unfold F_impl_validCell_1 at h
  have hf_impl_validShape := @run_impl_validShape
  generalize hLEN : @len = LEN at *
  generalize hGD : @gd = GD at *
  generalize hA : std = A at *
  generalize hP : Try.prog = P at *
  cbv
  replace h := of_bind h
  obtain ⟨y1, hy2, h⟩ := h
  refine ⟨{ args := [.agg [.v (.int .i64 a0.fLayer), .v (.int .i64 a0.fBox.fX0), .v (.int .i64 a0.fBox.fY0), .v (.int .i64 a0.fBox.fX1), .v (.int .i64 a0.fBox.fY1)]], o0 := [], r := .c (.v (.bool y1)), o1 := [], fl := true, σ := [], τ := [] }, hf_impl_validShape _ _ hy2, ⟨les_cons (AV.le_refl _) (les_nil), trivial, rfl, rfl, rfl, rfl, trivial, rfl⟩, ?_⟩
  cbv
  injection h with h
  subst h
  refine ⟨(sparse 6 [(2, .c (.v (.bool (!(y1)))))] []), ?_, ?_⟩
  · exact le_sparse rfl ⟨AV.le_refl _, trivial⟩ trivial rfl
  · exact ⟨AV.le_refl _, trivial, rfl⟩

noncomputable def L_slices_IndexFunc_Limpl_Shape_impl_Shape_mbFimpl_validCell_1_x2 (a0 : List TShape) : (Int) → Option ((Int) ⊕ ((Int) ⊕ (Unit))) := fun x2 =>
  letO x2 fun v1 =>
  br (std.lt v1 (std.ofN (len a0)))
  (req (std.inR v1 (len a0)) <|
  (F_impl_validCell_1 (gd a0 (std.toN v1))).bind fun y15 =>
  br y15
  (some (.inr (.inl v1)))
  (some (.inl (std.add .i64 v1 1))))
  (some (.inr (.inr ())))
/-- impl.Shape] -/
noncomputable def F_slices_IndexFunc_Limpl_Shape_impl_Shape_mbFimpl_validCell_1 (a0 : List TShape) : Option (Int) :=
  (whileP (σ := Int) (ρ := (Int) ⊕ (Unit)) (L_slices_IndexFunc_Limpl_Shape_impl_Shape_mbFimpl_validCell_1_x2 a0) 0).bind fun y3 =>
  (match y3 with
    | .inl y3k0 => (
        letO y3k0 fun w19 =>
        some w19)
    | .inr y3m0 =>
        some (-1))
theorem run_slices_IndexFunc_Limpl_Shape_impl_Shape_mbFimpl_validCell_1 (a0 : List TShape) (r : Int) (h : F_slices_IndexFunc_Limpl_Shape_impl_Shape_mbFimpl_validCell_1 a0 = some r) : Fun Try.prog 218 [.c (.bs (len a0) 5 (row gd (encShape) a0)), .c (.fn 193 0 fun _ => .junk)] [] (.c (.v (.int .i64 r))) [] true := by
  refine Fun.of_wp (oneOf []) tok mixed Try.func218 (by kernel_rfl) rfl Try.ntmps218 rfl trivial (fun _ => ⟨trivial, trivial⟩) ?_
  unfold F_slices_IndexFunc_Limpl_Shape_impl_Shape_mbFimpl_validCell_1 at h
  unfold L_slices_IndexFunc_Limpl_Shape_impl_Shape_mbFimpl_validCell_1_x2 at h
  have hf_impl_validCell_1 := @run_impl_validCell_1
  generalize hLEN : @len = LEN at *
  generalize hGD : @gd = GD at *
  generalize hA : std = A at *
  generalize hP : Try.prog = P at *
  cbv
  replace h := of_bind h
  obtain ⟨y3, hr4, hN5⟩ := h
  refine loop_cut hr4 (fun x => (sparse 19 [(0, .c (.bs (LEN a0) 5 (row GD (encShape) a0))), (1, .c (.fn 193 0 fun _ => .junk)), (7, .c (.v (.int .i64 (A.ofN (LEN a0))))), (8, .c (.v (.int .i64 x)))] [])) ?_ (fun y e s => (match y with | .inl w => e = .ret ∧ s.le (sparse 19 [(4, .c (.v (.int .i64 w)))] []) | .inr w0 => (fun (w : Unit) => e = .exit 0 ∧ s.le (sparse 19 [] [])) w0)) ?_ ?_
  · clear hr4 hN5
    show St.le _ _
    exact le_sparse rfl ⟨AV.le_refl _, AV.le_refl _, AV.le_refl _, AV.le_refl _, trivial⟩ trivial rfl
  · clear hr4 hN5
    intro x z9 h K7 hK8 hY6
    replace h := of_let h
    obtain ⟨v1, hv1, h⟩ := h
    have hv1 : v1 = x := hv1
    subst hv1
    cbv
    refine fork (fun b18 => ?_) (fun b18 => ?_)
    · replace h := of_br_t b18 h
      cbv
      replace h := of_req h
      obtain ⟨c14, h⟩ := h
      refine ⟨⟨c14, trivial⟩, ?_⟩
      replace h := of_bind h
      obtain ⟨y15, hy16, h⟩ := h
      refine ⟨{ args := [.agg [.v (.int .i64 (GD a0 (A.toN v1)).fLayer), .v (.int .i64 (GD a0 (A.toN v1)).fBox.fX0), .v (.int .i64 (GD a0 (A.toN v1)).fBox.fY0), .v (.int .i64 (GD a0 (A.toN v1)).fBox.fX1), .v (.int .i64 (GD a0 (A.toN v1)).fBox.fY1)]], o0 := [], r := .c (.v (.bool y15)), o1 := [], fl := true, σ := [], τ := [] }, hf_impl_validCell_1 _ _ hy16, ⟨les_cons (AV.le_refl _) (les_nil), trivial, rfl, rfl, rfl, rfl, trivial, rfl⟩, ?_⟩
      cbv
      refine fork (fun b17 => ?_) (fun b17 => ?_)
      · replace h := of_br_t b17 h
        cbv
        injection h with h
        refine hY6 _ h.symm _ _ (And.intro rfl ?_) (by intro hh; cases hh)
        exact le_sparse rfl ⟨AV.le_refl _, trivial⟩ trivial rfl
      · replace h := of_br_f b17 h
        cbv
        injection h with h
        refine hK8 _ h.symm _ ?_
        exact le_sparse rfl ⟨AV.le_refl _, AV.le_refl _, AV.le_refl _, AV.le_refl _, trivial⟩ trivial rfl
    · replace h := of_br_f b18 h
      cbv
      injection h with h
      refine hY6 _ h.symm _ _ (And.intro rfl ?_) (by intro hh; cases hh)
      exact le_sparse rfl trivial trivial rfl
  · clear hr4
    have h := hN5
    clear hN5
    intro e12 s13 q11 hne
    rcases y3 with y3k0 | y3m0
    · replace h := h
      obtain ⟨rfl, q11⟩ := q11
      replace h := of_let h
      obtain ⟨w19, hw19, h⟩ := h
      have hw19 : w19 = y3k0 := hw19
      subst hw19
      cbv
      injection h with h
      subst h
      refine ⟨(sparse 19 [(4, .c (.v (.int .i64 w19)))] []), ?_, ?_⟩
      · refine St.le_trans q11 ?_
        exact le_sparse rfl ⟨AV.le_refl _, trivial⟩ trivial rfl
      · exact ⟨AV.le_refl _, trivial, rfl⟩
    · obtain ⟨rfl, q11⟩ := q11
      cbv
      refine ⟨_, q11, ?_⟩
      cbv
      injection h with h
      subst h
      refine ⟨(sparse 19 [(4, .c (.v (.int .i64 (-1))))] []), ?_, ?_⟩
      · exact le_sparse rfl ⟨AV.le_refl _, trivial⟩ trivial rfl
      · exact ⟨AV.le_refl _, trivial, rfl⟩

/-- impl.Shape] -/
noncomputable def F_slices_ContainsFunc_Limpl_Shape_impl_Shape_mbFimpl_validCell_1 (a0 : List TShape) : Option (Bool) :=
  (F_slices_IndexFunc_Limpl_Shape_impl_Shape_mbFimpl_validCell_1 a0).bind fun y1 =>
  some (std.le 0 y1)
theorem run_slices_ContainsFunc_Limpl_Shape_impl_Shape_mbFimpl_validCell_1 (a0 : List TShape) (r : Bool) (h : F_slices_ContainsFunc_Limpl_Shape_impl_Shape_mbFimpl_validCell_1 a0 = some r) : Fun Try.prog 192 [.c (.bs (len a0) 5 (row gd (encShape) a0)), .c (.fn 193 0 fun _ => .junk)] [] (.c (.v (.bool r))) [] true := by
  refine Fun.of_wp (oneOf []) tok mixed Try.func192 (by kernel_rfl) rfl Try.ntmps192 rfl trivial (fun _ => ⟨trivial, trivial⟩) ?_
  unfold F_slices_ContainsFunc_Limpl_Shape_impl_Shape_mbFimpl_validCell_1 at h
  have hf_slices_IndexFunc_Limpl_Shape_impl_Shape_mbFimpl_validCell_1 := @run_slices_IndexFunc_Limpl_Shape_impl_Shape_mbFimpl_validCell_1
  generalize hLEN : @len = LEN at *
  generalize hGD : @gd = GD at *
  generalize hA : std = A at *
  generalize hP : Try.prog = P at *
  cbv
  replace h := of_bind h
  obtain ⟨y1, hy2, h⟩ := h
  refine ⟨{ args := [.c (.bs (LEN a0) 5 (row GD (encShape) a0)), .c (.fn 193 0 fun _ => .junk)], o0 := [], r := .c (.v (.int .i64 y1)), o1 := [], fl := true, σ := [], τ := [] }, hf_slices_IndexFunc_Limpl_Shape_impl_Shape_mbFimpl_validCell_1 _ _ hy2, ⟨les_cons (AV.le_refl _) (les_cons (AV.le_refl _) (les_nil)), trivial, rfl, rfl, rfl, rfl, trivial, rfl⟩, ?_⟩
  cbv
  injection h with h
  subst h
  refine ⟨(sparse 9 [(4, .c (.v (.bool (A.le 0 y1))))] []), ?_, ?_⟩
  · exact le_sparse rfl ⟨AV.le_refl _, trivial⟩ trivial rfl
  · exact ⟨AV.le_refl _, trivial, rfl⟩

/-- impl.isUnitCell -/
noncomputable def F_impl_isUnitCell (a0 : TPoint) : Option (Bool) :=
  ((
        (F_impl_within a0.fX (-40) 39).bind fun y8 =>
        br y8
        ((F_impl_within a0.fY (-40) 39).bind fun y10 =>
        some y10)
        (some false)
    ) : Option (Bool)).bind fun y1 =>
  letO y1 fun w7 =>
  some w7
theorem run_impl_isUnitCell (a0 : TPoint) (r : Bool) (h : F_impl_isUnitCell a0 = some r) : Fun Try.prog 212 [.agg [.v (.int .i64 a0.fX), .v (.int .i64 a0.fY)]] [] (.c (.v (.bool r))) [] true := by
  refine Fun.of_wp (oneOf [1]) tok mixed Try.func212 (by kernel_rfl) rfl Try.ntmps212 rfl trivial (fun _ => ⟨trivial, trivial⟩) ?_
  unfold F_impl_isUnitCell at h
  have hf_impl_within := @run_impl_within
  generalize hLEN : @len = LEN at *
  generalize hGD : @gd = GD at *
  generalize hA : std = A at *
  generalize hP : Try.prog = P at *
  cbv
  replace h := of_bind h
  obtain ⟨y1, hy2, h⟩ := h
  obtain ⟨S5, hS6⟩ : ∃ S, S = (sparse 11 [(2, .c (.v (.bool y1)))] []) := ⟨_, rfl⟩
  refine ⟨S5, ?_, ?_⟩
  · clear h
    have h := hy2
    clear hy2
    cbv
    replace h := of_bind h
    obtain ⟨y8, hy9, h⟩ := h
    refine ⟨{ args := [.c (.v (.int .i64 a0.fX)), .c (.v (.int .i64 (-40))), .c (.v (.int .i64 39))], o0 := [], r := .c (.v (.bool y8)), o1 := [], fl := true, σ := [], τ := [] }, hf_impl_within _ _ _ _ hy9, ⟨les_cons (AV.le_refl _) (les_cons (AV.le_refl _) (les_cons (AV.le_refl _) (les_nil))), trivial, rfl, rfl, rfl, rfl, trivial, rfl⟩, ?_⟩
    cbv
    refine fork (fun b12 => ?_) (fun b12 => ?_)
    · replace h := of_br_t b12 h
      cbv
      replace h := of_bind h
      obtain ⟨y10, hy11, h⟩ := h
      refine ⟨{ args := [.c (.v (.int .i64 a0.fY)), .c (.v (.int .i64 (-40))), .c (.v (.int .i64 39))], o0 := [], r := .c (.v (.bool y10)), o1 := [], fl := true, σ := [], τ := [] }, hf_impl_within _ _ _ _ hy11, ⟨les_cons (AV.le_refl _) (les_cons (AV.le_refl _) (les_cons (AV.le_refl _) (les_nil))), trivial, rfl, rfl, rfl, rfl, trivial, rfl⟩, ?_⟩
      cbv
      injection h with h
      subst h
      subst hS6
      show St.le _ _
      exact le_sparse rfl ⟨AV.le_refl _, trivial⟩ trivial rfl
    · replace h := of_br_f b12 h
      cbv
      injection h with h
      subst h
      subst hS6
      show St.le _ _
      exact le_sparse rfl ⟨AV.le_refl _, trivial⟩ trivial rfl
  · clear hy2
    subst hS6
    replace h := of_let h
    obtain ⟨w7, hw7, h⟩ := h
    have hw7 : w7 = y1 := hw7
    subst hw7
    cbv
    injection h with h
    subst h
    refine ⟨(sparse 11 [(2, .c (.v (.bool w7)))] []), ?_, ?_⟩
    · exact le_sparse rfl ⟨AV.le_refl _, trivial⟩ trivial rfl
    · exact ⟨AV.le_refl _, trivial, rfl⟩

/-- impl.validLabel -/
noncomputable def F_impl_validLabel (a0 : TLabel) : Option (Bool) :=
  ((
        (F_impl_within a0.fLayer 0 7).bind fun y8 =>
        br y8
        ((F_impl_isUnitCell a0.fAt).bind fun y10 =>
        br y10
        ((F_impl_IsName a0.fName).bind fun y12 =>
        some y12)
        (some false))
        (some false)
    ) : Option (Bool)).bind fun y1 =>
  letO y1 fun w7 =>
  some w7
theorem run_impl_validLabel (a0 : TLabel) (r : Bool) (h : F_impl_validLabel a0 = some r) : Fun Try.prog 166 [.agg [.v (.int .i64 a0.fLayer), .v (.int .i64 a0.fAt.fX), .v (.int .i64 a0.fAt.fY), .v (.string a0.fName)]] [] (.c (.v (.bool r))) [] true := by
  refine Fun.of_wp (oneOf [1]) tok mixed Try.func166 (by kernel_rfl) rfl Try.ntmps166 rfl trivial (fun _ => ⟨trivial, trivial⟩) ?_
  unfold F_impl_validLabel at h
  have hf_impl_IsName := @run_impl_IsName
  have hf_impl_isUnitCell := @run_impl_isUnitCell
  have hf_impl_within := @run_impl_within
  generalize hLEN : @len = LEN at *
  generalize hGD : @gd = GD at *
  generalize hA : std = A at *
  generalize hP : Try.prog = P at *
  cbv
  replace h := of_bind h
  obtain ⟨y1, hy2, h⟩ := h
  obtain ⟨S5, hS6⟩ : ∃ S, S = (sparse 16 [(2, .c (.v (.bool y1)))] []) := ⟨_, rfl⟩
  refine ⟨S5, ?_, ?_⟩
  · clear h
    have h := hy2
    clear hy2
    cbv
    replace h := of_bind h
    obtain ⟨y8, hy9, h⟩ := h
    refine ⟨{ args := [.c (.v (.int .i64 a0.fLayer)), .c (.v (.int .i64 0)), .c (.v (.int .i64 7))], o0 := [], r := .c (.v (.bool y8)), o1 := [], fl := true, σ := [], τ := [] }, hf_impl_within _ _ _ _ hy9, ⟨les_cons (AV.le_refl _) (les_cons (AV.le_refl _) (les_cons (AV.le_refl _) (les_nil))), trivial, rfl, rfl, rfl, rfl, trivial, rfl⟩, ?_⟩
    cbv
    refine fork (fun b15 => ?_) (fun b15 => ?_)
    · replace h := of_br_t b15 h
      cbv
      replace h := of_bind h
      obtain ⟨y10, hy11, h⟩ := h
      refine ⟨{ args := [.agg [.v (.int .i64 a0.fAt.fX), .v (.int .i64 a0.fAt.fY)]], o0 := [], r := .c (.v (.bool y10)), o1 := [], fl := true, σ := [], τ := [] }, hf_impl_isUnitCell _ _ hy11, ⟨les_cons (AV.le_refl _) (les_nil), trivial, rfl, rfl, rfl, rfl, trivial, rfl⟩, ?_⟩
      cbv
      refine fork (fun b14 => ?_) (fun b14 => ?_)
      · replace h := of_br_t b14 h
        cbv
        replace h := of_bind h
        obtain ⟨y12, hy13, h⟩ := h
        refine ⟨{ args := [.c (.v (.string a0.fName))], o0 := [], r := .c (.v (.bool y12)), o1 := [], fl := true, σ := [], τ := [] }, hf_impl_IsName _ _ hy13, ⟨les_cons (AV.le_refl _) (les_nil), trivial, rfl, rfl, rfl, rfl, trivial, rfl⟩, ?_⟩
        cbv
        injection h with h
        subst h
        subst hS6
        show St.le _ _
        exact le_sparse rfl ⟨AV.le_refl _, trivial⟩ trivial rfl
      · replace h := of_br_f b14 h
        cbv
        injection h with h
        subst h
        subst hS6
        show St.le _ _
        exact le_sparse rfl ⟨AV.le_refl _, trivial⟩ trivial rfl
    · replace h := of_br_f b15 h
      cbv
      injection h with h
      subst h
      subst hS6
      show St.le _ _
      exact le_sparse rfl ⟨AV.le_refl _, trivial⟩ trivial rfl
  · clear hy2
    subst hS6
    replace h := of_let h
    obtain ⟨w7, hw7, h⟩ := h
    have hw7 : w7 = y1 := hw7
    subst hw7
    cbv
    injection h with h
    subst h
    refine ⟨(sparse 16 [(2, .c (.v (.bool w7)))] []), ?_, ?_⟩
    · exact le_sparse rfl ⟨AV.le_refl _, trivial⟩ trivial rfl
    · exact ⟨AV.le_refl _, trivial, rfl⟩
/-- impl.validCell$2 -/
noncomputable def F_impl_validCell_2 (a0 : TLabel) : Option (Bool) :=
  (F_impl_validLabel (TLabel.mk a0.fLayer a0.fAt a0.fName)).bind fun y1 =>
  some (!(y1))
theorem run_impl_validCell_2 (a0 : TLabel) (r : Bool) (h : F_impl_validCell_2 a0 = some r) : Fun Try.prog 195 [.agg [.v (.int .i64 a0.fLayer), .v (.int .i64 a0.fAt.fX), .v (.int .i64 a0.fAt.fY), .v (.string a0.fName)]] [] (.c (.v (.bool r))) [] true := by
  refine Fun.of_wp (oneOf []) tok mixed Try.func195 (by kernel_rfl) rfl Try.ntmps195 rfl trivial (fun _ => ⟨trivial, trivial⟩) ?_
  unfold F_impl_validCell_2 at h
  have hf_impl_validLabel := @run_impl_validLabel
  generalize hLEN : @len = LEN at *
  generalize hGD : @gd = GD at *
  generalize hA : std = A at *
  generalize hP : Try.prog = P at *
  cbv
  replace h := of_bind h
  obtain ⟨y1, hy2, h⟩ := h
  refine ⟨{ args := [.agg [.v (.int .i64 a0.fLayer), .v (.int .i64 a0.fAt.fX), .v (.int .i64 a0.fAt.fY), .v (.string a0.fName)]], o0 := [], r := .c (.v (.bool y1)), o1 := [], fl := true, σ := [], τ := [] }, hf_impl_validLabel _ _ hy2, ⟨les_cons (AV.le_refl _) (les_nil), trivial, rfl, rfl, rfl, rfl, trivial, rfl⟩, ?_⟩
  cbv
  injection h with h
  subst h
  refine ⟨(sparse 6 [(2, .c (.v (.bool (!(y1)))))] []), ?_, ?_⟩
  · exact le_sparse rfl ⟨AV.le_refl _, trivial⟩ trivial rfl
  · exact ⟨AV.le_refl _, trivial, rfl⟩

noncomputable def L_slices_IndexFunc_Limpl_Label_impl_Label_mbFimpl_validCell_2_x2 (a0 : List TLabel) : (Int) → Option ((Int) ⊕ ((Int) ⊕ (Unit))) := fun x2 =>
  letO x2 fun v1 =>
  br (std.lt v1 (std.ofN (len a0)))
  (req (std.inR v1 (len a0)) <|
  (F_impl_validCell_2 (gd a0 (std.toN v1))).bind fun y15 =>
  br y15
  (some (.inr (.inl v1)))
  (some (.inl (std.add .i64 v1 1))))
  (some (.inr (.inr ())))
/-- impl.Label] -/
noncomputable def F_slices_IndexFunc_Limpl_Label_impl_Label_mbFimpl_validCell_2 (a0 : List TLabel) : Option (Int) :=
  (whileP (σ := Int) (ρ := (Int) ⊕ (Unit)) (L_slices_IndexFunc_Limpl_Label_impl_Label_mbFimpl_validCell_2_x2 a0) 0).bind fun y3 =>
  (match y3 with
    | .inl y3k0 => (
        letO y3k0 fun w19 =>
        some w19)
    | .inr y3m0 =>
        some (-1))
theorem run_slices_IndexFunc_Limpl_Label_impl_Label_mbFimpl_validCell_2 (a0 : List TLabel) (r : Int) (h : F_slices_IndexFunc_Limpl_Label_impl_Label_mbFimpl_validCell_2 a0 = some r) : Fun Try.prog 219 [.c (.bs (len a0) 4 (row gd (encLabel) a0)), .c (.fn 195 0 fun _ => .junk)] [] (.c (.v (.int .i64 r))) [] true := by
  refine Fun.of_wp (oneOf []) tok mixed Try.func219 (by kernel_rfl) rfl Try.ntmps219 rfl trivial (fun _ => ⟨trivial, trivial⟩) ?_
  unfold F_slices_IndexFunc_Limpl_Label_impl_Label_mbFimpl_validCell_2 at h
  unfold L_slices_IndexFunc_Limpl_Label_impl_Label_mbFimpl_validCell_2_x2 at h
  have hf_impl_validCell_2 := @run_impl_validCell_2
  generalize hLEN : @len = LEN at *
  generalize hGD : @gd = GD at *
  generalize hA : std = A at *
  generalize hP : Try.prog = P at *
  cbv
  replace h := of_bind h
  obtain ⟨y3, hr4, hN5⟩ := h
  refine loop_cut hr4 (fun x => (sparse 19 [(0, .c (.bs (LEN a0) 4 (row GD (encLabel) a0))), (1, .c (.fn 195 0 fun _ => .junk)), (7, .c (.v (.int .i64 (A.ofN (LEN a0))))), (8, .c (.v (.int .i64 x)))] [])) ?_ (fun y e s => (match y with | .inl w => e = .ret ∧ s.le (sparse 19 [(4, .c (.v (.int .i64 w)))] []) | .inr w0 => (fun (w : Unit) => e = .exit 0 ∧ s.le (sparse 19 [] [])) w0)) ?_ ?_
  · clear hr4 hN5
    show St.le _ _
    exact le_sparse rfl ⟨AV.le_refl _, AV.le_refl _, AV.le_refl _, AV.le_refl _, trivial⟩ trivial rfl
  · clear hr4 hN5
    intro x z9 h K7 hK8 hY6
    replace h := of_let h
    obtain ⟨v1, hv1, h⟩ := h
    have hv1 : v1 = x := hv1
    subst hv1
    cbv
    refine fork (fun b18 => ?_) (fun b18 => ?_)
    · replace h := of_br_t b18 h
      cbv
      replace h := of_req h
      obtain ⟨c14, h⟩ := h
      refine ⟨⟨c14, trivial⟩, ?_⟩
      replace h := of_bind h
      obtain ⟨y15, hy16, h⟩ := h
      refine ⟨{ args := [.agg [.v (.int .i64 (GD a0 (A.toN v1)).fLayer), .v (.int .i64 (GD a0 (A.toN v1)).fAt.fX), .v (.int .i64 (GD a0 (A.toN v1)).fAt.fY), .v (.string (GD a0 (A.toN v1)).fName)]], o0 := [], r := .c (.v (.bool y15)), o1 := [], fl := true, σ := [], τ := [] }, hf_impl_validCell_2 _ _ hy16, ⟨les_cons (AV.le_refl _) (les_nil), trivial, rfl, rfl, rfl, rfl, trivial, rfl⟩, ?_⟩
      cbv
      refine fork (fun b17 => ?_) (fun b17 => ?_)
      · replace h := of_br_t b17 h
        cbv
        injection h with h
        refine hY6 _ h.symm _ _ (And.intro rfl ?_) (by intro hh; cases hh)
        exact le_sparse rfl ⟨AV.le_refl _, trivial⟩ trivial rfl
      · replace h := of_br_f b17 h
        cbv
        injection h with h
        refine hK8 _ h.symm _ ?_
        exact le_sparse rfl ⟨AV.le_refl _, AV.le_refl _, AV.le_refl _, AV.le_refl _, trivial⟩ trivial rfl
    · replace h := of_br_f b18 h
      cbv
      injection h with h
      refine hY6 _ h.symm _ _ (And.intro rfl ?_) (by intro hh; cases hh)
      exact le_sparse rfl trivial trivial rfl
  · clear hr4
    have h := hN5
    clear hN5
    intro e12 s13 q11 hne
    rcases y3 with y3k0 | y3m0
    · replace h := h
      obtain ⟨rfl, q11⟩ := q11
      replace h := of_let h
      obtain ⟨w19, hw19, h⟩ := h
      have hw19 : w19 = y3k0 := hw19
      subst hw19
      cbv
      injection h with h
      subst h
      refine ⟨(sparse 19 [(4, .c (.v (.int .i64 w19)))] []), ?_, ?_⟩
      · refine St.le_trans q11 ?_
        exact le_sparse rfl ⟨AV.le_refl _, trivial⟩ trivial rfl
      · exact ⟨AV.le_refl _, trivial, rfl⟩
    · obtain ⟨rfl, q11⟩ := q11
      cbv
      refine ⟨_, q11, ?_⟩
      cbv
      injection h with h
      subst h
      refine ⟨(sparse 19 [(4, .c (.v (.int .i64 (-1))))] []), ?_, ?_⟩
      · exact le_sparse rfl ⟨AV.le_refl _, trivial⟩ trivial rfl
      · exact ⟨AV.le_refl _, trivial, rfl⟩

/-- impl.Label] -/
noncomputable def F_slices_ContainsFunc_Limpl_Label_impl_Label_mbFimpl_validCell_2 (a0 : List TLabel) : Option (Bool) :=
  (F_slices_IndexFunc_Limpl_Label_impl_Label_mbFimpl_validCell_2 a0).bind fun y1 =>
  some (std.le 0 y1)
theorem run_slices_ContainsFunc_Limpl_Label_impl_Label_mbFimpl_validCell_2 (a0 : List TLabel) (r : Bool) (h : F_slices_ContainsFunc_Limpl_Label_impl_Label_mbFimpl_validCell_2 a0 = some r) : Fun Try.prog 194 [.c (.bs (len a0) 4 (row gd (encLabel) a0)), .c (.fn 195 0 fun _ => .junk)] [] (.c (.v (.bool r))) [] true := by
  refine Fun.of_wp (oneOf []) tok mixed Try.func194 (by kernel_rfl) rfl Try.ntmps194 rfl trivial (fun _ => ⟨trivial, trivial⟩) ?_
  unfold F_slices_ContainsFunc_Limpl_Label_impl_Label_mbFimpl_validCell_2 at h
  have hf_slices_IndexFunc_Limpl_Label_impl_Label_mbFimpl_validCell_2 := @run_slices_IndexFunc_Limpl_Label_impl_Label_mbFimpl_validCell_2
  generalize hLEN : @len = LEN at *
  generalize hGD : @gd = GD at *
  generalize hA : std = A at *
  generalize hP : Try.prog = P at *
  cbv
  replace h := of_bind h
  obtain ⟨y1, hy2, h⟩ := h
  refine ⟨{ args := [.c (.bs (LEN a0) 4 (row GD (encLabel) a0)), .c (.fn 195 0 fun _ => .junk)], o0 := [], r := .c (.v (.int .i64 y1)), o1 := [], fl := true, σ := [], τ := [] }, hf_slices_IndexFunc_Limpl_Label_impl_Label_mbFimpl_validCell_2 _ _ hy2, ⟨les_cons (AV.le_refl _) (les_cons (AV.le_refl _) (les_nil)), trivial, rfl, rfl, rfl, rfl, trivial, rfl⟩, ?_⟩
  cbv
  injection h with h
  subst h
  refine ⟨(sparse 9 [(4, .c (.v (.bool (A.le 0 y1))))] []), ?_, ?_⟩
  · exact le_sparse rfl ⟨AV.le_refl _, trivial⟩ trivial rfl
  · exact ⟨AV.le_refl _, trivial, rfl⟩

/-- impl.IsValidTransform -/
noncomputable def F_impl_IsValidTransform (a0 : TTransform) : Option (Bool) :=
  ((
        (F_impl_within a0.fOrientation 0 7).bind fun y8 =>
        br y8
        ((F_impl_within a0.fX (-80) 80).bind fun y10 =>
        br y10
        ((F_impl_within a0.fY (-80) 80).bind fun y12 =>
        some y12)
        (some false))
        (some false)
    ) : Option (Bool)).bind fun y1 =>
  letO y1 fun w7 =>
  some w7
theorem run_impl_IsValidTransform (a0 : TTransform) (r : Bool) (h : F_impl_IsValidTransform a0 = some r) : Fun Try.prog 213 [.agg [.v (.int .i64 a0.fOrientation), .v (.int .i64 a0.fX), .v (.int .i64 a0.fY)]] [] (.c (.v (.bool r))) [] true := by
  refine Fun.of_wp (oneOf [1]) tok mixed Try.func213 (by kernel_rfl) rfl Try.ntmps213 rfl trivial (fun _ => ⟨trivial, trivial⟩) ?_
  unfold F_impl_IsValidTransform at h
  have hf_impl_within := @run_impl_within
  generalize hLEN : @len = LEN at *
  generalize hGD : @gd = GD at *
  generalize hA : std = A at *
  generalize hP : Try.prog = P at *
  cbv
  replace h := of_bind h
  obtain ⟨y1, hy2, h⟩ := h
  obtain ⟨S5, hS6⟩ : ∃ S, S = (sparse 16 [(2, .c (.v (.bool y1)))] []) := ⟨_, rfl⟩
  refine ⟨S5, ?_, ?_⟩
  · clear h
    have h := hy2
    clear hy2
    cbv
    replace h := of_bind h
    obtain ⟨y8, hy9, h⟩ := h
    refine ⟨{ args := [.c (.v (.int .i64 a0.fOrientation)), .c (.v (.int .i64 0)), .c (.v (.int .i64 7))], o0 := [], r := .c (.v (.bool y8)), o1 := [], fl := true, σ := [], τ := [] }, hf_impl_within _ _ _ _ hy9, ⟨les_cons (AV.le_refl _) (les_cons (AV.le_refl _) (les_cons (AV.le_refl _) (les_nil))), trivial, rfl, rfl, rfl, rfl, trivial, rfl⟩, ?_⟩
    cbv
    refine fork (fun b15 => ?_) (fun b15 => ?_)
    · replace h := of_br_t b15 h
      cbv
      replace h := of_bind h
      obtain ⟨y10, hy11, h⟩ := h
      refine ⟨{ args := [.c (.v (.int .i64 a0.fX)), .c (.v (.int .i64 (-80))), .c (.v (.int .i64 80))], o0 := [], r := .c (.v (.bool y10)), o1 := [], fl := true, σ := [], τ := [] }, hf_impl_within _ _ _ _ hy11, ⟨les_cons (AV.le_refl _) (les_cons (AV.le_refl _) (les_cons (AV.le_refl _) (les_nil))), trivial, rfl, rfl, rfl, rfl, trivial, rfl⟩, ?_⟩
      cbv
      refine fork (fun b14 => ?_) (fun b14 => ?_)
      · replace h := of_br_t b14 h
        cbv
        replace h := of_bind h
        obtain ⟨y12, hy13, h⟩ := h
        refine ⟨{ args := [.c (.v (.int .i64 a0.fY)), .c (.v (.int .i64 (-80))), .c (.v (.int .i64 80))], o0 := [], r := .c (.v (.bool y12)), o1 := [], fl := true, σ := [], τ := [] }, hf_impl_within _ _ _ _ hy13, ⟨les_cons (AV.le_refl _) (les_cons (AV.le_refl _) (les_cons (AV.le_refl _) (les_nil))), trivial, rfl, rfl, rfl, rfl, trivial, rfl⟩, ?_⟩
        cbv
        injection h with h
        subst h
        subst hS6
        show St.le _ _
        exact le_sparse rfl ⟨AV.le_refl _, trivial⟩ trivial rfl
      · replace h := of_br_f b14 h
        cbv
        injection h with h
        subst h
        subst hS6
        show St.le _ _
        exact le_sparse rfl ⟨AV.le_refl _, trivial⟩ trivial rfl
    · replace h := of_br_f b15 h
      cbv
      injection h with h
      subst h
      subst hS6
      show St.le _ _
      exact le_sparse rfl ⟨AV.le_refl _, trivial⟩ trivial rfl
  · clear hy2
    subst hS6
    replace h := of_let h
    obtain ⟨w7, hw7, h⟩ := h
    have hw7 : w7 = y1 := hw7
    subst hw7
    cbv
    injection h with h
    subst h
    refine ⟨(sparse 16 [(2, .c (.v (.bool w7)))] []), ?_, ?_⟩
    · exact le_sparse rfl ⟨AV.le_refl _, trivial⟩ trivial rfl
    · exact ⟨AV.le_refl _, trivial, rfl⟩

/-- impl.validInstance -/
noncomputable def F_impl_validInstance (a0 : TInstance) (a1 : Int) : Option (Bool) :=
  ((
        (F_impl_within a0.fCell 0 (std.sub .i64 a1 1)).bind fun y8 =>
        br y8
        ((F_impl_IsValidTransform a0.fPlace).bind fun y10 =>
        br y10
        ((F_impl_within a0.fColumns 1 4).bind fun y12 =>
        br y12
        ((F_impl_within a0.fRows 1 4).bind fun y14 =>
        br y14
        ((F_impl_within a0.fStepX (-80) 80).bind fun y16 =>
        br y16
        ((F_impl_within a0.fStepY (-80) 80).bind fun y18 =>
        br y18
        (br (std.eq a0.fStepX 0)
        (br (std.eq a0.fStepY 0)
        (some true)
        (some (std.lt 1 a0.fRows)))
        (br (std.lt 1 a0.fColumns)
        (br (std.eq a0.fStepY 0)
        (some true)
        (some (std.lt 1 a0.fRows)))
        (some false)))
        (some false))
        (some false))
        (some false))
        (some false))
        (some false))
        (some false)
    ) : Option (Bool)).bind fun y1 =>
  letO y1 fun w7 =>
  some w7
theorem run_impl_validInstance (a0 : TInstance) (a1 : Int) (r : Bool) (h : F_impl_validInstance a0 a1 = some r) : Fun Try.prog 167 [.agg [.v (.int .i64 a0.fCell), .v (.int .i64 a0.fPlace.fOrientation), .v (.int .i64 a0.fPlace.fX), .v (.int .i64 a0.fPlace.fY), .v (.int .i64 a0.fColumns), .v (.int .i64 a0.fRows), .v (.int .i64 a0.fStepX), .v (.int .i64 a0.fStepY)], .c (.v (.int .i64 a1))] [] (.c (.v (.bool r))) [] true := by
  refine Fun.of_wp (oneOf [1]) tok mixed Try.func167 (by kernel_rfl) rfl Try.ntmps167 rfl trivial (fun _ => ⟨trivial, trivial⟩) ?_
  unfold F_impl_validInstance at h
  have hf_impl_IsValidTransform := @run_impl_IsValidTransform
  have hf_impl_within := @run_impl_within
  generalize hLEN : @len = LEN at *
  generalize hGD : @gd = GD at *
  generalize hA : std = A at *
  generalize hP : Try.prog = P at *
  cbv
  replace h := of_bind h
  obtain ⟨y1, hy2, h⟩ := h
  obtain ⟨S5, hS6⟩ : ∃ S, S = (sparse 55 [(4, .c (.v (.bool y1)))] []) := ⟨_, rfl⟩
  refine ⟨S5, ?_, ?_⟩
  · clear h
    have h := hy2
    clear hy2
    cbv
    replace h := of_bind h
    obtain ⟨y8, hy9, h⟩ := h
    refine ⟨{ args := [.c (.v (.int .i64 a0.fCell)), .c (.v (.int .i64 0)), .c (.v (.int .i64 (A.sub .i64 a1 1)))], o0 := [], r := .c (.v (.bool y8)), o1 := [], fl := true, σ := [], τ := [] }, hf_impl_within _ _ _ _ hy9, ⟨les_cons (AV.le_refl _) (les_cons (AV.le_refl _) (les_cons (AV.le_refl _) (les_nil))), trivial, rfl, rfl, rfl, rfl, trivial, rfl⟩, ?_⟩
    cbv
    refine fork (fun b29 => ?_) (fun b29 => ?_)
    · replace h := of_br_t b29 h
      cbv
      replace h := of_bind h
      obtain ⟨y10, hy11, h⟩ := h
      refine ⟨{ args := [.agg [.v (.int .i64 a0.fPlace.fOrientation), .v (.int .i64 a0.fPlace.fX), .v (.int .i64 a0.fPlace.fY)]], o0 := [], r := .c (.v (.bool y10)), o1 := [], fl := true, σ := [], τ := [] }, hf_impl_IsValidTransform _ _ hy11, ⟨les_cons (AV.le_refl _) (les_nil), trivial, rfl, rfl, rfl, rfl, trivial, rfl⟩, ?_⟩
      cbv
      refine fork (fun b28 => ?_) (fun b28 => ?_)
      · replace h := of_br_t b28 h
        cbv
        replace h := of_bind h
        obtain ⟨y12, hy13, h⟩ := h
        refine ⟨{ args := [.c (.v (.int .i64 a0.fColumns)), .c (.v (.int .i64 1)), .c (.v (.int .i64 4))], o0 := [], r := .c (.v (.bool y12)), o1 := [], fl := true, σ := [], τ := [] }, hf_impl_within _ _ _ _ hy13, ⟨les_cons (AV.le_refl _) (les_cons (AV.le_refl _) (les_cons (AV.le_refl _) (les_nil))), trivial, rfl, rfl, rfl, rfl, trivial, rfl⟩, ?_⟩
        cbv
        refine fork (fun b27 => ?_) (fun b27 => ?_)
        · replace h := of_br_t b27 h
          cbv
          replace h := of_bind h
          obtain ⟨y14, hy15, h⟩ := h
          refine ⟨{ args := [.c (.v (.int .i64 a0.fRows)), .c (.v (.int .i64 1)), .c (.v (.int .i64 4))], o0 := [], r := .c (.v (.bool y14)), o1 := [], fl := true, σ := [], τ := [] }, hf_impl_within _ _ _ _ hy15, ⟨les_cons (AV.le_refl _) (les_cons (AV.le_refl _) (les_cons (AV.le_refl _) (les_nil))), trivial, rfl, rfl, rfl, rfl, trivial, rfl⟩, ?_⟩
          cbv
          refine fork (fun b26 => ?_) (fun b26 => ?_)
          · replace h := of_br_t b26 h
            cbv
            replace h := of_bind h
            obtain ⟨y16, hy17, h⟩ := h
            refine ⟨{ args := [.c (.v (.int .i64 a0.fStepX)), .c (.v (.int .i64 (-80))), .c (.v (.int .i64 80))], o0 := [], r := .c (.v (.bool y16)), o1 := [], fl := true, σ := [], τ := [] }, hf_impl_within _ _ _ _ hy17, ⟨les_cons (AV.le_refl _) (les_cons (AV.le_refl _) (les_cons (AV.le_refl _) (les_nil))), trivial, rfl, rfl, rfl, rfl, trivial, rfl⟩, ?_⟩
            cbv
            refine fork (fun b25 => ?_) (fun b25 => ?_)
            · replace h := of_br_t b25 h
              cbv
              replace h := of_bind h
              obtain ⟨y18, hy19, h⟩ := h
              refine ⟨{ args := [.c (.v (.int .i64 a0.fStepY)), .c (.v (.int .i64 (-80))), .c (.v (.int .i64 80))], o0 := [], r := .c (.v (.bool y18)), o1 := [], fl := true, σ := [], τ := [] }, hf_impl_within _ _ _ _ hy19, ⟨les_cons (AV.le_refl _) (les_cons (AV.le_refl _) (les_cons (AV.le_refl _) (les_nil))), trivial, rfl, rfl, rfl, rfl, trivial, rfl⟩, ?_⟩
              cbv
              refine fork (fun b24 => ?_) (fun b24 => ?_)
              · replace h := of_br_t b24 h
                cbv
                refine fork (fun b23 => ?_) (fun b23 => ?_)
                · replace h := of_br_t b23 h
                  cbv
                  refine fork (fun b22 => ?_) (fun b22 => ?_)
                  · replace h := of_br_t b22 h
                    cbv
                    injection h with h
                    subst h
                    subst hS6
                    show St.le _ _
                    exact le_sparse rfl ⟨AV.le_refl _, trivial⟩ trivial rfl
                  · replace h := of_br_f b22 h
                    cbv
                    injection h with h
                    subst h
                    subst hS6
                    show St.le _ _
                    exact le_sparse rfl ⟨AV.le_refl _, trivial⟩ trivial rfl
                · replace h := of_br_f b23 h
                  cbv
                  refine fork (fun b21 => ?_) (fun b21 => ?_)
                  · replace h := of_br_t b21 h
                    cbv
                    refine fork (fun b20 => ?_) (fun b20 => ?_)
                    · replace h := of_br_t b20 h
                      cbv
                      injection h with h
                      subst h
                      subst hS6
                      show St.le _ _
                      exact le_sparse rfl ⟨AV.le_refl _, trivial⟩ trivial rfl
                    · replace h := of_br_f b20 h
                      cbv
                      injection h with h
                      subst h
                      subst hS6
                      show St.le _ _
                      exact le_sparse rfl ⟨AV.le_refl _, trivial⟩ trivial rfl
                  · replace h := of_br_f b21 h
                    cbv
                    injection h with h
                    subst h
                    subst hS6
                    show St.le _ _
                    exact le_sparse rfl ⟨AV.le_refl _, trivial⟩ trivial rfl
              · replace h := of_br_f b24 h
                cbv
                injection h with h
                subst h
                subst hS6
                show St.le _ _
                exact le_sparse rfl ⟨AV.le_refl _, trivial⟩ trivial rfl
            · replace h := of_br_f b25 h
              cbv
              injection h with h
              subst h
              subst hS6
              show St.le _ _
              exact le_sparse rfl ⟨AV.le_refl _, trivial⟩ trivial rfl
          · replace h := of_br_f b26 h
            cbv
            injection h with h
            subst h
            subst hS6
            show St.le _ _
            exact le_sparse rfl ⟨AV.le_refl _, trivial⟩ trivial rfl
        · replace h := of_br_f b27 h
          cbv
          injection h with h
          subst h
          subst hS6
          show St.le _ _
          exact le_sparse rfl ⟨AV.le_refl _, trivial⟩ trivial rfl
      · replace h := of_br_f b28 h
        cbv
        injection h with h
        subst h
        subst hS6
        show St.le _ _
        exact le_sparse rfl ⟨AV.le_refl _, trivial⟩ trivial rfl
    · replace h := of_br_f b29 h
      cbv
      injection h with h
      subst h
      subst hS6
      show St.le _ _
      exact le_sparse rfl ⟨AV.le_refl _, trivial⟩ trivial rfl
  · clear hy2
    subst hS6
    replace h := of_let h
    obtain ⟨w7, hw7, h⟩ := h
    have hw7 : w7 = y1 := hw7
    subst hw7
    cbv
    injection h with h
    subst h
    refine ⟨(sparse 55 [(4, .c (.v (.bool w7)))] []), ?_, ?_⟩
    · exact le_sparse rfl ⟨AV.le_refl _, trivial⟩ trivial rfl
    · exact ⟨AV.le_refl _, trivial, rfl⟩

/-- impl.validCell$3 -/
noncomputable def F_impl_validCell_3_mbp (a0 : TInstance) (a1 : Int) : Option (Bool) :=
  (F_impl_validInstance (TInstance.mk a0.fCell a0.fPlace a0.fColumns a0.fRows a0.fStepX a0.fStepY) a1).bind fun y1 =>
  some (!(y1))
theorem run_impl_validCell_3_mbp (a0 : TInstance) (a1 : Int) (r : Bool) (h : F_impl_validCell_3_mbp a0 a1 = some r) : Fun Try.prog 196 [.agg [.v (.int .i64 a0.fCell), .v (.int .i64 a0.fPlace.fOrientation), .v (.int .i64 a0.fPlace.fX), .v (.int .i64 a0.fPlace.fY), .v (.int .i64 a0.fColumns), .v (.int .i64 a0.fRows), .v (.int .i64 a0.fStepX), .v (.int .i64 a0.fStepY)], .c (.bp 1 (encI .i64 a1))] [] (.c (.v (.bool r))) [] true := by
  refine Fun.of_wp (oneOf []) tok mixed Try.func196 (by kernel_rfl) rfl Try.ntmps196 rfl trivial (fun _ => ⟨trivial, trivial⟩) ?_
  unfold F_impl_validCell_3_mbp at h
  have hf_impl_validInstance := @run_impl_validInstance
  generalize hLEN : @len = LEN at *
  generalize hGD : @gd = GD at *
  generalize hA : std = A at *
  generalize hP : Try.prog = P at *
  cbv
  replace h := of_bind h
  obtain ⟨y1, hy2, h⟩ := h
  refine ⟨{ args := [.agg [.v (.int .i64 a0.fCell), .v (.int .i64 a0.fPlace.fOrientation), .v (.int .i64 a0.fPlace.fX), .v (.int .i64 a0.fPlace.fY), .v (.int .i64 a0.fColumns), .v (.int .i64 a0.fRows), .v (.int .i64 a0.fStepX), .v (.int .i64 a0.fStepY)], .c (.v (.int .i64 a1))], o0 := [], r := .c (.v (.bool y1)), o1 := [], fl := true, σ := [], τ := [] }, hf_impl_validInstance _ _ _ hy2, ⟨les_cons (AV.le_refl _) (les_cons (AV.le_refl _) (les_nil)), trivial, rfl, rfl, rfl, rfl, trivial, rfl⟩, ?_⟩
  cbv
  injection h with h
  subst h
  refine ⟨(sparse 8 [(3, .c (.v (.bool (!(y1)))))] []), ?_, ?_⟩
  · exact le_sparse rfl ⟨AV.le_refl _, trivial⟩ trivial rfl
  · exact ⟨AV.le_refl _, trivial, rfl⟩
end Go.Proofs.Ytmdlnjeppemipaa.AM
